/- S. No condition. -/
import Derived.Test.YtnpeieeomokomaaGreatZO
import Derived.ProofKit
noncomputable section
namespace Go.Sim
section
variable {P:Program}{c:Ctx}{orc:Nat->Ug->H->Option (V×H)}
def Claim(P:Program)(rd:Option Nat)(code:Code)(s:St)(x:AX)(s':St):Prop :=
 match code with
 | .loop b=>SimL P rd b s x s'
 | code=>SimC P rd code s x s'
theorem Claim.sim{rd:Option Nat}{code:Code}{s s':St}{x:AX}(h:Claim P rd code s x s'):SimC P rd code s x s':=by cases code<;>first|exact h|exact SimL.loop h
def IH2(P:Program)(ih:Ue):Prop:=∀rd code s x a,ih (Option.isSome rd) code s=some (.done x a)->Claim P rd code s x a
theorem IH2.ok{ih:Ue}(h:IH2 P ih):jU P ih:=λrd code s x a e=>(h rd code s x a e).sim
theorem zNo(ok:CtxOK P c)(hor:xE P c orc){ih:Ue}(hih:jU P ih){id:Nat}{ops:Array Oper}{rd:Option Nat}{s s':St}{x:AX}(e:wX c orc rd.isSome ih ops.toList ops.toList s=some (.done x s')):SimC P rd (.region id ops false) s x s':=by intro ρ D w a k hl;refine wpIn_region (zH4 ok hor hih _ _ (zAH ops) e k.hr.lt hl (Mv.refl _ _ _ _) (by rw[zr];exact k))
theorem zBn(ok:CtxOK P c)(hor:xE P c orc){ih:Ue}(hih:jU P ih){id:Nat}{ops:Array Oper}{rd:Option Nat}{s s':St}{x:AX}{m:Nat}(hm:ya ops.toList=some m)(e:yJ c orc rd.isSome ih ops.toList (zi ops.toList []) m m 0 ops.toList s=some (.done x s')):SimC P rd (.region id ops true) s x s' :=
 zEe ok hor hih hm e
theorem zIT{F:Fence}{n:Nat}{Q:Exit->Act->World->Prop}{a:Act}{w:World}{x:Code}(h:x.wpIn F n P (λe a w=>(∀l,e≠.goto l)/\Q e a w) a w):(Code.scope x).wpIn F n P Q a w:=by
 intro b k cs m hb hr;have f:(lone (b.atR a (.code (.scope x)::k)) cs w).fenced P F:=fenced_calm hb hr rfl;have g:step P (lone (b.atR a (.code (.scope x)::k)) cs w) = .next (lone (b.atR a (.code x :: .inScope x::k)) cs w):=step_lone_go (by simp[stepG,stepG.exec,Frame.atR]);have s1:∀a w,step P (lone (b.atR a (.inScope x::k)) cs w) = .next (lone (b.atR a k) cs w):=λa w=>step_lone_go (by simp[stepG,stepG.exec,Frame.atR])
 obtain⟨e,a1,i,⟨r,j⟩,d⟩:=h b (.inScope x::k) cs m hb hr;have q:∀id,exitTo id (.inScope x::k)=exitTo id k:=λid=>by simp[exitTo]
 cases e with
 | normal=>exact⟨.normal,a1,i,j,.head f g (StepsIn.trans d (.one (fenced_calm hb hr rfl) (s1 _ _)))⟩
 | exit id=>exact⟨.exit id,a1,i,j,λs o=>.head f g (d.1 s (by rw[q];exact o)),λp o=>let ⟨t,u,v⟩:=d.2 p (by rw[q];exact o);⟨t,u,.head f g v⟩⟩
 | goto l=>exact absurd rfl (r l)
 | ret=>exact⟨_,a1,i,j,.of_steps (.one f g) d⟩
 | panic y=>exact⟨_,a1,i,j,.of_steps (.one f g) d⟩
 | outgrown=>exact⟨_,a1,i,j,.of_steps (.one f g) d⟩
theorem SimC.scope{rd:Option Nat}{x:Code}{s s1:St}{e:AX}(h:SimC P rd x s e s1):SimC P rd (.scope x) s e s1:=by intro ρ D w a k hl;refine zIT (wpIn_mono (h ρ D w a k hl) ?_);rintro j a1 m ⟨b,d,f,rfl,g⟩;exact⟨λl i=>by cases e<;>simp[AX.toExit]at i,b,d,f,rfl,g⟩
theorem SimC.label{rd:Option Nat}(l:Nat)(s:St):SimC P rd (.label l) s .normal s:=λ_ _ _ _ k _=>wpIn_label (Ends.refl k (λ_ h=>by cases h))
theorem zGK(ok:CtxOK P c)(hor:xE P c orc){ih:Ue}(j:IH2 P ih):IH2 P (λrd code s=>qa c orc ih rd code s):=by
 intro rd code s x d e;have hih:=j.ok;cases code with
 | skip=>simp only[qa,oA,Out.done.injEq]at e;obtain⟨rfl,rfl⟩:=e;exact SimC.skip s
 | region id ops g =>
  show SimC P rd (.region id ops g) s x d;simp only[qa]at e;cases g with
  | false=>simp only[oT]at e;exact zNo ok hor hih e
  | true =>
   simp only[oS]at e;split at e
   .rename_i m hm;exact zBn ok hor hih hm e
   cases e
 | seq a b =>
  show SimC P rd (.seq a b) s x d;simp only[qa]at e;split at e
  .rename_i s1 h1;exact SimC.seq (hih rd _ _ _ _ h1) (hih rd _ _ _ _ e)
  rename_i r hr;refine SimC.seq_out (hih rd _ _ _ _ e) ?_;rintro rfl;exact hr d e
 | cond o a b =>
  show SimC P rd (.cond o a b) s x d;simp only[qa]at e;split at e
  .rename_i t k;exact SimC.cond k (hih rd _ _ _ _ e)
  cases e
 | block id b =>
  show SimC P rd (.block id b) s x d;simp only[qa]at e;split at e
  .rename_i i s1 h1;have h:=SimC.block (id:=id) (hih rd _ _ _ _ h1);by_cases hi:i=id
   .subst hi;simp only[Nat.beq_refl,oS,oA,Out.done.injEq]at e;obtain⟨rfl,rfl⟩:=e;simpa using h
   have:Nat.beq i id=false:=by
    rcases hb:Nat.beq i id with _|_
    .rfl
    exact absurd (oL hb) hi
   simp only[this,oT,oA,Out.done.injEq]at e;obtain⟨rfl,rfl⟩:=e;simpa [hi]using h
  rename_i r hr;have h:=SimC.block (id:=id) (hih rd _ _ _ _ e);cases x with
  | exit i=>exact absurd e (hr i d)
  | _=>exact h
 | loop b =>
  show SimL P rd b s x d;simp only[qa]at e;split at e
  .rename_i s1 h1;exact SimL.nx (hih rd _ _ _ _ h1) (j rd _ _ _ _ e)
  rename_i r hr;refine SimL.last (hih rd _ _ _ _ e) ?_;rintro rfl;exact hr d e
 | scope b=>simp only[qa]at e;exact SimC.scope (hih rd _ _ _ _ e)
 | label l=>simp only[qa,oA,Out.done.injEq]at e;obtain⟨rfl,rfl⟩:=e;exact SimC.label l s
 | exit id=>simp only[qa,oA,Out.done.injEq]at e;obtain⟨rfl,rfl⟩:=e;exact SimC.exit id s
 | ret=>simp only[qa,oA,Out.done.injEq]at e;obtain⟨rfl,rfl⟩:=e;exact SimC.ret s
 | rangeFunc f params assign body=>simp only[qa]at e;exact JH ok hor hih e
 | _=>simp[qa]at e
theorem zMU(ok:CtxOK P c)(hor:xE P c orc):∀n,IH2 P (ev c orc n):=by
 intro n;induction n with
 | zero=>intro rd code s x a e;exact absurd e (by simp[ev])
 | succ n ih=>exact zGK ok hor ih
theorem KH(ok:CtxOK P c)(hor:xE P c orc){n f:Nat}{args:Ug}{h:H}{out:CallOut}(e:run c orc n f args h=some out):SimF P f args h out :=
 qQ ok hor (zMU ok hor n).ok e
end
end Go.Sim
namespace Go.Sim
namespace X
section
variable {α β:Type}
end
theorem zYk(a b:Nat):Nat.ble (Nat.succ a) b=Nat.blt a b:=rfl
section
variable (c:Ctx) (orc:Nat->Ug->H->Option (V×H))
end
end X
end Go.Sim
namespace Go.Sim
namespace Chunk
end Chunk
def ip(n:Nat):V:=.int .i64 (.ofNat n)
def sb(l:Uf):V:=.str (l.map λn=>UInt8.ofNat n)
open Go.RowKit Go.ChangeShapes Go.WideShapes Go.ChangeAt
def H0:H:={ tbl:=.leaf,nx:=0,low:=T.top }
def zDL:Env:={ blk:=λ_=>0,off:=λ_=>0,cap:=λ_=>0 }
def zCD:Nat->Ug->H->Option (V×H):=λ_ _ _=>none
theorem zNi(P:Program)(c:Ctx):xE P c zCD:=λ_ _ _ _ _ e=>nomatch e
theorem Kz(ρ:Env)(w:World):HR ρ (λ_=>False) H0 w :=
 ⟨oQ _,λ_ h=>h.elim,λ_ _ h=>h.elim,λ_ _ _ _ h=>h.elim⟩
def zAg:Option CallOut->Bool
 | some (.ret (.bool true) _)=>true
 | _=>false
theorem zDo{r:Option CallOut}(h:zAg r=true):∃h',r=some (.ret (.bool true) h'):=by
 unfold zAg at h;split at h
 .rename_i h';exact⟨h',rfl⟩
 cases h
theorem zKn{H:Type}{enc:TypeId×Value->H}{P:Program}{f:Func}{s:ChangeSpec}{W W':World}{args:Array Value}{c d:List (DataW H)}{a pa pv:List MemPlace}{e:TypeId}(g:DataW.Whole enc P f.params.toList s.vars false W args.toList c d a)(hb:Below W.heap.size W W')(hr:f.resultTypes = #[e])(i:P.underlying e=some .bool)(j:(s.fn H (c++d)).results=[.lit (.bool true)])(k:DataW.TrodAll enc P W' 0 (λb=>decide (b<W.heap.size)) true f.params.toList args.toList (s.fn H (c++d)).args pa)(l:DataW.TrodVars enc P W' (λb=>decide (b<W.heap.size)) s.vars (s.fn H (c++d)).vars pv):
  s.post enc P f false true false false W args (.bool true) W':=by
 refine⟨c,d,a,[],pa,pv,g,?_,k,l,hb.frame _,λh=>by cases h⟩;rw[j,hr];exact trodAll_mk1 ⟨1,by simp[DataW.trod,Value.cells,i]⟩
section
variable (P:Program) (c:Ctx)
def RC(b:Bool)(code:Code)(s:St)(Q:Ud):Prop:=∃x a,(∀rd:Option Nat,rd.isSome=b->SimC P rd code s x a)/\Q x a
def RF(f:Nat)(args:Ug)(h:H)(Q:Uc):Prop:=∃v h',((∃fi,c.fn.get f=some fi)/\SimF P f args h (.ret v h'))/\Q v h'
def RR(l:Nat)(args:Ug)(h:H)(Q:Uc):Prop:=∃v h',zV6 P l args h (.ret v h')/\Q v h'
variable {P c}
theorem RC.mono{b:Bool}{code:Code}{s:St}{Q Q':Ud}(h:RC P b code s Q)(a:∀x s',Q x s'->Q' x s'):RC P b code s Q':=by obtain⟨x,s',h1,d⟩:=h;exact⟨x,s',h1,a _ _ d⟩
theorem RF.mono{f:Nat}{args:Ug}{h:H}{Q Q':Uc}(r:RF P c f args h Q)(a:∀v h',Q v h'->Q' v h'):RF P c f args h Q':=by obtain⟨x,b,h1,d⟩:=r;exact⟨x,b,h1,a _ _ d⟩
theorem RR.mono{l:Nat}{args:Ug}{h:H}{Q Q':Uc}(r:RR P l args h Q)(a:∀v h',Q v h'->Q' v h'):RR P l args h Q':=by obtain⟨x,b,h1,d⟩:=r;exact⟨x,b,h1,a _ _ d⟩
def StepW(P:Program)(b:Bool)(o:Oper)(s:St)(x:AX)(s':St):Prop :=
 ∀(rd:Option Nat),rd.isSome=b->∀{ρ:Env}{D:Nat->Prop}{w:World}{a:Act},StR ρ D s a w->∀{next:Act->World->Prop}{Q:Exit->Act->World->Prop},
  (x = .normal->∀ρ' v w',Mv ρ D s.heap w ρ' s'.heap w'->StR ρ' (Dx D s.heap s'.heap) s' v w'->next v w') ->
  (∀v,x = .panic v->∀ρ' w',Mv ρ D s.heap w ρ' s'.heap w'->StR ρ' (Dx D s.heap s'.heap) s' a w'->v.In (Dx D s.heap s'.heap)->Q (.panic [{ v:=v.conc ρ',recovered:=false }]) a w') ->
  o.wpIn (Fx (rd.map ρ.blk)) 0 P a w next Q
theorem StepW.of_step(ok:CtxOK P c){orc:Nat->Ug->H->Option (V×H)}(hor:xE P c orc){ih:Ue}(hih:jU P ih){b:Bool}{o:Oper}{s s':St}{x:AX}(e:zc c orc b ih o s=some (x,s')):StepW P b o s x s':=by intro rd d ρ D w a k next Q f g;subst d;exact wk ok hor hih e k (λh ρ' v w' m _ i=>f h ρ' v w' m i) g
def jm:Nat->Ug->H->Option (V×H):=λ_ _ _=>none
def jh:Bool->Code->St->Option Out:=λ_ _ _=>none
theorem xu:xE P c jm:=λ_ _ _ _ _ e=>by cases e
theorem XK:jU P jh:=λ_ _ _ _ _ e=>by cases e
open Classical in
def zFU(f:Nat)(args:Ug)(h:H)(v:V)(h':H):Nat->Ug->H->Option (V×H):=λa a2 b=>if a=f/\a2=args/\b=h then some (v,h') else none
theorem OL{f:Nat}{args:Ug}{h h':H}{v:V}(a:∃fi,c.fn.get f=some fi)(hs:SimF P f args h (.ret v h')):xE P c (zFU f args h v h'):=by
 intro d a2 g i j e;unfold zFU at e;split at e
 .rename_i b;obtain⟨rfl,rfl,rfl⟩:=b;simp only[oA,oB]at e;obtain⟨rfl,rfl⟩:=e;exact⟨a,hs⟩
 cases e
theorem OK(f:Nat)(args:Ug)(h:H)(v:V)(h':H):zFU f args h v h' f args h=some (v,h'):=by unfold zFU;rw[if_pos ⟨rfl,rfl,rfl⟩]
open Classical in
def ih1(b:Bool)(code:Code)(s:St)(x:AX)(s':St):Bool->Code->St->Option Out:=λa d e=>if a=b/\d=code/\e=s then some (.done x s') else none
theorem Ox{b:Bool}{code:Code}{s s':St}{x:AX}(h:∀rd:Option Nat,rd.isSome=b->SimC P rd code s x s'):jU P (ih1 b code s x s'):=by
 intro rd d f g i e;unfold ih1 at e;split at e
 .rename_i a;obtain⟨h1,rfl,rfl⟩:=a;simp only[oA,Out.done.injEq]at e;obtain⟨rfl,rfl⟩:=e;exact h rd h1
 cases e
theorem Ov(b:Bool)(code:Code)(s:St)(x:AX)(s':St):ih1 b code s x s' b code s=some (.done x s'):=by unfold ih1;rw[if_pos ⟨rfl,rfl,rfl⟩]
theorem StepW.call(ok:CtxOK P c){b:Bool}{o:Oper}{s s':St}{f:Nat}{args:Ug}{v:V}{h':H}(a:yD c o (zx s.tm) s.heap=some (.call f args))(d:∃fi,c.fn.get f=some fi)(hs:SimF P f args s.heap (.ret v h'))(e:yk s o.dst v h'=some s'):StepW P b o s .normal s':=by refine StepW.of_step (c:=c) (orc:=zFU f args s.heap v h') (ih:=jh) ok (OL d hs) XK ?_;unfold zc jY;simp only[a,OK,e]
theorem StepW.round(ok:CtxOK P c){b:Bool}{o:Oper}{s s':St}{l:Nat}{args:Ug}{v:V}{h':H}(n:yD c o (zx s.tm) s.heap=some (.round l args))(hs:zV6 P l args s.heap (.ret v h'))(p:yk s o.dst v h'=some s'):StepW P b o s .normal s':=by
 intro rd q ρ D w a k next Q t _;refine⟨λ_ _=>trivial,?_⟩
 have d:=KL (rd:=rd) n;have f:=J8 (P:=P) (a:=a.eval) ok n k.hr (λy _ v g=>jL k y v g);rw[show(Fx (rd.map ρ.blk)).round=rd.map ρ.blk from rfl,d (λ_ _ h=>by cases h)];obtain⟨hl,i,hr⟩:=f;obtain⟨fn,tmps,y,z,u,x⟩:=hs ρ D w k.hr hl i;rw[hr,u];refine⟨λh=>by simp[Fx]at h,XU none _ (RoundIn.mono x ?_)⟩;rintro C w' ⟨ρ',rfl,m,r,g⟩;rw[zCL]at p;have A:=k.step m r;have j:yk { s with heap:=h' } o.dst v ({ s with heap:=h' }:St).heap=some s':=p;obtain⟨B,e⟩:=StR.put A g j;have e:s'.heap=h':=e;exact t rfl _ _ _ (by rw[e];exact m) (by rw[e];exact B)
def SimO(P:Program)(b:Bool)(ops:Array Oper)(l:List Oper)(s:St)(x:AX)(s':St):Prop :=
 ∀rd:Option Nat,rd.isSome=b->∀(e:Uf),e.mapM (λi=>ops[i]?)=some l ->
  ∀{ρ0:Env}{D0:Nat->Prop}{d:St}{w0:World}{ρ:Env}{w:World}{a:Act},(∀id,D0 id->id<d.heap.nx)->(∀l,rd=some l->D0 l)->Mv ρ0 D0 d.heap w0 ρ s.heap w->StR ρ (Dx D0 d.heap s.heap) s a w ->
  wpOpsIn (Fx (rd.map ρ0.blk)) 0 P ops (Ends ρ0 D0 d w0 x s') e a w
theorem SimO.nil{b:Bool}{ops:Array Oper}{s:St}:SimO P b ops [] s .normal s:=by
 intro rd _ e d ρ0 D0 g w0 ρ w a f hl m k;rcases e with _|⟨i,e⟩
 .exact⟨ρ,m,k,rfl,trivial⟩
 simp only[List.mapM_cons,Option.bind_eq_bind,Option.bind_eq_some_iff]at d;obtain⟨o,_,j,_,h⟩:=d;simp at h
theorem SimO.step{b:Bool}{ops:Array Oper}{o:Oper}{l:List Oper}{s s1 s':St}{x:AX}(q:zh ops.toList s.tm o=true)(h1:StepW P b o s .normal s1)(r:SimO P b ops l s1 x s'):SimO P b ops (o::l) s x s':=by
 intro rd e g d ρ0 D0 y w0 ρ w a f hl m k;rcases g with _|⟨i,g⟩
 .simp at d
 simp only[List.mapM_cons,Option.bind_eq_bind,Option.bind_eq_some_iff]at d;obtain⟨o',t,z,j,h⟩:=d;simp only[Option.pure_def,oA,List.cons.injEq]at h;obtain⟨rfl,rfl⟩:=h;simp only[wpOpsIn,t];rw[xx k,q,if_pos rfl,<-ja m.agree hl];refine h1 rd e k ?_ (λv u=>by cases u);intro _ ρ' a' w' n p;rw[ja m.agree hl];rw[xy (D:=D0) m.nx n.nx]at p;exact r rd e g j f hl (Mv.trans f m n) p
theorem SimO.out{b:Bool}{ops:Array Oper}{o:Oper}{l:List Oper}{s s1:St}{v:V}(q:zh ops.toList s.tm o=true)(h1:StepW P b o s (.panic v) s1):SimO P b ops (o::l) s (.panic v) s1:=by
 intro rd f n d ρ0 D0 z w0 ρ w a g hl m k;rcases n with _|⟨i,n⟩
 .simp at d
 simp only[List.mapM_cons,Option.bind_eq_bind,Option.bind_eq_some_iff]at d;obtain⟨o',r,A,t,h⟩:=d;simp only[Option.pure_def,oA,List.cons.injEq]at h;obtain⟨rfl,rfl⟩:=h;simp only[wpOpsIn,r];rw[xx k,q,if_pos rfl,<-ja m.agree hl];refine h1 rd f k (λu=>by cases u) ?_;intro B x ρ' w' p y j;cases x;have e:=xy (D:=D0) m.nx p.nx;exact⟨ρ',Mv.trans g m p,by rw[<-e];exact y,rfl,by rw[<-e];exact j⟩
theorem SimO.off{b:Bool}{ops:Array Oper}{o:Oper}{l:List Oper}{s s1 s':St}{x:AX}(q:zh ops.toList s.tm o=false)(r:yk s o.dst zC s.heap=some s1)(t:SimO P b ops l s1 x s'):SimO P b ops (o::l) s x s':=by
 intro rd e f d ρ0 D0 v w0 ρ w a g hl m k;rcases f with _|⟨i,f⟩
 .simp at d
 simp only[List.mapM_cons,Option.bind_eq_bind,Option.bind_eq_some_iff]at d;obtain⟨o',u,y,j,h⟩:=d;simp only[Option.pure_def,oA,List.cons.injEq]at h;obtain⟨rfl,rfl⟩:=h;simp only[wpOpsIn,u];rw[xx k,q,if_neg (by simp)];obtain⟨n,p⟩:=StR.put k (wL _) r;rw[xo]at n;exact⟨λ_ _=>trivial,t rd e f j g hl (by rw[p];exact m) (by rw[p];exact n)⟩
def jo(d:Option Tmp)(v:V)(s:St)(h:H)(k:St->Prop):Prop :=
 match d with
 | none=>k ⟨s.n,s.tm,s.dfr,h⟩
 | some t=>(match Nat.blt t s.n with|true=>k ⟨s.n,s.tm.set t v,s.dfr,h⟩|false=>False)
theorem yz{d:Option Tmp}{v:V}{s:St}{h:H}{k:St->Prop}(e:jo d v s h k):∃s',yk s d v h=some s'/\k s':=by
 rcases d with _|t
 .exact⟨_,rfl,e⟩
 unfold jo at e;unfold yk;simp only at e ⊢;rcases hb:Nat.blt t s.n with _|_
 .rw[hb]at e;exact e.elim
 rw[hb]at e;rw[oS];exact⟨_,rfl,e⟩
theorem zAZ{d:Option Tmp}{v:V}{s:St}{h:H}{k:St->Prop}:jo d v s h k↔(d=none/\k ⟨s.n,s.tm,s.dfr,h⟩)\/∃t,d=some t/\Nat.blt t s.n=true/\k ⟨s.n,s.tm.set t v,s.dfr,h⟩:=by
 rcases d with _|t
 .simp[jo]
 show(match Nat.blt t s.n with|true=>k ⟨s.n,s.tm.set t v,s.dfr,h⟩|false=>False)↔_;generalize hb:Nat.blt t s.n=x;cases x with
 | false =>
  refine⟨λe=>False.elim e,?_⟩;rintro(⟨h1,_⟩|⟨b,h1,a,_⟩)
  .cases h1
  cases h1;rw[hb]at a;cases a
 | true =>
  refine⟨λe=>.inr ⟨t,rfl,hb,e⟩,?_⟩;rintro(⟨h1,_⟩|⟨b,h1,_,f⟩)
  .cases h1
  cases h1;exact f
theorem Y4{d:Option Tmp}{v:V}{s:St}{h:H}{k k':St->Prop}(b:∀s,k s->k' s)(e:jo d v s h k):jo d v s h k':=by
 rw[zAZ]at e ⊢;rcases e with⟨h1,a⟩|⟨t,h1,a,f⟩
 .exact .inl ⟨h1,b _ a⟩
 exact .inr ⟨t,h1,a,b _ f⟩
variable (P c)
def after(d:Option Tmp)(s:St)(k:St->Prop)(v:V)(h:H):Prop:=jo d v s h k
def wpA(b:Bool)(d:Option Tmp)(s:St)(k:St->Prop)(Q:Ud):Option AN->Prop
 | some (.val v h)=>jo d v s h k
 | some (.skip h)=>jo d zC s h k
 | some (.call f args)=>RF P c f args s.heap (after d s k)
 | some (.round l args)=>RR P l args s.heap (after d s k)
 | some (.dfr a)=>b=false/\jo d zC ⟨s.n,s.tm,a::s.dfr,s.heap⟩ s.heap k
 | some (.pan v h)=>Q (.panic v) ⟨s.n,s.tm,s.dfr,h⟩
 | _=>False
mutual
def KN:V->(V->Prop)->Prop
 | .int a _,k=>∃x,k (.int a x)
 | .bool _,k=>∃t,k (.bool t)
 | .str _,k=>∃l,k (.str l)
 | .agg b,k=>JP b λvs=>k (.agg vs)
 | _,k=>∃v,k v
def JP:Ug->(Ug->Prop)->Prop
 | [],k=>k []
 | z::a,k=>KN z λv=>JP a λvs=>k (v::vs)
end
mutual
theorem KO:∀(z:V) {k:V->Prop},KN z k->∃v,k v
 | .int _ _,_,⟨_,h⟩ | .bool _,_,⟨_,h⟩ | .str _,_,⟨_,h⟩ | .ptr _ _,_,⟨_,h⟩ | .nilptr,_,⟨_,h⟩ | .slice _ _ _ _,_,⟨_,h⟩ | .nilslice,_,⟨_,h⟩ | .map _,_,⟨_,h⟩ | .nilmap,_,⟨_,h⟩
 | .func _ _ _,_,⟨_,h⟩ | .yield _,_,⟨_,h⟩ | .nilFunc,_,⟨_,h⟩ | .iface _ _,_,⟨_,h⟩ | .nilIface,_,⟨_,h⟩ | .tuple _,_,⟨_,h⟩=>⟨_,h⟩
 | .agg a,_,h=>by obtain⟨vs,h⟩:=zAl a h;exact⟨_,h⟩
theorem zAl:∀(zs:Ug) {k:Ug->Prop},JP zs k->∃vs,k vs
 | [],_,h=>⟨[],h⟩
 | z::zs,_,h=>by obtain⟨v,h⟩:=KO z h;obtain⟨vs,h⟩:=zAl zs h;exact⟨_,h⟩
end
def KM(t:TypeId)(k:V->Prop):Prop :=
 match c.ty.get t with
 | some ti=>(match ti.zero with|some z=>KN z k|none=>∃v,k v)
 | none=>∃v,k v
def JO:List TypeId->(Ug->Prop)->Prop
 | [],k=>k []
 | t::a,k=>KM c t λv=>JO a λvs=>k (v::vs)
def z0B:TypeDesc->Option (List TypeId)
 | .tuple a=>some a.toList
 | _=>none
def zAm(t:Bool)(k:V->Prop):Prop:=(t=true->k (.bool true))/\(t=false->k (.bool false))
def qK(p:Prop)(k:V->Prop):Prop:=(p->k (.bool true))/\(¬p->k (.bool false))
def zJ9:V->(V->Prop)->(V->Prop)->Prop
 | .bool _,e,k=>∃t,e (.bool t)/\zAm t k
 | z,e,k=>KN z λv=>e v/\k v
def XW(t:TypeId)(e k:V->Prop):Prop :=
 match c.ty.get t with
 | some ti=>(match z0B ti.desc with
  | some a=>JO c a λvs=>e (.tuple vs)/\k (.tuple vs)
  | none=>(match ti.zero with|some z=>zJ9 z e k|none=>∃v,e v/\k v))
 | none=>∃v,e v/\k v
def Z6(t:TypeId)(r:Ui)(k:V->Prop):Prop:=XW c t (λv=>r=some v) k
def zBi(t:TypeId):Bool:=match c.ty.get t with|some ti=>(match ti.zero with|some (.bool _)=>true|_=>false)|none=>false
def zAn:V->(V->Prop)->Prop
 | .bool t,k=>zAm t k
 | v,k=>k v
def qc(op:BinOp)(t:TypeId)(x y:Operand)(f:TypeId):V->V->(V->Prop)->Prop
 | .int d m,.int e n,k =>
  if km op=true\/wv d e=true then
   (match op with
   | .add=>k (.int d (zU d (m+n)))
   | .sub=>k (.int d (zU d (m-n)))
   | .mul=>k (.int d (zU d (m*n)))
   | .eql=>qK (m=n) k
   | .neq=>qK (m≠n) k
   | .lss=>qK (m<n) k
   | .leq=>qK (m<=n) k
   | .gtr=>qK (n<m) k
   | .geq=>qK (n<=m) k
   | .quo=>n≠0/\k (.int d (zU d (m.tdiv n)))
   | .rem=>n≠0/\k (.int d (m.tmod n))
   | op=>∃r,zj op d m n=some (.int d r)/\k (.int d r))
  else False
 | .str l,.str m,k =>
  (match op with
  | .eql=>qK (l=m) k
  | .neq=>qK (l≠m) k
  | .add=>l.length+m.length<=4611686018427387904/\k (.str (l++m))
  | _=>Z6 c f (ZQ c op t x y (.str l) (.str m)) k)
 | a,b,k=>Z6 c f (ZQ c op t x y a b) k
def zBG(op:UnOp):V->(V->Prop)->Prop
 | .bool b,k=>(match op with | .not=>k (.bool (!b))|_=>False)
 | .int a n,k=>(match op with | .neg=>k (.int a (zU a (0-n)))|op=>∃r,aun op (.int a n)=some (.int a r)/\k (.int a r))
 | _,_=>False
def XL:TypeDesc->Option IntKind
 | .int a=>some a
 | _=>none
def zIE(t:TypeId):Bool:=match c.ty.get t with|some ti=>(match ti.desc with | .string=>true|_=>false)|none=>false
def qo(s d:TypeId)(h:H)(v:V)(k:Uc):Prop :=
 match v with
 | .int _ n=>(match c.ty.get s,c.ty.get d with
  | some b,some e=>(match XL b.desc,XL e.desc with|some _,some a=>k (.int a (zU a n)) h|_,_=>False)
  | _,_=>False)
 | v=>(match zIE c d with
  | true=>∃l h',xz c s d h v=some (.str l,h')/\k (.str l) h'
  | false=>∃u h',xz c s d h v=some (u,h')/\k u h')
def zP(t:TypeId)(f:Nat)(h:H):V->Uc->Prop
 | .ptr b o,k=>(match c.ty.get t with
  | some ti=>(match ti.desc with
   | .struct d=>(match d[f]? with
    | some a=>(match c.ty.get a.type with|some e=>if 0<e.size then k (.ptr b (o+a.offset)) h else False|none=>False)
    | none=>False)
   | _=>False)
  | none=>False)
 | _,_=>False
def zG1(i:Nat)(a:TypeId):V->(V->Prop)->Prop
 | .tuple l,k=>(match l[i]? with|some u=>(match zBi c a with|true=>zAn u k|false=>k u)|none=>False)
 | _,_=>False
def wo(t:Bool)(k:Bool->Prop):Prop:=match t with|true=>k true|false=>k false
def wO:V->(Bool->Prop)->Prop
 | .bool t,k=>wo t k
 | _,_=>False
def ZN(r:Option Cs)(k:Cs->Prop):Prop:=match r with|some cs=>k cs|none=>False
def zBB(t:TypeId)(h:H)(v:V)(k:Uc):Prop :=
 match c.ty.get t with
 | some ti=>if jk ti.desc=true then ZN (cond (za v.cells) (Cs.ofL v.cells) none) λcs=>h.nx<T.top/\∀b h',b=h.nx->h'=h.new (.cells cs ⟨0,t+1,0⟩ true false)->k (.ptr b 0) h'
  else v.one=true/\h.nx<T.top/\∀b h',b=h.nx->h'=h.new (.cells (.ls [v]) ⟨0,t+1,0⟩ true false)->k (.ptr b 0) h'
 | none=>False
def kh(a:TypeId)(r:Ui)(k:V->Prop):Prop:=match r with|some u=>(match zBi c a with|true=>zAn u k|false=>k u)|none=>False
def Kq(mx:Bool):Ug->(V->Prop)->Prop
 | [.int c a,.int _ b],k=>k (.int c (if mx=true then max a b else min a b))
 | v::l,k=>∃u,ZV mx v l=some u/\k u
 | [],_=>False
def zZx:V->(Ua->Prop)->Prop
 | .str l,k=>k l
 | _,_=>False
def zCg(t:TypeId)(h:H)(v:V)(k:V->Prop):Prop :=
 match zIE c t with
 | true=>zZx v λl=>k (.int .i64 (.ofNat l.length))
 | false=>∃x,Yf c t h v=some (.int .i64 x)/\k (.int .i64 x)
def YH(t:TypeId)(k:Uc)(v:V)(h:H):Prop:=XW c t (λu=>v=u) λu=>k u h
def ku(b:Builtin)(a:TypeId)(h:H)(k:Uc)(g:Option AN):Ug->List TypeId->Prop
 | [x],[t]=>(match b with
  | .len=>zCg c t h x λv=>k v h
  | _=>∃v h',g=some (.val v h')/\YH c a k v h')
 | [s,x],[t,tx]=>(match b with
  | .append=>True/\∃v h',OA c tx t h s x=some (v,h')/\k v h'
  | .copy=>∃d h',zIY c t h s x=some (.int .i64 d,h')/\k (.int .i64 d) h'
  | .min=>Kq false [s,x] λv=>k v h
  | .max=>Kq true [s,x] λv=>k v h
  | _=>∃v h',g=some (.val v h')/\YH c a k v h')
 | l,_=>(match b with
  | .min=>Kq false l λv=>k v h
  | .max=>Kq true l λv=>k v h
  | _=>∃v h',g=some (.val v h')/\YH c a k v h')
def zYE(P:Program)(a:TypeId)(h:H)(k:Uc):Option AN->Prop
 | some (.val v h')=>k v h'
 | some (.call g as)=>RF P c g as h (YH c a k)
 | _=>False
def wm(P:Program)(a:TypeId)(h:H)(k:Uc)(args:Ug):V->Prop
 | .func (.func g) first captured=>zYE c P a h k (Zj c h g first args captured)
 | .yield l=>RR P l args h (YH c a k)
 | _=>False
def KQ(P:Program)(a:Call)(d:TypeId)(e:Uh)(h:H)(k:Uc):Prop :=
 match ZT e a.args.toList with
 | none=>False
 | some args =>
  match a.callee with
  | .value f=>(match e f with|some v=>wm c P d h k args v|none=>False)
  | .builtin b=>ku c b d h k (xc c a e h) args a.argTypes.toList
  | .invoke r name=>(match e r with
   | some (.iface t v)=>(match YR c t name with
    | some (f,none)=>RF P c f (v::args) h (YH c d k)
    | some (f,some el)=>∃u,zo c el h v=some u/\RF P c f (u::args) h (YH c d k)
    | none=>False)
   | _=>False)
def zWK:TypeDesc->Bool
 | .interface _=>true
 | _=>false
def zG2(P:Program)(o:Oper)(e:Uh)(h:H)(k:Uc):Prop :=
 match o.op with
 | .move x=>(match e x with|some v=>k v h|none=>False)
 | .assign x=>(match e x with|some v=>k v h|none=>False)
 | .pick r a b=>(match e r,e a,e b with|some v,some x,some y=>wO v λt=>k (cond t x y) h|_,_,_=>False)
 | .binOp op t x y _=>(match e x,e y with|some a,some b=>qc c op t x y o.type a b λv=>k v h|_,_=>False)
 | .unOp op _ x=>(match e x with|some a=>zBG op a λv=>k v h|none=>False)
 | .convert s d x=>(match e x with|some v=>qo c s d h v k|none=>False)
 | .load t a=>(match e a with|some p=>Z6 c t (zo c t h p) λv=>k v h|none=>False)
 | .store t a x=>(match e a,e x with|some p,some v=>∃h',zZ c t h p v=some h'/\k zC h'|_,_=>False)
 | .field t x f=>(match e x with|some v=>kh c o.type (zQV c t v f) λv=>k v h|none=>False)
 | .fieldAddr t x f=>(match e x with|some p=>zP c t f h p k|none=>False)
 | .indexAddr t x j=>(match e x,e j with|some a,some i=>∃pb q,yo c t a i=some (.ptr pb q)/\k (.ptr pb q) h|_,_=>False)
 | .index t x j=>(match e x,e j with|some a,some i=>Z6 c o.type (yC c t a i) λv=>k v h|_,_=>False)
 | .extract x i=>(match e x with|some v=>zG1 c i o.type v λu=>k u h|none=>False)
 | .alloc t=>(match c.ty.get t with|some ti=>(match ti.zero with|some z=>zBB c t h z k|none=>False)|none=>False)
 | .box t x=>(match e x with|some v=>zBB c t h v k|none=>False)
 | .makeFunc (.func g) first captured=>(match ZT e first.toList,ZT e captured.toList with|some a,some b=>k (.func (.func g) a b) h|_,_=>False)
 | .call w=>KQ c P w o.type e h k
 | .slice t x lo hi A=>(match e x,evO e lo,evO e hi,evO e A with|some v,some a,some b,some m=>Z6 c o.type (zy c t h v a b m) λv=>k v h|_,_,_,_=>False)
 | .build t ps=>(match evP e ps.toList with|some l=>kh c t (je c t l) λv=>k v h|none=>False)
 | .buildSlice t n ps=>(match evP e ps.toList with|some l=>∃v h',zJ c t n l h=some (v,h')/\k v h'|none=>False)
 | .makeInterface t x=>(match c.ty.get t,e x with|some ti,some v=>(match zWK ti.desc with|true=>False|false=>k (.iface t v) h)|_,_=>False)
 | .makeSlice t l m=>(match e l,e m with|some a,some b=>∃v h',jJ c t a b h=some (v,h')/\k v h'|_,_=>False)
 | .lookup t x i ok=>(match e x,e i with|some a,some b=>Z6 c o.type (ke c t h a b ok) λv=>k v h|_,_=>False)
 | .mapUpdate t m x v=>(match e m,e x,e v with|some a,some b,some d=>∃h',Yg c t h a b d=some h'/\k zC h'|_,_,_=>False)
 | _=>∃v h',yD c o e h=some (.val v h')/\k v h'
def zKZ:Op->Bool
 | .defer _=>true
 | _=>false
def zCA:Op->Bool
 | .panic _=>true
 | _=>false
def X0(b:Bool)(ops:List Oper):List Oper->St->Ud->Prop
  | [],s,Q=>Q .normal s
  | o::l,s,Q =>
    if zh ops s.tm o=true then
      (if zCA o.op=true then False else if zKZ o.op=true then wpA P c b o.dst s (λs'=>X0 b ops l s' Q) Q (yD c o (zx s.tm) s.heap)
       else zG2 c P o (zx s.tm) s.heap λv h=>jo o.dst v s h λs'=>X0 b ops l s' Q)
    else jo o.dst zC s s.heap λs'=>X0 b ops l s' Q
variable {P c}
theorem zAo{v:V}{k:V->Prop}(h:zAn v k):k v:=by
 cases v with
 | bool t =>
  cases t with
  | true=>exact h.1 rfl
  | false=>exact h.2 rfl
 | _=>exact h
theorem zLH{t:TypeId}{k:V->Prop}(h:KM c t k):∃v,k v:=by
 unfold KM at h;split at h
 .split at h
  .exact KO _ h
  exact h
 exact h
theorem zHu:∀{a:List TypeId}{k:Ug->Prop},JO c a k->∃vs,k vs:=by
 intro a;induction a with
 | nil=>intro k h;exact⟨[],h⟩
 | cons t a ih=>intro k h;obtain⟨v,h⟩:=zLH h;obtain⟨vs,h⟩:=ih h;exact⟨_,h⟩
theorem zIB{t:Bool}{k:V->Prop}(h:zAm t k):k (.bool t):=by
 cases t with
 | true=>exact h.1 rfl
 | false=>exact h.2 rfl
theorem wZ{p:Prop}[Decidable p]{k:V->Prop}(h:qK p k):k (.bool (decide p)):=by
 by_cases hp:p
 .simp only[hp,decide_true];exact h.1 hp
 simp only[hp,decide_false];exact h.2 hp
theorem zAk{t:TypeId}{e k:V->Prop}(h:XW c t e k):∃v,e v/\k v:=by
 unfold XW at h;split at h
 .split at h
  .obtain⟨vs,h⟩:=zHu h;exact⟨_,h⟩
  split at h
  .unfold zJ9 at h;split at h
   .obtain⟨t,h1,a⟩:=h;exact⟨_,h1,zIB a⟩
   exact KO _ h
  exact h
 exact h
theorem jp{t:TypeId}{r:Ui}{k:V->Prop}(h:Z6 c t r k):∃v,r=some v/\k v:=zAk h
theorem YI{t:TypeId}{k:Uc}{v:V}{h:H}(r:YH c t k v h):k v h:=by obtain⟨u,rfl,a⟩:=zAk r;exact a
def anK(P:Program)(c:Ctx)(h:H)(k:Uc):Option AN->Prop
 | some (.val v h')=>k v h'
 | some (.skip h')=>k zC h'
 | some (.call f args)=>RF P c f args h k
 | some (.round l args)=>RR P l args h k
 | _=>False
theorem xp{h:H}{k:Uc}{r:Ui}(e:∃v,r=some v/\k v h):anK P c h k (AN.ofV r h):=by obtain⟨v,rfl,a⟩:=e;exact a
theorem Zk{h:H}{k:Uc}{r:Option (V×H)}(e:∃v h',r=some (v,h')/\k v h'):anK P c h k (AN.ofVH r):=by obtain⟨v,h',rfl,a⟩:=e;exact a
theorem zQt(m n:Int):(!(m == n))=decide (m≠n):=by by_cases h:m=n<;>simp[h]
theorem zVu(m n:Int):(m == n)=decide (m=n):=by by_cases h:m=n<;>simp[h]
theorem zIv(m n:Int):(!decide (n<m))=decide (m<=n):=by
 by_cases h:n<m
 .have:¬m<=n:=oy
  simp[h,this]
 have:m<=n:=oy
 simp[h,this]
theorem zLR{op:BinOp}{t i:TypeId}{x y:Operand}{a b:V}{k:V->Prop}(h:qc c op t x y i a b k):∃v,ZQ c op t x y a b=some v/\k v:=by
 unfold qc at h;split at h
 .rename_i g m f n;split at h
  .rename_i e;have d:ZQ c op t x y (.int g m) (.int f n)=zj op g m n:=by
    unfold ZQ;rcases e with e|e
    .rw[e];rfl
    cases hs:km op<;>simp[e]
   rw[d];split at h
   .exact⟨_,by simp only[zj,zCt],h⟩
   .exact⟨_,by simp only[zj,OP],h⟩
   .exact⟨_,by simp only[zj,zJD],h⟩
   .exact⟨_,by simp only[zj,j4,zVu],wZ h⟩
   .exact⟨_,by simp only[zj,j4,zQt],wZ h⟩
   .exact⟨_,by simp only[zj,xa],wZ h⟩
   .exact⟨_,by simp only[zj,xa,zIv],wZ h⟩
   .exact⟨_,by simp only[zj,xa],wZ h⟩
   .exact⟨_,by simp only[zj,xa,zIv],wZ h⟩
   .refine⟨_,?_,h.2⟩;simp only[zj,j4,zIh];rw[show(n == 0)=false from by simpa using h.1];rfl
   .refine⟨_,?_,h.2⟩;simp only[zj,j4,zJC];rw[show(n == 0)=false from by simpa using h.1];rfl
   obtain⟨r,h1,j⟩:=h;exact⟨_,h1,j⟩
  exact h.elim
 .rename_i l m;have d:ZQ c op t x y (.str l) (.str m)=zID op l m:=rfl;split at h
  .refine⟨_,?_,wZ h⟩;rw[d];simp only[zID,Zq];congr 2;by_cases hl:l=m<;>simp[hl]
  .refine⟨_,?_,wZ h⟩;rw[d];simp only[zID,Zq];congr 2;by_cases hl:l=m<;>simp[hl]
  .refine⟨_,?_,h.2⟩;rw[d];simp only[zID];have:Nat.ble (jO l (jO m 0)) 4611686018427387904=true:=oG (by rw[yb,yb];have:=h.1;omega);rw[this];rfl
  exact jp h
 exact jp h
theorem zQD{op:UnOp}{a:V}{k:V->Prop}(h:zBG op a k):∃v,aun op a=some v/\k v:=by
 unfold zBG at h;split at h
 .split at h
  .exact⟨_,rfl,h⟩
  exact h.elim
 .split at h
  .exact⟨_,by simp only[aun,OP],h⟩
  obtain⟨r,h1,b⟩:=h;exact⟨_,h1,b⟩
 exact h.elim
theorem zDU{d:TypeDesc}{a:IntKind}(h:XL d=some a):d = .int a:=by cases d<;>simp only[XL,oA,reduceCtorEq]at h;rw[h]
theorem zIR{s d:TypeId}{h:H}{v:V}{k:Uc}(w:qo c s d h v k):∃u h',xz c s d h v=some (u,h')/\k u h':=by
 unfold qo at w;split at w
 .rename_i b n;split at w
  .rename_i i j h1 a;split at w
   .rename_i e m f g;refine⟨_,_,?_,w⟩;unfold xz;rw[h1,a];simp only[zDU f,zDU g]
   exact w.elim
  exact w.elim
 split at w
 .obtain⟨l,h',h1,a⟩:=w;exact⟨_,_,h1,a⟩
 exact w
theorem zBF{v:V}{k:Bool->Prop}(h:wO v k):∃t,v = .bool t/\k t:=by
 cases v with
 | bool t =>
  cases t with
  | true=>exact⟨_,rfl,h⟩
  | false=>exact⟨_,rfl,h⟩
 | _=>exact h.elim
theorem zCh{t:TypeId}{h:H}{v:V}{k:Uc}(w:zBB c t h v k):∃b,qu h v.cells ⟨0,t+1,0⟩ false=some b/\k (.ptr b.1 0) b.2:=by
 unfold zBB at w;split at w
 .split at w
  .unfold ZN at w;split at w
   .rename_i cs h1;obtain⟨d,e⟩:=w;refine⟨(h.nx,h.new (.cells cs ⟨0,t+1,0⟩ true false)),?_,e _ _ rfl rfl⟩;unfold qu qG;rcases a:za v.cells with _|_
    .rw[a]at h1;cases h1
    rw[a,oS]at h1;rw[oS,(zY _ _).2 d,oS,h1]
   exact w.elim
  obtain⟨h1,d,e⟩:=w;refine⟨(h.nx,h.new (.cells (.ls [v]) ⟨0,t+1,0⟩ true false)),?_,e _ _ rfl rfl⟩;have f:v.cells=[v]:=by cases v<;>first|rfl|cases h1
  have a:za v.cells=true:=by rw[f];unfold za;rw[h1];rfl
  unfold qu qG;rw[a,oS,(zY _ _).2 d,oS,f];rfl
 exact w.elim
theorem zCi{a:TypeId}{r:Ui}{k:V->Prop}(h:kh c a r k):∃v,r=some v/\k v:=by
 unfold kh at h;split at h
 .rename_i u;split at h
  .exact⟨u,rfl,zAo h⟩
  exact⟨u,rfl,h⟩
 exact h.elim
theorem Ya{mx:Bool}{l:Ug}{k:V->Prop}(h:Kq mx l k):∃v l' u,l=v::l'/\ZV mx v l'=some u/\k u:=by
 unfold Kq at h;split at h
 .rename_i e a c b;refine⟨_,_,_,rfl,?_,h⟩;simp only[ZV,xa];cases mx with
  | true =>
   simp only[oS,if_true];by_cases hab:a<b
   .simp only[hab,decide_true,oS];rw[show max a b=b from oy]
   simp only[hab,decide_false,oT];rw[show max a b=a from oy]
  | false =>
   simp only[oT,Bool.false_eq_true,if_false];by_cases hab:b<a
   .simp only[hab,decide_true,oS];rw[show min a b=b from oy]
   simp only[hab,decide_false,oT];rw[show min a b=a from oy]
 .obtain⟨u,h1,d⟩:=h;exact⟨_,_,u,rfl,h1,d⟩
 exact h.elim
theorem zLV{t:TypeId}{h:H}{v:V}{k:V->Prop}(w:zCg c t h v k):∃u,Yf c t h v=some u/\k u:=by
 unfold zCg at w;split at w
 .rename_i hs;unfold zZx at w;split at w
  .rename_i l;unfold zIE at hs;split at hs
   .rename_i ti a;split at hs
    .rename_i b;refine⟨.int .i64 (.ofNat (jO l 0)),?_,by rw[yb,Nat.add_zero];exact w⟩;unfold Yf;rw[a];simp only[b]
    cases hs
   cases hs
  exact w.elim
 obtain⟨x,d,e⟩:=w;exact⟨_,d,e⟩
theorem zBc{b:Builtin}{j:Call}{o:TypeId}{e:Uh}{h:H}{k:Uc}{args:Ug}(d:j.callee = .builtin b)(f:ZT e j.args.toList=some args)(w:ku c b o h k (xc c j e h) args j.argTypes.toList):anK P c h k (xc c j e h):=by
 have l:∀(g:Option AN),(∃v h',g=some (.val v h')/\YH c o k v h')->anK P c h k g:=by rintro g ⟨v,h',rfl,p⟩;exact YI p
 generalize hl:j.argTypes.toList=ts at w;unfold ku at w;split at w
 .rename_i x t;split at w
  .obtain⟨u,h1,a⟩:=zLV w;unfold xc;rw[f,d,hl];exact xp ⟨u,h1,a⟩
  exact l _ w
 .rename_i s x t tx;split at w
  .obtain⟨_,m⟩:=w;unfold xc;rw[f,d,hl];exact Zk m
  .obtain⟨r,h',q,m⟩:=w;unfold xc;rw[f,d,hl];exact Zk ⟨_,_,q,m⟩
  .obtain⟨v,n,u,i,h1,a⟩:=Ya w;unfold xc;rw[f,d,i];exact xp ⟨u,h1,a⟩
  .obtain⟨v,n,u,i,h1,a⟩:=Ya w;unfold xc;rw[f,d,i];exact xp ⟨u,h1,a⟩
  exact l _ w
 split at w
 .obtain⟨v,n,u,i,h1,a⟩:=Ya w;unfold xc;rw[f,d,i];exact xp ⟨u,h1,a⟩
 .obtain⟨v,n,u,i,h1,a⟩:=Ya w;unfold xc;rw[f,d,i];exact xp ⟨u,h1,a⟩
 exact l _ w
theorem zIQ{d:Call}{n:TypeId}{e:Uh}{h:H}{k:Uc}(w:KQ c P d n e h k):anK P c h k (xc c d e h):=by
 unfold KQ at w;rcases i:ZT e d.args.toList with _|args
 .rw[i]at w;exact w.elim
 rw[i]at w;cases a:d.callee with
 | value f =>
  simp only[a]at w;have j:xc c d e h=(match e f with|some (.func (.func g) first captured)=>Zj c h g first args captured|some (.yield l)=>some (.round l args)|_=>none):=by unfold xc;rw[i,a];rfl
  rw[j];rcases o:e f with _|v
  .rw[o]at w;exact w.elim
  rw[o]at w;have w:wm c P n h k args v:=w;unfold wm at w;split at w
  .rename_i g first captured _
   show anK P c h k (Zj c h g first args captured);generalize Zj c h g first args captured=r at w
   rcases r with _|p
   .exact w.elim
   cases p<;>first|exact w|exact w.elim|exact RF.mono w λ_ _ h1=>YI h1
  .exact RR.mono w λ_ _ h1=>YI h1
  exact w.elim
 | builtin b=>simp only[a]at w;exact zBc a i w
 | invoke r name =>
  simp only[a]at w;unfold xc;rw[i];simp only[a];rcases hr:e r with _|x
  .rw[hr]at w;exact w.elim
  rw[hr]at w;cases x<;>first|exact w.elim|skip
  simp only at w ⊢;split at w
  .rename_i m;rw[m];exact RF.mono w λ_ _ h1=>YI h1
  .rename_i m;obtain⟨u,q,w⟩:=w;rw[m];simp only[q];exact RF.mono w λ_ _ h1=>YI h1
  exact w.elim
theorem zQA{t:TypeId}{f:Nat}{o:Oper}{e:Uh}{x:Operand}{h:H}{p:V}{k:Uc}(i:o.op = .fieldAddr t x f)(j:e x=some p)(w:zP c t f h p k):anK P c h k (yD c o e h):=by
 unfold yD;rw[i];simp only[j];unfold zP at w;split at w
 .rename_i b off;split at w
  .rename_i ti a;rw[a];split at w
   .rename_i m l;simp only[l];split at w
    .rename_i n d;simp only[d];split at w
     .rename_i q g;split at w
      .rename_i hs;unfold afa;rw[g];simp only[(zY _ _).2 hs,oS];exact w
      exact w.elim
     exact w.elim
    exact w.elim
   exact w.elim
  exact w.elim
 exact w.elim
theorem YQ{o:Oper}{e:Uh}{h:H}{k:Uc}(w:zG2 c P o e h k):anK P c h k (yD c o e h):=by
 have gen:(∃v h',yD c o e h=some (.val v h')/\k v h')->anK P c h k (yD c o e h):=by rintro⟨v,h',h1,q⟩;rw[h1];exact q
 unfold zG2 at w;cases j:o.op<;>simp only[j]at w<;>first|exact gen w|skip
 case move x =>
  unfold yD;rw[j];simp only;rcases A:e x with _|v
  .rw[A]at w;exact w.elim
  rw[A]at w;exact w
 case assign x =>
  unfold yD;rw[j];simp only;rcases A:e x with _|v
  .rw[A]at w;exact w.elim
  rw[A]at w;exact w
 case pick cc a b =>
  unfold yD;rw[j];simp only;rcases D:e cc with _|v
  .rw[D]at w;exact w.elim
  rcases A:e a with _|x
  .rw[D,A]at w;exact w.elim
  rcases I:e b with _|y
  .rw[D,A,I]at w;exact w.elim
  rw[D,A,I]at w;obtain⟨t,rfl,q⟩:=zBF w;simp only;exact xp ⟨_,by cases t<;>rfl,q⟩
 case alloc t =>
  unfold yD;rw[j];simp only;split at w
  .rename_i ti F;split at w
   .rename_i z J;obtain⟨K,h1,q⟩:=zCh w;rw[F];simp only[J,h1];exact q
   exact w.elim
  exact w.elim
 case box t x =>
  unfold yD;rw[j];simp only;split at w
  .rename_i v B;obtain⟨K,h1,q⟩:=zCh w;rw[B];simp only[h1];exact q
  exact w.elim
 case build t ps =>
  unfold yD;rw[j];simp only;split at w
  .rename_i l hl;rw[hl];exact xp (zCi w)
  exact w.elim
 case buildSlice t n ps =>
  unfold yD;rw[j];simp only;split at w
  .rename_i l hl;rw[hl];exact Zk w
  exact w.elim
 case makeInterface t x =>
  unfold yD;rw[j];simp only;split at w
  .rename_i ti v h1 q;split at w
   .exact w.elim
   rename_i E;rw[h1,q];simp only;cases G:ti.desc<;>rw[G]at E<;>first|(cases E;done)|exact w
  exact w.elim
 case makeSlice t l m =>
  unfold yD;rw[j];simp only;split at w
  .rename_i a b r hb;rw[r,hb];exact Zk w
  exact w.elim
 case load t a =>
  unfold yD;rw[j];simp only;split at w
  .rename_i p C;rw[C];exact xp (jp w)
  exact w.elim
 case store t a x =>
  unfold yD;rw[j];simp only;split at w
  .rename_i p v C B;obtain⟨h',h1,q⟩:=w;rw[C,B];simp only[h1];exact q
  exact w.elim
 case binOp op t x y t2 =>
  unfold yD;rw[j];simp only;split at w
  .rename_i a b r hb;rw[r,hb];exact xp (zLR w)
  exact w.elim
 case unOp op t x =>
  unfold yD;rw[j];simp only;split at w
  .rename_i a r;rw[r];exact xp (zQD w)
  exact w.elim
 case convert s d x =>
  unfold yD;rw[j];simp only;split at w
  .rename_i a r;rw[r];exact Zk (zIR w)
  exact w.elim
 case makeFunc f first captured =>
  cases f with
  | func g =>
   unfold yD;rw[j];simp only at w ⊢;split at w
   .rename_i a b r hb;rw[r,hb];exact w
   exact w.elim
  | _=>exact gen w
 case slice t x lo hi mx =>
  unfold yD;rw[j];simp only;split at w
  .rename_i v a b m h1 q L M;rw[h1,q,L,M];exact xp (jp w)
  exact w.elim
 case fieldAddr t x f =>
  split at w
  .rename_i p C;exact zQA j C w
  exact w.elim
 case field t x f =>
  unfold yD;rw[j];simp only;split at w
  .rename_i v B;rw[B];exact xp (zCi w)
  exact w.elim
 case indexAddr t x ix =>
  unfold yD;rw[j];simp only;split at w
  .rename_i a i r hi;obtain⟨pb,O,h1,q⟩:=w;rw[r,hi];exact xp ⟨_,h1,q⟩
  exact w.elim
 case index t x ix =>
  unfold yD;rw[j];simp only;split at w
  .rename_i a i r hi;rw[r,hi];exact xp (jp w)
  exact w.elim
 case lookup t x i ok =>
  unfold yD;rw[j];simp only;split at w
  .rename_i a b r hb;rw[r,hb];exact xp (jp w)
  exact w.elim
 case mapUpdate t m x v =>
  unfold yD;rw[j];simp only;split at w
  .rename_i a b d r hb E;obtain⟨h',h1,q⟩:=w;rw[r,hb,E];simp only[h1];exact q
  exact w.elim
 case extract x i =>
  unfold yD;rw[j];simp only;split at w
  .rename_i v B;rw[B];unfold zG1 at w;split at w
   .rename_i l;simp only;split at w
    .rename_i u N;rw[N];split at w
     .exact zAo w
     exact w
    exact w.elim
   exact w.elim
  exact w.elim
 case call cl =>
  have:yD c o e h=xc c cl e h:=by unfold yD;rw[j]
  rw[this];exact zIQ w
theorem zYF{b:Bool}{d:Option Tmp}{s:St}{kk:St->Prop}{Q:Ud}{r:Option AN}(h:anK P c s.heap (λv h=>jo d v s h kk) r):wpA P c b d s kk Q r:=by
 rcases r with _|a
 .exact h.elim
 cases a<;>first|exact h|exact h.elim
def jN(o:Oper):Oper:={ dst:=o.dst,op:=o.op,type:=o.type,pos := "",after:=#[],guard:=o.guard }
def jd:Code->Code
 | .region id ops false=>.region id ⟨ops.toList.map jN⟩ false
 | .seq x y=>.seq (jd x) (jd y)
 | .cond o x y=>.cond o (jd x) (jd y)
 | .block id x=>.block id (jd x)
 | .loop x=>.loop (jd x)
 | .scope x=>.scope (jd x)
 | x=>x
theorem zYj(o:Oper)(e:Uh)(h:H):yD c (jN o) e h=yD c o e h:=rfl
theorem zGY(ops:List Oper)(tm:Tm)(o:Oper):zh (ops.map jN) tm (jN o)=zh ops tm o:=by
 unfold zh;show(match o.guard with|none=>_|some (j,w)=>_)=_;rcases o.guard with _|⟨j,w⟩
 .rfl
 simp only[oh];rcases ops[j]? with _|o'
 .rfl
 rfl
theorem zLW(ok:CtxOK P c){b:Bool}{ops:Array Oper}:∀(l:List Oper) {s:St}{Q:Ud},X0 P c b (ops.toList.map jN) (l.map jN) s Q->∃x s',SimO P b ops l s x s'/\Q x s':=by
 intro l;induction l with
 | nil=>intro s Q h;exact⟨_,_,SimO.nil,h⟩
 | cons o l ih =>
  intro s Q h;simp only[List.map_cons,X0,zGY]at h;have go:∀{s1:St},StepW P b o s .normal s1->zh ops.toList s.tm o=true->X0 P c b (ops.toList.map jN) (l.map jN) s1 Q->∃x s',SimO P b ops (o::l) s x s'/\Q x s':=by intro s1 hs d a;obtain⟨x,s',h1,j⟩:=ih a;exact⟨x,s',SimO.step d hs h1,j⟩
  split at h
  .rename_i d;have h:wpA P c b o.dst s (λs'=>X0 P c b (ops.toList.map jN) (l.map jN) s' Q) Q (yD c o (zx s.tm) s.heap):=by
    split at h
    .exact h.elim
    split at h
    .exact h
    exact zYF (YQ h)
   rcases i:yD c o (zx s.tm) s.heap with _|m
   .rw[i]at h;exact h.elim
   rw[i]at h;cases m with
   | val v h'=>have h:jo o.dst v s h' (λs'=>X0 P c b (ops.toList.map jN) (l.map jN) s' Q):=h;obtain⟨s1,e,a⟩:=yz h;exact go (StepW.of_step ok xu XK (by unfold zc;simp only[i,e])) d a
   | skip h'=>have h:jo o.dst zC s h' (λs'=>X0 P c b (ops.toList.map jN) (l.map jN) s' Q):=h;obtain⟨s1,e,a⟩:=yz h;exact go (StepW.of_step ok xu XK (by unfold zc;simp only[i,e])) d a
   | call f args=>obtain⟨v,h',⟨n,hs⟩,g⟩:=h;have g:jo o.dst v s h' (λs'=>X0 P c b (ops.toList.map jN) (l.map jN) s' Q):=g;obtain⟨s1,e,a⟩:=yz g;exact go (StepW.call ok i n hs e) d a
   | round q args=>obtain⟨v,h',hs,g⟩:=h;have g:jo o.dst v s h' (λs'=>X0 P c b (ops.toList.map jN) (l.map jN) s' Q):=g;obtain⟨s1,e,a⟩:=yz g;exact go (StepW.round ok i hs e) d a
   | dfr p =>
    obtain⟨hb,g⟩:=h;obtain⟨s1,e,a⟩:=yz g;have k:zc c jm b jh o s=some (.normal,s1):=by unfold zc;rw[i];show cond b none (match yk ⟨s.n,s.tm,p::s.dfr,s.heap⟩ o.dst zC s.heap with|some s'=>some (AX.normal,s')|none=>none)=_;rw[hb,oT,e]
    exact go (StepW.of_step ok xu XK k) d a
   | recover=>exact h.elim
   | pan v h'=>exact⟨_,_,SimO.out d (StepW.of_step ok xu XK (by unfold zc;simp only[i])),h⟩
  rename_i d;have d:zh ops.toList s.tm o=false:=by simpa using d
  obtain⟨s1,e,a⟩:=yz h;obtain⟨x,s',h1,j⟩:=ih a;exact⟨x,s',SimO.off d e h1,j⟩
theorem RC.region(ok:CtxOK P c){b:Bool}{id:Nat}{ops:Array Oper}{s:St}{Q:Ud}(h:X0 P c b (ops.toList.map jN) (ops.toList.map jN) s Q):RC P b (.region id ops false) s Q:=by obtain⟨x,e,h1,f⟩:=zLW ok _ h;refine⟨x,e,λrd d ρ D w a k hl=>?_,f⟩;exact wpIn_region (h1 rd d _ (zAH ops) k.hr.lt hl (Mv.refl _ _ _ _) (by rw[zr];exact k))
theorem RC.seq{b:Bool}{x y:Code}{s:St}{Q:Ud}(h:RC P b x s λe s1=>match e with | .normal=>RC P b y s1 Q|e=>Q e s1):RC P b (.seq x y) s Q:=by
 obtain⟨e,s1,h1,c⟩:=h;cases e with
 | normal=>obtain⟨d,f,g,i⟩:=c;exact⟨d,f,λrd a=>SimC.seq (h1 rd a) (g rd a),i⟩
 | _=>exact⟨_,s1,λrd a=>SimC.seq_out (h1 rd a) (by intro h;cases h),c⟩
theorem RC.cond{b:Bool}{o:Operand}{x y:Code}{s:St}{Q:Ud}{t:Bool}(c:zx s.tm o=some (.bool t))(h:RC P b (cond t x y) s Q):RC P b (.cond o x y) s Q:=by obtain⟨e,s1,h1,d⟩:=h;exact⟨e,s1,λrd a=>SimC.cond c (h1 rd a),d⟩
def exitB(id:Nat):AX->AX
 | .exit i=>if i=id then .normal else .exit i
 | e=>e
theorem RC.block{b:Bool}{id:Nat}{x:Code}{s:St}{Q:Ud}(h:RC P b x s λe s1=>Q (exitB id e) s1):RC P b (.block id x) s Q:=by obtain⟨e,s1,h1,c⟩:=h;refine⟨exitB id e,s1,λrd a=>?_,c⟩;have:=SimC.block (id:=id) (h1 rd a);cases e<;>exact this
theorem RC.loop{b:Bool}{x:Code}{Q:Ud}(I:Nat->St->Prop)(f:∀k s,I k s->RC P b x s λe s1=>match e with | .normal=>∃j,j<k/\I j s1|e=>Q e s1):
  ∀k s,I k s->RC P b (.loop x) s Q:=by
 have key:∀k s,I k s->∃e s1,(∀rd:Option Nat,rd.isSome=b->SimL P rd x s e s1)/\Q e s1:=by
  intro k;induction k using Nat.strongRecOn with
  | _ k ih =>
   intro s hi;obtain⟨e,s1,h1,c⟩:=f k s hi;cases e with
   | normal=>obtain⟨j,g,d⟩:=c;obtain⟨i,l,m,n⟩:=ih j g s1 d;exact⟨i,l,λrd a=>SimL.nx (h1 rd a) (m rd a),n⟩
   | _=>exact⟨_,s1,λrd a=>SimL.last (h1 rd a) (by intro h;cases h),c⟩
 intro k s hi;obtain⟨e,s1,h1,c⟩:=key k s hi;exact⟨e,s1,λrd a=>SimL.loop (h1 rd a),c⟩
theorem RC.rangeFunc(ok:CtxOK P c){f:Operand}{params:Array Tmp}{assign body:Code}{s:St}{Q:Ud}{g:Nat}{first captured:Ug}(k:zx s.tm f=some (.func (.func g) first captured))(m:s.heap.nx+1<T.top)(h:RF P c g (first++(.yield (s.heap.nx+1)::captured)) ((s.heap.new (.deferred true)).new (.loop .ready none s.n s.tm params assign body s.heap.nx))
   λ_ a=>match qI s.heap.nx (s.heap.nx+1) s a with|some (.done x s')=>Q x s'|none=>False):RC P false (.rangeFunc f params assign body) s Q:=by
 obtain⟨v,a,⟨d,hs⟩,b⟩:=h;rcases e:qI s.heap.nx (s.heap.nx+1) s a with _|⟨x,s'⟩
 .rw[e]at b;exact b.elim
 rw[e]at b;refine⟨x,s',λrd i=>?_,b⟩;have j:rd=none:=by cases rd with|none=>rfl|some l=>simp at i
 subst j;refine JH (orc:=zFU g (first++(.yield (s.heap.nx+1)::captured)) ((s.heap.new (.deferred true)).new (.loop .ready none s.n s.tm params assign body s.heap.nx)) v a) (ih:=jh) ok (OL d hs) XK ?_;unfold zDk;rw[k];have:(Option.isSome (none:Option Nat) || !(Nat.blt (s.heap.nx+1) T.top))=false:=by rw[(zY _ _).2 m];rfl
 simp only[this,oT];unfold jY;rw[OK];exact e
theorem RR.intro{l:Nat}{args:Ug}{h:H}{Q:Uc}{q:Option Code}{n:Nat}{tm g:Tm}{params:Array Tmp}{assign body:Code}{df:Nat}(hl:l<T.top)(D:h.get l=some (.loop .ready q n tm params assign body df))(hs:wj params.toList args n tm=some g)(I:RC P true assign ⟨n,g,[],h⟩ λe s1=>e = .normal/\∃a p qM b c d f,s1.heap.get l=some (.loop .ready a p qM b c d f) /\
   RC P true body ⟨s1.n,s1.tm,s1.dfr,s1.heap.upd l (some (.loop .busy a p qM b c d f))⟩ λk m=>match wG l k m with|some (.ret v h')=>Q v h'|_=>False):RR P l args h Q:=by
 obtain⟨e,s1,h1,rfl,a,p,qM,b,c,d,f,z,k,m,J,s⟩:=I;rcases hr:wG l k m with _|out
 .rw[hr]at s;exact s.elim
 rw[hr]at s;cases out with
 | panic v h'=>exact s.elim
 | ret v h' =>
  refine⟨v,h',?_,s⟩
  classical
  let i:St:=⟨s1.n,s1.tm,s1.dfr,s1.heap.upd l (some (.loop .busy a p qM b c d f))⟩
  let j:St:=⟨n,g,[],h⟩
  let ih:Bool->Code->St->Option Out:=λE t u=>match ih1 true body i k m E t u with|some r=>some r|none=>ih1 true assign j .normal s1 E t u
  have hih:jU P ih:=by
   intro rd t u F s4 y;have K:=Ox (P:=P) J;have A:=Ox (P:=P) h1;simp only[ih]at y;split at y
   .rename_i r B;exact K rd t u F s4 (by rw[B];exact y)
   exact A rd t u F s4 y
  refine Z2 (ih:=ih) hih ?_;have w:ih true body i=some (.done k m):=by simp only[ih];rw[Ov]
  have x:ih true assign j=some (.done .normal s1)\/(body=assign/\i=j):=by
   by_cases hc:body=assign/\i=j
   .exact .inr hc
   refine .inl ?_;simp only[ih];have:ih1 true body i k m true assign j=none:=by unfold ih1;rw[if_neg];rintro⟨_,L,M⟩;exact hc ⟨L.symm,M.symm⟩
   rw[this];exact Ov _ _ _ _ _
  have o:ih true body i=some (.done k m):=w;unfold XT;rw[D];simp only[hs];rcases x with A|⟨N,C⟩
  .rw[show(⟨n,g,[],h⟩:St)=j from rfl,A];simp only;unfold KG;rw[z];simp only;rw[show(⟨s1.n,s1.tm,s1.dfr,s1.heap.upd l (some (.loop .busy a p qM b c d f))⟩:St)=i from rfl,o];exact hr
  exfalso;have O:i.heap=j.heap:=by rw[C]
  have G:(s1.heap.upd l (some (.loop .busy a p qM b c d f))).get l=h.get l:=by show i.heap.get l=j.heap.get l;rw[O]
  rw[H.get_upd _ _ _ _ hl,if_pos rfl,D]at G;simp at G
section mono
variable {P:Program}{c:Ctx}
mutual
theorem YK:∀(z:V) {k k':V->Prop},(∀v,k v->k' v)->KN z k->KN z k'
 | .int _ _,_,_,h,⟨x,e⟩ | .bool _,_,_,h,⟨x,e⟩ | .str _,_,_,h,⟨x,e⟩ | .ptr _ _,_,_,h,⟨x,e⟩ | .nilptr,_,_,h,⟨x,e⟩ | .slice _ _ _ _,_,_,h,⟨x,e⟩ | .nilslice,_,_,h,⟨x,e⟩
 | .map _,_,_,h,⟨x,e⟩ | .nilmap,_,_,h,⟨x,e⟩ | .func _ _ _,_,_,h,⟨x,e⟩ | .yield _,_,_,h,⟨x,e⟩ | .nilFunc,_,_,h,⟨x,e⟩ | .iface _ _,_,_,h,⟨x,e⟩ | .nilIface,_,_,h,⟨x,e⟩ | .tuple _,_,_,h,⟨x,e⟩=>⟨x,h _ e⟩
 | .agg a,_,_,h,e=>JQ a (λ_=>h _) e
theorem JQ:∀(zs:Ug) {k k':Ug->Prop},(∀v,k v->k' v)->JP zs k->JP zs k'
 | [],_,_,h,e=>h _ e
 | z::zs,_,_,h,e=>YK z (λ_=>JQ zs λ_=>h _) e
end
theorem zGD{t:TypeId}{k k':V->Prop}(h:∀v,k v->k' v)(e:KM c t k):KM c t k':=by
 unfold KM at e ⊢;split
 .rename_i ti a;rw[a]at e;simp only at e;split
  .rename_i z b;rw[b]at e;exact YK z h e
  rename_i b;rw[b]at e;obtain⟨v,e⟩:=e;exact⟨v,h _ e⟩
 rename_i a;rw[a]at e;obtain⟨v,e⟩:=e;exact⟨v,h _ e⟩
theorem zDq:∀{a:List TypeId}{k k':Ug->Prop},(∀v,k v->k' v)->JO c a k->JO c a k':=by
 intro a;induction a with
 | nil=>intro k k' h e;exact h _ e
 | cons t a ih=>intro k k' h e;exact zGD (λv=>ih λvs=>h _) e
theorem Kg{t:Bool}{k k':V->Prop}(h:∀v,k v->k' v)(e:zAm t k):zAm t k':=⟨λg=>h _ (e.1 g),λg=>h _ (e.2 g)⟩
theorem Kh{p:Prop}{k k':V->Prop}(h:∀v,k v->k' v)(e:qK p k):qK p k':=⟨λg=>h _ (e.1 g),λg=>h _ (e.2 g)⟩
theorem Ki{v:V}{k k':V->Prop}(h:∀v,k v->k' v)(e:zAn v k):zAn v k':=by cases v<;>first|exact Kg h e|exact h _ e
theorem Kf{t:TypeId}{q k k':V->Prop}(h:∀v,k v->k' v)(e:XW c t q k):XW c t q k':=by
 unfold XW at e ⊢;rcases a:c.ty.get t with _|ti
 .rw[a]at e;obtain⟨v,b,d⟩:=e;exact⟨v,b,h _ d⟩
 rw[a]at e;simp only at e ⊢;cases f:z0B ti.desc with
 | some i=>rw[f]at e;exact zDq (λvs e=>⟨e.1,h _ e.2⟩) e
 | none =>
  rw[f]at e;simp only at e ⊢;rcases g:ti.zero with _|z
  .rw[g]at e;obtain⟨v,b,d⟩:=e;exact⟨v,b,h _ d⟩
  rw[g]at e;simp only at e ⊢;cases z<;>first
   | (obtain⟨t,b,d⟩:=e;exact⟨t,b,Kg h d⟩)
   | exact YK _ (λv (e:_/\_)=>⟨e.1,h _ e.2⟩) e
theorem jM{t:TypeId}{r:Ui}{k k':V->Prop}(h:∀v,k v->k' v)(e:Z6 c t r k):Z6 c t r k':=Kf h e
theorem ZJ{t:TypeId}{k k':Uc}(h:∀v w,k v w->k' v w){v:V}{w:H}(e:YH c t k v w):YH c t k' v w:=Kf (λu=>h u w) e
theorem zIP{op:BinOp}{t g:TypeId}{x y:Operand}{a b:V}{k k':V->Prop}(h:∀v,k v->k' v)(e:qc c op t x y g a b k):qc c op t x y g a b k':=by
 cases a<;>cases b<;>first
  | exact jM h e
  | skip
 .rename_i f m d n;have e:(if km op=true\/wv f d=true then _ else False):=e;show(if km op=true\/wv f d=true then _ else False);by_cases hc:km op=true\/wv f d=true
  .rw[if_pos hc]at e ⊢;cases op<;>first|exact h _ e|exact Kh h e|exact⟨e.1,h _ e.2⟩|(obtain⟨r,i,j⟩:=e;exact⟨r,i,h _ j⟩)
  rw[if_neg hc]at e;exact e.elim
 cases op<;>first|exact Kh h e|exact⟨e.1,h _ e.2⟩|exact jM h e
theorem zLY{op:UnOp}{a:V}{k k':V->Prop}(h:∀v,k v->k' v)(e:zBG op a k):zBG op a k':=by
 cases a<;>first|exact e.elim|skip
 .cases op<;>first|exact h _ e|exact e.elim
 cases op<;>first|exact h _ e|(obtain⟨r,b,c⟩:=e;exact⟨r,b,h _ c⟩)
theorem zG0{s d:TypeId}{w:H}{v:V}{k k':Uc}(h:∀v w,k v w->k' v w)(e:qo c s d w v k):qo c s d w v k':=by
 have gen:(match zIE c d with|true=>∃l h',xz c s d w v=some (.str l,h')/\k (.str l) h'|false=>∃u h',xz c s d w v=some (u,h')/\k u h') ->
   (match zIE c d with|true=>∃l h',xz c s d w v=some (.str l,h')/\k' (.str l) h'|false=>∃u h',xz c s d w v=some (u,h')/\k' u h'):=by
  cases zIE c d<;>(rintro⟨x,y,m,o⟩;exact⟨x,y,m,h _ _ o⟩)
 cases v<;>first|exact gen e|skip
 rename_i a n;have e:(match c.ty.get s,c.ty.get d with|some b,some f=>(match XL b.desc,XL f.desc with|some _,some a=>k (.int a (zU a n)) w|_,_=>False)|_,_=>False):=e;show(match c.ty.get s,c.ty.get d with|some b,some f=>(match XL b.desc,XL f.desc with|some _,some a=>k' (.int a (zU a n)) w|_,_=>False)|_,_=>False);rcases h1:c.ty.get s with _|b
 .rw[h1]at e;exact False.elim e
 rcases i:c.ty.get d with _|f
 .rw[h1,i]at e;exact False.elim e
 rw[h1,i]at e;have e:(match XL b.desc,XL f.desc with|some _,some a=>k (.int a (zU a n)) w|_,_=>False):=e;show(match XL b.desc,XL f.desc with|some _,some a=>k' (.int a (zU a n)) w|_,_=>False);rcases g:XL b.desc with _|p
 .rw[g]at e;exact False.elim e
 rcases j:XL f.desc with _|q
 .rw[g,j]at e;exact False.elim e
 rw[g,j]at e;exact h _ _ e
theorem zLU{t:TypeId}{f:Nat}{w:H}{v:V}{k k':Uc}(h:∀v w,k v w->k' v w)(e:zP c t f w v k):zP c t f w v k':=by
 cases v<;>first|exact e.elim|skip
 unfold zP at e ⊢;simp only at e ⊢;rcases a:c.ty.get t with _|ti
 .rw[a]at e;exact e
 rw[a]at e;simp only at e ⊢;cases g:ti.desc<;>rw[g]at e<;>first|exact e.elim|skip
 rename_i i;simp only at e ⊢;rcases d:i[f]? with _|j
 .rw[d]at e;exact e
 rw[d]at e;simp only at e ⊢;rcases b:c.ty.get j.type with _|l
 .rw[b]at e;exact e
 rw[b]at e;simp only at e ⊢;split
 .rename_i hs;rw[if_pos hs]at e;exact h _ _ e
 rename_i hs;rw[if_neg hs]at e;exact e
theorem zIS{i:Nat}{a:TypeId}{v:V}{k k':V->Prop}(h:∀v,k v->k' v)(e:zG1 c i a v k):zG1 c i a v k':=by
 cases v<;>first|exact e.elim|skip
 rename_i l;unfold zG1 at e ⊢;simp only at e ⊢;rcases hl:l[i]? with _|u
 .rw[hl]at e;exact e
 rw[hl]at e;simp only at e ⊢;cases hb:zBi c a with
 | true=>rw[hb]at e;exact Ki h e
 | false=>rw[hb]at e;exact h _ e
theorem qd{v:V}{k k':Bool->Prop}(h:∀v,k v->k' v)(e:wO v k):wO v k':=by
 cases v<;>first|exact e.elim|skip
 rename_i b;cases b<;>exact h _ e
theorem zBC{t:TypeId}{w:H}{v:V}{k k':Uc}(h:∀v w,k v w->k' v w)(e:zBB c t w v k):zBB c t w v k':=by
 unfold zBB at e ⊢;rcases a:c.ty.get t with _|ti
 .rw[a]at e;exact e
 rw[a]at e;simp only at e ⊢;split
 .rename_i f;rw[if_pos f]at e;unfold ZN at e ⊢;rcases d:(cond (za v.cells) (Cs.ofL v.cells) none) with _|cs
  .rw[d]at e;exact e
  rw[d]at e;exact⟨e.1,λb h' g i=>h _ _ (e.2 b h' g i)⟩
 rename_i f;rw[if_neg f]at e;exact⟨e.1,e.2.1,λb h' g i=>h _ _ (e.2.2 b h' g i)⟩
theorem zBE{a:TypeId}{r:Ui}{k k':V->Prop}(h:∀v,k v->k' v)(e:kh c a r k):kh c a r k':=by
 unfold kh at e ⊢;rcases r with _|u
 .exact e
 simp only at e ⊢;cases hb:zBi c a with
 | true=>rw[hb]at e;exact Ki h e
 | false=>rw[hb]at e;exact h _ e
theorem zBA{mx:Bool}{l:Ug}{k k':V->Prop}(h:∀v,k v->k' v)(e:Kq mx l k):Kq mx l k':=by
 rcases l with _|⟨v,_|⟨u,_|⟨x,l⟩⟩⟩
 .exact e
 .cases v<;>(obtain⟨u,a,b⟩:=e;exact⟨u,a,h _ b⟩)
 .cases v<;>cases u<;>first|exact h _ e|(obtain⟨u,a,b⟩:=e;exact⟨u,a,h _ b⟩)
 cases v<;>cases u<;>(obtain⟨u,a,b⟩:=e;exact⟨u,a,h _ b⟩)
theorem zIU{t:TypeId}{w:H}{v:V}{k k':V->Prop}(h:∀v,k v->k' v)(e:zCg c t w v k):zCg c t w v k':=by
 unfold zCg at e ⊢;cases hs:zIE c t with
 | true=>rw[hs]at e;cases v<;>first|exact h _ e|exact e.elim
 | false=>rw[hs]at e;obtain⟨x,a,b⟩:=e;exact⟨x,a,h _ b⟩
theorem zAz{b:Builtin}{d:TypeId}{w:H}{g:Option AN}{l:Ug}{m:List TypeId}{k k':Uc}(h:∀v w,k v w->k' v w)(e:ku c b d w k g l m):ku c b d w k' g l m:=by
 have f:(∃v h',g=some (.val v h')/\YH c d k v h')->∃v h',g=some (.val v h')/\YH c d k' v h':=λ⟨v,h',i,a⟩=>⟨v,h',i,ZJ h a⟩
 unfold ku at e ⊢;split
 .simp only at e;cases b<;>first|exact zIU (λv=>h v w) e|exact f e
 .simp only at e;cases b<;>first|exact f e|exact zBA (λv=>h v w) e|(obtain⟨i,v,h',a,j⟩:=e;exact⟨i,v,h',a,h _ _ j⟩)|(obtain⟨v,h',a,j⟩:=e;exact⟨v,h',a,h _ _ j⟩)
 rename_i n o;split at e
 .exact(n _ _ rfl rfl).elim
 .exact(o _ _ _ _ rfl rfl).elim
 cases b<;>first|exact f e|exact zBA (λv=>h v w) e
theorem zLQ{a:TypeId}{w:H}{r:Option AN}{k k':Uc}(h:∀v w,k v w->k' v w)(e:zYE c P a w k r):zYE c P a w k' r:=by
 rcases r with _|b
 .exact e
 cases b<;>first|exact h _ _ e|exact e.elim|exact RF.mono e λ_ _=>ZJ h
theorem zDy{a:TypeId}{w:H}{args:Ug}{v:V}{k k':Uc}(h:∀v w,k v w->k' v w)(e:wm c P a w k args v):wm c P a w k' args v:=by
 cases v<;>first|exact e.elim|skip
 .rename_i f _ _;cases f<;>first|exact zLQ h e|exact e.elim
 exact RR.mono e λ_ _=>ZJ h
theorem zGZ{a:Call}{g:TypeId}{ev:Uh}{w:H}{k k':Uc}(h:∀v w,k v w->k' v w)(e:KQ c P a g ev w k):KQ c P a g ev w k':=by
 unfold KQ at e ⊢;rcases i:ZT ev a.args.toList with _|args
 .rw[i]at e;exact e
 rw[i]at e;simp only at e ⊢;cases d:a.callee with
 | value f =>
  rw[d]at e;simp only at e ⊢;rcases j:ev f with _|v
  .rw[j]at e;exact e
  rw[j]at e;exact zDy h e
 | builtin b=>rw[d]at e;exact zAz h e
 | invoke r n =>
  rw[d]at e;simp only at e ⊢;rcases hr:ev r with _|x
  .rw[hr]at e;exact e
  rw[hr]at e;cases x<;>first|exact e.elim|skip
  simp only at e ⊢;split at e
  .exact RF.mono e λ_ _=>ZJ h
  .obtain⟨u,l,e⟩:=e;exact⟨u,l,RF.mono e λ_ _=>ZJ h⟩
  exact e.elim
theorem KR{o:Oper}{ev:Uh}{w:H}{k k':Uc}(h:∀v w,k v w->k' v w)(e:zG2 c P o ev w k):zG2 c P o ev w k':=by
 have gen:(∃v h',yD c o ev w=some (.val v h')/\k v h')->∃v h',yD c o ev w=some (.val v h')/\k' v h':=λ⟨v,h',g,j⟩=>⟨v,h',g,h _ _ j⟩
 unfold zG2 at e ⊢;cases p:o.op<;>simp only[p]at e ⊢<;>first|exact gen e|skip
 case move x=>cases l:ev x with
  | none=>rw[l]at e;exact e
  | some v=>rw[l]at e;exact h _ _ e
 case assign x=>cases l:ev x with
  | none=>rw[l]at e;exact e
  | some v=>rw[l]at e;exact h _ _ e
 case pick a b d =>
  split at e
  .exact qd (λt=>h _ _) e
  exact e.elim
 case alloc t =>
  split at e
  .split at e
   .exact zBC h e
   exact e.elim
  exact e.elim
 case box t x =>
  split at e
  .exact zBC h e
  exact e.elim
 case build t ps =>
  split at e
  .exact zBE (λv=>h v w) e
  exact e.elim
 case buildSlice t n ps =>
  split at e
  .obtain⟨v,h',g,j⟩:=e;exact⟨v,h',g,h _ _ j⟩
  exact e.elim
 case load t a =>
  split at e
  .exact jM (λv=>h v w) e
  exact e.elim
 case store t a x =>
  split at e
  .obtain⟨h',g,j⟩:=e;exact⟨h',g,h _ _ j⟩
  exact e.elim
 case binOp op t x y t2 =>
  split at e
  .exact zIP (λv=>h v w) e
  exact e.elim
 case unOp op t x =>
  split at e
  .exact zLY (λv=>h v w) e
  exact e.elim
 case convert s d x =>
  split at e
  .exact zG0 h e
  exact e.elim
 case makeFunc f a b =>
  cases f<;>simp only at e ⊢<;>first|exact gen e|skip
  split at e
  .exact h _ _ e
  exact e.elim
 case makeInterface t x =>
  split at e
  .split at e
   .exact e.elim
   exact h _ _ e
  exact e.elim
 case makeSlice t a b =>
  split at e
  .obtain⟨v,h',g,j⟩:=e;exact⟨v,h',g,h _ _ j⟩
  exact e.elim
 case slice t x a b d =>
  split at e
  .exact jM (λv=>h v w) e
  exact e.elim
 case fieldAddr t x f =>
  split at e
  .exact zLU h e
  exact e.elim
 case field t x f =>
  split at e
  .exact zBE (λv=>h v w) e
  exact e.elim
 case indexAddr t x i =>
  split at e
  .obtain⟨pb,q,g,j⟩:=e;exact⟨pb,q,g,h _ _ j⟩
  exact e.elim
 case index t x i =>
  split at e
  .exact jM (λv=>h v w) e
  exact e.elim
 case lookup t x i ok =>
  split at e
  .exact jM (λv=>h v w) e
  exact e.elim
 case mapUpdate t m x v =>
  split at e
  .obtain⟨h',g,j⟩:=e;exact⟨h',g,h _ _ j⟩
  exact e.elim
 case extract x i =>
  split at e
  .exact zIS (λv=>h v w) e
  exact e.elim
 case call cl=>exact zGZ h e
theorem zBD{b:Bool}{ops:List Oper}:∀(l:List Oper) {s:St}{Q Q':Ud},(∀x s',Q x s'->Q' x s')->X0 P c b ops l s Q->X0 P c b ops l s Q':=by
 intro l;induction l with
 | nil=>intro s Q Q' g h;exact g _ _ h
 | cons o l ih =>
  intro s Q Q' g h;have a:∀{d v s h},jo d v s h (λs'=>X0 P c b ops l s' Q)->jo d v s h (λs'=>X0 P c b ops l s' Q'):=Y4 λs m=>ih g m
  simp only[X0]at h ⊢;split
  .rename_i i;rw[if_pos i]at h;split
   .rename_i e;rw[if_pos e]at h;exact h
   rename_i e;rw[if_neg e]at h;split
   .rename_i j;rw[if_pos j]at h;rcases k:yD c o (zx s.tm) s.heap with _|n
    .rw[k]at h;exact h
    rw[k]at h;cases n with
    | val v h'=>exact a h
    | skip h'=>exact a h
    | call f args=>exact RF.mono h λv h' h1=>a h1
    | round p args=>exact RR.mono h λv h' h1=>a h1
    | dfr q=>exact⟨h.1,a h.2⟩
    | recover=>exact h.elim
    | pan v h'=>exact g _ _ h
   rename_i j;rw[if_neg j]at h;exact KR (λv w h1=>a h1) h
  rename_i i;rw[if_neg i]at h;exact a h
end mono
variable (P c)
def wpDr(b:Bool)(ops:List Oper)(s:St)(Q:Ud):Prop :=
 ∃orc m x a,xE P c orc/\ya ops=some m/\yJ c orc b jh ops (zi ops []) m m 0 ops s=some (.done x a)/\Q x a
variable {P c}
theorem RC.of_dr(ok:CtxOK P c){b:Bool}{id:Nat}{ops:Array Oper}{s:St}{Q:Ud}(h:wpDr P c b ops.toList s Q):RC P b (.region id ops true) s Q:=by obtain⟨orc,m,x,d,hor,hm,e,f⟩:=h;exact⟨x,d,λrd a=>by subst a;exact zBn ok hor XK hm e,f⟩
theorem wpDr.mono{b:Bool}{ops:List Oper}{s:St}{Q Q':Ud}(h:wpDr P c b ops s Q)(a:∀x s',Q x s'->Q' x s'):wpDr P c b ops s Q':=by obtain⟨orc,m,x,s',hor,hm,e,d⟩:=h;exact⟨orc,m,x,s',hor,hm,e,a _ _ d⟩
def zX(h:H):H:=⟨h.tbl,h.nx,T.top⟩
variable (c) in
def ZZ(o:Oper):Bool :=
 match o.op with
 | .move _ | .assign _ | .pick .. | .binOp .. | .unOp .. | .load .. | .field .. | .fieldAddr .. | .index .. | .indexAddr .. | .extract .. | .makeFunc .. | .slice .. | .build .. | .alloc _ | .box .. | .buildSlice .. | .makeSlice .. | .makeInterface ..=>true
 | .convert _ d _=>(match c.ty.get d with|some a=>(match XL a.desc with|some _=>true|none=>false)|none=>false)
 | .call b=>(match b.callee with | .builtin .len=>true | .builtin .min=>true | .builtin .max=>true|_=>false)
 | _=>false
def yL:List Oper->Uf
 | []=>[]
 | o::l=>(match o.op with | .call a=>(match a.callee with | .value (.func f)=>[f]|_=>[])|_=>[])++yL l
def jb(o:Oper):Bool :=
 match o.op with
 | .call a=>(match a.callee with | .value (.func _)=>true | .builtin _=>true|_=>false)
 | .panic _=>false
 | .defer _=>false
 | .sliceToArrayPointer ..=>false
 | _=>true
def wF:Uf->Bool
 | []=>true
 | n::l=>!(Xs n l) && wF l
variable (c) in
def zDJ(ops:List Oper):Bool :=
 match ya ops with
 | some m=>(ops.take m).all (ZZ c) && ((ops.drop m).all jb && wF (yL (ops.drop m)))
 | none=>false
theorem zQX(t:TypeId)(h:H)(v:V):zo c t (zX h) v=zo c t h v:=by cases v<;>rfl
theorem zGq(t:TypeId)(h:H)(x:V)(a b d:Ui):zy c t (zX h) x a b d=zy c t h x a b d:=rfl
theorem zFN{h h':H}{r:Option Cs}{k:Rk}{op:Bool}{b:Nat}(e:qG h r k op=some (b,h')):qG (zX h) r k op=some (b,zX h')/\h'.low=h.low/\h'.nx<=T.top:=by
 unfold qG at e ⊢;rcases hb:Nat.blt h.nx T.top with _|_
 .rw[hb,oT]at e;cases e
 rw[hb,oS]at e;show cond (Nat.blt h.nx T.top) _ none=_/\_;rw[hb,oS];rcases r with _|cs
 .cases e
 simp only[oA,oB]at e;obtain⟨rfl,rfl⟩:=e;exact⟨rfl,rfl,(zY _ _).1 hb⟩
theorem OU{h h':H}{l:Ug}{k:Rk}{op:Bool}{b:Nat}(e:qu h l k op=some (b,h')):qu (zX h) l k op=some (b,zX h')/\h'.low=h.low/\h'.nx<=T.top:=by
 unfold qu at e ⊢;rcases a:za l with _|_
 .rw[a,oT]at e;cases e
 rw[a,oS]at e;rw[oS];exact zFN e
theorem OZ{t:TypeId}{n:Nat}{ps:List (Nat×V)}{h h':H}{v:V}(e:zJ c t n ps h=some (v,h')):zJ c t n ps (zX h)=some (v,zX h')/\h'.low=h.low/\h'.nx<=T.top:=by
 unfold zJ at e ⊢;split at e
 .rename_i ti f;split at e
  .rename_i el m;split at e
   .rename_i a g;split at e
    .rename_i z o;rcases h1:Nat.ble (n*a.size) 1048576 with _|_
     .rw[h1,oT]at e;cases e
     rw[h1,oS]at e;rw[oS];rcases d:wn z.cells a.size with _|_
     .rw[d,oT]at e;cases e
     rw[d,oS]at e;rw[oS];split at e
     .rename_i r hr;split at e
      .rename_i b h1 i;simp only[oA,oB]at e;obtain⟨rfl,rfl⟩:=e;obtain⟨j,k,l⟩:=OU i;exact⟨by simp only[j],k,l⟩
      cases e
     cases e
    cases e
   cases e
  cases e
 cases e
theorem zNb{t:TypeId}{a b:V}{h h':H}{v:V}(e:jJ c t a b h=some (v,h')):jJ c t a b (zX h)=some (v,zX h')/\h'.low=h.low/\h'.nx<=T.top:=by
 unfold jJ at e ⊢;split at e
 .split at e
  .rename_i l k hl p;split at e
   .rename_i ti f;split at e
    .rename_i el q;split at e
     .rename_i d i;split at e
      .rename_i z r;generalize hg:(Nat.ble l k && Nat.ble k 4294967296 && Nat.ble (d.bytes*k) 1099511627776 && wn z.cells d.size)=g at e ⊢;rcases g with _|_
       .cases e
       rw[oS]at e ⊢;split at e
       .rename_i b h1 j;simp only[oA,oB]at e;obtain⟨rfl,rfl⟩:=e;obtain⟨m,n,o⟩:=zFN j;exact⟨by simp only[m],n,o⟩
       cases e
      cases e
     cases e
    cases e
   cases e
  cases e
 cases e
theorem zI2{o:Oper}{e:Uh}{h:H}{p:AN}(q:ZZ c o=true)(D:h.nx<=T.top)(j:yD c o e h=some p):
  ∃v m,p = .val v m/\yD c o e (zX h)=some (.val v (zX m))/\m.low=h.low/\m.nx<=T.top:=by
 have ofV:∀{r:Ui}{p:AN},AN.ofV r h=some p->∃v m,p = .val v m/\AN.ofV r (zX h)=some (.val v (zX m))/\m.low=h.low/\m.nx<=T.top:=by
  intro r p e;rcases r with _|v
  .cases e
  simp only[AN.ofV,oA]at e;exact⟨v,h,e.symm,rfl,rfl,D⟩
 have ofVH:∀{r K:Option (V×H)}{p:AN},AN.ofVH r=some p->(∀v m,r=some (v,m)->K=some (v,zX m)/\m.low=h.low/\m.nx<=T.top)->∃v m,p = .val v m/\AN.ofVH K=some (.val v (zX m))/\m.low=h.low/\m.nx<=T.top:=by
  intro r K p e hr;rcases r with _|⟨v,m⟩
  .cases e
  simp only[AN.ofVH,oA]at e;obtain⟨E,F,G⟩:=hr v m rfl;exact⟨v,m,e.symm,by rw[E];rfl,F,G⟩
 unfold ZZ at q;unfold yD at j ⊢;cases R:o.op<;>simp only[R]at q j ⊢<;>first|(cases q;done)|skip
 case move x=>exact ofV j
 case assign x=>exact ofV j
 case pick x a b =>
  rcases k:e x with _|v
  .simp[k]at j
  cases v<;>simp only[k]at j ⊢<;>first|(cases j;done)|exact ofV j
 case alloc t =>
  rcases k:c.ty.get t with _|ti
  .simp[k]at j
  simp only[k]at j ⊢;rcases h1:ti.zero with _|z
  .simp[h1]at j
  simp only[h1]at j ⊢;split at j
  .rename_i b h' A;simp only[oA]at j;obtain⟨E,F,G⟩:=OU A;exact⟨_,_,j.symm,by simp only[E],F,G⟩
  cases j
 case box t x =>
  rcases k:e x with _|v
  .simp[k]at j
  simp only[k]at j ⊢;split at j
  .rename_i b h' A;simp only[oA]at j;obtain⟨E,F,G⟩:=OU A;exact⟨_,_,j.symm,by simp only[E],F,G⟩
  cases j
 case build t ps =>
  rcases k:evP e ps.toList with _|v
  .simp[k]at j
  simp only[k]at j ⊢;exact ofV j
 case buildSlice t n ps =>
  rcases k:evP e ps.toList with _|v
  .simp[k]at j
  simp only[k]at j ⊢;exact ofVH j λv m e=>OZ e
 case makeSlice t a b =>
  rcases k:e a with _|v
  .simp[k]at j
  rcases h1:e b with _|u
  .simp[k,h1]at j
  simp only[k,h1]at j ⊢;exact ofVH j λv m e=>zNb e
 case makeInterface t x =>
  rcases k:c.ty.get t with _|ti
  .simp[k]at j
  rcases h1:e x with _|v
  .simp[k,h1]at j
  simp only[k,h1]at j ⊢;cases L:ti.desc<;>simp only[L,oA]at j ⊢<;>first|(cases j;done)|exact⟨_,h,j.symm,rfl,rfl,D⟩
 case load t a =>
  rcases k:e a with _|v
  .simp[k]at j
  simp only[k,zQX]at j ⊢;exact ofV j
 case binOp op t x y t2 =>
  rcases k:e x with _|v
  .simp[k]at j
  rcases h1:e y with _|v
  .simp[k,h1]at j
  simp only[k,h1]at j ⊢;exact ofV j
 case unOp op t x =>
  rcases k:e x with _|v
  .simp[k]at j
  simp only[k]at j ⊢;exact ofV j
 case field t x f =>
  rcases k:e x with _|v
  .simp[k]at j
  simp only[k]at j ⊢;exact ofV j
 case fieldAddr t x f =>
  rcases k:c.ty.get t with _|ti
  .simp[k]at j
  rcases h1:e x with _|v
  .simp[k,h1]at j
  cases v<;>simp only[k,h1]at j ⊢<;>first|(cases j;done)|skip
  cases L:ti.desc<;>simp only[L]at j ⊢<;>first|(cases j;done)|skip
  rename_i S;rcases O:S[f]? with _|U
  .simp[O]at j
  simp only[O]at j ⊢;unfold afa at j ⊢;rcases I:c.ty.get U.type with _|W
  .simp[I]at j
  simp only[I]at j ⊢;rcases hb:Nat.blt 0 W.size with _|_
  .rw[hb,oT]at j;cases j
  rw[hb,oS]at j;simp only[oA]at j;exact⟨_,h,j.symm,by rw[oS],rfl,D⟩
 case indexAddr t x y =>
  rcases k:e x with _|v
  .simp[k]at j
  rcases h1:e y with _|v
  .simp[k,h1]at j
  simp only[k,h1]at j ⊢;exact ofV j
 case index t x y =>
  rcases k:e x with _|v
  .simp[k]at j
  rcases h1:e y with _|v
  .simp[k,h1]at j
  simp only[k,h1]at j ⊢;exact ofV j
 case extract x i =>
  rcases k:e x with _|v
  .simp[k]at j
  cases v<;>simp only[k]at j ⊢<;>first|(cases j;done)|exact ofV j
 case makeFunc f first captured =>
  cases f with
  | func g =>
   rcases k:ZT e first.toList with _|v
   .simp[k]at j
   rcases h1:ZT e captured.toList with _|v
   .simp[k,h1]at j
   simp only[k,h1,oA]at j ⊢;exact⟨_,h,j.symm,rfl,rfl,D⟩
  | _=>cases j
 case slice t x lo hi mx =>
  rcases k:e x with _|v0
  .simp[k]at j
  rcases h1:Sim.evO e lo with _|v1
  .simp[k,h1]at j
  rcases m:Sim.evO e hi with _|X
  .simp[k,h1,m]at j
  rcases C:Sim.evO e mx with _|Y
  .simp[k,h1,m,C]at j
  simp only[k,h1,m,C,zGq]at j ⊢;exact ofV j
 case convert s d x =>
  rcases k:e x with _|v
  .simp[k]at j
  simp only[k]at j ⊢;split at q
  .rename_i Z M;split at q
   .rename_i κ B;have B:=zDU B;refine ofVH j λu m e=>?_
    have w:∀C:H,xz c s d C v=(match xz c s d h v with|some (u,_)=>some (u,C)|none=>none)/\∀u P,xz c s d h v=some (u,P)->P=h:=by
     intro C;unfold xz;rcases c.ty.get s with _|N
     .exact⟨rfl,λ_ _ e=>by cases e⟩
     rw[M];dsimp only;rw[B];cases N.desc<;>cases v<;>exact⟨rfl,λ_ _ e=>by cases e<;>rfl⟩
    obtain rfl:=(w h).2 u m e;have Q:=(w (zX m)).1;rw[e]at Q;exact⟨Q,rfl,D⟩
   cases q
  cases q
 case call cl =>
  split at q
  .rename_i J;unfold xc at j ⊢;rcases hl:ZT e cl.args.toList with _|args
   .simp[hl]at j
   simp only[hl,J]at j ⊢;generalize cl.argTypes.toList=N at j ⊢
   match args,N,j with
   | [x],[t],j=>exact ofV j
   | [],_,j|_::_::_,_,j | [_],[],j | [_],_::_::_,j=>cases j
  .rename_i J;unfold xc at j ⊢;rcases hl:ZT e cl.args.toList with _|args
   .simp[hl]at j
   simp only[hl,J]at j ⊢;rcases args with _|⟨x,l⟩
   .cases j
   exact ofV j
  .rename_i J;unfold xc at j ⊢;rcases hl:ZT e cl.args.toList with _|args
   .simp[hl]at j
   simp only[hl,J]at j ⊢;rcases args with _|⟨x,l⟩
   .cases j
   exact ofV j
  cases q
theorem KP{o : Oper}{e : Operand -> Ui}{h : H}{f : Nat}{args : Ug}(ht : jb o = true)(ha : yD c o e h = some (.call f args))(he : ∀g, e (.func g) = some (.func (.func g) [] [])): ∃cl, o.op = .call cl /\ cl.callee = .value (.func f) := by
  have nV : ∀{r : Ui}, AN.ofV r h ≠ some (.call f args) := by intro r;cases r<;>(intro e;cases e)
  have nVH : ∀{r : Option (V × H)}, AN.ofVH r ≠ some (.call f args) := by intro r;cases r<;>(intro e;cases e)
  unfold jb at ht;unfold yD at ha;cases ho : o.op<;>simp only[ho]at ht ha<;>first
    | (cases ht;done)
    | (exact absurd ha nV)
    | (exact absurd ha nVH)
    | (cases ha;done)
    | skip
  case call cl =>
    refine⟨cl, rfl, ?_⟩;unfold xc at ha;rcases hl : ZT e cl.args.toList with _|as
    .simp[hl]at ha
    simp only[hl]at ha;cases hc : cl.callee with
    | value q =>
      simp only[hc]at ht ha;cases q with
      | func g =>
        rw[he g]at ha;simp only at ha;unfold Zj at ha;cases hi : Xp c g with
        | true=>rw[hi, oS]at ha;split at ha<;>cases ha
        | false =>
          rw[hi, oT]at ha;split at ha
          · exact absurd ha nVH
          · simp only[oA, AN.call.injEq]at ha;rw[ha.1]
      | _ => cases ht
    | builtin b =>
      simp only[hc]at ha;split at ha<;>first
        | exact absurd ha nV
        | exact absurd ha nVH
        | (cases ha;done)
        | (split at ha<;>first|exact absurd ha nVH|(cases ha;done)|(split at ha<;>first|exact absurd ha nVH|(cases ha;done)))
    | invoke r n => simp only[hc]at ht;cases ht
  case fieldAddr t x f =>
    revert ha;(repeat' split)<;>intro ha<;>first
      | (cases ha;done)
      | (unfold afa at ha
         revert ha;split
         · rename_i tf _
           cases Nat.blt 0 tf.size<;>(intro ha;cases ha)
         · intro ha;cases ha)
  case makeFunc fn a b =>
    cases fn<;>simp only at ha<;>first|(cases ha;done)|skip
    revert ha;(repeat' split)<;>intro ha<;>(cases ha)
  case makeMap t r =>
    cases r<;>first|(cases ha;done)|exact absurd ha nVH
  all_goals
    revert ha;(repeat' split)<;>intro ha<;>first|exact absurd ha nV|exact absurd ha nVH|(cases ha;done)
theorem zAs{o : Oper}{e : Operand -> Ui}{h : H}{f : Nat}{args : Ug}(ht : jb o = true)(he : ∀g, e (.func g) = some (.func (.func g) [] [])): yD c o e h ≠ some (.round f args) := by
  intro ha;have nV : ∀{r : Ui}, AN.ofV r h ≠ some (.round f args) := by intro r;cases r<;>(intro e;cases e)
  have nVH : ∀{r : Option (V × H)}, AN.ofVH r ≠ some (.round f args) := by intro r;cases r<;>(intro e;cases e)
  unfold jb at ht;unfold yD at ha;cases ho : o.op<;>simp only[ho]at ht ha<;>first
    | (cases ht;done)
    | (exact absurd ha nV)
    | (exact absurd ha nVH)
    | (cases ha;done)
    | skip
  case call cl =>
    unfold xc at ha;rcases hl : ZT e cl.args.toList with _|as
    .simp[hl]at ha
    simp only[hl]at ha;cases hc : cl.callee with
    | value q =>
      simp only[hc]at ht ha;cases q with
      | func g =>
        rw[he g]at ha;simp only at ha;unfold Zj at ha;cases hi : Xp c g with
        | true=>rw[hi, oS]at ha;split at ha<;>cases ha
        | false =>
          rw[hi, oT]at ha;split at ha
          · exact absurd ha nVH
          · cases ha
      | _ => cases ht
    | builtin b =>
      simp only[hc]at ha;split at ha<;>first
        | exact absurd ha nV
        | exact absurd ha nVH
        | (cases ha;done)
        | (split at ha<;>first|exact absurd ha nVH|(cases ha;done)|(split at ha<;>first|exact absurd ha nVH|(cases ha;done)))
    | invoke r n => simp only[hc]at ht;cases ht
  case fieldAddr t x f =>
    revert ha;(repeat' split)<;>intro ha<;>first
      | (cases ha;done)
      | (unfold afa at ha
         revert ha;split
         · rename_i tf _
           cases Nat.blt 0 tf.size<;>(intro ha;cases ha)
         · intro ha;cases ha)
  case makeFunc fn a b =>
    cases fn<;>simp only at ha<;>first|(cases ha;done)|skip
    revert ha;(repeat' split)<;>intro ha<;>(cases ha)
  case makeMap t r =>
    cases r<;>first|(cases ha;done)|exact absurd ha nVH
  all_goals
    revert ha;(repeat' split)<;>intro ha<;>first|exact absurd ha nV|exact absurd ha nVH|(cases ha;done)
theorem zCa{o:Oper}{s:St}{b:Bool}{orc a:Nat->Ug->H->Option (V×H)}{fs:Uf}(d:∀f,f∈yL [o]->f∈fs)(e:∀f,f∈fs->orc f=a f)(g:jb o=true):zc c orc b jh o s=zc c a b jh o s:=by
 unfold zc;rcases h:yD c o (zx s.tm) s.heap with _|i
 .rfl
 cases i with
 | call f args =>
  obtain⟨l,h1,j⟩:=KP g h (λ_=>rfl);have hm:f∈yL [o]:=by simp[yL,h1,j]
  have k:jY c orc jh f args s.heap=jY c a jh f args s.heap:=by unfold jY;rw[e f (d f hm)]
  simp only[k]
 | _=>rfl
theorem yW(o:Oper)(l:List Oper):yL (o::l)=yL [o]++yL l:=by simp[yL]
theorem zGR{ops:List Oper}{b:Bool}{orc a:Nat->Ug->H->Option (V×H)}:∀(l:List Oper) {s:St},l.all jb=true->(∀f,f∈yL l->orc f=a f)->wX c orc b jh ops l s=wX c a b jh ops l s:=by
 intro l;induction l with
 | nil=>intro s _ _;rfl
 | cons o l ih =>
  intro s d e;simp only[List.all_cons,oM]at d;rw[yW]at e;have h1:∀s,zc c orc b jh o s=zc c a b jh o s:=λs=>zCa (fs:=yL [o]) (λ_ h=>h) (λf g=>e f (List.mem_append_left _ g)) d.1
  have i:∀s,wX c orc b jh ops l s=wX c a b jh ops l s:=λs=>ih d.2 λf g=>e f (List.mem_append_right _ g)
  simp only[wX,h1,i]
theorem zJG(_:CtxOK P c){b:Bool}{ops:List Oper}:∀(l:List Oper) {s:St}{Q:Ud},l.all jb=true->wF (yL l)=true->X0 P c b ops l s Q ->
  ∃orc,xE P c orc/\(∀f,f∉yL l->orc f=jm f)/\∃x s',wX c orc b jh ops l s=some (.done x s')/\Q x s':=by
 intro l;induction l with
 | nil=>intro s Q _ _ h;exact⟨jm,xu,λ_ _=>rfl,.normal,s,rfl,h⟩
 | cons o l ih =>
  intro s Q m j h;simp only[List.all_cons,oM]at m;have r:wF (yL l)=true:=by
   rw[yW]at j;generalize yL [o]=q at j;induction q with
   | nil=>exact j
   | cons a q B=>simp only[List.cons_append,wF,oM]at j;exact B j.2
  simp only[X0]at h;have plain:∀s1,zh ops s.tm o=true->zc c jm b jh o s=some (.normal,s1)->X0 P c b ops l s1 Q->(∀f args,yD c o (zx s.tm) s.heap≠some (.call f args)) ->
    ∃orc,xE P c orc/\(∀f,f∉yL (o::l)->orc f=jm f)/\∃x s',wX c orc b jh ops (o::l) s=some (.done x s')/\Q x s':=by
   intro s1 n hs i C;obtain⟨orc,h1,w,x,s',y,z⟩:=ih m.2 r i;refine⟨orc,h1,λf D=>w f λg=>D (by rw[yW];exact List.mem_append_right _ g),x,s',?_,z⟩;have t:zc c orc b jh o s=some (.normal,s1):=by
    rw[<-hs];unfold zc;cases k:yD c o (zx s.tm) s.heap with
    | none=>rfl
    | some E=>cases E with
     | call f args=>exact absurd k (C f args)
     | _=>rfl
   simp only[wX,n,oS,t,y]
  split at h
  .rename_i n;have F:¬zCA o.op=true:=by
    intro j;have h1:=m.1;unfold jb at h1;unfold zCA at j;cases G:o.op<;>simp only[G]at h1 j<;>first|(cases h1;done)|(cases j;done)
   have I:¬zKZ o.op=true:=by intro j;have h1:=m.1;unfold jb at h1;unfold zKZ at j;cases G:o.op<;>simp only[G]at h1 j<;>first|(cases h1;done)|(cases j;done)
   rw[if_neg F,if_neg I]at h;have i:=YQ h;rcases k:yD c o (zx s.tm) s.heap with _|E
   .rw[k]at i;exact i.elim
   rw[k]at i;cases E with
   | val v h'=>have i:jo o.dst v s h' (λs'=>X0 P c b ops l s' Q):=i;obtain⟨s1,u,i⟩:=yz i;exact plain s1 n (by unfold zc;simp only[k,u]) i (λf args e=>by rw[k]at e;cases e)
   | skip h'=>have i:jo o.dst zC s h' (λs'=>X0 P c b ops l s' Q):=i;obtain⟨s1,u,i⟩:=yz i;exact plain s1 n (by unfold zc;simp only[k,u]) i (λf args e=>by rw[k]at e;cases e)
   | round W args=>exact absurd k (zAs m.1 (λ_=>rfl))
   | call f args =>
    obtain⟨v,h',⟨J,hs⟩,R⟩:=i;obtain⟨s1,u,i⟩:=yz R;obtain⟨X,S,T⟩:=KP m.1 k (λ_=>rfl);have A:yL [o]=[f]:=by simp[yL,S,T]
    have hfl:f∉yL l:=by rw[yW,A]at j;simp only[List.singleton_append,wF,oM,Bool.not_eq_true']at j;intro hm;rw[(qE _ _).2 hm]at j;exact absurd j.1 (by simp)
    obtain⟨orc,h1,w,x,s',y,z⟩:=ih m.2 r i
    let d:Nat->Ug->H->Option (V×H):=λg=>if g=f then zFU f args s.heap v h' g else orc g
    have U:∀g,g∈yL l->d g=orc g:=λg p=>by
     have:g≠f:=λe=>hfl (e ▸ p)
     simp only[d,if_neg this]
    refine⟨d,?_,?_,x,s',?_,z⟩
    .intro g a2 M N O e;simp only[d]at e;by_cases p:g=f
     .rw[if_pos p]at e;exact OL J hs g a2 M N O e
     rw[if_neg p]at e;exact h1 g a2 M N O e
    .intro g p;rw[yW,A]at p;have K:g≠f:=λe=>p (by rw[e];simp)
     have L:g∉yL l:=λe=>p (List.mem_append_right _ e)
     simp only[d,if_neg K];exact w g L
    have t:zc c d b jh o s=some (.normal,s1):=by
     unfold zc;simp only[k];unfold jY;have:d f args s.heap=some (v,h'):=by simp only[d,if_pos rfl];exact OK _ _ _ _ _
     rw[this];simp only[u]
    simp only[wX,n,oS,t];rw[zGR l m.2 U];exact y
   | _=>exact i.elim
  rename_i n;have n:zh ops s.tm o=false:=by simpa using n
  obtain⟨s1,u,i⟩:=yz h;obtain⟨orc,h1,w,x,s',y,z⟩:=ih m.2 r i;refine⟨orc,h1,λf D=>w f λg=>D (by rw[yW];exact List.mem_append_right _ g),x,s',?_,z⟩;simp only[wX,n,oT,u,y]
theorem wh:∀l:List AD,xv l l=true:=by
 intro l;induction l with
 | nil=>rfl
 | cons a l ih=>exact ih
theorem zMO(ok:CtxOK P c){b:Bool}{ops:List Oper}{bs:Uf}{m:Nat}:∀(l:List Oper) (r k:Nat) {s:St}{Q:Ud},s.heap.nx<=T.top->s.heap.low<=T.top->(l.take r).all (ZZ c)=true ->
  (l.drop r).all jb=true->wF (yL (l.drop r))=true->X0 P c b ops l s Q->∃orc,xE P c orc/\∃x s',yJ c orc b jh ops bs m r k l s=some (.done x s')/\Q x s':=by
 intro l;induction l with
 | nil=>intro r k s Q _ _ _ _ _ h;exact⟨jm,xu,.normal,s,by cases r<;>rfl,h⟩
 | cons o l ih =>
  intro r k s Q B hl n A d h;cases r with
  | zero=>obtain⟨orc,h1,_,x,s',p,q⟩:=zJG ok (o::l) A d h;exact⟨orc,h1,x,s',p,q⟩
  | succ r =>
   simp only[List.take_succ_cons,List.all_cons,oM]at n;simp only[List.drop_succ_cons]at A d;simp only[X0]at h;split at h
   .rename_i u;have C:¬zCA o.op=true:=by
     intro d;have h1:=n.1;unfold ZZ at h1;unfold zCA at d;cases D:o.op<;>simp only[D]at h1 d<;>first|(cases h1;done)|(cases d;done)
    have E:¬zKZ o.op=true:=by intro d;have h1:=n.1;unfold ZZ at h1;unfold zKZ at d;cases D:o.op<;>simp only[D]at h1 d<;>first|(cases h1;done)|(cases d;done)
    rw[if_neg C,if_neg E]at h;have a:=YQ h;rcases F:yD c o (zx s.tm) s.heap with _|L
    .rw[F]at a;exact a.elim
    obtain⟨v,g,rfl,w,i,G⟩:=zI2 n.1 B F;rw[F]at a;have a:jo o.dst v s g (λs'=>X0 P c b ops l s' Q):=a;rw[zAZ]at a;have heq:(⟨g.tbl,g.nx,cond (Nat.ble s.heap.low T.top) s.heap.low T.top⟩:H)=g:=by rw[oG hl,oS,<-i]
    have y:∀f,X0 P c b ops l ⟨s.n,f,s.dfr,g⟩ Q->(∀orc,zc c orc b jh o ⟨s.n,s.tm,s.dfr,zX s.heap⟩=some (.normal,⟨s.n,f,s.dfr,zX g⟩)) ->
      ∃orc,xE P c orc/\∃x s',yJ c orc b jh ops bs m (r+1) k (o::l) s=some (.done x s')/\Q x s':=by
     intro f I J;obtain⟨orc,h1,x,s',p,q⟩:=ih r (k+1) (s:=⟨s.n,f,s.dfr,g⟩) G (by show g.low<=_;rw[i];exact hl) n.2 A d I;refine⟨orc,h1,x,s',?_,q⟩;unfold yJ;show cond (zh ops s.tm o) (match zc c orc b jh o ⟨s.n,s.tm,s.dfr,zX s.heap⟩with|some (.normal,s')=>_|_=>none) _=_;rw[u,oS,J orc];show cond (Nat.ble s.heap.nx T.top || _) (cond (xv s.dfr s.dfr) (yJ c orc b jh ops bs m r (k+1) l ⟨s.n,f,s.dfr,⟨g.tbl,g.nx,cond (Nat.ble s.heap.low T.top) s.heap.low T.top⟩⟩) none) none=_;rw[oG B,Bool.true_or,oS,wh,oS,heq];exact p
    rcases a with⟨j,a⟩|⟨t,j,hb,a⟩
    .refine y s.tm a λorc=>?_
     unfold zc;simp only[w,j];rfl
    refine y _ a λorc=>?_
    unfold zc;simp only[w,j];unfold yk;simp only[hb,oS]
   rename_i u;have u:zh ops s.tm o=false:=by simpa using u
   obtain⟨s1,K,a⟩:=yz h;have z:s1.heap=s.heap:=by obtain⟨_,e⟩:=xh K;rw[e]
   obtain⟨orc,h1,x,s',p,q⟩:=ih r (k+1) (s:=s1) (by rw[z];exact B) (by rw[z];exact hl) n.2 A d a;refine⟨orc,h1,x,s',?_,q⟩;unfold yJ;show cond (zh ops s.tm o) _ (match yk s o.dst zC s.heap with|some s'=>yJ c orc b jh ops bs m r (k+1) l s'|none=>none)=_;rw[u,oT,K];exact p
def yN(h h':H):H:=⟨h'.tbl,h'.nx,cond (Nat.ble h.low h'.low) h.low h'.low⟩
def lowOk(ops:List Oper)(bs:Uf)(m k:Nat)(h h':H):Prop:=match XY ops bs m k with|true=>h'.nx<=T.top|false=>h.nx<=h'.low/\h'.nx<=T.top
theorem lowOk.nx{ops:List Oper}{bs:Uf}{m k:Nat}{h h':H}(e:lowOk ops bs m k h h'):h'.nx<=T.top:=by
 unfold lowOk at e;split at e
 .exact e
 exact e.2
theorem lowOk.ok{ops:List Oper}{bs:Uf}{m k:Nat}{h h':H}{tm:Tm}{o:Oper}(e:lowOk ops bs m k h h'):(Nat.ble h.nx h'.low || yq ops bs m k tm o)=true:=by
 unfold lowOk at e;unfold yq;split at e
 .rename_i g;rw[g,Bool.or_true,Bool.or_true]
 rw[oG e.1,Bool.true_or]
variable (P c) in
def wpF(b:Bool)(ops:List Oper)(bs:Uf)(m:Nat):Nat->Nat->List Oper->St->Ud->Prop
 | 0,_,l,s,Q=>X0 P c b ops l s Q
 | _+1,_,[],s,Q=>Q .normal s
 | r+1,k,o::l,s,Q =>
  if zh ops s.tm o=true then
   (if ZZ c o=true then zG2 c P o (zx s.tm) s.heap λv h=>jo o.dst v s h λa=>wpF b ops bs m r (k+1) l a Q
   else if zCA o.op=true\/zKZ o.op=true then False else
    zG2 c P o (zx s.tm) (zX s.heap) λv h=>lowOk ops bs m k s.heap h/\∀d,d=yN s.heap h->jo o.dst v s d λa=>wpF b ops bs m r (k+1) l a Q)
  else jo o.dst zC s s.heap λa=>wpF b ops bs m r (k+1) l a Q
def zGN(ops:List Oper)(bs:Uf)(m:Nat):Nat->List Oper->Bool
 | _,[]=>true
 | k,o::l=>(match o.op with | .store ..=>Nat.ble m k || XY ops bs m k | .mapUpdate ..=>Nat.ble m k || XY ops bs m k|_=>true) && zGN ops bs m (k+1) l
def Jf(ops:List Oper):Bool:=(match ya ops with|some m=>zGN ops (zi ops []) m 0 ops|none=>false) && (ops.all jb && (wF (yL ops) && (ya ops).isSome))
def zBo(ops:List Oper):Nat:=match ya ops with|some m=>m|none=>0
theorem zLN{ops:List Oper}{b:Bool}{bs:Uf}{m:Nat}{orc a:Nat->Ug->H->Option (V×H)}:∀(l:List Oper) (r k:Nat) {s:St},l.all jb=true->(∀f,f∈yL l->orc f=a f) ->
  yJ c orc b jh ops bs m r k l s=yJ c a b jh ops bs m r k l s:=by
 intro l;induction l with
 | nil=>intro r k s _ _;cases r<;>rfl
 | cons o l ih =>
  intro r k s d e;rcases r with _|r
  .exact zGR (o::l) d e
  simp only[List.all_cons,oM]at d;rw[yW]at e;have h1:∀s,zc c orc b jh o s=zc c a b jh o s:=λs=>zCa (fs:=yL [o]) (λ_ h=>h) (λf g=>e f (List.mem_append_left _ g)) d.1
  have i:∀k s,yJ c orc b jh ops bs m r k l s=yJ c a b jh ops bs m r k l s:=λk s=>ih r k d.2 λf g=>e f (List.mem_append_right _ g)
  simp only[yJ,h1,i]
theorem zKJ(ok:CtxOK P c){b:Bool}{ops:List Oper}{bs:Uf}{m:Nat}:∀(l:List Oper) (r k:Nat) {s:St}{Q:Ud},s.heap.nx<=T.top->s.heap.low<=T.top->l.all jb=true->wF (yL l)=true->wpF P c b ops bs m r k l s Q ->
  ∃orc,xE P c orc/\(∀f,f∉yL l->orc f=jm f)/\∃x s',yJ c orc b jh ops bs m r k l s=some (.done x s')/\Q x s':=by
 intro l;induction l with
 | nil=>intro r k s Q _ _ _ _ h;refine⟨jm,xu,λ_ _=>rfl,.normal,s,by cases r<;>rfl,by cases r<;>exact h⟩
 | cons o l ih =>
  intro r k s Q U hl D y h;cases r with
  | zero=>obtain⟨orc,h1,n,x,s',E,F⟩:=zJG ok (o::l) D y h;exact⟨orc,h1,n,x,s',E,F⟩
  | succ r =>
   simp only[List.all_cons,oM]at D;have G:wF (yL l)=true:=by
    rw[yW]at y;generalize yL [o]=q at y;induction q with
    | nil=>exact y
    | cons a q W=>simp only[List.cons_append,wF,oM]at y;exact W y.2
   simp only[wpF]at h;split at h
   .rename_i L;split at h
    · -- a quiet operation
     rename_i X;have j:=YQ h;rcases z:yD c o (zx s.tm) s.heap with _|an
     .rw[z]at j;exact j.elim
     obtain⟨v,n,rfl,M,d,Y⟩:=zI2 X U z;rw[z]at j;have j:jo o.dst v s n (λs'=>wpF P c b ops bs m r (k+1) l s' Q):=j;rw[zAZ]at j;have heq:(⟨n.tbl,n.nx,cond (Nat.ble s.heap.low T.top) s.heap.low T.top⟩:H)=n:=by rw[oG hl,oS,<-d]
     have N:∀A,wpF P c b ops bs m r (k+1) l ⟨s.n,A,s.dfr,n⟩ Q->(∀orc,zc c orc b jh o ⟨s.n,s.tm,s.dfr,zX s.heap⟩=some (.normal,⟨s.n,A,s.dfr,zX n⟩)) ->
       ∃orc,xE P c orc/\(∀f,f∉yL (o::l)->orc f=jm f)/\∃x s',yJ c orc b jh ops bs m (r+1) k (o::l) s=some (.done x s')/\Q x s':=by
      intro A Z B;obtain⟨orc,h1,h1b,x,s',E,F⟩:=ih r (k+1) (s:=⟨s.n,A,s.dfr,n⟩) Y (by show n.low<=_;rw[d];exact hl) D.2 G Z;refine⟨orc,h1,λf O=>h1b f λg=>O (by rw[yW];exact List.mem_append_right _ g),x,s',?_,F⟩;show cond (zh ops s.tm o) (match zc c orc b jh o ⟨s.n,s.tm,s.dfr,zX s.heap⟩with|some (.normal,s')=>_|_=>none) _=_;rw[L,oS,B orc];show cond (Nat.ble s.heap.nx T.top || _) (cond (xv s.dfr s.dfr) (yJ c orc b jh ops bs m r (k+1) l ⟨s.n,A,s.dfr,⟨n.tbl,n.nx,cond (Nat.ble s.heap.low T.top) s.heap.low T.top⟩⟩) none) none=_;rw[oG U,Bool.true_or,oS,wh,oS,heq];exact E
     rcases j with⟨J,j⟩|⟨t,J,hb,j⟩
     .refine N s.tm j λorc=>?_
      unfold zc;simp only[M,J];rfl
     refine N _ j λorc=>?_
     unfold zc;simp only[M,J];unfold yk;simp only[hb,oS]
    split at h
    .exact h.elim
    have j:=YQ h;have fin:∀(orc:Nat->Ug->H->Option (V×H)) (v:V) (h':H) (s1:St),lowOk ops bs m k s.heap h'->yk s o.dst v (yN s.heap h')=some s1 ->
      zc c orc b jh o ⟨s.n,s.tm,s.dfr,zX s.heap⟩=(match yk ⟨s.n,s.tm,s.dfr,zX s.heap⟩ o.dst v h' with|some s'=>some (.normal,s')|none=>none) ->
      yJ c orc b jh ops bs m (r+1) k (o::l) s=yJ c orc b jh ops bs m r (k+1) l s1:=by
     intro orc v h' s1 d p B;show cond (zh ops s.tm o) (match zc c orc b jh o ⟨s.n,s.tm,s.dfr,zX s.heap⟩with|some (.normal,s')=>_|_=>none) _=_;rw[L,oS,B];cases y:o.dst with
     | none=>rw[y]at p;simp only[yk,oA]at p;subst p;show cond (Nat.ble s.heap.nx h'.low || yq ops bs m k s.tm o) (cond (xv s.dfr s.dfr) (yJ c orc b jh ops bs m r (k+1) l ⟨s.n,s.tm,s.dfr,yN s.heap h'⟩) none) none=_;rw[d.ok,oS,wh,oS]
     | some t =>
      rw[y]at p;unfold yk at p ⊢;simp only at p ⊢;rcases hb:Nat.blt t s.n with _|_
      .rw[hb]at p;cases p
      rw[hb,oS]at p;simp only[oA]at p;subst p;rw[oS];show cond (Nat.ble s.heap.nx h'.low || yq ops bs m k s.tm o) (cond (xv s.dfr s.dfr) (yJ c orc b jh ops bs m r (k+1) l ⟨s.n,s.tm.set t v,s.dfr,yN s.heap h'⟩) none) none=_;rw[d.ok,oS,wh,oS]
    have R:∀h':H,(yN s.heap h').low<=T.top:=by
     intro h';show cond (Nat.ble s.heap.low h'.low) s.heap.low h'.low<=_;cases hb:Nat.ble s.heap.low h'.low with
     | true=>exact hl
     | false =>
      rw[oT];rcases Nat.le_total s.heap.low h'.low with g|g
      .rw[oG g]at hb;cases hb
      exact oW g hl
    have u:∀{v:V}{h':H}{s1:St},yk s o.dst v (yN s.heap h')=some s1->s1.heap=yN s.heap h':=by intro v h' s1 p;obtain⟨_,e⟩:=xh p;rw[e]
    have plain:∀(v:V) (h':H),lowOk ops bs m k s.heap h'->jo o.dst v s (yN s.heap h') (λs'=>wpF P c b ops bs m r (k+1) l s' Q) ->
      (∀orc,zc c orc b jh o ⟨s.n,s.tm,s.dfr,zX s.heap⟩=(match yk ⟨s.n,s.tm,s.dfr,zX s.heap⟩ o.dst v h' with|some s'=>some (.normal,s')|none=>none)) ->
      ∃orc,xE P c orc/\(∀f,f∉yL (o::l)->orc f=jm f)/\∃x s',yJ c orc b jh ops bs m (r+1) k (o::l) s=some (.done x s')/\Q x s':=by
     intro v h' d p B;obtain⟨s1,w,K⟩:=yz p;obtain⟨orc,h1,n,x,s',E,F⟩:=ih r (k+1) (by rw[u w];exact d.nx) (by rw[u w];exact R _) D.2 G K;exact⟨orc,h1,λf O=>n f λg=>O (by rw[yW];exact List.mem_append_right _ g),x,s',by rw[fin orc v h' s1 d w (B orc)];exact E,F⟩
    rcases z:yD c o (zx s.tm) (zX s.heap) with _|an
    .rw[z]at j;exact j.elim
    rw[z]at j;cases an with
    | val v h'=>exact plain v h' j.1 (j.2 _ rfl) λorc=>by unfold zc;simp only[z];rfl
    | skip h'=>exact plain zC h' j.1 (j.2 _ rfl) λorc=>by unfold zc;simp only[z];rfl
    | round lp args=>exact absurd z (zAs D.1 (λ_=>rfl))
    | call f args =>
     obtain⟨v,h',⟨hfn,hs⟩,C,hq⟩:=j;have d:=C;obtain⟨s1,w,K⟩:=yz (hq _ rfl);obtain⟨cl,g1,g2⟩:=KP D.1 z (λ_=>rfl);have S:yL [o]=[f]:=by simp[yL,g1,g2]
     have hfl:f∉yL l:=by rw[yW,S]at y;simp only[List.singleton_append,wF,oM,Bool.not_eq_true']at y;intro hm;rw[(qE _ _).2 hm]at y;exact absurd y.1 (by simp)
     obtain⟨orc,h1,n,x,s',E,F⟩:=ih r (k+1) (by rw[u w];exact C.nx) (by rw[u w];exact R _) D.2 G K
     let i:Nat->Ug->H->Option (V×H):=λg=>if g=f then zFU f args (zX s.heap) v h' g else orc g
     have hN:∀g,g∈yL l->i g=orc g:=λg I=>by
      have:g≠f:=λe=>hfl (e ▸ I)
      simp only[i,if_neg this]
     refine⟨i,?_,?_,x,s',?_,F⟩
     .intro g a2 h5 v2 h6 e;simp only[i]at e;by_cases I:g=f
      .rw[if_pos I]at e;exact OL hfn hs g a2 h5 v2 h6 e
      rw[if_neg I]at e;exact h1 g a2 h5 v2 h6 e
     .intro g I;rw[yW,S]at I;have hgf:g≠f:=λe=>I (by rw[e];simp)
      have hgl:g∉yL l:=λe=>I (List.mem_append_right _ e)
      simp only[i,if_neg hgf];exact n g hgl
     rw[fin i v h' s1 d w ?_,zLN l r (k+1) D.2 hN]
     .exact E
     have hcO:jY c i jh f args (zX s.heap)=some (.ret v h'):=by
      unfold jY;have:i f args (zX s.heap)=some (v,h'):=by simp only[i,if_pos rfl];exact OK _ _ _ _ _
      rw[this]
     unfold zc;simp only[z,hcO];rfl
    | _=>exact j.elim
   rename_i L;have L:zh ops s.tm o=false:=by simpa using L
   obtain⟨s1,p,j⟩:=yz h;have u:s1.heap=s.heap:=by obtain⟨_,e⟩:=xh p;rw[e]
   obtain⟨orc,h1,n,x,s',E,F⟩:=ih r (k+1) (by rw[u];exact U) (by rw[u];exact hl) D.2 G j;refine⟨orc,h1,λf O=>n f λg=>O (by rw[yW];exact List.mem_append_right _ g),x,s',?_,F⟩;unfold yJ;show cond (zh ops s.tm o) _ (match yk s o.dst zC s.heap with|some s'=>yJ c orc b jh ops bs m r (k+1) l s'|none=>none)=_;rw[L,oT,p];exact E
theorem wpDr.of_calls(ok:CtxOK P c){b:Bool}{ops:List Oper}{s:St}{Q:Ud}(a:Jf ops=true)(f:s.heap.nx<=T.top)(hl:s.heap.low<=T.top)(h:wpF P c b ops (zi ops []) (zBo ops) (zBo ops) 0 ops s Q):wpDr P c b ops s Q:=by
 unfold Jf at a;rw[oM]at a;have a:=a.2;simp only[oM,Option.isSome_iff_exists]at a;obtain⟨h1,g,m,hm⟩:=a;have d:zBo ops=m:=by unfold zBo;rw[hm]
 rw[d]at h;obtain⟨orc,hor,_,x,i,e,j⟩:=zKJ (bs:=zi ops []) (m:=m) ok ops m 0 f hl h1 g h;exact⟨orc,m,x,i,hor,hm,e,j⟩
theorem zQB{b:Bool}{ops:List Oper}{bs:Uf}{m:Nat}:∀(r k:Nat) (l:List Oper) {s:St}{Q Q':Ud},(∀x s',Q x s'->Q' x s')->wpF P c b ops bs m r k l s Q->wpF P c b ops bs m r k l s Q':=by
 intro r;induction r with
 | zero=>intro k l s Q Q' d h;exact zBD _ d h
 | succ r ih =>
  intro k l s Q Q' d h;rcases l with _|⟨o,l⟩
  .exact d _ _ h
  simp only[wpF]at h ⊢;split
  .rename_i g;rw[if_pos g]at h;split
   .rename_i a;rw[if_pos a]at h;exact KR (λv w h1=>Y4 (λs f=>ih _ l d f) h1) h
   rename_i a;rw[if_neg a]at h;split
   .rename_i i;rw[if_pos i]at h;exact h
   rename_i i;rw[if_neg i]at h;exact KR (λv w h1=>⟨h1.1,λj e=>Y4 (λs f=>ih _ l d f) (h1.2 j e)⟩) h
  rename_i g;rw[if_neg g]at h;exact Y4 (λs f=>ih _ l d f) h
theorem wpDr.of_seq(ok:CtxOK P c){b:Bool}{ops:List Oper}{s:St}{Q:Ud}(a:zDJ c ops=true)(d:s.heap.nx<=T.top)(hl:s.heap.low<=T.top)(h:X0 P c b ops ops s Q):wpDr P c b ops s Q:=by
 unfold zDJ at a;split at a
 .rename_i m hm;simp only[oM]at a;obtain⟨h1,f,g⟩:=a;obtain⟨orc,hor,x,i,e,j⟩:=zMO (bs:=zi ops []) (m:=m) ok ops m 0 d hl h1 f g h;exact⟨orc,m,x,i,hor,hm,e,j⟩
 cases a
def thenC(k:St->Prop)(Q:Ud):AX->St->Prop
 | .normal,s=>k s
 | e,s=>Q e s
variable (P c)
def wpC(b:Bool):Code->St->Ud->Prop
 | .skip,s,Q=>Q .normal s
 | .region _ ops a,s,Q =>
  if a=true then (if zDJ c ops.toList=true then (s.heap.nx<=T.top/\s.heap.low<=T.top)/\X0 P c b ops.toList ops.toList s Q else if Jf ops.toList=true then (s.heap.nx<=T.top/\s.heap.low<=T.top)/\wpF P c b ops.toList (zi ops.toList []) (zBo ops.toList) (zBo ops.toList) 0 ops.toList s Q else wpDr P c b ops.toList s Q)
  else X0 P c b ops.toList ops.toList s Q
 | .seq x y,s,Q=>wpC b x s (thenC (λs1=>wpC b y s1 Q) Q)
 | .cond o x y,s,Q=>match zx s.tm o with
  | some v=>wO v λt=>match t with|true=>wpC b x s Q|false=>wpC b y s Q
  | none=>False
 | .block id x,s,Q=>wpC b x s (λe s1=>Q (exitB id e) s1)
 | .loop x,s,Q=>∃I:Nat->Tm->H->Prop,(∃k,I k s.tm s.heap)/\∀k tm h,I k tm h->wpC b x ⟨s.n,tm,s.dfr,h⟩ (thenC (λs1=>s1.n=s.n/\s1.dfr=s.dfr/\∃j,j<k/\I j s1.tm s1.heap) Q)
 | .scope x,s,Q=>wpC b x s Q
 | .label _,s,Q=>Q .normal s
 | .exit id,s,Q=>Q (.exit id) s
 | .ret,s,Q=>Q .ret s
 | .rangeFunc f ps d body,s,Q=>RC P b (.rangeFunc f ps d body) s Q
 | _,_,_=>False
variable {P c}
theorem RC.of_wp(ok:CtxOK P c){b:Bool}:∀(code:Code) {s:St}{Q:Ud},wpC P c b (jd code) s Q->RC P b code s Q:=by
 intro code;induction code with
 | skip=>intro s Q h;exact⟨.normal,s,λ_ _=>SimC.skip s,h⟩
 | region id ops i =>
  intro s Q h;cases i with
  | true =>
   simp only[jd,wpC,if_true]at h;split at h
   .rename_i m;exact RC.of_dr ok (wpDr.of_seq ok m h.1.1 h.1.2 h.2)
   split at h
   .rename_i m;exact RC.of_dr ok (wpDr.of_calls ok m h.1.1 h.1.2 h.2)
   exact RC.of_dr ok h
  | false=>exact RC.region ok (by simpa [jd,wpC]using h)
 | seq x y a d=>intro s Q h;refine RC.seq ((a h).mono λe s1 h1=>?_);cases e<;>first|exact d h1|exact h1
 | cond o x y a d =>
  intro s Q h;simp only[jd,wpC]at h;split at h
  .rename_i v r;obtain⟨t,rfl,g⟩:=zBF h;refine RC.cond r ?_;cases t with
   | true=>exact a g
   | false=>exact d g
  exact h.elim
 | block id x ih=>intro s Q h;exact RC.block (ih h)
 | loop x ih =>
  intro s Q h;obtain⟨I,⟨k,u⟩,w⟩:=h;refine RC.loop (λk s1=>s1.n=s.n/\s1.dfr=s.dfr/\I k s1.tm s1.heap) (λk s1 hi=>?_) k s ⟨rfl,rfl,u⟩;obtain⟨h1,g,z⟩:=hi;have p:=w k s1.tm s1.heap z;have hs:s1=⟨s.n,s1.tm,s.dfr,s1.heap⟩:=by cases s1;simp only at h1 g;subst h1;subst g;rfl
  rw[<-hs]at p;refine(ih p).mono λe F q=>?_
  cases e with
  | normal=>obtain⟨A,B,j,C,D⟩:=q;exact⟨j,C,A,B,D⟩
  | _=>exact q
 | scope x ih=>intro s Q h;obtain⟨e,s1,h1,g⟩:=ih h;exact⟨e,s1,λrd n=>SimC.scope (h1 rd n),g⟩
 | label l=>intro s Q h;exact⟨.normal,s,λ_ _=>SimC.label l s,h⟩
 | exit id=>intro s Q h;exact⟨.exit id,s,λ_ _=>SimC.exit id s,h⟩
 | ret=>intro s Q h;exact⟨.ret,s,λ_ _=>SimC.ret s,h⟩
 | rangeFunc f ps E body=>intro s Q h;exact h
 | _=>intro s Q h;exact h.elim
theorem ZM{b:Bool}:∀(code:Code) {s:St}{Q Q':Ud},(∀x s',Q x s'->Q' x s')->wpC P c b code s Q->wpC P c b code s Q':=by
 intro code;have d:∀{k n:St->Prop}{Q Q':Ud},(∀s,k s->n s)->(∀x s,Q x s->Q' x s)->∀x s,thenC k Q x s->thenC n Q' x s:=by intro k n Q Q' h1 u x s h;cases x<;>first|exact h1 _ h|exact u _ _ h
 induction code with
 | skip=>intro s Q Q' a h;exact a _ _ h
 | region id ops m =>
  intro s Q Q' a h;simp only[wpC]at h ⊢;cases m with
  | true =>
   rw[if_pos rfl]at h ⊢;split
   .rename_i p;rw[if_pos p]at h;exact⟨h.1,zBD _ a h.2⟩
   rename_i p;rw[if_neg p]at h;split
   .rename_i g;rw[if_pos g]at h;exact⟨h.1,zQB _ _ _ a h.2⟩
   rename_i g;rw[if_neg g]at h;exact h.mono a
  | false=>rw[if_neg (by simp)]at h ⊢;exact zBD _ a h
 | seq x y i j=>intro s Q Q' a h;exact i (d (λs hs=>j a hs) a) h
 | cond o x y i j =>
  intro s Q Q' a h;simp only[wpC]at h ⊢;rcases q:zx s.tm o with _|v
  .rw[q]at h;exact h
  rw[q]at h;refine qd (λt r=>?_) h;cases t with
  | true=>exact i a r
  | false=>exact j a r
 | block id x ih=>intro s Q Q' a h;exact ih (λe s1=>a _ _) h
 | loop x ih=>intro s Q Q' a h;obtain⟨I,w,z⟩:=h;exact⟨I,w,λk tm A hi=>ih (d (λ_ h=>h) a) (z k tm A hi)⟩
 | scope x ih=>intro s Q Q' a h;exact ih a h
 | label l=>intro s Q Q' a h;exact a _ _ h
 | exit id=>intro s Q Q' a h;exact a _ _ h
 | ret=>intro s Q Q' a h;exact a _ _ h
 | rangeFunc f ps B body=>intro s Q Q' a h;exact RC.mono h a
 | _=>intro s Q Q' a h;exact h.elim
def zAi(tm a:Tm):Uf->Prop->Prop
 | [],q=>q
 | t::l,q=>zI a t=zI tm t->zAi tm a l q
def zp(a:Uf)(Q:Ud):AX->St->Prop:=λx s=>∀b,zAi s.tm b a (Q x ⟨s.n,b,s.dfr,s.heap⟩)
theorem zC5{tm:Tm}{q:Prop}:∀{l:Uf},zAi tm tm l q->q:=by
 intro l;induction l with
 | nil=>exact λh=>h
 | cons t l ih=>exact λh=>ih (h rfl)
theorem zC6{a:Uf}{Q:Ud}{x:AX}{s:St}(h:zp a Q x s):Q x s:=zC5 (h s.tm)
theorem wpC.slt{b:Bool}{code:Code}{s:St}{Q:Ud}(a:Uf){w:Prop}(e:wpC P c b code s (zp a Q)=w)(h:w):wpC P c b code s Q:=ZM _ (λ_ _=>zC6) (e ▸ h)
theorem N8.set_get{α:Type}(d:D8)(t:N8 α)(f:α->α)(h:f (N8.get d t)=N8.get d t):N8.mod d f t=t:=by obtain⟨a0,a1,a2,a3,a4,a5,a6,a7⟩:=t;cases d<;>simp only[N8.mod,N8.get]at h ⊢<;>rw[h]
theorem xw{tm:Tm}{t:Nat}{v:V}(a:t<511)(h:zI tm t=v):Tb.set tm t v=tm:=by unfold zI Tb.get at h;have hb:Nat.ble t 511=true:=oG;rw[hb,oS]at h;unfold Tb.getF at h;unfold Tb.set;refine N8.set_get _ _ _ (N8.set_get _ _ _ (N8.set_get _ _ _ ?_));exact h.symm
def wpD:List AD->H->(H->Prop)->Prop
 | [],h,k=>k h
 | .coll id::l,h,k=>match h.get id with
  | some (.deferred true)=>wpD l (h.upd id (some (.deferred false))) k
  | _=>False
 | .fn _ _ _::_,_,_=>False
theorem zPz{call:Nat->Ug->H->Option CallOut}:∀{l:List AD}{h:H}{k:H->Prop},wpD l h k->∃h',xi call l h=some h'/\k h':=by
 intro l;induction l with
 | nil=>intro h k a;exact⟨h,rfl,a⟩
 | cons d l ih =>
  intro h k a;cases d with
  | coll id =>
   simp only[wpD]at a;split at a
   .rename_i b;obtain⟨h',h1,c⟩:=ih a;exact⟨h',by simp only[xi,b,h1],c⟩
   exact a.elim
  | fn f cap args=>exact a.elim
variable (c) in
def endW(fi:FI)(Q:Uc):AX->St->Prop
 | .normal,s=>wpD s.dfr s.heap λh'=>match leave c fi.results s.tm h' fi.results []with|some vs=>Q (yP vs) h'|none=>False
 | .ret,s=>wpD s.dfr s.heap λh'=>match leave c fi.results s.tm h' fi.results []with|some vs=>Q (yP vs) h'|none=>False
 | _,_=>False
def xG(fi:FI):FI:=⟨fi.n,fi.results,jd fi.body⟩
theorem RF.enter(ok:CtxOK P c){f:Nat}{fi:FI}{args:Ug}{h:H}{Q:Uc}(b:(c.fn.get f).map xG=some fi)(o:args.length<=fi.n)(p:fi.n<=511)(q:wpC P c false fi.body ⟨fi.n,ze args 0 (Tb.leaf zC),[],h⟩ (endW c fi Q)):RF P c f args h Q:=by
 rcases j:c.fn.get f with _|a
 .rw[j]at b;cases b
 rw[j]at b;simp only[oo,oA]at b;subst b;obtain⟨e,s1,h1,l⟩:=RC.of_wp ok a.body q;obtain⟨ih,hih,d⟩:∃ih,jU P ih/\ih false a.body ⟨a.n,ze args 0 (Tb.leaf zC),[],h⟩=some (.done e s1) :=
  ⟨ih1 false a.body ⟨a.n,ze args 0 (Tb.leaf zC),[],h⟩ e s1,Ox h1,Ov _ _ _ _ _⟩
 have g:ka ih a args h=some (.done e s1):=by
  unfold ka;have r:Nat.ble (wM args 0) a.n=true:=by rw[zFE];exact oG o
  have s:Nat.ble a.n 511=true:=oG p;rw[r,s];exact d
 have fin:∀(m:wpD s1.dfr s1.heap λh'=>match leave c a.results s1.tm h' a.results []with|some vs=>Q (yP vs) h'|none=>False) (n:e = .normal\/e = .ret),RF P c f args h Q:=by
  intro m n;obtain⟨h',t,k⟩:=zPz (call:=Zl c ih) m;rcases hl:leave c a.results s1.tm h' a.results [] with _|vs
  .rw[hl]at k;exact k.elim
  rw[hl]at k;refine⟨yP vs,h',⟨⟨a,j⟩,?_⟩,k⟩;refine Zm ok hih ?_;have i:zEh c ih a s1=some (.ret (yP vs) h'):=by unfold zEh;rw[t];show(match leave c a.results s1.tm h' a.results []with|some vs=>some (CallOut.ret (yP vs) h')|none=>none)=_;rw[hl]
  unfold zBk;rw[j];simp only[g];rcases n with rfl|rfl<;>exact i
 cases e with
 | normal=>exact fin l (.inl rfl)
 | ret=>exact fin l (.inr rfl)
 | _=>exact l.elim
theorem RF.enterE(ok:CtxOK P c){f:Nat}{fi:FI}{args:Ug}{h:H}{Q:Uc}{w:Prop}(a:(c.fn.get f).map xG=some fi)(b:args.length<=fi.n)(d:fi.n<=511)(e:wpC P c false fi.body ⟨fi.n,ze args 0 (Tb.leaf zC),[],h⟩ (endW c fi Q)=w)(g:w):RF P c f args h Q:=RF.enter ok a b d (e ▸ g)
def t(n:Nat):Operand:=.tmp n
def ci(n:Nat):Operand:=.const (.int .i64 (.ofNat n))
def cs(l:Ua):Operand:=.const (.string ⟨l.toArray⟩)
abbrev zG(n:Int):Int:=zU .i64 n
def O1(d:Option Nat)(ty:Nat)(op:Op):Oper:=⟨d,op,ty, "",#[],none⟩
def O2(d:Option Nat)(ty:Nat)(op:Op)(g:Nat×Bool):Oper:=⟨d,op,ty, "",#[],some g⟩
end
end Go.Sim
