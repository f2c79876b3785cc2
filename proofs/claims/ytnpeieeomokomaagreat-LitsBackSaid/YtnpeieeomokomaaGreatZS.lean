/- S. No condition. -/
import Derived.Test.YtnpeieeomokomaaGreatZO
import Derived.ProofKit
noncomputable section
namespace Go.Sim
section
variable {P:Program}{c:Ctx}{orc:Nat->Ug->H->Option (V×H)}
def Claim(P:Program)(rd:Option Nat)(code:Code)(s:St)(x:AX)(s':St):Prop :=
 match code with
 | .loop b=>SimL P rd b s x s'
 | code=>SimC P rd code s x s'
theorem Claim.sim{rd:Option Nat}{code:Code}{s s':St}{x:AX}(h:Claim P rd code s x s'):SimC P rd code s x s':=by cases code<;>first|exact h|exact SimL.loop h
def IH2(P:Program)(ih:Ue):Prop:=∀rd code s x a,ih (Option.isSome rd) code s=some (.done x a)->Claim P rd code s x a
theorem IH2.ok{ih:Ue}(h:IH2 P ih):jr P ih:=λrd code s x a e=>(h rd code s x a e).sim
theorem Gh(ok:CtxOK P c)(hor:jK P c orc){ih:Ue}(hih:jr P ih){id:Nat}{ops:Array Oper}{rd:Option Nat}{s s':St}{x:AX}(e:Zp c orc rd.isSome ih ops.toList ops.toList s=some (.done x s')):SimC P rd (.region id ops false) s x s':=by intro ρ D w a k hl;refine wpIn_region (Sv ok hor hih _ _ (vH ops) e k.hr.lt hl (Mv.refl _ _ _ _) (by grind[zd]))
theorem gD(ok:CtxOK P c)(hor:jK P c orc){ih:Ue}(hih:jr P ih){id:Nat}{ops:Array Oper}{rd:Option Nat}{s s':St}{x:AX}{m:Nat}(hm:j8 ops.toList=some m)(e:kO c orc rd.isSome ih ops.toList (yE ops.toList []) m m 0 ops.toList s=some (.done x s')):SimC P rd (.region id ops true) s x s' :=
 VP ok hor hih hm e
theorem Rb{F:Fence}{n:Nat}{Q:Exit->Act->World->Prop}{a:Act}{w:World}{x:Code}(h:x.wpIn F n P (λe a w=>(∀l,e≠.goto l)/\Q e a w) a w):(Code.scope x).wpIn F n P Q a w:=by
 intro b k cs m hb hr;have f:(lone (b.atR a (.code (.scope x)::k)) cs w).fenced P F:=fenced_calm hb hr rfl;have g:step P (lone (b.atR a (.code (.scope x)::k)) cs w) = .next (lone (b.atR a (.code x :: .inScope x::k)) cs w):=step_lone_go (by simp[stepG,stepG.exec,Frame.atR]);have s1:∀a w,step P (lone (b.atR a (.inScope x::k)) cs w) = .next (lone (b.atR a k) cs w):=λa w=>step_lone_go (by simp[stepG,stepG.exec,Frame.atR])
 obtain⟨e,a1,i,⟨u,j⟩,d⟩:=h b (.inScope x::k) cs m hb hr;have v:∀id,exitTo id (.inScope x::k)=exitTo id k:=λid=>by simp[exitTo]
 cases e with
 | normal=>exact⟨.normal,a1,i,j,.head f g (StepsIn.trans d (.one (fenced_calm hb hr rfl) (s1 _ _)))⟩
 | exit id=>exact⟨.exit id,a1,i,j,λp q=>.head f g (d.1 p (by grind)),λo q=>let ⟨r,s,t⟩:=d.2 o (by grind);⟨r,s,.head f g t⟩⟩
 | goto l=>grind
 | ret=>exact⟨_,a1,i,j,.of_steps (.one f g) d⟩
 | panic y=>exact⟨_,a1,i,j,.of_steps (.one f g) d⟩
 | outgrown=>exact⟨_,a1,i,j,.of_steps (.one f g) d⟩
theorem SimC.scope{rd:Option Nat}{x:Code}{s s1:St}{e:AX}(h:SimC P rd x s e s1):SimC P rd (.scope x) s e s1:=by intro ρ D w a k hl;refine Rb (wpIn_mono (h ρ D w a k hl) ?_);rintro j a1 m ⟨b,d,f,rfl,g⟩;exact⟨λl i=>by cases e<;>simp[AX.toExit]at i,b,d,f,rfl,g⟩
theorem SimC.label{rd:Option Nat}(l:Nat)(s:St):SimC P rd (.label l) s .normal s:=λ_ _ _ _ k _=>wpIn_label (Ends.refl k (λ_ h=>by cases h))
theorem Wz(ok:CtxOK P c)(hor:jK P c orc){ih:Ue}(h2:IH2 P ih):IH2 P (λrd code s=>ZS c orc ih rd code s):=by
 intro rd code s x d e;have hih:=h2.ok;cases code with
 | skip=>simp only[ZS,oA,Out.done.injEq]at e;obtain⟨rfl,rfl⟩:=e;exact SimC.skip s
 | region id ops draw =>
  show SimC P rd (.region id ops draw) s x d;simp only[ZS]at e;cases draw with
  | false =>
   simp only[oO]at e
   grind[Gh]
  | true =>
   simp only[oN]at e
   grind[gD]
 | seq a b =>
  show SimC P rd (.seq a b) s x d;simp only[ZS]at e;split at e
  .rename_i s1 g;exact SimC.seq (hih rd _ _ _ _ g) (hih rd _ _ _ _ e)
  rename_i r hr;refine SimC.seq_out (hih rd _ _ _ _ e) ?_
  simp_all
 | cond o a b =>
  show SimC P rd (.cond o a b) s x d;simp only[ZS]at e;split at e
  .rename_i t j;exact SimC.cond j (hih rd _ _ _ _ e)
  grind
 | block id b =>
  show SimC P rd (.block id b) s x d;simp only[ZS]at e;split at e
  .rename_i i s1 g;have h:=SimC.block (id:=id) (hih rd _ _ _ _ g);by_cases hi:i=id
   .simp_all
   have:Nat.beq i id=false:=by cases hb:Nat.beq i id<;>simp_all
   grind
  rename_i r hr;have h:=SimC.block (id:=id) (hih rd _ _ _ _ e)
  simp_all
 | loop b =>
  show SimL P rd b s x d;simp only[ZS]at e;split at e
  .rename_i s1 g;exact SimL.nx (hih rd _ _ _ _ g) (h2 rd _ _ _ _ e)
  rename_i r hr;refine SimL.last (hih rd _ _ _ _ e) ?_
  simp_all
 | scope b=>simp only[ZS]at e;exact SimC.scope (hih rd _ _ _ _ e)
 | label l=>simp only[ZS,oA,Out.done.injEq]at e;obtain⟨rfl,rfl⟩:=e;exact SimC.label l s
 | exit id=>simp only[ZS,oA,Out.done.injEq]at e;obtain⟨rfl,rfl⟩:=e;exact SimC.exit id s
 | ret=>simp only[ZS,oA,Out.done.injEq]at e;obtain⟨rfl,rfl⟩:=e;exact SimC.ret s
 | rangeFunc f params assign body=>simp only[ZS]at e;exact Kc ok hor hih e
 | _=>grind[ZS]
theorem Hb(ok:CtxOK P c)(hor:jK P c orc):∀n,IH2 P (ev c orc n):=by
 intro n;induction n with
 | zero=>intro rd code s x a e;simp_all[ev]
 | succ n ih=>exact Wz ok hor ih
theorem L7(ok:CtxOK P c)(hor:jK P c orc){n f:Nat}{args:Ug}{h:H}{out:CallOut}(e:run c orc n f args h=some out):SimF P f args h out :=
 ZD ok hor (Hb ok hor n).ok e
end
namespace X
section
variable {α β:Type}
end
theorem zCz(a b:Nat):Nat.ble (Nat.succ a) b=Nat.blt a b:=rfl
section
variable (c:Ctx) (orc:Nat->Ug->H->Option (V×H))
end
end X
namespace Chunk
end Chunk
def ip(n:Nat):V:=.int .i64 (.ofNat n)
def sb(l:Uf):V:=.str (l.map λn=>UInt8.ofNat n)
section
open Go.RowKit Go.ChangeShapes Go.WideShapes Go.ChangeAt
def H0:H:={ tbl:=.leaf,nx:=0,low:=T.top }
def lD:Env:={ blk:=λ_=>0,off:=λ_=>0,cap:=λ_=>0 }
def Yz:Nat->Ug->H->Option (V×H):=λ_ _ _=>none
theorem G9(P:Program)(c:Ctx):jK P c Yz:=λ_ _ _ _ _ e=>nomatch e
theorem nT(ρ:Env)(w:World):HR ρ (λ_=>False) H0 w :=
 ⟨oM _,λ_ h=>h.elim,λ_ _ h=>h.elim,λ_ _ _ _ h=>h.elim⟩
theorem LS{H:Type}{enc:TypeId×Value->H}{P:Program}{f:Func}{s:ChangeSpec}{W W':World}{args:Array Value}{c d:List (DataW H)}{a pa pv:List MemPlace}{e:TypeId}(g:DataW.Whole enc P f.params.toList s.vars false W args.toList c d a)(hb:Below W.heap.size W W')(hr:f.resultTypes = #[e])(i:P.underlying e=some .bool)(j:(s.fn H (c++d)).results=[.lit (.bool true)])(k:DataW.TrodAll enc P W' 0 (λb=>decide (b<W.heap.size)) true f.params.toList args.toList (s.fn H (c++d)).args pa)(l:DataW.TrodVars enc P W' (λb=>decide (b<W.heap.size)) s.vars (s.fn H (c++d)).vars pv):
  s.post enc P f false true false false W args (.bool true) W':=by
 refine⟨c,d,a,[],pa,pv,g,?_,k,l,hb.frame _,λh=>by cases h⟩;rw[j,hr];exact trodAll_mk1 ⟨1,by simp[DataW.trod,Value.cells,i]⟩
end
section
variable (P:Program) (c:Ctx)
def RC(b:Bool)(code:Code)(s:St)(Q:Ud):Prop:=∃x a,(∀rd:Option Nat,rd.isSome=b->SimC P rd code s x a)/\Q x a
def RF(f:Nat)(args:Ug)(h:H)(Q:Uc):Prop:=∃v h',((∃fi,c.fn.get f=some fi)/\SimF P f args h (.ret v h'))/\Q v h'
def RR(l:Nat)(args:Ug)(h:H)(Q:Uc):Prop:=∃v h',Ah P l args h (.ret v h')/\Q v h'
variable {P c}
theorem RC.mono{b:Bool}{code:Code}{s:St}{Q Q':Ud}(h:RC P b code s Q)(a:∀x s',Q x s'->Q' x s'):RC P b code s Q':=by obtain⟨x,s',d,h2⟩:=h;exact⟨x,s',d,a _ _ h2⟩
theorem RF.mono{f:Nat}{args:Ug}{h:H}{Q Q':Uc}(r:RF P c f args h Q)(a:∀v h',Q v h'->Q' v h'):RF P c f args h Q':=by obtain⟨x,b,d,h2⟩:=r;exact⟨x,b,d,a _ _ h2⟩
theorem RR.mono{l:Nat}{args:Ug}{h:H}{Q Q':Uc}(r:RR P l args h Q)(a:∀v h',Q v h'->Q' v h'):RR P l args h Q':=by obtain⟨x,b,d,h2⟩:=r;exact⟨x,b,d,a _ _ h2⟩
def StepW(P:Program)(b:Bool)(o:Oper)(s:St)(x:AX)(s':St):Prop :=
 ∀(rd:Option Nat),rd.isSome=b->∀{ρ:Env}{D:Nat->Prop}{w:World}{a:Act},StR ρ D s a w->∀{next:Act->World->Prop}{Q:Exit->Act->World->Prop},
  (x = .normal->∀ρ' v w',Mv ρ D s.heap w ρ' s'.heap w'->StR ρ' (Dx D s.heap s'.heap) s' v w'->next v w') ->
  (∀v,x = .panic v->∀ρ' w',Mv ρ D s.heap w ρ' s'.heap w'->StR ρ' (Dx D s.heap s'.heap) s' a w'->v.In (Dx D s.heap s'.heap)->Q (.panic [{ v:=v.conc ρ',recovered:=false }]) a w') ->
  o.wpIn (Fx (rd.map ρ.blk)) 0 P a w next Q
theorem StepW.of_step(ok:CtxOK P c){orc:Nat->Ug->H->Option (V×H)}(hor:jK P c orc){ih:Ue}(hih:jr P ih){b:Bool}{o:Oper}{s s':St}{x:AX}(e:yG c orc b ih o s=some (x,s')):StepW P b o s x s':=by intro rd d ρ D w a k next Q f g;subst d;exact jG ok hor hih e k (λh ρ' v w' m _ i=>f h ρ' v w' m i) g
def zJW:Nat->Ug->H->Option (V×H):=λ_ _ _=>none
def aG:Bool->Code->St->Option Out:=λ_ _ _=>none
theorem lm:jK P c zJW:=λ_ _ _ _ _ e=>by cases e
theorem rP:jr P aG:=λ_ _ _ _ _ e=>by cases e
open Classical in
def LF(f:Nat)(args:Ug)(h:H)(v:V)(h':H):Nat->Ug->H->Option (V×H):=λa a2 h2=>if a=f/\a2=args/\h2=h then some (v,h') else none
theorem PC{f:Nat}{args:Ug}{h h':H}{v:V}(a:∃fi,c.fn.get f=some fi)(hs:SimF P f args h (.ret v h')):jK P c (LF f args h v h'):=by
 intro b a2 h2 d h3 e;unfold LF at e
 grind
theorem PB(f:Nat)(args:Ug)(h:H)(v:V)(h':H):LF f args h v h' f args h=some (v,h'):=by unfold LF;grind
open Classical in
def uw(b:Bool)(code:Code)(s:St)(x:AX)(s':St):Bool->Code->St->Option Out:=λa d e=>if a=b/\d=code/\e=s then some (.done x s') else none
theorem sc{b:Bool}{code:Code}{s s':St}{x:AX}(h:∀rd:Option Nat,rd.isSome=b->SimC P rd code s x s'):jr P (uw b code s x s'):=by
 intro rd a d f g e;unfold uw at e
 grind
theorem sZ(b:Bool)(code:Code)(s:St)(x:AX)(s':St):uw b code s x s' b code s=some (.done x s'):=by unfold uw;grind
theorem StepW.call(ok:CtxOK P c){b:Bool}{o:Oper}{s s':St}{f:Nat}{args:Ug}{v:V}{h':H}(d:xS c o (yt s.tm) s.heap=some (.call f args))(a:∃fi,c.fn.get f=some fi)(hs:SimF P f args s.heap (.ret v h'))(hp:wP s o.dst v h'=some s'):StepW P b o s .normal s':=by
 refine StepW.of_step (c:=c) (orc:=LF f args s.heap v h') (ih:=aG) ok (PC a hs) rP ?_
 grind[yG,Zd,PB]
theorem StepW.round(ok:CtxOK P c){b:Bool}{o:Oper}{s s':St}{l:Nat}{args:Ug}{v:V}{h':H}(j:xS c o (yt s.tm) s.heap=some (.round l args))(hs:Ah P l args s.heap (.ret v h'))(hp:wP s o.dst v h'=some s'):StepW P b o s .normal s':=by
 intro rd n ρ D w a k next Q u _;refine⟨λ_ _=>trivial,?_⟩
 have d:=rq (rd:=rd) j;have e:=Kz (P:=P) (a:=a.eval) ok j k.hr (λy _ v f=>je k y v f);rw[show(Fx (rd.map ρ.blk)).round=rd.map ρ.blk from rfl,d (λ_ _ h=>by cases h)];obtain⟨hl,g,hr⟩:=e;obtain⟨fn,tmps,y,z,p,q⟩:=hs ρ D w k.hr hl g;rw[hr,p];refine⟨λh=>by grind[Fx],J8 none _ (RoundIn.mono q ?_)⟩;rintro x w' ⟨ρ',rfl,m,r,f⟩;rw[fC]at hp;have t:=k.step m r;have i:wP { s with heap:=h' } o.dst v ({ s with heap:=h' }:St).heap=some s':=hp;obtain⟨A,B⟩:=StR.put t f i<;>grind
def SimO(P:Program)(b:Bool)(ops:Array Oper)(l:List Oper)(s:St)(x:AX)(s':St):Prop :=
 ∀rd:Option Nat,rd.isSome=b->∀(is:Uf),is.mapM (λi=>ops[i]?)=some l ->
  ∀{ρ0:Env}{D0:Nat->Prop}{d:St}{w0:World}{ρ:Env}{w:World}{a:Act},(∀id,D0 id->id<d.heap.nx)->(∀l,rd=some l->D0 l)->Mv ρ0 D0 d.heap w0 ρ s.heap w->StR ρ (Dx D0 d.heap s.heap) s a w ->
  wpOpsIn (Fx (rd.map ρ0.blk)) 0 P ops (Ends ρ0 D0 d w0 x s') is a w
theorem SimO.nil{b:Bool}{ops:Array Oper}{s:St}:SimO P b ops [] s .normal s:=by
 intro rd _ is d ρ0 D0 f w0 ρ w a e hl m k;rcases is with _|⟨i,is⟩
 .exact⟨ρ,m,k,rfl,trivial⟩
 grind[Option.bind_eq_some_iff]
theorem SimO.step{b:Bool}{ops:Array Oper}{o:Oper}{l:List Oper}{s s1 s':St}{x:AX}(hw:yO ops.toList s.tm o=true)(h1:StepW P b o s .normal s1)(h2:SimO P b ops l s1 x s'):SimO P b ops (o::l) s x s':=by
 intro rd d is e ρ0 D0 r w0 ρ w a f hl m k;rcases is with _|⟨i,is⟩
 .grind
 simp only[List.mapM_cons,Option.bind_eq_bind,Option.bind_eq_some_iff]at e;obtain⟨o',p,t,g,h⟩:=e;simp only[Option.pure_def,oA,List.cons.injEq]at h;obtain⟨rfl,rfl⟩:=h;simp only[wpOpsIn,p];rw[jI k,hw,if_pos rfl,<-km m.agree hl];refine h1 rd d k ?_ (λv q=>by cases q);intro _ ρ' a' w' j n;rw[km m.agree hl];rw[wn (D:=D0) m.nx j.nx]at n;exact h2 rd d is g f hl (Mv.trans f m j) n
theorem SimO.off{b:Bool}{ops:Array Oper}{o:Oper}{l:List Oper}{s s1 s':St}{x:AX}(hw:yO ops.toList s.tm o=false)(hp:wP s o.dst zZ s.heap=some s1)(h2:SimO P b ops l s1 x s'):SimO P b ops (o::l) s x s':=by
 intro rd e is d ρ0 D0 q w0 ρ w a f hl m k;rcases is with _|⟨i,is⟩
 .grind
 simp only[List.mapM_cons,Option.bind_eq_bind,Option.bind_eq_some_iff]at d;obtain⟨o',j,r,g,h⟩:=d;simp only[Option.pure_def,oA,List.cons.injEq]at h;obtain⟨rfl,rfl⟩:=h;simp only[wpOpsIn,j];rw[jI k,hw,if_neg (by simp)];obtain⟨n,p⟩:=StR.put k (jH _) hp;rw[wL]at n;exact⟨λ_ _=>trivial,h2 rd e is g f hl (by rw[p];exact m) (by grind)⟩
variable (P c)
mutual
def cO:V->(V->Prop)->Prop
 | .int a _,k=>∃x,k (.int a x)
 | .bool _,k=>∃t,k (.bool t)
 | .str _,k=>∃l,k (.str l)
 | .agg b,k=>cP b λd=>k (.agg d)
 | _,k=>∃v,k v
def cP:Ug->(Ug->Prop)->Prop
 | [],k=>k []
 | z::a,k=>cO z λv=>cP a λb=>k (v::b)
end
mutual
theorem ru:∀(z:V) {k:V->Prop},cO z k->∃v,k v
 | .int _ _,_,⟨_,h⟩ | .bool _,_,⟨_,h⟩ | .str _,_,⟨_,h⟩ | .ptr _ _,_,⟨_,h⟩ | .nilptr,_,⟨_,h⟩ | .slice _ _ _ _,_,⟨_,h⟩ | .tail _ _ _ _,_,⟨_,h⟩ | .nilslice,_,⟨_,h⟩ | .map _,_,⟨_,h⟩ | .nilmap,_,⟨_,h⟩
 | .func _ _ _,_,⟨_,h⟩ | .yield _,_,⟨_,h⟩ | .nilFunc,_,⟨_,h⟩ | .iface _ _,_,⟨_,h⟩ | .nilIface,_,⟨_,h⟩ | .tuple _,_,⟨_,h⟩=>⟨_,h⟩
 | .agg a,_,h=>by obtain⟨b,h⟩:=uB a h;exact⟨_,h⟩
theorem uB:∀(a:Ug) {k:Ug->Prop},cP a k->∃vs,k vs
 | [],_,h=>⟨[],h⟩
 | z::a,_,h=>by obtain⟨v,h⟩:=ru z h;obtain⟨vs,h⟩:=uB a h;exact⟨_,h⟩
end
def RJ(t:TypeId)(k:V->Prop):Prop :=
 match c.ty.get t with
 | some ti=>(match ti.zero with|some z=>cO z k|none=>∃v,k v)
 | none=>∃v,k v
def cN:List TypeId->(Ug->Prop)->Prop
 | [],k=>k []
 | t::a,k=>RJ c t λv=>cN a λb=>k (v::b)
def zJ0:TypeDesc->Option (List TypeId)
 | .tuple a=>some a.toList
 | _=>none
def RP(t:Bool)(k:V->Prop):Prop:=(t=true->k (.bool true))/\(t=false->k (.bool false))
def jd(p:Prop)(k:V->Prop):Prop:=(p->k (.bool true))/\(¬p->k (.bool false))
def PK:V->(V->Prop)->(V->Prop)->Prop
 | .bool _,e,k=>∃t,e (.bool t)/\RP t k
 | z,e,k=>cO z λv=>e v/\k v
def cM(t:TypeId)(e k:V->Prop):Prop :=
 match c.ty.get t with
 | some ti=>(match zJ0 ti.desc with
  | some b=>cN c b λa=>e (.tuple a)/\k (.tuple a)
  | none=>(match ti.zero with|some z=>PK z e k|none=>∃v,e v/\k v))
 | none=>∃v,e v/\k v
def Ja(t:TypeId)(r:Ui)(k:V->Prop):Prop:=cM c t (λv=>r=some v) k
def Iw(t:TypeId):Bool:=match c.ty.get t with|some ti=>(match ti.zero with|some (.bool _)=>true|_=>false)|none=>false
def RS:V->(V->Prop)->Prop
 | .bool t,k=>RP t k
 | v,k=>k v
def JK(op:BinOp)(t:TypeId)(x y:Operand)(f:TypeId):V->V->(V->Prop)->Prop
 | .int d m,.int e n,k =>
  if KU op=true\/jy d e=true then
   (match op with
   | .add=>k (.int d (yD d (m+n)))
   | .sub=>k (.int d (yD d (m-n)))
   | .mul=>k (.int d (yD d (m*n)))
   | .eql=>jd (m=n) k
   | .neq=>jd (m≠n) k
   | .lss=>jd (m<n) k
   | .leq=>jd (m<=n) k
   | .gtr=>jd (n<m) k
   | .geq=>jd (n<=m) k
   | .quo=>n≠0/\k (.int d (yD d (m.tdiv n)))
   | .rem=>n≠0/\k (.int d (m.tmod n))
   | op=>∃r,wI op d m n=some (.int d r)/\k (.int d r))
  else False
 | .str l,.str m,k =>
  (match op with
  | .eql=>jd (l=m) k
  | .neq=>jd (l≠m) k
  | .add=>l.length+m.length<=4611686018427387904/\k (.str (l++m))
  | _=>Ja c f (Yf c op t x y (.str l) (.str m)) k)
 | a,b,k=>Ja c f (Yf c op t x y a b) k
def zBf(op:UnOp):V->(V->Prop)->Prop
 | .bool b,k=>(match op with | .not=>k (.bool (!b))|_=>False)
 | .int a n,k=>(match op with | .neg=>k (.int a (yD a (0-n)))|op=>∃r,aun op (.int a n)=some (.int a r)/\k (.int a r))
 | _,_=>False
def Sc:TypeDesc->Option IntKind
 | .int a=>some a
 | _=>none
def zB7(t:TypeId):Bool:=match c.ty.get t with|some ti=>(match ti.desc with | .string=>true|_=>false)|none=>false
def rz(s d:TypeId)(h:H)(v:V)(k:Uc):Prop :=
 match v with
 | .int _ n=>(match c.ty.get s,c.ty.get d with
  | some b,some e=>(match Sc b.desc,Sc e.desc with|some _,some a=>k (.int a (yD a n)) h|_,_=>False)
  | _,_=>False)
 | v=>(match zB7 c d with
  | true=>∃l h',wZ c s d h v=some (.str l,h')/\k (.str l) h'
  | false=>∃u h',wZ c s d h v=some (u,h')/\k u h')
def EK(t:TypeId)(f:Nat)(h:H):V->Uc->Prop
 | .ptr b o,k=>(match c.ty.get t with
  | some ti=>(match ti.desc with
   | .struct d=>(match d[f]? with
    | some a=>(match c.ty.get a.type with|some e=>if 0<e.size then k (.ptr b (o+a.offset)) h else False|none=>False)
    | none=>False)
   | _=>False)
  | none=>False)
 | _,_=>False
def A6(i:Nat)(a:TypeId):V->(V->Prop)->Prop
 | .tuple l,k=>(match l[i]? with|some u=>(match Iw c a with|true=>RS u k|false=>k u)|none=>False)
 | _,_=>False
def AH(t:Bool)(k:Bool->Prop):Prop:=match t with|true=>k true|false=>k false
def cy:V->(Bool->Prop)->Prop
 | .bool t,k=>AH t k
 | _,_=>False
def zGj(r:Option Cs)(k:Cs->Prop):Prop:=match r with|some cs=>k cs|none=>False
def nI(t:TypeId)(h:H)(v:V)(k:Uc):Prop :=
 match c.ty.get t with
 | some ti=>if jx ti.desc=true then zGj (cond (zU v.cells) (Cs.ofL v.cells) none) λcs=>h.nx<T.top/\∀b h',b=h.nx->h'=h.new (.cells cs ⟨0,t+1,0⟩ true false)->k (.ptr b 0) h'
  else v.one=true/\h.nx<T.top/\∀b h',b=h.nx->h'=h.new (.cells (.ls [v]) ⟨0,t+1,0⟩ true false)->k (.ptr b 0) h'
 | none=>False
def XU(a:TypeId)(r:Ui)(k:V->Prop):Prop:=match r with|some u=>(match Iw c a with|true=>RS u k|false=>k u)|none=>False
def nH(mx:Bool):Ug->(V->Prop)->Prop
 | [.int c a,.int _ b],k=>k (.int c (if mx=true then max a b else min a b))
 | v::l,k=>∃u,YQ mx v l=some u/\k u
 | [],_=>False
def zGc:V->(Ua->Prop)->Prop
 | .str l,k=>k l
 | _,_=>False
def EN(t:TypeId)(h:H)(v:V)(k:V->Prop):Prop :=
 match zB7 c t with
 | true=>zGc v λl=>k (.int .i64 (.ofNat l.length))
 | false=>∃x,Yg c t h v=some (.int .i64 x)/\k (.int .i64 x)
def Xr(t:TypeId)(k:Uc)(v:V)(h:H):Prop:=cM c t (λu=>v=u) λu=>k u h
def Xl(b:Builtin)(a:TypeId)(h:H)(k:Uc)(g:Option AN):Ug->List TypeId->Prop
 | [x],[t]=>(match b with
  | .len=>EN c t h x λv=>k v h
  | _=>∃v h',g=some (.val v h')/\Xr c a k v h')
 | [s,x],[t,tx]=>(match b with
  | .append=>True/\∃v h',YE c tx t h s x=some (v,h')/\k v h'
  | .copy=>∃d h',Rr c t h s x=some (.int .i64 d,h')/\k (.int .i64 d) h'
  | .min=>nH false [s,x] λv=>k v h
  | .max=>nH true [s,x] λv=>k v h
  | _=>∃v h',g=some (.val v h')/\Xr c a k v h')
 | l,_=>(match b with
  | .min=>nH false l λv=>k v h
  | .max=>nH true l λv=>k v h
  | _=>∃v h',g=some (.val v h')/\Xr c a k v h')
def zJ1(P:Program)(a:TypeId)(h:H)(k:Uc):Option AN->Prop
 | some (.val v h')=>k v h'
 | some (.call g as)=>RF P c g as h (Xr c a k)
 | _=>False
def bP(P:Program)(a:TypeId)(h:H)(k:Uc)(args:Ug):V->Prop
 | .func (.func g) first captured=>zJ1 c P a h k (JL c h g first args captured)
 | .yield l=>RR P l args h (Xr c a k)
 | _=>False
def uR(P:Program)(cl:Call)(a:TypeId)(e:Uh)(h:H)(k:Uc):Prop :=
 match Xw e cl.args.toList with
 | none=>False
 | some args =>
  match cl.callee with
  | .value f=>(match e f with|some v=>bP c P a h k args v|none=>False)
  | .builtin b=>Xl c b a h k (wo c cl e h) args cl.argTypes.toList
  | .invoke r name=>(match e r with
   | some (.iface t v)=>(match XW c t name with
    | some (f,none)=>RF P c f (v::args) h (Xr c a k)
    | some (f,some el)=>∃u,ye c el h v=some u/\RF P c f (u::args) h (Xr c a k)
    | none=>False)
   | _=>False)
def zAb:TypeDesc->Bool
 | .interface _=>true
 | _=>false
def XT(P:Program)(o:Oper)(e:Uh)(h:H)(k:Uc):Prop :=
 match o.op with
 | .move x=>(match e x with|some v=>k v h|none=>False)
 | .assign x=>(match e x with|some v=>k v h|none=>False)
 | .pick q a b=>(match e q,e a,e b with|some v,some x,some y=>cy v λt=>k (cond t x y) h|_,_,_=>False)
 | .binOp op t x y _=>(match e x,e y with|some a,some b=>JK c op t x y o.type a b λv=>k v h|_,_=>False)
 | .unOp op _ x=>(match e x with|some a=>zBf op a λv=>k v h|none=>False)
 | .convert s d x=>(match e x with|some v=>rz c s d h v k|none=>False)
 | .load t a=>(match e a with|some p=>Ja c t (ye c t h p) λv=>k v h|none=>False)
 | .store t a x=>(match e a,e x with|some p,some v=>∃h',jP c t h p v=some h'/\k zZ h'|_,_=>False)
 | .field t x f=>(match e x with|some v=>XU c o.type (Ec c t v f) λv=>k v h|none=>False)
 | .fieldAddr t x f=>(match e x with|some p=>EK c t f h p k|none=>False)
 | .indexAddr t x j=>(match e x,e j with|some a,some i=>∃pb po,xK c t a i=some (.ptr pb po)/\k (.ptr pb po) h|_,_=>False)
 | .index t x j=>(match e x,e j with|some a,some i=>Ja c o.type (wM c t a i) λv=>k v h|_,_=>False)
 | .extract x i=>(match e x with|some v=>A6 c i o.type v λu=>k u h|none=>False)
 | .alloc t=>(match c.ty.get t with|some ti=>(match ti.zero with|some z=>nI c t h z k|none=>False)|none=>False)
 | .box t x=>(match e x with|some v=>nI c t h v k|none=>False)
 | .makeFunc (.func g) first captured=>(match Xw e first.toList,Xw e captured.toList with|some a,some b=>k (.func (.func g) a b) h|_,_=>False)
 | .call r=>uR c P r o.type e h k
 | .slice t x lo hi w=>(match e x,evO e lo,evO e hi,evO e w with|some v,some a,some b,some m=>Ja c o.type (zw c t h v a b m) λv=>k v h|_,_,_,_=>False)
 | .build t ps=>(match NR e ps.toList with|some l=>XU c t (qe c t l) λv=>k v h|none=>False)
 | .buildSlice t n ps=>(match NR e ps.toList with|some l=>∃v h',zO c t n l h=some (v,h')/\k v h'|none=>False)
 | .makeInterface t x=>(match c.ty.get t,e x with|some ti,some v=>(match zAb ti.desc with|true=>False|false=>k (.iface t v) h)|_,_=>False)
 | .makeSlice t l m=>(match e l,e m with|some a,some b=>∃v h',Z7 c t a b h=some (v,h')/\k v h'|_,_=>False)
 | .lookup t x i ok=>(match e x,e i with|some a,some b=>Ja c o.type (Y1 c t h a b ok) λv=>k v h|_,_=>False)
 | .mapUpdate t m x v=>(match e m,e x,e v with|some a,some b,some d=>∃h',Y8 c t h a b d=some h'/\k zZ h'|_,_,_=>False)
 | _=>∃v h',xS c o e h=some (.val v h')/\k v h'
def Dw:Op->Bool
 | .defer _=>true
 | _=>false
def Qe:Op->Bool
 | .panic _=>true
 | _=>false
variable {P c}
theorem uC{v:V}{k:V->Prop}(h:RS v k):k v:=by
 cases v with
 | bool t =>
  cases t with
  | true=>exact h.1 rfl
  | false=>exact h.2 rfl
 | _=>exact h
theorem Lg{t:TypeId}{k:V->Prop}(h:RJ c t k):∃v,k v:=by
 unfold RJ at h;split at h
 .split at h
  .exact ru _ h
  omega
 omega
theorem RK:∀{a:List TypeId}{k:Ug->Prop},cN c a k->∃vs,k vs:=by
 intro a;induction a with
 | nil=>intro k h;exact⟨[],h⟩
 | cons t a ih=>intro k h;obtain⟨v,h⟩:=Lg h<;>grind
theorem RQ{t:Bool}{k:V->Prop}(h:RP t k):k (.bool t):=by
 cases t with
 | true=>exact h.1 rfl
 | false=>exact h.2 rfl
theorem ww{p:Prop}[Decidable p]{k:V->Prop}(h:jd p k):k (.bool (decide p)):=by
 by_cases hp:p
 .simp only[hp,decide_true];exact h.1 hp
 simp only[hp,decide_false];exact h.2 hp
theorem uA{t:TypeId}{e k:V->Prop}(h:cM c t e k):∃v,e v/\k v:=by
 unfold cM at h;split at h
 .split at h
  .obtain⟨a,h⟩:=RK h<;>grind
  split at h
  .unfold PK at h;split at h
   .grind[RQ]
   exact ru _ h
  omega
 omega
theorem kT{t:TypeId}{r:Ui}{k:V->Prop}(h:Ja c t r k):∃v,r=some v/\k v:=uA h
theorem XI{t:TypeId}{k:Uc}{v:V}{h:H}(r:Xr c t k v h):k v h:=by obtain⟨u,rfl,h2⟩:=uA r<;>grind
def IT(P:Program)(c:Ctx)(h:H)(k:Uc):Option AN->Prop
 | some (.val v h')=>k v h'
 | some (.skip h')=>k zZ h'
 | some (.call f args)=>RF P c f args h k
 | some (.round l args)=>RR P l args h k
 | _=>False
theorem js{h:H}{k:Uc}{r:Ui}(e:∃v,r=some v/\k v h):IT P c h k (AN.ofV r h):=by obtain⟨v,rfl,a⟩:=e;exact a
theorem Jm{h:H}{k:Uc}{r:Option (V×H)}(e:∃v h',r=some (v,h')/\k v h'):IT P c h k (AN.ofVH r):=by obtain⟨v,h',rfl,a⟩:=e;exact a
theorem CU(m n:Int):(!(m == n))=decide (m≠n):=by
 grind
theorem zAN(m n:Int):(m == n)=decide (m=n):=by
 grind
theorem Qm(m n:Int):(!decide (n<m))=decide (m<=n):=by
 grind
theorem IC{op:BinOp}{t g:TypeId}{x y:Operand}{a b:V}{k:V->Prop}(h:JK c op t x y g a b k):∃v,Yf c op t x y a b=some v/\k v:=by
 unfold JK at h;split at h
 .rename_i f m e n;split at h
  .rename_i i;have d:Yf c op t x y (.int f m) (.int e n)=wI op f m n:=by
    grind[Yf]
   rw[d];split at h
   .grind[wI,Rs]
   .grind[wI,bM]
   .grind[wI,Qv]
   .simp_all[wI,qA,zAN,ww]
   .exact⟨_,by simp_all[wI,qA,CU],ww h⟩
   .simp_all[wI,xU,ww]
   .simp_all[wI,xU,Qm,ww]
   .simp_all[wI,xU,ww]
   .simp_all[wI,xU,Qm,ww]
   .refine⟨_,?_,h.2⟩;simp only[wI,qA,QY]
    grind
   .refine⟨_,?_,h.2⟩;simp only[wI,qA,Qu]
    grind
   grind
  grind
 .rename_i l m;have d:Yf c op t x y (.str l) (.str m)=RX op l m:=rfl;split at h
  .refine⟨_,?_,ww h⟩
   grind[RX,JU]
  .refine⟨_,?_,ww h⟩
   grind[RX,JU]
  .simp_all[RX,oE,yl]
  grind[kT]
 grind[kT]
theorem EP{op:UnOp}{a:V}{k:V->Prop}(h:zBf op a k):∃v,aun op a=some v/\k v:=by
 unfold zBf at h;split at h
 .split at h
  .exact⟨_,rfl,h⟩
  grind
 .grind[aun,bM]
 grind
theorem lP{d:TypeDesc}{a:IntKind}(h:Sc d=some a):d = .int a:=by cases d<;>simp only[Sc,oA,reduceCtorEq]at h;rw[h]
theorem Ra{s d:TypeId}{h:H}{v:V}{k:Uc}(w:rz c s d h v k):∃u h',wZ c s d h v=some (u,h')/\k u h':=by
 unfold rz at w;split at w
 .rename_i a n;split at w
  .rename_i f g b h2;split at w
   .rename_i e i h3 h4;refine⟨_,_,?_,w⟩;unfold wZ;rw[b,h2];simp only[lP h3,lP h4]
   grind
  grind
 grind
theorem uV{v:V}{k:Bool->Prop}(h:cy v k):∃t,v = .bool t/\k t:=by
 cases v with
 | bool t =>
  cases t with
  | true=>exact⟨_,rfl,h⟩
  | false=>exact⟨_,rfl,h⟩
 | _=>exact h.elim
theorem fZ{t:TypeId}{h:H}{v:V}{k:Uc}(w:nI c t h v k):∃b,qg h v.cells ⟨0,t+1,0⟩ false=some b/\k (.ptr b.1 0) b.2:=by
 unfold nI at w;split at w
 .split at w
  .unfold zGj at w;split at w
   .rename_i cs a;obtain⟨h2,h3⟩:=w;refine⟨(h.nx,h.new (.cells cs ⟨0,t+1,0⟩ true false)),?_,h3 _ _ rfl rfl⟩;unfold qg kJ;rcases d:zU v.cells with _|_
    .grind
    rw[d,oN]at a;rw[oN,(zW _ _).2 h2,oN,a]
   grind
  obtain⟨a,h2,h3⟩:=w;refine⟨(h.nx,h.new (.cells (.ls [v]) ⟨0,t+1,0⟩ true false)),?_,h3 _ _ rfl rfl⟩;have e:v.cells=[v]:=by cases v<;>first|rfl|cases a
  have d:zU v.cells=true:=by grind[zU]
  unfold qg kJ;rw[d,oN,(zW _ _).2 h2,oN,e];rfl
 grind
theorem f9{a:TypeId}{r:Ui}{k:V->Prop}(h:XU c a r k):∃v,r=some v/\k v:=by
 unfold XU at h;split at h
 .rename_i u;split at h
  .exact⟨u,rfl,uC h⟩
  grind
 grind
theorem IF{mx:Bool}{l:Ug}{k:V->Prop}(h:nH mx l k):∃v l' u,l=v::l'/\YQ mx v l'=some u/\k u:=by
 unfold nH at h;split at h
 .rename_i d a c b;refine⟨_,_,_,rfl,?_,h⟩;simp only[YQ,xU]
  grind
 .grind
 grind
theorem IE{t:TypeId}{h:H}{v:V}{k:V->Prop}(w:EN c t h v k):∃u,Yg c t h v=some u/\k u:=by
 unfold EN at w;split at w
 .rename_i hs;unfold zGc at w;split at w
  .rename_i l;unfold zB7 at hs;split at hs
   .rename_i ti a;split at hs<;>simp_all[yl,Yg]
   grind
  grind
 grind
theorem tJ{b:Builtin}{cl:Call}{a:TypeId}{e:Uh}{h:H}{k:Uc}{args:Ug}(f:cl.callee = .builtin b)(i:Xw e cl.args.toList=some args)(w:Xl c b a h k (wo c cl e h) args cl.argTypes.toList):IT P c h k (wo c cl e h):=by
 have j:∀(g:Option AN),(∃v h',g=some (.val v h')/\Xr c a k v h')->IT P c h k g:=by rintro g ⟨v,h',rfl,d⟩;exact XI d
 generalize hl:cl.argTypes.toList=ts at w;unfold Xl at w
 grind[IE,wo,js,Jm,IF]
theorem R9{cl:Call}{m:TypeId}{e:Uh}{h:H}{k:Uc}(w:uR c P cl m e h k):IT P c h k (wo c cl e h):=by
 unfold uR at w;rcases n:Xw e cl.args.toList with _|args
 .grind
 rw[n]at w;cases d:cl.callee with
 | value f =>
  simp only[d]at w;have i:wo c cl e h=(match e f with|some (.func (.func g) first captured)=>JL c h g first args captured|some (.yield l)=>some (.round l args)|_=>none):=by
   grind[wo]
  rw[i];rcases o:e f with _|v
  .grind
  rw[o]at w;have w:bP c P m h k args v:=w;unfold bP at w;split at w
  .rename_i g first captured _
   show IT P c h k (JL c h g first args captured);generalize JL c h g first args captured=r at w
   rcases r with _|p
   .exact w.elim
   cases p<;>first|exact w|exact w.elim|exact RF.mono w λ_ _ a=>XI a
  .exact RR.mono w λ_ _ a=>XI a
  grind
 | builtin b =>
  grind[tJ]
 | invoke r name =>
  simp only[d]at w;unfold wo;rw[n];simp only[d];rcases hr:e r with _|x
  .grind
  rw[hr]at w;cases x<;>first|exact w.elim|skip
  simp only at w ⊢;split at w
  .rename_i j;rw[j];exact RF.mono w λ_ _ a=>XI a
  .rename_i j;obtain⟨u,q,w⟩:=w;rw[j];simp only[q];exact RF.mono w λ_ _ a=>XI a
  grind
theorem EM{t:TypeId}{f:Nat}{o:Oper}{e:Uh}{x:Operand}{h:H}{p:V}{k:Uc}(i:o.op = .fieldAddr t x f)(j:e x=some p)(w:EK c t f h p k):IT P c h k (xS c o e h):=by
 unfold xS;rw[i];simp only[j];unfold EK at w;split at w
 .rename_i b off;split at w
  .rename_i ti a;rw[a];split at w
   .rename_i l hd;simp only[hd];split at w
    .rename_i m d;simp only[d];split at w
     .rename_i n g;split at w
      .rename_i hs;unfold afa;rw[g];simp only[(zW _ _).2 hs,oN];exact w
      grind
     grind
    grind
   grind
  grind
 grind
theorem Zz{o:Oper}{e:Uh}{h:H}{k:Uc}(w:XT c P o e h k):IT P c h k (xS c o e h):=by
 have gen:(∃v h',xS c o e h=some (.val v h')/\k v h')->IT P c h k (xS c o e h):=by rintro⟨v,h',j,h2⟩;rw[j];exact h2
 unfold XT at w;cases g:o.op<;>simp only[g]at w<;>first|exact gen w|skip
 case move x =>
  unfold xS;rw[g];simp only;rcases q:e x with _|v
  .grind
  rw[q]at w;exact w
 case assign x =>
  unfold xS;rw[g];simp only;rcases q:e x with _|v
  .grind
  rw[q]at w;exact w
 case pick cc a b =>
  unfold xS;rw[g];simp only;rcases B:e cc with _|v
  .grind
  rcases q:e a with _|x
  .grind
  rcases C:e b with _|y
  .grind
  rw[B,q,C]at w;obtain⟨t,rfl,h2⟩:=uV w
  grind[js]
 case alloc t =>
  grind[xS,fZ]
 case box t x =>
  grind[xS,fZ]
 case build t ps =>
  grind[xS,js,f9]
 case buildSlice t n ps =>
  grind[xS,Jm]
 case makeInterface t x =>
  unfold xS;rw[g];simp only;split at w
  .rename_i ti v j h2;split at w
   .grind
   rename_i hd;rw[j,h2];simp only;cases r:ti.desc<;>rw[r]at hd<;>first|(cases hd;done)|exact w
  grind
 case makeSlice t l m =>
  grind[xS,Jm]
 case load t a =>
  grind[xS,js,kT]
 case store t a x =>
  unfold xS;rw[g];simp only;split at w
  .rename_i p v hp z;obtain⟨h',j,h2⟩:=w;rw[hp,z];simp only[j];exact h2
  grind
 case binOp op t x y t2 =>
  grind[xS,js,IC]
 case unOp op t x =>
  grind[xS,js,EP]
 case convert s d x =>
  unfold xS;rw[g];simp only;split at w
  .rename_i a A;rw[A];exact Jm (Ra w)
  grind
 case makeFunc f first captured =>
  grind[xS]
 case slice t x lo hi mx =>
  grind[xS,js,kT]
 case fieldAddr t x f =>
  grind[EM]
 case field t x f =>
  grind[xS,js,f9]
 case indexAddr t x ix =>
  grind[xS,js]
 case index t x ix =>
  grind[xS,js,kT]
 case lookup t x i ok =>
  grind[xS,js,kT]
 case mapUpdate t m x v =>
  unfold xS;rw[g];simp only;split at w
  .rename_i a b d A hb hd;obtain⟨h',j,h2⟩:=w;rw[A,hb,hd];simp only[j];exact h2
  grind
 case extract x i =>
  unfold xS;rw[g];simp only;split at w
  .rename_i v z;rw[z];unfold A6 at w;split at w
   .rename_i l;simp only;split at w
    .rename_i u D;rw[D];split at w
     .exact uC w
     exact w
    grind
   grind
  grind
 case call cl =>
  have:xS c o e h=wo c cl e h:=by grind[xS]
  rw[this];exact R9 w
def fK(o:Oper):Oper:={ dst:=o.dst,op:=o.op,type:=o.type,pos := "",after:=#[],guard:=o.guard }
def JG(l:List Oper):List Oper:=List.rec (motive:=λ_=>List Oper) [] (λo _ ih=>fK o::ih) l
def jm(x:Code):Code:=Code.rec (motive:=λ_=>Code) .skip (λid ops d=>match d with|false=>.region id ⟨JG ops.toList⟩ false|true=>.region id ops true) (λ_ _ a b=>.seq a b) (λo _ _ a b=>.cond o a b) (λid _ a=>.block id a) (λ_ a=>.loop a) (λf ps c body _ _=>.rangeFunc f ps c body) (λid=>.exit id) (λ_ a=>.scope a) (λk=>.label k) (λk=>.goto k) .ret (λs=>.refuse s) x
theorem Ws:∀l,JG l=l.map fK
 | []=>rfl
 | o::l=>congrArg (fK o :: ·) (Ws l)
theorem aW(o:Oper)(e:Uh)(h:H):xS c (fK o) e h=xS c o e h:=rfl
theorem T5(ops:List Oper)(tm:Tm)(o:Oper):yO (JG ops) tm (fK o)=yO ops tm o:=by
 rw[Ws];unfold yO;show(match o.guard with|none=>_|some (j,w)=>_)=_;rcases o.guard with _|⟨j,w⟩
 .rfl
 simp only[od];rcases ops[j]? with _|o'
 .rfl
 rfl
theorem RC.seq{b:Bool}{x y:Code}{s:St}{Q:Ud}(h:RC P b x s λe s1=>match e with | .normal=>RC P b y s1 Q|e=>Q e s1):RC P b (.seq x y) s Q:=by
 obtain⟨e,s1,c,h2⟩:=h;cases e with
 | normal=>obtain⟨d,f,h3,h4⟩:=h2;exact⟨d,f,λrd a=>SimC.seq (c rd a) (h3 rd a),h4⟩
 | _=>exact⟨_,s1,λrd a=>SimC.seq_out (c rd a) (by grind),h2⟩
theorem RC.cond{b:Bool}{o:Operand}{x y:Code}{s:St}{Q:Ud}{t:Bool}(c:yt s.tm o=some (.bool t))(h:RC P b (cond t x y) s Q):RC P b (.cond o x y) s Q:=by obtain⟨e,s1,d,h2⟩:=h;exact⟨e,s1,λrd a=>SimC.cond c (d rd a),h2⟩
def exitB(id:Nat):AX->AX
 | .exit i=>if i=id then .normal else .exit i
 | e=>e
theorem RC.block{b:Bool}{id:Nat}{x:Code}{s:St}{Q:Ud}(h:RC P b x s λe s1=>Q (exitB id e) s1):RC P b (.block id x) s Q:=by obtain⟨e,s1,c,h2⟩:=h;refine⟨exitB id e,s1,λrd a=>?_,h2⟩;have:=SimC.block (id:=id) (c rd a);cases e<;>exact this
theorem RC.loop{b:Bool}{x:Code}{Q:Ud}(I:Nat->St->Prop)(d:∀k s,I k s->RC P b x s λe s1=>match e with | .normal=>∃j,j<k/\I j s1|e=>Q e s1):
  ∀k s,I k s->RC P b (.loop x) s Q:=by
 have key:∀k s,I k s->∃e s1,(∀rd:Option Nat,rd.isSome=b->SimL P rd x s e s1)/\Q e s1:=by
  intro k;induction k using Nat.strongRecOn with
  | _ k ih=>intro s hi;obtain⟨e,s1,c,h2⟩:=d k s hi<;>grind[SimL.nx,SimL.last]
 intro k s hi;obtain⟨e,s1,c,h2⟩:=key k s hi;exact⟨e,s1,λrd a=>SimL.loop (c rd a),h2⟩
theorem RC.rangeFunc(ok:CtxOK P c){f:Operand}{params:Array Tmp}{assign body:Code}{s:St}{Q:Ud}{g:Nat}{first captured:Ug}(j:yt s.tm f=some (.func (.func g) first captured))(k:s.heap.nx+1<T.top)(h:RF P c g (first++(.yield (s.heap.nx+1)::captured)) ((s.heap.new (.deferred true)).new (.loop .ready none s.n s.tm params assign body s.heap.nx))
   λ_ h3=>match kl s.heap.nx (s.heap.nx+1) s h3 with|some (.done x s')=>Q x s'|none=>False):RC P false (.rangeFunc f params assign body) s Q:=by
 obtain⟨v,h3,⟨b,hs⟩,a⟩:=h;rcases d:kl s.heap.nx (s.heap.nx+1) s h3 with _|⟨x,s'⟩
 .rw[d]at a;exact a.elim
 rw[d]at a;refine⟨x,s',λrd e=>?_,a⟩;have i:rd=none:=by cases rd with|none=>rfl|some l=>simp at e
 subst i;refine Kc (orc:=LF g (first++(.yield (s.heap.nx+1)::captured)) ((s.heap.new (.deferred true)).new (.loop .ready none s.n s.tm params assign body s.heap.nx)) v h3) (ih:=aG) ok (PC b hs) rP ?_;unfold cH;rw[j];have:(Option.isSome (none:Option Nat) || !(Nat.blt (s.heap.nx+1) T.top))=false:=by rw[(zW _ _).2 k];rfl
 simp only[this,oO];unfold Zd;rw[PB];exact d
theorem RC.draw(ok:CtxOK P c){orc:Nat->Ug->H->Option (V×H)}(hor:jK P c orc){b:Bool}{id:Nat}{ops:Array Oper}{s s':St}{x:AX}{Q:Ud}{m:Nat}(hm:j8 ops.toList=some m)(e:kO c orc b aG ops.toList (yE ops.toList []) m m 0 ops.toList s=some (.done x s'))(d:Q x s'):RC P b (.region id ops true) s Q :=
 ⟨x,s',λrd a=>by subst a;exact gD ok hor rP hm e,d⟩
theorem RR.intro{l:Nat}{args:Ug}{h:H}{Q:Uc}{p:Option Code}{n:Nat}{tm i:Tm}{params:Array Tmp}{assign body:Code}{df:Nat}(hl:l<T.top)(C:h.get l=some (.loop .ready p n tm params assign body df))(hs:xX params.toList args n tm=some i)(G:RC P true assign ⟨n,i,[],h⟩ λe s1=>e = .normal/\∃a n1 b c d f g,s1.heap.get l=some (.loop .ready a n1 b c d f g) /\
   RC P true body ⟨s1.n,s1.tm,s1.dfr,s1.heap.upd l (some (.loop .busy a n1 b c d f g))⟩ λe2 m=>match yZ l e2 m with|some (.ret v h')=>Q v h'|_=>False):RR P l args h Q:=by
 obtain⟨e,s1,I,rfl,a,n1,b,c,d,f,g,y,e2,m,h2,q⟩:=G;rcases hr:yZ l e2 m with _|out
 .rw[hr]at q;exact q.elim
 rw[hr]at q;cases out with
 | panic v h'=>exact q.elim
 | ret v h' =>
  refine⟨v,h',?_,q⟩
  classical
  let j:St:=⟨s1.n,s1.tm,s1.dfr,s1.heap.upd l (some (.loop .busy a n1 b c d f g))⟩
  let k:St:=⟨n,i,[],h⟩
  let ih:Bool->Code->St->Option Out:=λD s t=>match uw true body j e2 m D s t with|some r=>some r|none=>uw true assign k .normal s1 D s t
  have hih:jr P ih:=by
   intro rd s t E s4 x;have J:=sc (P:=P) h2;have z:=sc (P:=P) I;simp only[ih]at x;split at x
   .rename_i r A;exact J rd s t E s4 (by rw[A];exact x)
   exact z rd s t E s4 x
  refine YY (ih:=ih) hih ?_;have u:ih true body j=some (.done e2 m):=by simp only[ih];rw[sZ]
  have w:ih true assign k=some (.done .normal s1)\/(body=assign/\j=k):=by
   by_cases hc:body=assign/\j=k
   .exact .inr hc
   refine .inl ?_;simp only[ih];have:uw true body j e2 m true assign k=none:=by unfold uw;rw[if_neg];rintro⟨_,h3,h4⟩;exact hc ⟨h3.symm,h4.symm⟩
   rw[this];exact sZ _ _ _ _ _
  have o:ih true body j=some (.done e2 m):=u;unfold roundF;rw[C];simp only[hs];rcases w with z|⟨K,B⟩
  .rw[show(⟨n,i,[],h⟩:St)=k from rfl,z];simp only;unfold rm;rw[y];simp only;rw[show(⟨s1.n,s1.tm,s1.dfr,s1.heap.upd l (some (.loop .busy a n1 b c d f g))⟩:St)=j from rfl,o];exact hr
  exfalso;have L:j.heap=k.heap:=by rw[B]
  have F:(s1.heap.upd l (some (.loop .busy a n1 b c d f g))).get l=h.get l:=by show j.heap.get l=k.heap.get l;rw[L]
  rw[H.get_upd _ _ _ _ hl,if_pos rfl,C]at F;simp at F
def z8(h:H):H:=⟨h.tbl,h.nx,T.top⟩
variable (c) in
def bH(o:Oper):Bool :=
 match o.op with
 | .move _ | .assign _ | .pick .. | .binOp .. | .unOp .. | .load .. | .field .. | .fieldAddr .. | .index .. | .indexAddr .. | .extract .. | .makeFunc .. | .slice .. | .build .. | .alloc _ | .box .. | .buildSlice .. | .makeSlice .. | .makeInterface .. | .nilCheck _=>true
 | .convert _ d _=>(match c.ty.get d with|some a=>(match Sc a.desc with|some _=>true|none=>false)|none=>false)
 | .call b=>(match b.callee with | .builtin .len=>true | .builtin .min=>true | .builtin .max=>true|_=>false)
 | _=>false
theorem Ei(t:TypeId)(h:H)(v:V):ye c t (z8 h) v=ye c t h v:=by cases v<;>rfl
theorem SF(t:TypeId)(h:H)(x:V)(a b d:Ui):zw c t (z8 h) x a b d=zw c t h x a b d:=rfl
theorem WH{h h':H}{r:Option Cs}{k:Rk}{op:Bool}{b:Nat}(e:kJ h r k op=some (b,h')):kJ (z8 h) r k op=some (b,z8 h')/\h'.low=h.low/\h'.nx<=T.top:=by
 unfold kJ at e ⊢;rcases hb:Nat.blt h.nx T.top with _|_
 .grind
 rw[hb,oN]at e;show cond (Nat.blt h.nx T.top) _ none=_/\_;rw[hb,oN];rcases r with _|cs
 .cases e
 simp only[oA,oB]at e;obtain⟨rfl,rfl⟩:=e;exact⟨rfl,rfl,(zW _ _).1 hb⟩
theorem be{h h':H}{l:Ug}{k:Rk}{op:Bool}{b:Nat}(e:qg h l k op=some (b,h')):qg (z8 h) l k op=some (b,z8 h')/\h'.low=h.low/\h'.nx<=T.top:=by
 unfold qg at e ⊢;rcases a:zU l with _|_
 .grind
 rw[a,oN]at e;rw[oN];exact WH e
theorem bm{t:TypeId}{n:Nat}{ps:List (Nat×V)}{h h':H}{v:V}(e:zO c t n ps h=some (v,h')):zO c t n ps (z8 h)=some (v,z8 h')/\h'.low=h.low/\h'.nx<=T.top:=by
 unfold zO at e ⊢;split at e
 .rename_i ti f;split at e
  .rename_i el hd;split at e
   .rename_i a g;split at e
    .rename_i z j;rcases d:Nat.ble (n*a.size) 1048576 with _|_
     .grind
     rw[d,oN]at e;rw[oN];rcases h2:we z.cells a.size with _|_
     .grind
     rw[h2,oN]at e;rw[oN];split at e
     .rename_i r hr;split at e
      .rename_i b d i;simp only[oA,oB]at e;obtain⟨rfl,rfl⟩:=e;obtain⟨k,l,m⟩:=be i<;>grind
      grind
     grind
    grind
   grind
  grind
 grind
theorem G0{t:TypeId}{a b:V}{h h':H}{v:V}(e:Z7 c t a b h=some (v,h')):Z7 c t a b (z8 h)=some (v,z8 h')/\h'.low=h.low/\h'.nx<=T.top:=by
 unfold Z7 at e ⊢;split at e
 .split at e
  .rename_i l k hl m;split at e
   .rename_i ti f;split at e
    .rename_i el hd;split at e
     .rename_i d i;split at e
      .rename_i z n;generalize hg:(Nat.ble l k && Nat.ble k 4294967296 && Nat.ble (d.bytes*k) 1099511627776 && we z.cells d.size)=g at e ⊢;rcases g with _|_
       .cases e
       rw[oN]at e ⊢;split at e
       .rename_i b o j;simp only[oA,oB]at e;obtain⟨rfl,rfl⟩:=e;obtain⟨p,q,r⟩:=WH j<;>grind
       grind
      grind
     grind
    grind
   grind
  grind
 grind
theorem En{o:Oper}{e:Uh}{h:H}{k:AN}(hp:bH c o=true)(G:h.nx<=T.top)(g:xS c o e h=some k):
  ∃v h2,k = .val v h2/\xS c o e (z8 h)=some (.val v (z8 h2))/\h2.low=h.low/\h2.nx<=T.top:=by
 have ofV:∀{r:Ui}{k:AN},AN.ofV r h=some k->∃v h2,k = .val v h2/\AN.ofV r (z8 h)=some (.val v (z8 h2))/\h2.low=h.low/\h2.nx<=T.top:=by
  intro r k e;rcases r with _|v
  .cases e
  simp only[AN.ofV,oA]at e;exact⟨v,h,e.symm,rfl,rfl,G⟩
 have ofVH:∀{r q:Option (V×H)}{k:AN},AN.ofVH r=some k->(∀v h2,r=some (v,h2)->q=some (v,z8 h2)/\h2.low=h.low/\h2.nx<=T.top)->∃v h2,k = .val v h2/\AN.ofVH q=some (.val v (z8 h2))/\h2.low=h.low/\h2.nx<=T.top:=by
  intro r q k e hr;rcases r with _|⟨v,h2⟩
  .cases e
  simp only[AN.ofVH,oA]at e;obtain⟨w,A,B⟩:=hr v h2 rfl;exact⟨v,h2,e.symm,by rw[w];rfl,A,B⟩
 unfold bH at hp;unfold xS at g ⊢;cases I:o.op<;>simp only[I]at hp g ⊢<;>first|(cases hp;done)|skip
 case nilCheck x =>
  grind
 case move x=>grind
 case assign x=>grind
 case pick x a b =>
  grind
 case alloc t =>
  rcases j:c.ty.get t with _|ti
  .grind
  simp only[j]at g ⊢;rcases p:ti.zero with _|z
  .grind
  simp only[p]at g ⊢;split at g
  .rename_i b h' l;simp only[oA]at g;obtain⟨w,A,B⟩:=be l<;>grind
  grind
 case box t x =>
  rcases j:e x with _|v
  .grind
  simp only[j]at g ⊢;split at g
  .rename_i b h' l;simp only[oA]at g;obtain⟨w,A,B⟩:=be l<;>grind
  grind
 case build t ps =>
  grind
 case buildSlice t n ps =>
  rcases j:NR e ps.toList with _|v
  .grind
  simp only[j]at g ⊢;exact ofVH g λv h2 e=>bm e
 case makeSlice t a b =>
  rcases j:e a with _|v
  .grind
  rcases p:e b with _|u
  .grind
  simp only[j,p]at g ⊢;exact ofVH g λv h2 e=>G0 e
 case makeInterface t x =>
  grind
 case load t a =>
  grind[Ei]
 case binOp op t x y t2 =>
  grind
 case unOp op t x =>
  grind
 case field t x f =>
  grind
 case fieldAddr t x f =>
  rcases j:c.ty.get t with _|ti
  .grind
  rcases p:e x with _|v
  .grind
  cases v<;>simp only[j,p]at g ⊢<;>first|(cases g;done)|skip
  cases hd:ti.desc<;>simp only[hd]at g ⊢<;>first|(cases g;done)|skip
  rename_i J;rcases K:J[f]? with _|L
  .grind
  grind[afa]
 case indexAddr t x y =>
  grind
 case index t x y =>
  grind
 case extract x i =>
  grind
 case makeFunc f first captured =>
  grind
 case slice t x lo hi mx =>
  rcases j:e x with _|v0
  .grind
  rcases p:Sim.evO e lo with _|v1
  .grind
  rcases h2:Sim.evO e hi with _|M
  .grind
  grind[SF]
 case convert s d x =>
  rcases j:e x with _|v
  .grind
  simp only[j]at g ⊢;split at hp
  .rename_i N C;split at hp
   .rename_i O m;have m:=lP m;refine ofVH g λu h2 e=>?_
    have F:∀h3:H,wZ c s d h3 v=(match wZ c s d h v with|some (u,_)=>some (u,h3)|none=>none)/\∀u h4,wZ c s d h v=some (u,h4)->h4=h:=by
     intro h3;unfold wZ;rcases c.ty.get s with _|D
     .grind
     rw[C];dsimp only;rw[m];cases D.desc<;>cases v<;>exact⟨rfl,λ_ _ e=>by grind⟩
    grind
   grind
  grind
 case call cl =>
  split at hp
  .rename_i E;unfold wo at g ⊢;rcases hl:Xw e cl.args.toList with _|args
   .grind
   simp only[hl,E]at g ⊢;generalize cl.argTypes.toList=D at g ⊢
   match args,D,g with
   | [x],[t],g=>exact ofV g
   | [],_,g|_::_::_,_,g | [_],[],g | [_],_::_::_,g=>cases g
  .rename_i E;unfold wo at g ⊢;cases hl:Xw e cl.args.toList<;>grind
  .rename_i E;unfold wo at g ⊢;cases hl:Xw e cl.args.toList<;>grind
  grind
theorem cK:∀l:List AD,ZR l l=true:=by
 intro l;induction l with
 | nil=>rfl
 | cons a l ih=>exact ih
def wW(h h':H):H:=⟨h'.tbl,h'.nx,cond (Nat.ble h.low h'.low) h.low h'.low⟩
def lowOk(ops:List Oper)(bs:Uf)(m k:Nat)(h h':H):Prop:=match Jd ops bs m k with|true=>h'.nx<=T.top|false=>h.nx<=h'.low/\h'.nx<=T.top
theorem lowOk.nx{ops:List Oper}{bs:Uf}{m k:Nat}{h h':H}(e:lowOk ops bs m k h h'):h'.nx<=T.top:=by
 grind[lowOk]
theorem lowOk.ok{ops:List Oper}{bs:Uf}{m k:Nat}{h h':H}{tm:Tm}{o:Oper}(e:lowOk ops bs m k h h'):(Nat.ble h.nx h'.low || kD ops bs m k tm o)=true:=by unfold lowOk at e;unfold kD;split at e<;>simp_all
def thenC(k:St->Prop)(Q:Ud):AX->St->Prop
 | .normal,s=>k s
 | e,s=>Q e s
def wpC(P:Program)(c:Ctx)(b:Bool)(code:Code)(s:St)(Q:Ud):Prop:=∀a,CtxOK P c->jm a=code->RC P b a s Q
theorem RC.of_wp(ok:CtxOK P c){b:Bool}(code:Code){s:St}{Q:Ud}(h:wpC P c b (jm code) s Q):RC P b code s Q:=h code ok rfl
theorem kF{b:Bool}(code:Code){s:St}{Q Q':Ud}(a:∀x s',Q x s'->Q' x s')(h:wpC P c b code s Q):wpC P c b code s Q':=λc0 ok e=>(h c0 ok e).mono a
def pZ(tm a:Tm):Uf->Prop->Prop
 | [],q=>q
 | t::l,q=>zq a t=zq tm t->pZ tm a l q
def yL(live:Uf)(Q:Ud):AX->St->Prop:=λx s=>∀a,pZ s.tm a live (Q x ⟨s.n,a,s.dfr,s.heap⟩)
theorem Zr{tm:Tm}{q:Prop}:∀{l:Uf},pZ tm tm l q->q:=by
 intro l;induction l with
 | nil=>exact λh=>h
 | cons t l ih=>exact λh=>ih (h rfl)
theorem Lc{live:Uf}{Q:Ud}{x:AX}{s:St}(h:yL live Q x s):Q x s:=Zr (h s.tm)
theorem N8.set_get{α:Type}(d:D8)(t:N8 α)(f:α->α)(h:f (N8.get d t)=N8.get d t):N8.mod d f t=t:=by obtain⟨a0,a1,a2,a3,a4,a5,a6,a7⟩:=t;cases d<;>simp only[N8.mod,N8.get]at h ⊢<;>rw[h]
theorem zBb{tm:Tm}{t:Nat}{v:V}(a:t<511)(h:zq tm t=v):Tb.set tm t v=tm:=by
 unfold zq Tb.get at h;have hb:Nat.ble t 511=true:=oE dd;rw[hb,oN]at h
 grind[Tb.getF,Tb.set,N8.set_get]
def Kr:List AD->H->(H->Prop)->Prop
 | [],h,k=>k h
 | .coll id::l,h,k=>match h.get id with
  | some (.deferred true)=>Kr l (h.upd id (some (.deferred false))) k
  | _=>False
 | .fn _ _ _::_,_,_=>False
theorem EJ{call:Nat->Ug->H->Option CallOut}:∀{l:List AD}{h:H}{k:H->Prop},Kr l h k->∃h',xz call l h=some h'/\k h':=by
 intro l;induction l with
 | nil=>intro h k a;exact⟨h,rfl,a⟩
 | cons d l ih =>
  intro h k a;cases d with
  | coll id =>
   simp only[Kr]at a
   grind[xz]
  | fn f cap args=>exact a.elim
variable (c) in
def endW(fi:FI)(Q:Uc):AX->St->Prop
 | .normal,s=>Kr s.dfr s.heap λh'=>match leave c fi.results s.tm h' fi.results []with|some a=>Q (yC a) h'|none=>False
 | .ret,s=>Kr s.dfr s.heap λh'=>match leave c fi.results s.tm h' fi.results []with|some a=>Q (yC a) h'|none=>False
 | _,_=>False
def zG(fi:FI):FI:=⟨fi.n,fi.results,jm fi.body⟩
theorem RF.enter(ok:CtxOK P c){f:Nat}{fi:FI}{args:Ug}{h:H}{Q:Uc}(d:(c.fn.get f).map zG=some fi)(m:args.length<=fi.n)(n:fi.n<=511)(hw:wpC P c false fi.body ⟨fi.n,zy args 0 (Tb.leaf zZ),[],h⟩ (endW c fi Q)):RF P c f args h Q:=by
 rcases g:c.fn.get f with _|a
 .grind
 rw[g]at d;simp only[ol,oA]at d;subst d;obtain⟨e,s1,o,h2⟩:=RC.of_wp ok a.body hw;obtain⟨ih,hih,i⟩:∃ih,jr P ih/\ih false a.body ⟨a.n,zy args 0 (Tb.leaf zZ),[],h⟩=some (.done e s1) :=
  ⟨uw false a.body ⟨a.n,zy args 0 (Tb.leaf zZ),[],h⟩ e s1,sc o,sZ _ _ _ _ _⟩
 have j:ky ih a args h=some (.done e s1):=by
  unfold ky;have q:Nat.ble (ws args 0) a.n=true:=by rw[Ql];exact oE m
  have r:Nat.ble a.n 511=true:=oE n
  grind
 have fin:∀(k:Kr s1.dfr s1.heap λh'=>match leave c a.results s1.tm h' a.results []with|some b=>Q (yC b) h'|none=>False) (p:e = .normal\/e = .ret),RF P c f args h Q:=by
  intro k p;obtain⟨h',h3,h4⟩:=EJ (call:=Ju c ih) k;rcases hl:leave c a.results s1.tm h' a.results [] with _|b
  .grind
  rw[hl]at h4;refine⟨yC b,h',⟨⟨a,g⟩,?_⟩,h4⟩;refine Yj ok hih ?_;have l:VW c ih a s1=some (.ret (yC b) h'):=by
   simp_all[VW]
  unfold tZ
  grind
 cases e with
 | normal=>exact fin h2 (.inl rfl)
 | ret=>exact fin h2 (.inr rfl)
 | _=>exact h2.elim
def t(n:Nat):Operand:=.tmp n
abbrev zb(n:Int):Int:=yD .i64 n
end
end Go.Sim
