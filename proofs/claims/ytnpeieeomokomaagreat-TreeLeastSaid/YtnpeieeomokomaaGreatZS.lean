/- S. No condition. -/
import Derived.Test.YtnpeieeomokomaaGreatZO
import Derived.ProofKit
noncomputable section
namespace Go.Sim
section
variable {P:Program}{c:Ctx}{orc:Nat->List V->H->Option (V×H)}
theorem zKW (ok:CtxOK P c) (hor:xb P c orc) {ih:Bool->Code->St->Option Out}(hih:j6 P ih) {id:Nat}{ops:Array Oper}{rd:Option Nat}{s s':St}{x:AX}{m:Nat}(hm:yZ ops.toList=some m)
  (e:yF c orc rd.isSome ih ops.toList (z8 ops.toList []) m m 0 ops.toList s=some (.done x s')):SimC P rd (.region id ops true) s x s' :=
 zEn ok hor hih hm e
theorem zIF {F:Fence}{n:Nat}{Q:Exit->Act->World->Prop}{a:Act}{w:World}{x:Code}(h:x.wpIn F n P (λe a w=>(∀l,e≠.goto l)/\Q e a w) a w):(Code.scope x).wpIn F n P Q a w:=by
 intro b k cs hro hb hr;have h0:(lone (b.atR a (.code (.scope x)::k)) cs w).fenced P F:=fenced_calm hb hr rfl;have s0:step P (lone (b.atR a (.code (.scope x)::k)) cs w) = .next (lone (b.atR a (.code x :: .inScope x::k)) cs w):=step_lone_go (by simp[stepG,stepG.exec,Frame.atR]);have s1:∀a w,step P (lone (b.atR a (.inScope x::k)) cs w) = .next (lone (b.atR a k) cs w):=λa w=>step_lone_go (by simp[stepG,stepG.exec,Frame.atR])
 obtain⟨e,a1,w1,⟨hg,hq⟩,harr⟩:=h b (.inScope x::k) cs hro hb hr;have hx:∀id,exitTo id (.inScope x::k)=exitTo id k:=λid=>by simp[exitTo]
 cases e with
 | normal=>exact⟨.normal,a1,w1,hq,.head h0 s0 (StepsIn.trans harr (.one (fenced_calm hb hr rfl) (s1 _ _)))⟩
 | exit id=>exact⟨.exit id,a1,w1,hq,λk' hk=>.head h0 s0 (harr.1 k' (by rw[hx];exact hk)),λhr' hk=>let ⟨k1,g1,g2⟩:=harr.2 hr' (by rw[hx];exact hk);⟨k1,g1,.head h0 s0 g2⟩⟩
 | goto l=>exact absurd rfl (hg l)
 | ret=>exact⟨_,a1,w1,hq,.of_steps (.one h0 s0) harr⟩
 | panic ch=>exact⟨_,a1,w1,hq,.of_steps (.one h0 s0) harr⟩
 | outgrown=>exact⟨_,a1,w1,hq,.of_steps (.one h0 s0) harr⟩
theorem SimC.scope {rd:Option Nat}{x:Code}{s s1:St}{e:AX}(h:SimC P rd x s e s1):SimC P rd (.scope x) s e s1:=by
 intro ρ D w a k hl;refine zIF (wpIn_mono (h ρ D w a k hl) ?_);rintro e1 a1 w1 ⟨ρ1,m1,k1,rfl,hx⟩;exact⟨λl he=>by cases e<;>simp[AX.toExit]at he,ρ1,m1,k1,rfl,hx⟩
theorem SimC.label {rd:Option Nat}(l:Nat) (s:St):SimC P rd (.label l) s .normal s:=λ_ _ _ _ k _=>wpIn_label (Ends.refl k (λ_ h=>by cases h))
end
end Go.Sim
namespace Go.Sim
namespace X
section
variable {α β:Type}
end
theorem zZM (a b:Nat):Nat.ble (Nat.succ a) b=Nat.blt a b:=rfl
section
variable (c:Ctx) (orc:Nat->List V->H->Option (V×H))
end
end X
end Go.Sim
namespace Go.Sim
namespace Chunk
end Chunk
def ip (n:Nat):V:=.int .i64 (.ofNat n)
def sb (l:List Nat):V:=.str (l.map λn=>UInt8.ofNat n)
open Go.RowKit Go.ChangeShapes Go.WideShapes Go.ChangeAt
def H0:H:={ tbl:=.leaf,nx:=0,low:=T.top }
def zCv:Env:={ blk:=λ_=>0,off:=λ_=>0,cap:=λ_=>0 }
theorem zCZ (ρ:Env) (w:World):HR ρ (λ_=>False) H0 w :=
 ⟨oJ _,λ_ h=>h.elim,λ_ _ h=>h.elim,λ_ _ _ _ h=>h.elim⟩
theorem zLE {H:Type}{enc:TypeId×Value->H}{P:Program}{f:Func}{s:ChangeSpec}{W W':World}{args:Array Value}{ds gs:List (DataW H)}{before pa pv:List MemPlace}{bt:TypeId}
  (hW:DataW.Whole enc P f.params.toList s.vars false W args.toList ds gs before) (hb:Below W.heap.size W W') (hr:f.resultTypes = #[bt]) (ht:P.underlying bt=some .bool)
  (er:(s.fn H (ds++gs)).results=[.lit (.bool true)])
  (ha:DataW.TrodAll enc P W' 0 (λb=>decide (b<W.heap.size)) true f.params.toList args.toList (s.fn H (ds++gs)).args pa)
  (hv:DataW.TrodVars enc P W' (λb=>decide (b<W.heap.size)) s.vars (s.fn H (ds++gs)).vars pv) :
  s.post enc P f false true false false W args (.bool true) W':=by
 refine⟨ds,gs,before,[],pa,pv,hW,?_,ha,hv,hb.frame _,λh=>by cases h⟩
 rw[er,hr];exact trodAll_mk1 ⟨1,by simp[DataW.trod,Value.cells,ht]⟩
section
variable (P:Program) (c:Ctx)
def RC (b:Bool) (code:Code) (s:St) (Q:AX->St->Prop):Prop:=∃x s',(∀rd:Option Nat,rd.isSome=b->SimC P rd code s x s')/\Q x s'
def RF (f:Nat) (args:List V) (h:H) (Q:V->H->Prop):Prop:=∃v h',((∃fi,c.fn.get f=some fi)/\SimF P f args h (.ret v h'))/\Q v h'
def RR (l:Nat) (args:List V) (h:H) (Q:V->H->Prop):Prop:=∃v h',zVf P l args h (.ret v h')/\Q v h'
variable {P c}
theorem RC.mono {b:Bool}{code:Code}{s:St}{Q Q':AX->St->Prop}(h:RC P b code s Q) (hq:∀x s',Q x s'->Q' x s'):RC P b code s Q':=by
 obtain⟨x,s',h1,h2⟩:=h;exact⟨x,s',h1,hq _ _ h2⟩
theorem RF.mono {f:Nat}{args:List V}{h:H}{Q Q':V->H->Prop}(r:RF P c f args h Q) (hq:∀v h',Q v h'->Q' v h'):RF P c f args h Q':=by
 obtain⟨x,s',h1,h2⟩:=r;exact⟨x,s',h1,hq _ _ h2⟩
theorem RR.mono {l:Nat}{args:List V}{h:H}{Q Q':V->H->Prop}(r:RR P l args h Q) (hq:∀v h',Q v h'->Q' v h'):RR P l args h Q':=by
 obtain⟨x,s',h1,h2⟩:=r;exact⟨x,s',h1,hq _ _ h2⟩
def StepW (P:Program) (b:Bool) (o:Oper) (s:St) (x:AX) (s':St):Prop :=
 ∀(rd:Option Nat),rd.isSome=b->∀{ρ:Env}{D:Nat->Prop}{w:World}{a:Act},StR ρ D s a w->∀{next:Act->World->Prop}{Q:Exit->Act->World->Prop},
  (x = .normal->∀ρ' v w',Mv ρ D s.heap w ρ' s'.heap w'->StR ρ' (Dx D s.heap s'.heap) s' v w'->next v w') ->
  (∀v,x = .panic v->∀ρ' w',Mv ρ D s.heap w ρ' s'.heap w'->StR ρ' (Dx D s.heap s'.heap) s' a w'->v.In (Dx D s.heap s'.heap)->Q (.panic [{ v:=v.conc ρ',recovered:=false }]) a w') ->
  o.wpIn (Fx (rd.map ρ.blk)) 0 P a w next Q
theorem StepW.of_step (ok:CtxOK P c) {orc:Nat->List V->H->Option (V×H)}(hor:xb P c orc) {ih:Bool->Code->St->Option Out}(hih:j6 P ih) {b:Bool}{o:Oper}{s s':St}{x:AX}
  (e:zV c orc b ih o s=some (x,s')):StepW P b o s x s':=by
 intro rd hrd ρ D w a k next Q hn hq;subst hrd;exact kA ok hor hih e k (λhx ρ' v w' m _ k'=>hn hx ρ' v w' m k') hq
def XE:Nat->List V->H->Option (V×H):=λ_ _ _=>none
def ws:Bool->Code->St->Option Out:=λ_ _ _=>none
theorem jy:xb P c XE:=λ_ _ _ _ _ e=>by cases e
theorem Yx:j6 P ws:=λ_ _ _ _ _ e=>by cases e
open Classical in
def zBU (f:Nat) (args:List V) (h:H) (v:V) (h':H):Nat->List V->H->Option (V×H):=λf2 a2 h2=>if f2=f/\a2=args/\h2=h then some (v,h') else none
theorem Xr {f:Nat}{args:List V}{h h':H}{v:V}(hf:∃fi,c.fn.get f=some fi) (hs:SimF P f args h (.ret v h')):xb P c (zBU f args h v h'):=by
 intro f2 a2 h2 v2 h3 e;unfold zBU at e;split at e
 ·rename_i hc
  obtain⟨rfl,rfl,rfl⟩:=hc;simp only[oA,oB]at e;obtain⟨rfl,rfl⟩:=e;exact⟨hf,hs⟩
 ·cases e
theorem Xq (f:Nat) (args:List V) (h:H) (v:V) (h':H):zBU f args h v h' f args h=some (v,h'):=by
 unfold zBU;rw[if_pos ⟨rfl,rfl,rfl⟩]
open Classical in
def ih1 (b:Bool) (code:Code) (s:St) (x:AX) (s':St):Bool->Code->St->Option Out:=λb2 c2 s2=>if b2=b/\c2=code/\s2=s then some (.done x s') else none
theorem zAD {b:Bool}{code:Code}{s s':St}{x:AX}(h:∀rd:Option Nat,rd.isSome=b->SimC P rd code s x s'):j6 P (ih1 b code s x s'):=by
 intro rd c2 s2 x2 s3 e;unfold ih1 at e;split at e
 ·rename_i hc
  obtain⟨h1,rfl,rfl⟩:=hc;simp only[oA,Out.done.injEq]at e;obtain⟨rfl,rfl⟩:=e;exact h rd h1
 ·cases e
theorem zAC (b:Bool) (code:Code) (s:St) (x:AX) (s':St):ih1 b code s x s' b code s=some (.done x s'):=by
 unfold ih1;rw[if_pos ⟨rfl,rfl,rfl⟩]
theorem StepW.call (ok:CtxOK P c) {b:Bool}{o:Oper}{s s':St}{f:Nat}{args:List V}{v:V}{h':H}(ha:zh c o (zz s.tm) s.heap=some (.call f args))
  (hf:∃fi,c.fn.get f=some fi) (hs:SimF P f args s.heap (.ret v h')) (hp:yW s o.dst v h'=some s'):StepW P b o s .normal s':=by
 refine StepW.of_step (c:=c) (orc:=zBU f args s.heap v h') (ih:=ws) ok (Xr hf hs) Yx ?_;unfold zV wx;simp only[ha,Xq,hp]
theorem StepW.round (ok:CtxOK P c) {b:Bool}{o:Oper}{s s':St}{l:Nat}{args:List V}{v:V}{h':H}(ha:zh c o (zz s.tm) s.heap=some (.round l args))
  (hs:zVf P l args s.heap (.ret v h')) (hp:yW s o.dst v h'=some s'):StepW P b o s .normal s':=by
 intro rd hrd ρ D w a k next Q hn _;refine⟨λ_ _=>trivial,?_⟩
 have hsem:=Js (rd:=rd) ha;have hop:=JR (P:=P) (a:=a.eval) ok ha k.hr (λy _ v hv=>wk k y v hv);rw[show(Fx (rd.map ρ.blk)).round=rd.map ρ.blk from rfl,hsem (λ_ _ h=>by cases h)];obtain⟨hl,hin,hr⟩:=hop;obtain⟨fn,tmps,y,z,hy,hR⟩:=hs ρ D w k.hr hl hin;rw[hr,hy];refine⟨λh=>by simp[Fx]at h,XJ none _ (RoundIn.mono hR ?_)⟩
 rintro en w' ⟨ρ',rfl,m,r,hv⟩;rw[zCD]at hp;have k1:=k.step m r;have hp':yW { s with heap:=h' } o.dst v ({ s with heap:=h' }:St).heap=some s':=hp;obtain⟨k2,hh⟩:=StR.put k1 hv hp';have hh:s'.heap=h':=hh;exact hn rfl _ _ _ (by rw[hh];exact m) (by rw[hh];exact k2)
def SimO (P:Program) (b:Bool) (ops:Array Oper) (l:List Oper) (s:St) (x:AX) (s':St):Prop :=
 ∀rd:Option Nat,rd.isSome=b->∀(is:List Nat),is.mapM (λi=>ops[i]?)=some l ->
  ∀{ρ0:Env}{D0:Nat->Prop}{s0:St}{w0:World}{ρ:Env}{w:World}{a:Act},(∀id,D0 id->id<s0.heap.nx)->(∀l,rd=some l->D0 l)->Mv ρ0 D0 s0.heap w0 ρ s.heap w->StR ρ (Dx D0 s0.heap s.heap) s a w ->
  wpOpsIn (Fx (rd.map ρ0.blk)) 0 P ops (Ends ρ0 D0 s0 w0 x s') is a w
theorem SimO.nil {b:Bool}{ops:Array Oper}{s:St}:SimO P b ops [] s .normal s:=by
 intro rd _ is his ρ0 D0 s0 w0 ρ w a hlt hl m k;cases is with
 | nil=>exact⟨ρ,m,k,rfl,trivial⟩
 | cons i is =>
  simp only[List.mapM_cons,Option.bind_eq_bind,Option.bind_eq_some_iff]at his;obtain⟨o,_,l',_,h⟩:=his;simp at h
theorem SimO.step {b:Bool}{ops:Array Oper}{o:Oper}{l:List Oper}{s s1 s':St}{x:AX}(hw:zU ops.toList s.tm o=true) (h1:StepW P b o s .normal s1) (h2:SimO P b ops l s1 x s'):SimO P b ops (o::l) s x s':=by
 intro rd hrd is his ρ0 D0 s0 w0 ρ w a hlt hl m k;cases is with
 | nil=>simp at his
 | cons i is =>
  simp only[List.mapM_cons,Option.bind_eq_bind,Option.bind_eq_some_iff]at his;obtain⟨o',ho,l',hl',h⟩:=his;simp only[Option.pure_def,oA,List.cons.injEq]at h;obtain⟨rfl,rfl⟩:=h;simp only[wpOpsIn,ho];rw[wJ k,hw,if_pos rfl,<-kT m.agree hl];refine h1 rd hrd k ?_ (λv hv=>by cases hv);intro _ ρ' a' w' m' k';rw[kT m.agree hl];rw[wP (D:=D0) m.nx m'.nx]at k';exact h2 rd hrd is hl' hlt hl (Mv.trans hlt m m') k'
theorem SimO.out {b:Bool}{ops:Array Oper}{o:Oper}{l:List Oper}{s s1:St}{v:V}(hw:zU ops.toList s.tm o=true) (h1:StepW P b o s (.panic v) s1):SimO P b ops (o::l) s (.panic v) s1:=by
 intro rd hrd is his ρ0 D0 s0 w0 ρ w a hlt hl m k;cases is with
 | nil=>simp at his
 | cons i is =>
  simp only[List.mapM_cons,Option.bind_eq_bind,Option.bind_eq_some_iff]at his;obtain⟨o',ho,l',hl',h⟩:=his;simp only[Option.pure_def,oA,List.cons.injEq]at h;obtain⟨rfl,rfl⟩:=h;simp only[wpOpsIn,ho];rw[wJ k,hw,if_pos rfl,<-kT m.agree hl];refine h1 rd hrd k (λhn=>by cases hn) ?_;intro v2 hv ρ' w' m' k' hvi;cases hv;have hDx:=wP (D:=D0) m.nx m'.nx;exact⟨ρ',Mv.trans hlt m m',by rw[<-hDx];exact k',rfl,by rw[<-hDx];exact hvi⟩
theorem SimO.off {b:Bool}{ops:Array Oper}{o:Oper}{l:List Oper}{s s1 s':St}{x:AX}(hw:zU ops.toList s.tm o=false) (hp:yW s o.dst zB s.heap=some s1) (h2:SimO P b ops l s1 x s'):SimO P b ops (o::l) s x s':=by
 intro rd hrd is his ρ0 D0 s0 w0 ρ w a hlt hl m k;cases is with
 | nil=>simp at his
 | cons i is =>
  simp only[List.mapM_cons,Option.bind_eq_bind,Option.bind_eq_some_iff]at his;obtain⟨o',ho,l',hl',h⟩:=his;simp only[Option.pure_def,oA,List.cons.injEq]at h;obtain⟨rfl,rfl⟩:=h;simp only[wpOpsIn,ho];rw[wJ k,hw,if_neg (by simp)];obtain⟨k2,hh⟩:=StR.put k (wI _) hp;rw[wC]at k2;exact⟨λ_ _=>trivial,h2 rd hrd is hl' hlt hl (by rw[hh];exact m) (by rw[hh];exact k2)⟩
def wp (d:Option Tmp) (v:V) (s:St) (h:H) (k:St->Prop):Prop :=
 match d with
 | none=>k ⟨s.n,s.tm,s.dfr,h⟩
 | some t=>(match Nat.blt t s.n with|true=>k ⟨s.n,s.tm.set t v,s.dfr,h⟩|false=>False)
theorem yS {d:Option Tmp}{v:V}{s:St}{h:H}{k:St->Prop}(e:wp d v s h k):∃s',yW s d v h=some s'/\k s':=by
 cases d with
 | none=>exact⟨_,rfl,e⟩
 | some t =>
  unfold wp at e;unfold yW;simp only at e ⊢;cases hb:Nat.blt t s.n with
  | false=>rw[hb]at e;exact e.elim
  | true=>rw[hb]at e;rw[oK];exact⟨_,rfl,e⟩
theorem zAW {d:Option Tmp}{v:V}{s:St}{h:H}{k:St->Prop}:wp d v s h k↔(d=none/\k ⟨s.n,s.tm,s.dfr,h⟩)\/∃t,d=some t/\Nat.blt t s.n=true/\k ⟨s.n,s.tm.set t v,s.dfr,h⟩:=by
 cases d with
 | none=>simp[wp]
 | some t =>
  show(match Nat.blt t s.n with|true=>k ⟨s.n,s.tm.set t v,s.dfr,h⟩|false=>False)↔_;generalize hb:Nat.blt t s.n=x;cases x with
  | false =>
   refine⟨λe=>False.elim e,?_⟩
   rintro(⟨h1,_⟩|⟨t2,h1,h2,_⟩)
   ·cases h1
   ·cases h1;rw[hb]at h2;cases h2
  | true =>
   refine⟨λe=>.inr ⟨t,rfl,hb,e⟩,?_⟩
   rintro(⟨h1,_⟩|⟨t2,h1,_,h3⟩)
   ·cases h1
   ·cases h1;exact h3
theorem YQ {d:Option Tmp}{v:V}{s:St}{h:H}{k k':St->Prop}(hk:∀s,k s->k' s) (e:wp d v s h k):wp d v s h k':=by
 rw[zAW]at e ⊢;rcases e with⟨h1,h2⟩|⟨t,h1,h2,h3⟩
 ·exact .inl ⟨h1,hk _ h2⟩
 ·exact .inr ⟨t,h1,h2,hk _ h3⟩
variable (P c)
def after (d:Option Tmp) (s:St) (k:St->Prop) (v:V) (h:H):Prop:=wp d v s h k
def wpA (b:Bool) (d:Option Tmp) (s:St) (k:St->Prop) (Q:AX->St->Prop):Option AN->Prop
 | some (.val v h)=>wp d v s h k
 | some (.skip h)=>wp d zB s h k
 | some (.call f args)=>RF P c f args s.heap (after d s k)
 | some (.round l args)=>RR P l args s.heap (after d s k)
 | some (.dfr ad)=>b=false/\wp d zB ⟨s.n,s.tm,ad::s.dfr,s.heap⟩ s.heap k
 | some (.pan v h)=>Q (.panic v) ⟨s.n,s.tm,s.dfr,h⟩
 | _=>False
mutual
def Jv:V->(V->Prop)->Prop
 | .int κ _,k=>∃x,k (.int κ x)
 | .bool _,k=>∃t,k (.bool t)
 | .str _,k=>∃l,k (.str l)
 | .agg zs,k=>JE zs λvs=>k (.agg vs)
 | _,k=>∃v,k v
def JE:List V->(List V->Prop)->Prop
 | [],k=>k []
 | z::zs,k=>Jv z λv=>JE zs λvs=>k (v::vs)
end
mutual
theorem Jw:∀(z:V) {k:V->Prop},Jv z k->∃v,k v
 | .int _ _,_,⟨_,h⟩ | .bool _,_,⟨_,h⟩ | .str _,_,⟨_,h⟩ | .ptr _ _,_,⟨_,h⟩ | .nilptr,_,⟨_,h⟩ | .slice _ _ _ _,_,⟨_,h⟩ | .nilslice,_,⟨_,h⟩ | .map _,_,⟨_,h⟩ | .nilmap,_,⟨_,h⟩
 | .func _ _ _,_,⟨_,h⟩ | .yield _,_,⟨_,h⟩ | .nilFunc,_,⟨_,h⟩ | .iface _ _,_,⟨_,h⟩ | .nilIface,_,⟨_,h⟩ | .tuple _,_,⟨_,h⟩=>⟨_,h⟩
 | .agg zs,_,h=>by obtain⟨vs,h⟩:=zA9 zs h;exact⟨_,h⟩
theorem zA9:∀(zs:List V) {k:List V->Prop},JE zs k->∃vs,k vs
 | [],_,h=>⟨[],h⟩
 | z::zs,_,h=>by
  obtain⟨v,h⟩:=Jw z h;obtain⟨vs,h⟩:=zA9 zs h;exact⟨_,h⟩
end
def Ju (t:TypeId) (k:V->Prop):Prop :=
 match c.ty.get t with
 | some ti=>(match ti.zero with|some z=>Jv z k|none=>∃v,k v)
 | none=>∃v,k v
def JD:List TypeId->(List V->Prop)->Prop
 | [],k=>k []
 | t::ts,k=>Ju c t λv=>JD ts λvs=>k (v::vs)
def z11:TypeDesc->Option (List TypeId)
 | .tuple ts=>some ts.toList
 | _=>none
def zAb (t:Bool) (k:V->Prop):Prop:=(t=true->k (.bool true))/\(t=false->k (.bool false))
def jX (p:Prop) (k:V->Prop):Prop:=(p->k (.bool true))/\(¬p->k (.bool false))
def zJK:V->(V->Prop)->(V->Prop)->Prop
 | .bool _,e,k=>∃t,e (.bool t)/\zAb t k
 | z,e,k=>Jv z λv=>e v/\k v
def XL (t:TypeId) (e k:V->Prop):Prop :=
 match c.ty.get t with
 | some ti=>(match z11 ti.desc with
  | some ts=>JD c ts λvs=>e (.tuple vs)/\k (.tuple vs)
  | none=>(match ti.zero with|some z=>zJK z e k|none=>∃v,e v/\k v))
 | none=>∃v,e v/\k v
def ZC (t:TypeId) (r:Option V) (k:V->Prop):Prop:=XL c t (λv=>r=some v) k
def qI (t:TypeId):Bool:=match c.ty.get t with|some ti=>(match ti.zero with|some (.bool _)=>true|_=>false)|none=>false
def XM:V->(V->Prop)->Prop
 | .bool t,k=>zAb t k
 | v,k=>k v
def wY (op:BinOp) (t:TypeId) (x y:Operand) (ot:TypeId):V->V->(V->Prop)->Prop
 | .int κ m,.int κ' n,k =>
  if jF op=true\/wa κ κ'=true then
   (match op with
   | .add=>k (.int κ (zT κ (m+n)))
   | .sub=>k (.int κ (zT κ (m-n)))
   | .mul=>k (.int κ (zT κ (m*n)))
   | .eql=>jX (m=n) k
   | .neq=>jX (m≠n) k
   | .lss=>jX (m<n) k
   | .leq=>jX (m<=n) k
   | .gtr=>jX (n<m) k
   | .geq=>jX (n<=m) k
   | .quo=>n≠0/\k (.int κ (zT κ (m.tdiv n)))
   | .rem=>n≠0/\k (.int κ (m.tmod n))
   | op=>∃r,zn op κ m n=some (.int κ r)/\k (.int κ r))
  else False
 | .str l,.str m,k =>
  (match op with
  | .eql=>jX (l=m) k
  | .neq=>jX (l≠m) k
  | .add=>l.length+m.length<=4611686018427387904/\k (.str (l++m))
  | _=>ZC c ot (yH c op t x y (.str l) (.str m)) k)
 | a,b,k=>ZC c ot (yH c op t x y a b) k
def zAv (op:UnOp):V->(V->Prop)->Prop
 | .bool b,k=>(match op with | .not=>k (.bool (!b))|_=>False)
 | .int κ n,k=>(match op with | .neg=>k (.int κ (zT κ (0-n)))|op=>∃r,aun op (.int κ n)=some (.int κ r)/\k (.int κ r))
 | _,_=>False
def Yy:TypeDesc->Option IntKind
 | .int κ=>some κ
 | _=>none
def zHs (t:TypeId):Bool:=match c.ty.get t with|some ti=>(match ti.desc with | .string=>true|_=>false)|none=>false
def kV (s d:TypeId) (h:H) (v:V) (k:V->H->Prop):Prop :=
 match v with
 | .int _ n=>(match c.ty.get s,c.ty.get d with
  | some ts,some td=>(match Yy ts.desc,Yy td.desc with|some _,some κ=>k (.int κ (zT κ n)) h|_,_=>False)
  | _,_=>False)
 | v=>(match zHs c d with
  | true=>∃l h',xK c s d h v=some (.str l,h')/\k (.str l) h'
  | false=>∃u h',xK c s d h v=some (u,h')/\k u h')
def zS (t:TypeId) (f:Nat) (h:H):V->(V->H->Prop)->Prop
 | .ptr b o,k=>(match c.ty.get t with
  | some ti=>(match ti.desc with
   | .struct fs=>(match fs[f]? with
    | some fd=>(match c.ty.get fd.type with|some tf=>if 0<tf.size then k (.ptr b (o+fd.offset)) h else False|none=>False)
    | none=>False)
   | _=>False)
  | none=>False)
 | _,_=>False
def Zz (i:Nat) (ot:TypeId):V->(V->Prop)->Prop
 | .tuple l,k=>(match l[i]? with|some u=>(match qI c ot with|true=>XM u k|false=>k u)|none=>False)
 | _,_=>False
def ZM (t:Bool) (k:Bool->Prop):Prop:=match t with|true=>k true|false=>k false
def xJ:V->(Bool->Prop)->Prop
 | .bool t,k=>ZM t k
 | _,_=>False
def wh (r:Option Cs) (k:Cs->Prop):Prop:=match r with|some cs=>k cs|none=>False
def zAq (t:TypeId) (h:H) (v:V) (k:V->H->Prop):Prop :=
 match c.ty.get t with
 | some ti=>if jR ti.desc=true then wh (cond (zL v.cells) (Cs.ofL v.cells) none) λcs=>h.nx<T.top/\∀b h',b=h.nx->h'=h.new (.cells cs ⟨0,t+1,0⟩ true false)->k (.ptr b 0) h'
  else v.one=true/\h.nx<T.top/\∀b h',b=h.nx->h'=h.new (.cells (.ls [v]) ⟨0,t+1,0⟩ true false)->k (.ptr b 0) h'
 | none=>False
def xk (ot:TypeId) (r:Option V) (k:V->Prop):Prop:=match r with|some u=>(match qI c ot with|true=>XM u k|false=>k u)|none=>False
def Kb (mx:Bool):List V->(V->Prop)->Prop
 | [.int κ a,.int _ b],k=>k (.int κ (if mx=true then max a b else min a b))
 | v::l,k=>∃u,qt mx v l=some u/\k u
 | [],_=>False
def z1W:V->(List UInt8->Prop)->Prop
 | .str l,k=>k l
 | _,_=>False
def zCS (t:TypeId) (h:H) (v:V) (k:V->Prop):Prop :=
 match zHs c t with
 | true=>z1W v λl=>k (.int .i64 (.ofNat l.length))
 | false=>∃x,zm c t h v=some (.int .i64 x)/\k (.int .i64 x)
def qZ (t:TypeId) (k:V->H->Prop) (v:V) (h:H):Prop:=XL c t (λu=>v=u) λu=>k u h
def kF (b:Builtin) (ot:TypeId) (h:H) (k:V->H->Prop) (g:Option AN):List V->List TypeId->Prop
 | [x],[t]=>(match b with
  | .len=>zCS c t h x λv=>k v h
  | _=>∃v h',g=some (.val v h')/\qZ c ot k v h')
 | [s,x],[t,tx]=>(match b with
  | .append=>True/\∃v h',Kt c tx t h s x=some (v,h')/\k v h'
  | .copy=>∃x' h',zIO c t h s x=some (.int .i64 x',h')/\k (.int .i64 x') h'
  | .min=>Kb false [s,x] λv=>k v h
  | .max=>Kb true [s,x] λv=>k v h
  | _=>∃v h',g=some (.val v h')/\qZ c ot k v h')
 | l,_=>(match b with
  | .min=>Kb false l λv=>k v h
  | .max=>Kb true l λv=>k v h
  | _=>∃v h',g=some (.val v h')/\qZ c ot k v h')
def zYV (P:Program) (ot:TypeId) (h:H) (k:V->H->Prop):Option AN->Prop
 | some (.val v h')=>k v h'
 | some (.call g as)=>RF P c g as h (qZ c ot k)
 | _=>False
def yT (P:Program) (ot:TypeId) (h:H) (k:V->H->Prop) (args:List V):V->Prop
 | .func (.func g) first captured=>zYV c P ot h k (qi c h g first args captured)
 | .yield l=>RR P l args h (qZ c ot k)
 | _=>False
def KB (P:Program) (cl:Call) (ot:TypeId) (e:Operand->Option V) (h:H) (k:V->H->Prop):Prop :=
 match ZP e cl.args.toList with
 | none=>False
 | some args =>
  match cl.callee with
  | .value f=>(match e f with|some v=>yT c P ot h k args v|none=>False)
  | .builtin b=>kF c b ot h k (xN c cl e h) args cl.argTypes.toList
  | .invoke r name=>(match e r with
   | some (.iface t v)=>(match YB c t name with
    | some (f,none)=>RF P c f (v::args) h (qZ c ot k)
    | some (f,some el)=>∃u,zK c el h v=some u/\RF P c f (u::args) h (qZ c ot k)
    | none=>False)
   | _=>False)
def zXI:TypeDesc->Bool
 | .interface _=>true
 | _=>false
def zDs (P:Program) (o:Oper) (e:Operand->Option V) (h:H) (k:V->H->Prop):Prop :=
 match o.op with
 | .move x=>(match e x with|some v=>k v h|none=>False)
 | .assign x=>(match e x with|some v=>k v h|none=>False)
 | .pick cc a b=>(match e cc,e a,e b with|some v,some x,some y=>xJ v λt=>k (cond t x y) h|_,_,_=>False)
 | .binOp op t x y _=>(match e x,e y with|some a,some b=>wY c op t x y o.type a b λv=>k v h|_,_=>False)
 | .unOp op _ x=>(match e x with|some a=>zAv op a λv=>k v h|none=>False)
 | .convert s d x=>(match e x with|some v=>kV c s d h v k|none=>False)
 | .load t a=>(match e a with|some p=>ZC c t (zK c t h p) λv=>k v h|none=>False)
 | .store t a x=>(match e a,e x with|some p,some v=>∃h',zf c t h p v=some h'/\k zB h'|_,_=>False)
 | .field t x f=>(match e x with|some v=>xk c o.type (zQ8 c t v f) λv=>k v h|none=>False)
 | .fieldAddr t x f=>(match e x with|some p=>zS c t f h p k|none=>False)
 | .indexAddr t x ix=>(match e x,e ix with|some a,some i=>∃pb po,z7 c t a i=some (.ptr pb po)/\k (.ptr pb po) h|_,_=>False)
 | .index t x ix=>(match e x,e ix with|some a,some i=>ZC c o.type (xl c t a i) λv=>k v h|_,_=>False)
 | .extract x i=>(match e x with|some v=>Zz c i o.type v λu=>k u h|none=>False)
 | .alloc t=>(match c.ty.get t with|some ti=>(match ti.zero with|some z=>zAq c t h z k|none=>False)|none=>False)
 | .box t x=>(match e x with|some v=>zAq c t h v k|none=>False)
 | .makeFunc (.func g) first captured=>(match ZP e first.toList,ZP e captured.toList with|some a,some b=>k (.func (.func g) a b) h|_,_=>False)
 | .call cl=>KB c P cl o.type e h k
 | .slice t x lo hi mx=>(match e x,evO e lo,evO e hi,evO e mx with|some v,some a,some b,some m=>ZC c o.type (zq c t h v a b m) λv=>k v h|_,_,_,_=>False)
 | .build t ps=>(match evP e ps.toList with|some l=>xk c t (yx c t l) λv=>k v h|none=>False)
 | .buildSlice t n ps=>(match evP e ps.toList with|some l=>∃v h',zF c t n l h=some (v,h')/\k v h'|none=>False)
 | .makeInterface t x=>(match c.ty.get t,e x with|some ti,some v=>(match zXI ti.desc with|true=>False|false=>k (.iface t v) h)|_,_=>False)
 | .makeSlice t l m=>(match e l,e m with|some a,some b=>∃v h',js c t a b h=some (v,h')/\k v h'|_,_=>False)
 | .lookup t x i ok=>(match e x,e i with|some a,some b=>ZC c o.type (ZH c t h a b ok) λv=>k v h|_,_=>False)
 | .mapUpdate t m x v=>(match e m,e x,e v with|some a,some b,some d=>∃h',Kg c t h a b d=some h'/\k zB h'|_,_,_=>False)
 | _=>∃v h',zh c o e h=some (.val v h')/\k v h'
def zKe:Op->Bool
 | .defer _=>true
 | _=>false
def zBs:Op->Bool
 | .panic _=>true
 | _=>false
def YW (b:Bool) (ops:List Oper):List Oper->St->(AX->St->Prop)->Prop
  | [],s,Q=>Q .normal s
  | o::l,s,Q =>
    if zU ops s.tm o=true then
      (if zBs o.op=true then False else if zKe o.op=true then wpA P c b o.dst s (λs'=>YW b ops l s' Q) Q (zh c o (zz s.tm) s.heap)
       else zDs c P o (zz s.tm) s.heap λv h=>wp o.dst v s h λs'=>YW b ops l s' Q)
    else wp o.dst zB s s.heap λs'=>YW b ops l s' Q
variable {P c}
theorem zAc {v:V}{k:V->Prop}(h:XM v k):k v:=by
 cases v with
 | bool t =>
  cases t with
  | true=>exact h.1 rfl
  | false=>exact h.2 rfl
 | _=>exact h
theorem zLN {t:TypeId}{k:V->Prop}(h:Ju c t k):∃v,k v:=by
 unfold Ju at h;split at h
 ·split at h
  ·exact Jw _ h
  ·exact h
 ·exact h
theorem zHk:∀{ts:List TypeId}{k:List V->Prop},JD c ts k->∃vs,k vs:=by
 intro ts
 induction ts with
 | nil=>intro k h;exact⟨[],h⟩
 | cons t ts ih =>
  intro k h;obtain⟨v,h⟩:=zLN h;obtain⟨vs,h⟩:=ih h;exact⟨_,h⟩
theorem zHo {t:Bool}{k:V->Prop}(h:zAb t k):k (.bool t):=by
 cases t with
 | true=>exact h.1 rfl
 | false=>exact h.2 rfl
theorem wB {p:Prop}[Decidable p] {k:V->Prop}(h:jX p k):k (.bool (decide p)):=by
 by_cases hp:p
 ·simp only[hp,decide_true];exact h.1 hp
 ·simp only[hp,decide_false];exact h.2 hp
theorem zA8 {t:TypeId}{e k:V->Prop}(h:XL c t e k):∃v,e v/\k v:=by
 unfold XL at h;split at h
 ·split at h
  ·obtain⟨vs,h⟩:=zHk h;exact⟨_,h⟩
  ·split at h
   ·unfold zJK at h
    split at h
    ·obtain⟨t,h1,h2⟩:=h;exact⟨_,h1,zHo h2⟩
    ·exact Jw _ h
   ·exact h
 ·exact h
theorem jV {t:TypeId}{r:Option V}{k:V->Prop}(h:ZC c t r k):∃v,r=some v/\k v:=zA8 h
theorem Zm {t:TypeId}{k:V->H->Prop}{v:V}{h:H}(r:qZ c t k v h):k v h:=by
 obtain⟨u,rfl,h2⟩:=zA8 r;exact h2
def anK (P:Program) (c:Ctx) (h:H) (k:V->H->Prop):Option AN->Prop
 | some (.val v h')=>k v h'
 | some (.skip h')=>k zB h'
 | some (.call f args)=>RF P c f args h k
 | some (.round l args)=>RR P l args h k
 | _=>False
theorem xY {h:H}{k:V->H->Prop}{r:Option V}(e:∃v,r=some v/\k v h):anK P c h k (AN.ofV r h):=by
 obtain⟨v,rfl,hk⟩:=e;exact hk
theorem ZT {h:H}{k:V->H->Prop}{r:Option (V×H)}(e:∃v h',r=some (v,h')/\k v h'):anK P c h k (AN.ofVH r):=by
 obtain⟨v,h',rfl,hk⟩:=e;exact hk
theorem zRZ (m n:Int):(!(m == n))=decide (m≠n):=by
 by_cases h:m=n<;>simp[h]
theorem zWz (m n:Int):(m == n)=decide (m=n):=by
 by_cases h:m=n<;>simp[h]
theorem zIn (m n:Int):(!decide (n<m))=decide (m<=n):=by
 by_cases h:n<m
 ·have:¬m<=n:=by omega
  simp[h,this]
 ·have:m<=n:=by omega
  simp[h,this]
theorem zL1 {op:BinOp}{t ot:TypeId}{x y:Operand}{a b:V}{k:V->Prop}(h:wY c op t x y ot a b k):∃v,yH c op t x y a b=some v/\k v:=by
 unfold wY at h;split at h
 ·rename_i κ m κ' n
  split at h
  ·rename_i hc
   have hab:yH c op t x y (.int κ m) (.int κ' n)=zn op κ m n:=by
    unfold yH;rcases hc with hc|hc
    ·rw[hc];rfl
    ·cases hs:jF op<;>simp[hc]
   rw[hab];split at h
   ·exact⟨_,by simp only[zn,YA],h⟩
   ·exact⟨_,by simp only[zn,ON],h⟩
   ·exact⟨_,by simp only[zn,zIr],h⟩
   ·exact⟨_,by simp only[zn,jO,zWz],wB h⟩
   ·exact⟨_,by simp only[zn,jO,zRZ],wB h⟩
   ·exact⟨_,by simp only[zn,yg],wB h⟩
   ·exact⟨_,by simp only[zn,yg,zIn],wB h⟩
   ·exact⟨_,by simp only[zn,yg],wB h⟩
   ·exact⟨_,by simp only[zn,yg,zIn],wB h⟩
   ·refine⟨_,?_,h.2⟩
    simp only[zn,jO,zCt];rw[show(n == 0)=false from by simpa using h.1];rfl
   ·refine⟨_,?_,h.2⟩
    simp only[zn,jO,zIp];rw[show(n == 0)=false from by simpa using h.1];rfl
   ·obtain⟨r,h1,h2⟩:=h;exact⟨_,h1,h2⟩
  ·exact h.elim
 ·rename_i l m
  have hab:yH c op t x y (.str l) (.str m)=zHr op l m:=rfl;split at h
  ·refine⟨_,?_,wB h⟩
   rw[hab];simp only[zHr,Yr]
   congr 2
   by_cases hl:l=m<;>simp[hl]
  ·refine⟨_,?_,wB h⟩
   rw[hab];simp only[zHr,Yr]
   congr 2
   by_cases hl:l=m<;>simp[hl]
  ·refine⟨_,?_,h.2⟩
   rw[hab];simp only[zHr];have:Nat.ble (kX l (kX m 0)) 4611686018427387904=true:=oC (by rw[yk,yk];have:=h.1;omega);rw[this];rfl
  ·exact jV h
 ·exact jV h
theorem zPn {op:UnOp}{a:V}{k:V->Prop}(h:zAv op a k):∃v,aun op a=some v/\k v:=by
 unfold zAv at h;split at h
 ·split at h
  ·exact⟨_,rfl,h⟩
  ·exact h.elim
 ·split at h
  ·exact⟨_,by simp only[aun,ON],h⟩
  ·obtain⟨r,h1,h2⟩:=h;exact⟨_,h1,h2⟩
 ·exact h.elim
theorem zDF {d:TypeDesc}{κ:IntKind}(h:Yy d=some κ):d = .int κ:=by
 cases d<;>simp only[Yy,oA,reduceCtorEq]at h;rw[h]
theorem zID {s d:TypeId}{h:H}{v:V}{k:V->H->Prop}(w:kV c s d h v k):∃u h',xK c s d h v=some (u,h')/\k u h':=by
 unfold kV at w;split at w
 ·rename_i κ0 n
  split at w
  ·rename_i ts td h1 h2
   split at w
   ·rename_i κ1 κ h3 h4
    refine⟨_,_,?_,w⟩;unfold xK;rw[h1,h2];simp only[zDF h3,zDF h4]
   ·exact w.elim
  ·exact w.elim
 ·split at w
  ·obtain⟨l,h',h1,h2⟩:=w;exact⟨_,_,h1,h2⟩
  ·exact w
theorem zAu {v:V}{k:Bool->Prop}(h:xJ v k):∃t,v = .bool t/\k t:=by
 cases v with
 | bool t =>
  cases t with
  | true=>exact⟨_,rfl,h⟩
  | false=>exact⟨_,rfl,h⟩
 | _=>exact h.elim
theorem zCT {t:TypeId}{h:H}{v:V}{k:V->H->Prop}(w:zAq c t h v k):∃bh,ZV h v.cells ⟨0,t+1,0⟩ false=some bh/\k (.ptr bh.1 0) bh.2:=by
 unfold zAq at w;split at w
 ·split at w
  ·unfold wh at w
   split at w
   ·rename_i cs h1
    obtain⟨h2,h3⟩:=w;refine⟨(h.nx,h.new (.cells cs ⟨0,t+1,0⟩ true false)),?_,h3 _ _ rfl rfl⟩;unfold ZV qV;cases ha:zL v.cells with
    | false=>rw[ha]at h1;cases h1
    | true =>
     rw[ha,oK]at h1;rw[oK,(zY _ _).2 h2,oK,h1]
   ·exact w.elim
  ·obtain⟨h1,h2,h3⟩:=w
   refine⟨(h.nx,h.new (.cells (.ls [v]) ⟨0,t+1,0⟩ true false)),?_,h3 _ _ rfl rfl⟩;have hc:v.cells=[v]:=by cases v<;>first|rfl|cases h1
   have ha:zL v.cells=true:=by rw[hc];unfold zL;rw[h1];rfl
   unfold ZV qV;rw[ha,oK,(zY _ _).2 h2,oK,hc];rfl
 ·exact w.elim
theorem zCU {ot:TypeId}{r:Option V}{k:V->Prop}(h:xk c ot r k):∃v,r=some v/\k v:=by
 unfold xk at h;split at h
 ·rename_i u
  split at h
  ·exact⟨u,rfl,zAc h⟩
  ·exact⟨u,rfl,h⟩
 ·exact h.elim
theorem YV {mx:Bool}{l:List V}{k:V->Prop}(h:Kb mx l k):∃v l' u,l=v::l'/\qt mx v l'=some u/\k u:=by
 unfold Kb at h;split at h
 ·rename_i κ a κ' b
  refine⟨_,_,_,rfl,?_,h⟩;simp only[qt,yg];cases mx with
  | true =>
   simp only[oK,if_true];by_cases hab:a<b
   ·simp only[hab,decide_true,oK];rw[show max a b=b from by omega]
   ·simp only[hab,decide_false,oM];rw[show max a b=a from by omega]
  | false =>
   simp only[oM,Bool.false_eq_true,if_false];by_cases hab:b<a
   ·simp only[hab,decide_true,oK];rw[show min a b=b from by omega]
   ·simp only[hab,decide_false,oM];rw[show min a b=a from by omega]
 ·obtain⟨u,h1,h2⟩:=h;exact⟨_,_,u,rfl,h1,h2⟩
 ·exact h.elim
theorem zL4 {t:TypeId}{h:H}{v:V}{k:V->Prop}(w:zCS c t h v k):∃u,zm c t h v=some u/\k u:=by
 unfold zCS at w;split at w
 ·rename_i hs
  unfold z1W at w;split at w
  ·rename_i l
   unfold zHs at hs;split at hs
   ·rename_i ti hti
    split at hs
    ·rename_i hd
     refine⟨.int .i64 (.ofNat (kX l 0)),?_,by rw[yk,Nat.add_zero];exact w⟩;unfold zm;rw[hti];simp only[hd]
    ·cases hs
   ·cases hs
  ·exact w.elim
 ·obtain⟨x,w1,w2⟩:=w;exact⟨_,w1,w2⟩
theorem zB4 {b:Builtin}{cl:Call}{ot:TypeId}{e:Operand->Option V}{h:H}{k:V->H->Prop}{args:List V}(hc:cl.callee = .builtin b) (ha:ZP e cl.args.toList=some args)
  (w:kF c b ot h k (xN c cl e h) args cl.argTypes.toList):anK P c h k (xN c cl e h):=by
 have hg:∀(g:Option AN),(∃v h',g=some (.val v h')/\qZ c ot k v h')->anK P c h k g:=by
  rintro g ⟨v,h',rfl,hk⟩;exact Zm hk
 generalize hl:cl.argTypes.toList=ts at w;unfold kF at w;split at w
 ·rename_i x t
  split at w
  ·obtain⟨u,h1,h2⟩:=zL4 w
   unfold xN;rw[ha,hc,hl];exact xY ⟨u,h1,h2⟩
  ·exact hg _ w
 ·rename_i s x t tx
  split at w
  ·obtain⟨_,w2⟩:=w
   unfold xN;rw[ha,hc,hl];exact ZT w2
  ·obtain⟨x',h',w1,w2⟩:=w
   unfold xN;rw[ha,hc,hl];exact ZT ⟨_,_,w1,w2⟩
  ·obtain⟨v,l',u,h0,h1,h2⟩:=YV w
   unfold xN;rw[ha,hc,h0];exact xY ⟨u,h1,h2⟩
  ·obtain⟨v,l',u,h0,h1,h2⟩:=YV w
   unfold xN;rw[ha,hc,h0];exact xY ⟨u,h1,h2⟩
  ·exact hg _ w
 ·split at w
  ·obtain⟨v,l',u,h0,h1,h2⟩:=YV w
   unfold xN;rw[ha,hc,h0];exact xY ⟨u,h1,h2⟩
  ·obtain⟨v,l',u,h0,h1,h2⟩:=YV w
   unfold xN;rw[ha,hc,h0];exact xY ⟨u,h1,h2⟩
  ·exact hg _ w
theorem zIC {cl:Call}{ot:TypeId}{e:Operand->Option V}{h:H}{k:V->H->Prop}(w:KB c P cl ot e h k):anK P c h k (xN c cl e h):=by
 unfold KB at w;cases ha:ZP e cl.args.toList with
 | none=>rw[ha]at w;exact w.elim
 | some args =>
  rw[ha]at w;cases hc:cl.callee with
  | value f =>
   simp only[hc]at w;have hac:xN c cl e h=(match e f with|some (.func (.func g) first captured)=>qi c h g first args captured|some (.yield l)=>some (.round l args)|_=>none):=by
    unfold xN;rw[ha,hc];rfl
   rw[hac];cases hf:e f with
   | none=>rw[hf]at w;exact w.elim
   | some v =>
    rw[hf]at w;have w:yT c P ot h k args v:=w;unfold yT at w;split at w
    ·rename_i g first captured _
     show anK P c h k (qi c h g first args captured);generalize qi c h g first args captured=r at w
     cases r with
     | none=>exact w.elim
     | some an =>
      cases an<;>first|exact w|exact w.elim|exact RF.mono w λ_ _ h1=>Zm h1
    ·exact RR.mono w λ_ _ h1=>Zm h1
    ·exact w.elim
  | builtin b =>
   simp only[hc]at w;exact zB4 hc ha w
  | invoke r name =>
   simp only[hc]at w;unfold xN;rw[ha];simp only[hc];cases hr:e r with
   | none=>rw[hr]at w;exact w.elim
   | some x =>
    rw[hr]at w;cases x<;>first|exact w.elim|skip
    simp only at w ⊢;split at w
    ·rename_i he
     rw[he];exact RF.mono w λ_ _ h1=>Zm h1
    ·rename_i he
     obtain⟨u,hu,w⟩:=w;rw[he];simp only[hu];exact RF.mono w λ_ _ h1=>Zm h1
    ·exact w.elim
theorem zPi {t:TypeId}{f:Nat}{o:Oper}{e:Operand->Option V}{x:Operand}{h:H}{p:V}{k:V->H->Prop}(ho:o.op = .fieldAddr t x f) (hx:e x=some p) (w:zS c t f h p k):anK P c h k (zh c o e h):=by
 unfold zh;rw[ho];simp only[hx];unfold zS at w;split at w
 ·rename_i b off
  split at w
  ·rename_i ti hti
   rw[hti];split at w
   ·rename_i fs hd
    simp only[hd];split at w
    ·rename_i fd hfd
     simp only[hfd];split at w
     ·rename_i tf htf
      split at w
      ·rename_i hs
       unfold afa;rw[htf];simp only[(zY _ _).2 hs,oK];exact w
      ·exact w.elim
     ·exact w.elim
    ·exact w.elim
   ·exact w.elim
  ·exact w.elim
 ·exact w.elim
theorem qe {o:Oper}{e:Operand->Option V}{h:H}{k:V->H->Prop}(w:zDs c P o e h k):anK P c h k (zh c o e h):=by
 have gen:(∃v h',zh c o e h=some (.val v h')/\k v h')->anK P c h k (zh c o e h):=by
  rintro⟨v,h',h1,h2⟩;rw[h1];exact h2
 unfold zDs at w;cases ho:o.op<;>simp only[ho]at w<;>first|exact gen w|skip
 case move x =>
  unfold zh;rw[ho];simp only;cases hx:e x with
  | none=>rw[hx]at w;exact w.elim
  | some v=>rw[hx]at w;exact w
 case assign x =>
  unfold zh;rw[ho];simp only;cases hx:e x with
  | none=>rw[hx]at w;exact w.elim
  | some v=>rw[hx]at w;exact w
 case pick cc a b =>
  unfold zh;rw[ho];simp only;cases hc:e cc with
  | none=>rw[hc]at w;exact w.elim
  | some v =>
   cases hx:e a with
   | none=>rw[hc,hx]at w;exact w.elim
   | some x =>
    cases hy:e b with
    | none=>rw[hc,hx,hy]at w;exact w.elim
    | some y =>
     rw[hc,hx,hy]at w;obtain⟨t,rfl,h2⟩:=zAu w;simp only;exact xY ⟨_,by cases t<;>rfl,h2⟩
 case alloc t =>
  unfold zh;rw[ho];simp only;split at w
  ·rename_i ti hti
   split at w
   ·rename_i z hz
    obtain⟨bh,h1,h2⟩:=zCT w;rw[hti];simp only[hz,h1];exact h2
   ·exact w.elim
  ·exact w.elim
 case box t x =>
  unfold zh;rw[ho];simp only;split at w
  ·rename_i v hv
   obtain⟨bh,h1,h2⟩:=zCT w;rw[hv];simp only[h1];exact h2
  ·exact w.elim
 case build t ps =>
  unfold zh;rw[ho];simp only;split at w
  ·rename_i l hl;rw[hl];exact xY (zCU w)
  ·exact w.elim
 case buildSlice t n ps =>
  unfold zh;rw[ho];simp only;split at w
  ·rename_i l hl;rw[hl];exact ZT w
  ·exact w.elim
 case makeInterface t x =>
  unfold zh;rw[ho];simp only;split at w
  ·rename_i ti v h1 h2
   split at w
   ·exact w.elim
   ·rename_i hd
    rw[h1,h2];simp only;cases hdd:ti.desc<;>rw[hdd]at hd<;>first|(cases hd;done)|exact w
  ·exact w.elim
 case makeSlice t l m =>
  unfold zh;rw[ho];simp only;split at w
  ·rename_i a b ha hb;rw[ha,hb];exact ZT w
  ·exact w.elim
 case load t a =>
  unfold zh;rw[ho];simp only;split at w
  ·rename_i p hp;rw[hp];exact xY (jV w)
  ·exact w.elim
 case store t a x =>
  unfold zh;rw[ho];simp only;split at w
  ·rename_i p v hp hv
   obtain⟨h',h1,h2⟩:=w;rw[hp,hv];simp only[h1];exact h2
  ·exact w.elim
 case binOp op t x y t2 =>
  unfold zh;rw[ho];simp only;split at w
  ·rename_i a b ha hb;rw[ha,hb];exact xY (zL1 w)
  ·exact w.elim
 case unOp op t x =>
  unfold zh;rw[ho];simp only;split at w
  ·rename_i a ha;rw[ha];exact xY (zPn w)
  ·exact w.elim
 case convert s d x =>
  unfold zh;rw[ho];simp only;split at w
  ·rename_i a ha;rw[ha];exact ZT (zID w)
  ·exact w.elim
 case makeFunc f first captured =>
  cases f with
  | func g =>
   unfold zh;rw[ho];simp only at w ⊢;split at w
   ·rename_i a b ha hb;rw[ha,hb];exact w
   ·exact w.elim
  | _=>exact gen w
 case slice t x lo hi mx =>
  unfold zh;rw[ho];simp only;split at w
  ·rename_i v a b m h1 h2 h3 h4;rw[h1,h2,h3,h4];exact xY (jV w)
  ·exact w.elim
 case fieldAddr t x f =>
  split at w
  ·rename_i p hp;exact zPi ho hp w
  ·exact w.elim
 case field t x f =>
  unfold zh;rw[ho];simp only;split at w
  ·rename_i v hv;rw[hv];exact xY (zCU w)
  ·exact w.elim
 case indexAddr t x ix =>
  unfold zh;rw[ho];simp only;split at w
  ·rename_i a i ha hi
   obtain⟨pb,po,h1,h2⟩:=w;rw[ha,hi];exact xY ⟨_,h1,h2⟩
  ·exact w.elim
 case index t x ix =>
  unfold zh;rw[ho];simp only;split at w
  ·rename_i a i ha hi;rw[ha,hi];exact xY (jV w)
  ·exact w.elim
 case lookup t x i ok =>
  unfold zh;rw[ho];simp only;split at w
  ·rename_i a b ha hb;rw[ha,hb];exact xY (jV w)
  ·exact w.elim
 case mapUpdate t m x v =>
  unfold zh;rw[ho];simp only;split at w
  ·rename_i a b d ha hb hd
   obtain⟨h',h1,h2⟩:=w;rw[ha,hb,hd];simp only[h1];exact h2
  ·exact w.elim
 case extract x i =>
  unfold zh;rw[ho];simp only;split at w
  ·rename_i v hv
   rw[hv];unfold Zz at w;split at w
   ·rename_i l
    simp only;split at w
    ·rename_i u hu
     rw[hu];split at w
     ·exact zAc w
     ·exact w
    ·exact w.elim
   ·exact w.elim
  ·exact w.elim
 case call cl =>
  have:zh c o e h=xN c cl e h:=by unfold zh;rw[ho]
  rw[this];exact zIC w
theorem zYW {b:Bool}{d:Option Tmp}{s:St}{kk:St->Prop}{Q:AX->St->Prop}{r:Option AN}(h:anK P c s.heap (λv h=>wp d v s h kk) r):wpA P c b d s kk Q r:=by
 cases r with
 | none=>exact h.elim
 | some an =>
  cases an<;>first|exact h|exact h.elim
def wn (o:Oper):Oper:={ dst:=o.dst,op:=o.op,type:=o.type,pos := "",after:=#[],guard:=o.guard }
def wq:Code->Code
 | .region id ops false=>.region id ⟨ops.toList.map wn⟩ false
 | .seq x y=>.seq (wq x) (wq y)
 | .cond o x y=>.cond o (wq x) (wq y)
 | .block id x=>.block id (wq x)
 | .loop x=>.loop (wq x)
 | .scope x=>.scope (wq x)
 | x=>x
theorem zZL (o:Oper) (e:Operand->Option V) (h:H):zh c (wn o) e h=zh c o e h:=rfl
theorem zGQ (ops:List Oper) (tm:Tm) (o:Oper):zU (ops.map wn) tm (wn o)=zU ops tm o:=by
 unfold zU;show(match o.guard with|none=>_|some (j,w)=>_)=_
 cases o.guard with
 | none=>rfl
 | some g =>
  obtain⟨j,w⟩:=g;simp only[oW];cases ops[j]? with
  | none=>rfl
  | some o'=>rfl
theorem zL5 (ok:CtxOK P c) {b:Bool}{ops:Array Oper}:∀(l:List Oper) {s:St}{Q:AX->St->Prop},YW P c b (ops.toList.map wn) (l.map wn) s Q->∃x s',SimO P b ops l s x s'/\Q x s':=by
 intro l
 induction l with
 | nil=>intro s Q h;exact⟨_,_,SimO.nil,h⟩
 | cons o l ih =>
  intro s Q h;simp only[List.map_cons,YW,zGQ]at h;have go:∀{s1:St},StepW P b o s .normal s1->zU ops.toList s.tm o=true->YW P c b (ops.toList.map wn) (l.map wn) s1 Q->∃x s',SimO P b ops (o::l) s x s'/\Q x s':=by
   intro s1 hs hw hk;obtain⟨x,s',h1,h2⟩:=ih hk;exact⟨x,s',SimO.step hw hs h1,h2⟩
  split at h
  ·rename_i hw
   have h:wpA P c b o.dst s (λs'=>YW P c b (ops.toList.map wn) (l.map wn) s' Q) Q (zh c o (zz s.tm) s.heap):=by
    split at h
    ·exact h.elim
    ·split at h
     ·exact h
     ·exact zYW (qe h)
   cases ha:zh c o (zz s.tm) s.heap with
   | none=>rw[ha]at h;exact h.elim
   | some an =>
    rw[ha]at h;cases an with
    | val v h' =>
     have h:wp o.dst v s h' (λs'=>YW P c b (ops.toList.map wn) (l.map wn) s' Q):=h
     obtain⟨s1,hp,hk⟩:=yS h;exact go (StepW.of_step ok jy Yx (by unfold zV;simp only[ha,hp])) hw hk
    | skip h' =>
     have h:wp o.dst zB s h' (λs'=>YW P c b (ops.toList.map wn) (l.map wn) s' Q):=h
     obtain⟨s1,hp,hk⟩:=yS h;exact go (StepW.of_step ok jy Yx (by unfold zV;simp only[ha,hp])) hw hk
    | call f args =>
     obtain⟨v,h',⟨hf,hs⟩,hq⟩:=h;have hq:wp o.dst v s h' (λs'=>YW P c b (ops.toList.map wn) (l.map wn) s' Q):=hq
     obtain⟨s1,hp,hk⟩:=yS hq;exact go (StepW.call ok ha hf hs hp) hw hk
    | round lp args =>
     obtain⟨v,h',hs,hq⟩:=h;have hq:wp o.dst v s h' (λs'=>YW P c b (ops.toList.map wn) (l.map wn) s' Q):=hq
     obtain⟨s1,hp,hk⟩:=yS hq;exact go (StepW.round ok ha hs hp) hw hk
    | dfr ad =>
     obtain⟨hb,hq⟩:=h;obtain⟨s1,hp,hk⟩:=yS hq;have hst:zV c XE b ws o s=some (.normal,s1):=by
      unfold zV;rw[ha];show cond b none (match yW ⟨s.n,s.tm,ad::s.dfr,s.heap⟩ o.dst zB s.heap with|some s'=>some (AX.normal,s')|none=>none)=_
      rw[hb,oM,hp]
     exact go (StepW.of_step ok jy Yx hst) hw hk
    | recover=>exact h.elim
    | pan v h'=>exact⟨_,_,SimO.out hw (StepW.of_step ok jy Yx (by unfold zV;simp only[ha])),h⟩
  ·rename_i hw
   have hw:zU ops.toList s.tm o=false:=by simpa using hw
   obtain⟨s1,hp,hk⟩:=yS h;obtain⟨x,s',h1,h2⟩:=ih hk;exact⟨x,s',SimO.off hw hp h1,h2⟩
theorem RC.region (ok:CtxOK P c) {b:Bool}{id:Nat}{ops:Array Oper}{s:St}{Q:AX->St->Prop}(h:YW P c b (ops.toList.map wn) (ops.toList.map wn) s Q):RC P b (.region id ops false) s Q:=by
 obtain⟨x,s',h1,h2⟩:=zL5 ok _ h;refine⟨x,s',λrd hrd ρ D w a k hl=>?_,h2⟩
 exact wpIn_region (h1 rd hrd _ (zHN ops) k.hr.lt hl (Mv.refl _ _ _ _) (by rw[ze];exact k))
theorem RC.seq {b:Bool}{x y:Code}{s:St}{Q:AX->St->Prop}(h:RC P b x s λe s1=>match e with | .normal=>RC P b y s1 Q|e=>Q e s1):RC P b (.seq x y) s Q:=by
 obtain⟨e,s1,h1,h2⟩:=h;cases e with
 | normal =>
  obtain⟨e2,s2,h3,h4⟩:=h2;exact⟨e2,s2,λrd hrd=>SimC.seq (h1 rd hrd) (h3 rd hrd),h4⟩
 | _=>exact⟨_,s1,λrd hrd=>SimC.seq_out (h1 rd hrd) (by intro h;cases h),h2⟩
theorem RC.cond {b:Bool}{o:Operand}{x y:Code}{s:St}{Q:AX->St->Prop}{t:Bool}(ho:zz s.tm o=some (.bool t)) (h:RC P b (cond t x y) s Q):RC P b (.cond o x y) s Q:=by
 obtain⟨e,s1,h1,h2⟩:=h;exact⟨e,s1,λrd hrd=>SimC.cond ho (h1 rd hrd),h2⟩
def zc (id:Nat):AX->AX
 | .exit i=>if i=id then .normal else .exit i
 | e=>e
theorem RC.block {b:Bool}{id:Nat}{x:Code}{s:St}{Q:AX->St->Prop}(h:RC P b x s λe s1=>Q (zc id e) s1):RC P b (.block id x) s Q:=by
 obtain⟨e,s1,h1,h2⟩:=h;refine⟨zc id e,s1,λrd hrd=>?_,h2⟩
 have:=SimC.block (id:=id) (h1 rd hrd);cases e<;>exact this
theorem RC.loop {b:Bool}{x:Code}{Q:AX->St->Prop}(I:Nat->St->Prop) (hI:∀k s,I k s->RC P b x s λe s1=>match e with | .normal=>∃j,j<k/\I j s1|e=>Q e s1) :
  ∀k s,I k s->RC P b (.loop x) s Q:=by
 have key:∀k s,I k s->∃e s1,(∀rd:Option Nat,rd.isSome=b->SimL P rd x s e s1)/\Q e s1:=by
  intro k
  induction k using Nat.strongRecOn with
  | _ k ih =>
   intro s hi;obtain⟨e,s1,h1,h2⟩:=hI k s hi;cases e with
   | normal =>
    obtain⟨j,hj,hi2⟩:=h2;obtain⟨e2,s2,h3,h4⟩:=ih j hj s1 hi2;exact⟨e2,s2,λrd hrd=>SimL.nx (h1 rd hrd) (h3 rd hrd),h4⟩
   | _=>exact⟨_,s1,λrd hrd=>SimL.last (h1 rd hrd) (by intro h;cases h),h2⟩
 intro k s hi;obtain⟨e,s1,h1,h2⟩:=key k s hi;exact⟨e,s1,λrd hrd=>SimL.loop (h1 rd hrd),h2⟩
theorem RC.rangeFunc (ok:CtxOK P c) {f:Operand}{params:Array Tmp}{assign body:Code}{s:St}{Q:AX->St->Prop}{g:Nat}{first captured:List V}
  (hf:zz s.tm f=some (.func (.func g) first captured)) (hn:s.heap.nx+1<T.top)
  (h:RF P c g (first++(.yield (s.heap.nx+1)::captured)) ((s.heap.new (.deferred true)).new (.loop .ready none s.n s.tm params assign body s.heap.nx))
   λ_ h3=>match qX s.heap.nx (s.heap.nx+1) s h3 with|some (.done x s')=>Q x s'|none=>False):RC P false (.rangeFunc f params assign body) s Q:=by
 obtain⟨v,h3,⟨hfn,hs⟩,hq⟩:=h;cases he:qX s.heap.nx (s.heap.nx+1) s h3 with
 | none=>rw[he]at hq;exact hq.elim
 | some out =>
  obtain⟨x,s'⟩:=out;rw[he]at hq;refine⟨x,s',λrd hrd=>?_,hq⟩
  have hrn:rd=none:=by cases rd with|none=>rfl|some l=>simp at hrd
  subst hrn;refine zDd (orc:=zBU g (first++(.yield (s.heap.nx+1)::captured)) ((s.heap.new (.deferred true)).new (.loop .ready none s.n s.tm params assign body s.heap.nx)) v h3) (ih:=ws) ok (Xr hfn hs) Yx ?_;unfold zHf;rw[hf];have:(Option.isSome (none:Option Nat) || !(Nat.blt (s.heap.nx+1) T.top))=false:=by
   rw[(zY _ _).2 hn];rfl
  simp only[this,oM];unfold wx;rw[Xq];exact he
theorem RR.intro {l:Nat}{args:List V}{h:H}{Q:V->H->Prop}{pend:Option Code}{n:Nat}{tm tm':Tm}{params:Array Tmp}{assign body:Code}{df:Nat}(hl:l<T.top)
  (hg:h.get l=some (.loop .ready pend n tm params assign body df)) (hs:wH params.toList args n tm=some tm')
  (ha:RC P true assign ⟨n,tm',[],h⟩ λe s1=>e = .normal/\∃pend1 n1 tm1 ps1 as1 bd1 df1,s1.heap.get l=some (.loop .ready pend1 n1 tm1 ps1 as1 bd1 df1) /\
   RC P true body ⟨s1.n,s1.tm,s1.dfr,s1.heap.upd l (some (.loop .busy pend1 n1 tm1 ps1 as1 bd1 df1))⟩ λe2 s2=>match jf l e2 s2 with|some (.ret v h')=>Q v h'|_=>False):RR P l args h Q:=by
 obtain⟨e,s1,h1,rfl,pend1,n1,tm1,ps1,as1,bd1,df1,hg1,e2,s2,h2,hq⟩:=ha;cases hr:jf l e2 s2 with
 | none=>rw[hr]at hq;exact hq.elim
 | some out =>
  rw[hr]at hq;cases out with
  | panic v h'=>exact hq.elim
  | ret v h' =>
   refine⟨v,h',?_,hq⟩
   classical
   let sB:St:=⟨s1.n,s1.tm,s1.dfr,s1.heap.upd l (some (.loop .busy pend1 n1 tm1 ps1 as1 bd1 df1))⟩
   let sA:St:=⟨n,tm',[],h⟩
   let ih:Bool->Code->St->Option Out:=λb2 c2 s3=>match ih1 true body sB e2 s2 b2 c2 s3 with|some r=>some r|none=>ih1 true assign sA .normal s1 b2 c2 s3
   have hih:j6 P ih:=by
    intro rd c2 s3 x3 s4 e3;have hB:=zAD (P:=P) h2;have hA:=zAD (P:=P) h1;simp only[ih]at e3;split at e3
    ·rename_i r hr3
     exact hB rd c2 s3 x3 s4 (by rw[hr3];exact e3)
    ·exact hA rd c2 s3 x3 s4 e3
   refine ZA (ih:=ih) hih ?_;have hBat:ih true body sB=some (.done e2 s2):=by simp only[ih];rw[zAC]
   have hAat:ih true assign sA=some (.done .normal s1)\/(body=assign/\sB=sA):=by
    by_cases hc:body=assign/\sB=sA
    ·exact .inr hc
    ·refine .inl ?_
     simp only[ih];have:ih1 true body sB e2 s2 true assign sA=none:=by
      unfold ih1;rw[if_neg];rintro⟨_,h3,h4⟩;exact hc ⟨h3.symm,h4.symm⟩
     rw[this];exact zAC _ _ _ _ _
   have hbody:ih true body sB=some (.done e2 s2):=hBat;unfold XI;rw[hg];simp only[hs];rcases hAat with hA|⟨hc1,hc2⟩
   ·rw[show(⟨n,tm',[],h⟩:St)=sA from rfl,hA]
    simp only;unfold Jp;rw[hg1];simp only;rw[show(⟨s1.n,s1.tm,s1.dfr,s1.heap.upd l (some (.loop .busy pend1 n1 tm1 ps1 as1 bd1 df1))⟩:St)=sB from rfl,hbody];exact hr
   ·exfalso
    have h5:sB.heap=sA.heap:=by rw[hc2]
    have h6:(s1.heap.upd l (some (.loop .busy pend1 n1 tm1 ps1 as1 bd1 df1))).get l=h.get l:=by
     show sB.heap.get l=sA.heap.get l;rw[h5]
    rw[H.get_upd _ _ _ _ hl,if_pos rfl,hg]at h6;simp at h6
section mono
variable {P:Program}{c:Ctx}
mutual
theorem Zp:∀(z:V) {k k':V->Prop},(∀v,k v->k' v)->Jv z k->Jv z k'
 | .int _ _,_,_,h,⟨x,e⟩ | .bool _,_,_,h,⟨x,e⟩ | .str _,_,_,h,⟨x,e⟩ | .ptr _ _,_,_,h,⟨x,e⟩ | .nilptr,_,_,h,⟨x,e⟩ | .slice _ _ _ _,_,_,h,⟨x,e⟩ | .nilslice,_,_,h,⟨x,e⟩
 | .map _,_,_,h,⟨x,e⟩ | .nilmap,_,_,h,⟨x,e⟩ | .func _ _ _,_,_,h,⟨x,e⟩ | .yield _,_,_,h,⟨x,e⟩ | .nilFunc,_,_,h,⟨x,e⟩ | .iface _ _,_,_,h,⟨x,e⟩ | .nilIface,_,_,h,⟨x,e⟩ | .tuple _,_,_,h,⟨x,e⟩=>⟨x,h _ e⟩
 | .agg zs,_,_,h,e=>JF zs (λ_=>h _) e
theorem JF:∀(zs:List V) {k k':List V->Prop},(∀v,k v->k' v)->JE zs k->JE zs k'
 | [],_,_,h,e=>h _ e
 | z::zs,_,_,h,e=>Zp z (λ_=>JF zs λ_=>h _) e
end
theorem zGC {t:TypeId}{k k':V->Prop}(h:∀v,k v->k' v) (e:Ju c t k):Ju c t k':=by
 unfold Ju at e ⊢;split
 ·rename_i ti hti
  rw[hti]at e;simp only at e;split
  ·rename_i z hz;rw[hz]at e;exact Zp z h e
  ·rename_i hz;rw[hz]at e;obtain⟨v,e⟩:=e;exact⟨v,h _ e⟩
 ·rename_i hti;rw[hti]at e;obtain⟨v,e⟩:=e;exact⟨v,h _ e⟩
theorem zDi:∀{ts:List TypeId}{k k':List V->Prop},(∀v,k v->k' v)->JD c ts k->JD c ts k':=by
 intro ts
 induction ts with
 | nil=>intro k k' h e;exact h _ e
 | cons t ts ih=>intro k k' h e;exact zGC (λv=>ih λvs=>h _) e
theorem K0 {t:Bool}{k k':V->Prop}(h:∀v,k v->k' v) (e:zAb t k):zAb t k':=⟨λg=>h _ (e.1 g),λg=>h _ (e.2 g)⟩
theorem K1 {p:Prop}{k k':V->Prop}(h:∀v,k v->k' v) (e:jX p k):jX p k':=⟨λg=>h _ (e.1 g),λg=>h _ (e.2 g)⟩
theorem K2 {v:V}{k k':V->Prop}(h:∀v,k v->k' v) (e:XM v k):XM v k':=by
 cases v<;>first|exact K0 h e|exact h _ e
theorem KZ {t:TypeId}{q k k':V->Prop}(h:∀v,k v->k' v) (e:XL c t q k):XL c t q k':=by
 unfold XL at e ⊢;cases hti:c.ty.get t with
 | none=>rw[hti]at e;obtain⟨v,e1,e2⟩:=e;exact⟨v,e1,h _ e2⟩
 | some ti =>
  rw[hti]at e;simp only at e ⊢;cases htd:z11 ti.desc with
  | some ts=>rw[htd]at e;exact zDi (λvs e=>⟨e.1,h _ e.2⟩) e
  | none =>
   rw[htd]at e;simp only at e ⊢;cases hz:ti.zero with
   | none=>rw[hz]at e;obtain⟨v,e1,e2⟩:=e;exact⟨v,e1,h _ e2⟩
   | some z =>
    rw[hz]at e;simp only at e ⊢;cases z<;>first
     | (obtain⟨t,e1,e2⟩:=e;exact⟨t,e1,K0 h e2⟩)
     | exact Zp _ (λv (e:_/\_)=>⟨e.1,h _ e.2⟩) e
theorem wm {t:TypeId}{r:Option V}{k k':V->Prop}(h:∀v,k v->k' v) (e:ZC c t r k):ZC c t r k':=KZ h e
theorem q7 {t:TypeId}{k k':V->H->Prop}(h:∀v w,k v w->k' v w) {v:V}{w:H}(e:qZ c t k v w):qZ c t k' v w:=KZ (λu=>h u w) e
theorem zIB {op:BinOp}{t ot:TypeId}{x y:Operand}{a b:V}{k k':V->Prop}(h:∀v,k v->k' v) (e:wY c op t x y ot a b k):wY c op t x y ot a b k':=by
 cases a<;>cases b<;>first
  | exact wm h e
  | skip
 ·rename_i κ m κ' n
  have e:(if jF op=true\/wa κ κ'=true then _ else False):=e;show(if jF op=true\/wa κ κ'=true then _ else False);by_cases hc:jF op=true\/wa κ κ'=true
  ·rw[if_pos hc]at e ⊢
   cases op<;>first|exact h _ e|exact K1 h e|exact⟨e.1,h _ e.2⟩|(obtain⟨r,e1,e2⟩:=e;exact⟨r,e1,h _ e2⟩)
  ·rw[if_neg hc]at e;exact e.elim
 ·cases op<;>first|exact K1 h e|exact⟨e.1,h _ e.2⟩|exact wm h e
theorem zL7 {op:UnOp}{a:V}{k k':V->Prop}(h:∀v,k v->k' v) (e:zAv op a k):zAv op a k':=by
 cases a<;>first|exact e.elim|skip
 ·cases op<;>first|exact h _ e|exact e.elim
 ·cases op<;>first|exact h _ e|(obtain⟨r,e1,e2⟩:=e;exact⟨r,e1,h _ e2⟩)
theorem zGV {s d:TypeId}{w:H}{v:V}{k k':V->H->Prop}(h:∀v w,k v w->k' v w) (e:kV c s d w v k):kV c s d w v k':=by
 have gen:(match zHs c d with|true=>∃l h',xK c s d w v=some (.str l,h')/\k (.str l) h'|false=>∃u h',xK c s d w v=some (u,h')/\k u h') ->
   (match zHs c d with|true=>∃l h',xK c s d w v=some (.str l,h')/\k' (.str l) h'|false=>∃u h',xK c s d w v=some (u,h')/\k' u h'):=by
  cases zHs c d<;>(rintro⟨x,y,e1,e2⟩;exact⟨x,y,e1,h _ _ e2⟩)
 cases v<;>first|exact gen e|skip
 rename_i κ n;have e:(match c.ty.get s,c.ty.get d with|some ts,some td=>(match Yy ts.desc,Yy td.desc with|some _,some κ=>k (.int κ (zT κ n)) w|_,_=>False)|_,_=>False):=e
 show(match c.ty.get s,c.ty.get d with|some ts,some td=>(match Yy ts.desc,Yy td.desc with|some _,some κ=>k' (.int κ (zT κ n)) w|_,_=>False)|_,_=>False)
 cases h1:c.ty.get s with
 | none=>rw[h1]at e;exact False.elim e
 | some ts =>
  cases h2:c.ty.get d with
  | none=>rw[h1,h2]at e;exact False.elim e
  | some td =>
   rw[h1,h2]at e;have e:(match Yy ts.desc,Yy td.desc with|some _,some κ=>k (.int κ (zT κ n)) w|_,_=>False):=e
   show(match Yy ts.desc,Yy td.desc with|some _,some κ=>k' (.int κ (zT κ n)) w|_,_=>False)
   cases h3:Yy ts.desc with
   | none=>rw[h3]at e;exact False.elim e
   | some κ1 =>
    cases h4:Yy td.desc with
    | none=>rw[h3,h4]at e;exact False.elim e
    | some κ2=>rw[h3,h4]at e;exact h _ _ e
theorem zL3 {t:TypeId}{f:Nat}{w:H}{v:V}{k k':V->H->Prop}(h:∀v w,k v w->k' v w) (e:zS c t f w v k):zS c t f w v k':=by
 cases v<;>first|exact e.elim|skip
 unfold zS at e ⊢;simp only at e ⊢;cases hti:c.ty.get t with
 | none=>rw[hti]at e;exact e
 | some ti =>
  rw[hti]at e;simp only at e ⊢;cases hd:ti.desc<;>rw[hd]at e<;>first|exact e.elim|skip
  rename_i fs;simp only at e ⊢;cases hf:fs[f]? with
  | none=>rw[hf]at e;exact e
  | some fd =>
   rw[hf]at e;simp only at e ⊢;cases htf:c.ty.get fd.type with
   | none=>rw[htf]at e;exact e
   | some tf =>
    rw[htf]at e;simp only at e ⊢;split
    ·rename_i hs;rw[if_pos hs]at e;exact h _ _ e
    ·rename_i hs;rw[if_neg hs]at e;exact e
theorem zIE {i:Nat}{ot:TypeId}{v:V}{k k':V->Prop}(h:∀v,k v->k' v) (e:Zz c i ot v k):Zz c i ot v k':=by
 cases v<;>first|exact e.elim|skip
 rename_i l;unfold Zz at e ⊢;simp only at e ⊢;cases hl:l[i]? with
 | none=>rw[hl]at e;exact e
 | some u =>
  rw[hl]at e;simp only at e ⊢;cases hb:qI c ot with
  | true=>rw[hb]at e;exact K2 h e
  | false=>rw[hb]at e;exact h _ e
theorem kl {v:V}{k k':Bool->Prop}(h:∀v,k v->k' v) (e:xJ v k):xJ v k':=by
 cases v<;>first|exact e.elim|skip
 rename_i b;cases b<;>exact h _ e
theorem zAr {t:TypeId}{w:H}{v:V}{k k':V->H->Prop}(h:∀v w,k v w->k' v w) (e:zAq c t w v k):zAq c t w v k':=by
 unfold zAq at e ⊢;cases hti:c.ty.get t with
 | none=>rw[hti]at e;exact e
 | some ti =>
  rw[hti]at e;simp only at e ⊢;split
  ·rename_i ha
   rw[if_pos ha]at e;unfold wh at e ⊢;cases hcs:(cond (zL v.cells) (Cs.ofL v.cells) none)with
   | none=>rw[hcs]at e;exact e
   | some cs=>rw[hcs]at e;exact⟨e.1,λb h' g1 g2=>h _ _ (e.2 b h' g1 g2)⟩
  ·rename_i ha
   rw[if_neg ha]at e;exact⟨e.1,e.2.1,λb h' g1 g2=>h _ _ (e.2.2 b h' g1 g2)⟩
theorem zAt {ot:TypeId}{r:Option V}{k k':V->Prop}(h:∀v,k v->k' v) (e:xk c ot r k):xk c ot r k':=by
 unfold xk at e ⊢;cases r with
 | none=>exact e
 | some u =>
  simp only at e ⊢;cases hb:qI c ot with
  | true=>rw[hb]at e;exact K2 h e
  | false=>rw[hb]at e;exact h _ e
theorem zAp {mx:Bool}{l:List V}{k k':V->Prop}(h:∀v,k v->k' v) (e:Kb mx l k):Kb mx l k':=by
 rcases l with _|⟨v,_|⟨u,_|⟨x,l⟩⟩⟩
 ·exact e
 ·cases v<;>(obtain⟨u,e1,e2⟩:=e;exact⟨u,e1,h _ e2⟩)
 ·cases v<;>cases u<;>first|exact h _ e|(obtain⟨u,e1,e2⟩:=e;exact⟨u,e1,h _ e2⟩)
 ·cases v<;>cases u<;>(obtain⟨u,e1,e2⟩:=e;exact⟨u,e1,h _ e2⟩)
theorem zIG {t:TypeId}{w:H}{v:V}{k k':V->Prop}(h:∀v,k v->k' v) (e:zCS c t w v k):zCS c t w v k':=by
 unfold zCS at e ⊢;cases hs:zHs c t with
 | true=>rw[hs]at e;cases v<;>first|exact h _ e|exact e.elim
 | false=>rw[hs]at e;obtain⟨x,e1,e2⟩:=e;exact⟨x,e1,h _ e2⟩
theorem zAo {b:Builtin}{ot:TypeId}{w:H}{g:Option AN}{l:List V}{ts:List TypeId}{k k':V->H->Prop}(h:∀v w,k v w->k' v w) (e:kF c b ot w k g l ts):kF c b ot w k' g l ts:=by
 have hg:(∃v h',g=some (.val v h')/\qZ c ot k v h')->∃v h',g=some (.val v h')/\qZ c ot k' v h':=λ⟨v,h',e1,e2⟩=>⟨v,h',e1,q7 h e2⟩
 unfold kF at e ⊢;split
 ·simp only at e
  cases b<;>first|exact zIG (λv=>h v w) e|exact hg e
 ·simp only at e
  cases b<;>first|exact hg e|exact zAp (λv=>h v w) e|(obtain⟨e1,v,h',e2,e3⟩:=e;exact⟨e1,v,h',e2,h _ _ e3⟩)|(obtain⟨v,h',e2,e3⟩:=e;exact⟨v,h',e2,h _ _ e3⟩)
 ·rename_i g1 g2
  split at e
  ·exact(g1 _ _ rfl rfl).elim
  ·exact(g2 _ _ _ _ rfl rfl).elim
  ·cases b<;>first|exact hg e|exact zAp (λv=>h v w) e
theorem zL0 {ot:TypeId}{w:H}{r:Option AN}{k k':V->H->Prop}(h:∀v w,k v w->k' v w) (e:zYV c P ot w k r):zYV c P ot w k' r:=by
 cases r with
 | none=>exact e
 | some an=>cases an<;>first|exact h _ _ e|exact e.elim|exact RF.mono e λ_ _=>q7 h
theorem zDr {ot:TypeId}{w:H}{args:List V}{v:V}{k k':V->H->Prop}(h:∀v w,k v w->k' v w) (e:yT c P ot w k args v):yT c P ot w k' args v:=by
 cases v<;>first|exact e.elim|skip
 ·rename_i f _ _
  cases f<;>first|exact zL0 h e|exact e.elim
 ·exact RR.mono e λ_ _=>q7 h
theorem zGU {cl:Call}{ot:TypeId}{ev:Operand->Option V}{w:H}{k k':V->H->Prop}(h:∀v w,k v w->k' v w) (e:KB c P cl ot ev w k):KB c P cl ot ev w k':=by
 unfold KB at e ⊢;cases ha:ZP ev cl.args.toList with
 | none=>rw[ha]at e;exact e
 | some args =>
  rw[ha]at e;simp only at e ⊢;cases hc:cl.callee with
  | value f =>
   rw[hc]at e;simp only at e ⊢;cases hf:ev f with
   | none=>rw[hf]at e;exact e
   | some v=>rw[hf]at e;exact zDr h e
  | builtin b=>rw[hc]at e;exact zAo h e
  | invoke r n =>
   rw[hc]at e;simp only at e ⊢;cases hr:ev r with
   | none=>rw[hr]at e;exact e
   | some x =>
    rw[hr]at e;cases x<;>first|exact e.elim|skip
    simp only at e ⊢;split at e
    ·exact RF.mono e λ_ _=>q7 h
    ·obtain⟨u,hu,e⟩:=e
     exact⟨u,hu,RF.mono e λ_ _=>q7 h⟩
    ·exact e.elim
theorem KC {o:Oper}{ev:Operand->Option V}{w:H}{k k':V->H->Prop}(h:∀v w,k v w->k' v w) (e:zDs c P o ev w k):zDs c P o ev w k':=by
 have gen:(∃v h',zh c o ev w=some (.val v h')/\k v h')->∃v h',zh c o ev w=some (.val v h')/\k' v h':=λ⟨v,h',e1,e2⟩=>⟨v,h',e1,h _ _ e2⟩
 unfold zDs at e ⊢;cases ho:o.op<;>simp only[ho]at e ⊢<;>first|exact gen e|skip
 case move x=>cases hx:ev x with
  | none=>rw[hx]at e;exact e
  | some v=>rw[hx]at e;exact h _ _ e
 case assign x=>cases hx:ev x with
  | none=>rw[hx]at e;exact e
  | some v=>rw[hx]at e;exact h _ _ e
 case pick a b d =>
  split at e
  ·exact kl (λt=>h _ _) e
  ·exact e.elim
 case alloc t =>
  split at e
  ·split at e
   ·exact zAr h e
   ·exact e.elim
  ·exact e.elim
 case box t x =>
  split at e
  ·exact zAr h e
  ·exact e.elim
 case build t ps =>
  split at e
  ·exact zAt (λv=>h v w) e
  ·exact e.elim
 case buildSlice t n ps =>
  split at e
  ·obtain⟨v,h',e1,e2⟩:=e;exact⟨v,h',e1,h _ _ e2⟩
  ·exact e.elim
 case load t a =>
  split at e
  ·exact wm (λv=>h v w) e
  ·exact e.elim
 case store t a x =>
  split at e
  ·obtain⟨h',e1,e2⟩:=e;exact⟨h',e1,h _ _ e2⟩
  ·exact e.elim
 case binOp op t x y t2 =>
  split at e
  ·exact zIB (λv=>h v w) e
  ·exact e.elim
 case unOp op t x =>
  split at e
  ·exact zL7 (λv=>h v w) e
  ·exact e.elim
 case convert s d x =>
  split at e
  ·exact zGV h e
  ·exact e.elim
 case makeFunc f a b =>
  cases f<;>simp only at e ⊢<;>first|exact gen e|skip
  split at e
  ·exact h _ _ e
  ·exact e.elim
 case makeInterface t x =>
  split at e
  ·split at e
   ·exact e.elim
   ·exact h _ _ e
  ·exact e.elim
 case makeSlice t a b =>
  split at e
  ·obtain⟨v,h',e1,e2⟩:=e;exact⟨v,h',e1,h _ _ e2⟩
  ·exact e.elim
 case slice t x a b d =>
  split at e
  ·exact wm (λv=>h v w) e
  ·exact e.elim
 case fieldAddr t x f =>
  split at e
  ·exact zL3 h e
  ·exact e.elim
 case field t x f =>
  split at e
  ·exact zAt (λv=>h v w) e
  ·exact e.elim
 case indexAddr t x i =>
  split at e
  ·obtain⟨pb,po,e1,e2⟩:=e;exact⟨pb,po,e1,h _ _ e2⟩
  ·exact e.elim
 case index t x i =>
  split at e
  ·exact wm (λv=>h v w) e
  ·exact e.elim
 case lookup t x i ok =>
  split at e
  ·exact wm (λv=>h v w) e
  ·exact e.elim
 case mapUpdate t m x v =>
  split at e
  ·obtain⟨h',e1,e2⟩:=e;exact⟨h',e1,h _ _ e2⟩
  ·exact e.elim
 case extract x i =>
  split at e
  ·exact zIE (λv=>h v w) e
  ·exact e.elim
 case call cl=>exact zGU h e
theorem zAs {b:Bool}{ops:List Oper}:∀(l:List Oper) {s:St}{Q Q':AX->St->Prop},(∀x s',Q x s'->Q' x s')->YW P c b ops l s Q->YW P c b ops l s Q':=by
 intro l
 induction l with
 | nil=>intro s Q Q' hq h;exact hq _ _ h
 | cons o l ih =>
  intro s Q Q' hq h;have hput:∀{d v s h},wp d v s h (λs'=>YW P c b ops l s' Q)->wp d v s h (λs'=>YW P c b ops l s' Q'):=YQ λs hk=>ih hq hk
  simp only[YW]at h ⊢;split
  ·rename_i hw
   rw[if_pos hw]at h;split
   ·rename_i hpn;rw[if_pos hpn]at h;exact h
   rename_i hpn;rw[if_neg hpn]at h;split
   ·rename_i hd
    rw[if_pos hd]at h;cases ha:zh c o (zz s.tm) s.heap with
    | none=>rw[ha]at h;exact h
    | some an =>
     rw[ha]at h;cases an with
     | val v h'=>exact hput h
     | skip h'=>exact hput h
     | call f args=>exact RF.mono h λv h' h1=>hput h1
     | round lp args=>exact RR.mono h λv h' h1=>hput h1
     | dfr ad=>exact⟨h.1,hput h.2⟩
     | recover=>exact h.elim
     | pan v h'=>exact hq _ _ h
   ·rename_i hd
    rw[if_neg hd]at h;exact KC (λv w h1=>hput h1) h
  ·rename_i hw
   rw[if_neg hw]at h;exact hput h
end mono
variable (P c)
def wpDr (b:Bool) (ops:List Oper) (s:St) (Q:AX->St->Prop):Prop :=
 ∃orc m x s',xb P c orc/\yZ ops=some m/\yF c orc b ws ops (z8 ops []) m m 0 ops s=some (.done x s')/\Q x s'
variable {P c}
theorem RC.of_dr (ok:CtxOK P c) {b:Bool}{id:Nat}{ops:Array Oper}{s:St}{Q:AX->St->Prop}(h:wpDr P c b ops.toList s Q):RC P b (.region id ops true) s Q:=by
 obtain⟨orc,m,x,s',hor,hm,e,hq⟩:=h;exact⟨x,s',λrd hrd=>by subst hrd;exact zKW ok hor Yx hm e,hq⟩
theorem wpDr.mono {b:Bool}{ops:List Oper}{s:St}{Q Q':AX->St->Prop}(h:wpDr P c b ops s Q) (hq:∀x s',Q x s'->Q' x s'):wpDr P c b ops s Q':=by
 obtain⟨orc,m,x,s',hor,hm,e,h3⟩:=h;exact⟨orc,m,x,s',hor,hm,e,hq _ _ h3⟩
def zM (h:H):H:=⟨h.tbl,h.nx,T.top⟩
variable (c) in
def qy (o:Oper):Bool :=
 match o.op with
 | .move _ | .assign _ | .pick .. | .binOp .. | .unOp .. | .load .. | .field .. | .fieldAddr .. | .index .. | .indexAddr .. | .extract .. | .makeFunc .. | .slice .. | .build .. | .alloc _ | .box .. | .buildSlice .. | .makeSlice .. | .makeInterface ..=>true
 | .convert _ d _=>(match c.ty.get d with|some td=>(match Yy td.desc with|some _=>true|none=>false)|none=>false)
 | .call cl=>(match cl.callee with | .builtin .len=>true | .builtin .min=>true | .builtin .max=>true|_=>false)
 | _=>false
def yB:List Oper->List Nat
 | []=>[]
 | o::l=>(match o.op with | .call cl=>(match cl.callee with | .value (.func f)=>[f]|_=>[])|_=>[])++yB l
def wg (o:Oper):Bool :=
 match o.op with
 | .call cl=>(match cl.callee with | .value (.func _)=>true | .builtin _=>true|_=>false)
 | .panic _=>false
 | .defer _=>false
 | .sliceToArrayPointer ..=>false
 | _=>true
def xe:List Nat->Bool
 | []=>true
 | n::l=>!(Xj n l) && xe l
variable (c) in
def zCu (ops:List Oper):Bool :=
 match yZ ops with
 | some m=>(ops.take m).all (qy c) && ((ops.drop m).all wg && xe (yB (ops.drop m)))
 | none=>false
theorem zQb (t:TypeId) (h:H) (v:V):zK c t (zM h) v=zK c t h v:=by
 cases v<;>rfl
theorem zGe (t:TypeId) (h:H) (x:V) (a b d:Option V):zq c t (zM h) x a b d=zq c t h x a b d:=rfl
theorem zF2 {h h':H}{r:Option Cs}{k:Rk}{op:Bool}{b:Nat}(e:qV h r k op=some (b,h')):qV (zM h) r k op=some (b,zM h')/\h'.low=h.low/\h'.nx<=T.top:=by
 unfold qV at e ⊢;cases hb:Nat.blt h.nx T.top with
 | false=>rw[hb,oM]at e;cases e
 | true =>
  rw[hb,oK]at e;show cond (Nat.blt h.nx T.top) _ none=_/\_;rw[hb,oK];cases r with
  | none=>cases e
  | some cs =>
   simp only[oA,oB]at e;obtain⟨rfl,rfl⟩:=e;exact⟨rfl,rfl,(zY _ _).1 hb⟩
theorem OW {h h':H}{l:List V}{k:Rk}{op:Bool}{b:Nat}(e:ZV h l k op=some (b,h')):ZV (zM h) l k op=some (b,zM h')/\h'.low=h.low/\h'.nx<=T.top:=by
 unfold ZV at e ⊢;cases ha:zL l with
 | false=>rw[ha,oM]at e;cases e
 | true=>rw[ha,oK]at e;rw[oK];exact zF2 e
theorem O6 {t:TypeId}{n:Nat}{ps:List (Nat×V)}{h h':H}{v:V}(e:zF c t n ps h=some (v,h')):zF c t n ps (zM h)=some (v,zM h')/\h'.low=h.low/\h'.nx<=T.top:=by
 unfold zF at e ⊢;split at e
 ·rename_i ti hti
  split at e
  ·rename_i el hd
   split at e
   ·rename_i te hte
    split at e
    ·rename_i z hz
     cases h1:Nat.ble (n*te.size) 1048576 with
     | false=>rw[h1,oM]at e;cases e
     | true =>
      rw[h1,oK]at e;rw[oK];cases h2:wL z.cells te.size with
      | false=>rw[h2,oM]at e;cases e
      | true =>
       rw[h2,oK]at e;rw[oK];split at e
       ·rename_i r hr
        split at e
        ·rename_i b h1 hn
         simp only[oA,oB]at e;obtain⟨rfl,rfl⟩:=e;obtain⟨g1,g2,g3⟩:=OW hn;exact⟨by simp only[g1],g2,g3⟩
        ·cases e
       ·cases e
    ·cases e
   ·cases e
  ·cases e
 ·cases e
theorem zNi {t:TypeId}{a b:V}{h h':H}{v:V}(e:js c t a b h=some (v,h')):js c t a b (zM h)=some (v,zM h')/\h'.low=h.low/\h'.nx<=T.top:=by
 unfold js at e ⊢;split at e
 ·split at e
  ·rename_i l k hl hk
   split at e
   ·rename_i ti hti
    split at e
    ·rename_i el hd
     split at e
     ·rename_i te hte
      split at e
      ·rename_i z hz
       generalize hg:(Nat.ble l k && Nat.ble k 4294967296 && Nat.ble (te.bytes*k) 1099511627776 && wL z.cells te.size)=g at e ⊢;cases g with
       | false=>cases e
       | true =>
        rw[oK]at e ⊢;split at e
        ·rename_i b h1 hn
         simp only[oA,oB]at e;obtain⟨rfl,rfl⟩:=e;obtain⟨g1,g2,g3⟩:=zF2 hn;exact⟨by simp only[g1],g2,g3⟩
        ·cases e
      ·cases e
     ·cases e
    ·cases e
   ·cases e
  ·cases e
 ·cases e
theorem zIS {o:Oper}{e:Operand->Option V}{h:H}{an:AN}(hp:qy c o=true) (hn:h.nx<=T.top) (ha:zh c o e h=some an) :
  ∃v h2,an = .val v h2/\zh c o e (zM h)=some (.val v (zM h2))/\h2.low=h.low/\h2.nx<=T.top:=by
 have ofV:∀{r:Option V}{an:AN},AN.ofV r h=some an->∃v h2,an = .val v h2/\AN.ofV r (zM h)=some (.val v (zM h2))/\h2.low=h.low/\h2.nx<=T.top:=by
  intro r an e;cases r with
  | none=>cases e
  | some v=>simp only[AN.ofV,oA]at e;exact⟨v,h,e.symm,rfl,rfl,hn⟩
 have ofVH:∀{r r':Option (V×H)}{an:AN},AN.ofVH r=some an->(∀v h2,r=some (v,h2)->r'=some (v,zM h2)/\h2.low=h.low/\h2.nx<=T.top)->∃v h2,an = .val v h2/\AN.ofVH r'=some (.val v (zM h2))/\h2.low=h.low/\h2.nx<=T.top:=by
  intro r r' an e hr;cases r with
  | none=>cases e
  | some q =>
   obtain⟨v,h2⟩:=q;simp only[AN.ofVH,oA]at e;obtain⟨g1,g2,g3⟩:=hr v h2 rfl;exact⟨v,h2,e.symm,by rw[g1];rfl,g2,g3⟩
 unfold qy at hp;unfold zh at ha ⊢;cases ho:o.op<;>simp only[ho]at hp ha ⊢<;>first|(cases hp;done)|skip
 case move x=>exact ofV ha
 case assign x=>exact ofV ha
 case pick x a b =>
  cases h0:e x with
  | none=>simp[h0]at ha
  | some v=>cases v<;>simp only[h0]at ha ⊢<;>first|(cases ha;done)|exact ofV ha
 case alloc t =>
  cases h0:c.ty.get t with
  | none=>simp[h0]at ha
  | some ti =>
   simp only[h0]at ha ⊢;cases h1:ti.zero with
   | none=>simp[h1]at ha
   | some z =>
    simp only[h1]at ha ⊢;split at ha
    ·rename_i b h' hnw
     simp only[oA]at ha;obtain⟨g1,g2,g3⟩:=OW hnw;exact⟨_,_,ha.symm,by simp only[g1],g2,g3⟩
    ·cases ha
 case box t x =>
  cases h0:e x with
  | none=>simp[h0]at ha
  | some v =>
   simp only[h0]at ha ⊢;split at ha
   ·rename_i b h' hnw
    simp only[oA]at ha;obtain⟨g1,g2,g3⟩:=OW hnw;exact⟨_,_,ha.symm,by simp only[g1],g2,g3⟩
   ·cases ha
 case build t ps =>
  cases h0:evP e ps.toList with
  | none=>simp[h0]at ha
  | some v=>simp only[h0]at ha ⊢;exact ofV ha
 case buildSlice t n ps =>
  cases h0:evP e ps.toList with
  | none=>simp[h0]at ha
  | some v=>simp only[h0]at ha ⊢;exact ofVH ha λv h2 e=>O6 e
 case makeSlice t a b =>
  cases h0:e a with
  | none=>simp[h0]at ha
  | some v =>
   cases h1:e b with
   | none=>simp[h0,h1]at ha
   | some u=>simp only[h0,h1]at ha ⊢;exact ofVH ha λv h2 e=>zNi e
 case makeInterface t x =>
  cases h0:c.ty.get t with
  | none=>simp[h0]at ha
  | some ti =>
   cases h1:e x with
   | none=>simp[h0,h1]at ha
   | some v =>
    simp only[h0,h1]at ha ⊢;cases hd:ti.desc<;>simp only[hd,oA]at ha ⊢<;>first|(cases ha;done)|exact⟨_,h,ha.symm,rfl,rfl,hn⟩
 case load t a =>
  cases h0:e a with
  | none=>simp[h0]at ha
  | some v=>simp only[h0,zQb]at ha ⊢;exact ofV ha
 case binOp op t x y t2 =>
  cases h0:e x with
  | none=>simp[h0]at ha
  | some v =>
   cases h1:e y with
   | none=>simp[h0,h1]at ha
   | some v=>simp only[h0,h1]at ha ⊢;exact ofV ha
 case unOp op t x =>
  cases h0:e x with
  | none=>simp[h0]at ha
  | some v=>simp only[h0]at ha ⊢;exact ofV ha
 case field t x f =>
  cases h0:e x with
  | none=>simp[h0]at ha
  | some v=>simp only[h0]at ha ⊢;exact ofV ha
 case fieldAddr t x f =>
  cases h0:c.ty.get t with
  | none=>simp[h0]at ha
  | some ti =>
   cases h1:e x with
   | none=>simp[h0,h1]at ha
   | some v =>
    cases v<;>simp only[h0,h1]at ha ⊢<;>first|(cases ha;done)|skip
    cases hd:ti.desc<;>simp only[hd]at ha ⊢<;>first|(cases ha;done)|skip
    rename_i fs;cases hf:fs[f]? with
    | none=>simp[hf]at ha
    | some fd =>
     simp only[hf]at ha ⊢;unfold afa at ha ⊢;cases htf:c.ty.get fd.type with
     | none=>simp[htf]at ha
     | some tf =>
      simp only[htf]at ha ⊢;cases hb:Nat.blt 0 tf.size with
      | false=>rw[hb,oM]at ha;cases ha
      | true =>
       rw[hb,oK]at ha;simp only[oA]at ha;exact⟨_,h,ha.symm,by rw[oK],rfl,hn⟩
 case indexAddr t x y =>
  cases h0:e x with
  | none=>simp[h0]at ha
  | some v =>
   cases h1:e y with
   | none=>simp[h0,h1]at ha
   | some v=>simp only[h0,h1]at ha ⊢;exact ofV ha
 case index t x y =>
  cases h0:e x with
  | none=>simp[h0]at ha
  | some v =>
   cases h1:e y with
   | none=>simp[h0,h1]at ha
   | some v=>simp only[h0,h1]at ha ⊢;exact ofV ha
 case extract x i =>
  cases h0:e x with
  | none=>simp[h0]at ha
  | some v=>cases v<;>simp only[h0]at ha ⊢<;>first|(cases ha;done)|exact ofV ha
 case makeFunc f first captured =>
  cases f with
  | func g =>
   cases h0:ZP e first.toList with
   | none=>simp[h0]at ha
   | some v =>
    cases h1:ZP e captured.toList with
    | none=>simp[h0,h1]at ha
    | some v=>simp only[h0,h1,oA]at ha ⊢;exact⟨_,h,ha.symm,rfl,rfl,hn⟩
  | _=>cases ha
 case slice t x lo hi mx =>
  cases h0:e x with
  | none=>simp[h0]at ha
  | some v0 =>
   cases h1:Sim.evO e lo with
   | none=>simp[h0,h1]at ha
   | some v1 =>
    cases h2:Sim.evO e hi with
    | none=>simp[h0,h1,h2]at ha
    | some v2 =>
     cases h3:Sim.evO e mx with
     | none=>simp[h0,h1,h2,h3]at ha
     | some v3=>simp only[h0,h1,h2,h3,zGe]at ha ⊢;exact ofV ha
 case convert s d x =>
  cases h0:e x with
  | none=>simp[h0]at ha
  | some v =>
   simp only[h0]at ha ⊢;split at hp
   ·rename_i td htd
    split at hp
    ·rename_i κ hκ
     have hκ:=zDF hκ;refine ofVH ha λu h2 e=>?_
     have hall:∀h3:H,xK c s d h3 v=(match xK c s d h v with|some (u,_)=>some (u,h3)|none=>none)/\∀u h4,xK c s d h v=some (u,h4)->h4=h:=by
      intro h3;unfold xK;cases c.ty.get s with
      | none=>exact⟨rfl,λ_ _ e=>by cases e⟩
      | some ts =>
       rw[htd];dsimp only;rw[hκ];cases ts.desc<;>cases v<;>exact⟨rfl,λ_ _ e=>by cases e<;>rfl⟩
     obtain rfl:=(hall h).2 u h2 e;have h5:=(hall (zM h2)).1;rw[e]at h5;exact⟨h5,rfl,hn⟩
    ·cases hp
   ·cases hp
 case call cl =>
  split at hp
  ·rename_i hc
   unfold xN at ha ⊢;cases hl:ZP e cl.args.toList with
   | none=>simp[hl]at ha
   | some args =>
    simp only[hl,hc]at ha ⊢;generalize cl.argTypes.toList=ts at ha ⊢
    match args,ts,ha with
    | [x],[t],ha=>exact ofV ha
    | [],_,ha|_::_::_,_,ha | [_],[],ha | [_],_::_::_,ha=>cases ha
  ·rename_i hc
   unfold xN at ha ⊢;cases hl:ZP e cl.args.toList with
   | none=>simp[hl]at ha
   | some args =>
    simp only[hl,hc]at ha ⊢;cases args with
    | nil=>cases ha
    | cons x l=>exact ofV ha
  ·rename_i hc
   unfold xN at ha ⊢;cases hl:ZP e cl.args.toList with
   | none=>simp[hl]at ha
   | some args =>
    simp only[hl,hc]at ha ⊢;cases args with
    | nil=>cases ha
    | cons x l=>exact ofV ha
  ·cases hp
theorem Jy {o : Oper}{e : Operand -> Option V}{h : H}{f : Nat}{args : List V}(ht : wg o = true) (ha : zh c o e h = some (.call f args)) (he : ∀g, e (.func g) = some (.func (.func g) [] [])) : ∃cl, o.op = .call cl /\ cl.callee = .value (.func f) := by
  have nV : ∀{r : Option V}, AN.ofV r h ≠ some (.call f args) := by intro r;cases r<;>(intro e;cases e)
  have nVH : ∀{r : Option (V × H)}, AN.ofVH r ≠ some (.call f args) := by intro r;cases r<;>(intro e;cases e)
  unfold wg at ht;unfold zh at ha;cases ho : o.op<;>simp only[ho]at ht ha<;>first
    | (cases ht;done)
    | (exact absurd ha nV)
    | (exact absurd ha nVH)
    | (cases ha;done)
    | skip
  case call cl =>
    refine⟨cl, rfl, ?_⟩;unfold xN at ha;cases hl : ZP e cl.args.toList with
    | none => simp[hl]at ha
    | some as =>
      simp only[hl]at ha;cases hc : cl.callee with
      | value q =>
        simp only[hc]at ht ha;cases q with
        | func g =>
          rw[he g]at ha;simp only at ha;unfold qi at ha;cases hi : YL c g with
          | true =>
            rw[hi, oK]at ha;split at ha<;>cases ha
          | false =>
            rw[hi, oM]at ha;split at ha
            · exact absurd ha nVH
            · simp only[oA, AN.call.injEq]at ha;rw[ha.1]
        | _ => cases ht
      | builtin b =>
        simp only[hc]at ha;split at ha<;>first
          | exact absurd ha nV
          | exact absurd ha nVH
          | (cases ha;done)
          | (split at ha<;>first|exact absurd ha nVH|(cases ha;done)|(split at ha<;>first|exact absurd ha nVH|(cases ha;done)))
      | invoke r n => simp only[hc]at ht;cases ht
  case fieldAddr t x f =>
    revert ha
    (repeat' split)<;>intro ha<;>first
      | (cases ha;done)
      | (unfold afa at ha
         revert ha;split
         · rename_i tf _
           cases Nat.blt 0 tf.size<;>(intro ha;cases ha)
         · intro ha;cases ha)
  case makeFunc fn a b =>
    cases fn<;>simp only at ha<;>first|(cases ha;done)|skip
    revert ha
    (repeat' split)<;>intro ha<;>(cases ha)
  case makeMap t r =>
    cases r<;>first|(cases ha;done)|exact absurd ha nVH
  all_goals
    revert ha
    (repeat' split)<;>intro ha<;>first|exact absurd ha nV|exact absurd ha nVH|(cases ha;done)
theorem zAg {o : Oper}{e : Operand -> Option V}{h : H}{f : Nat}{args : List V}(ht : wg o = true) (he : ∀g, e (.func g) = some (.func (.func g) [] [])) : zh c o e h ≠ some (.round f args) := by
  intro ha;have nV : ∀{r : Option V}, AN.ofV r h ≠ some (.round f args) := by intro r;cases r<;>(intro e;cases e)
  have nVH : ∀{r : Option (V × H)}, AN.ofVH r ≠ some (.round f args) := by intro r;cases r<;>(intro e;cases e)
  unfold wg at ht;unfold zh at ha;cases ho : o.op<;>simp only[ho]at ht ha<;>first
    | (cases ht;done)
    | (exact absurd ha nV)
    | (exact absurd ha nVH)
    | (cases ha;done)
    | skip
  case call cl =>
    unfold xN at ha;cases hl : ZP e cl.args.toList with
    | none => simp[hl]at ha
    | some as =>
      simp only[hl]at ha;cases hc : cl.callee with
      | value q =>
        simp only[hc]at ht ha;cases q with
        | func g =>
          rw[he g]at ha;simp only at ha;unfold qi at ha;cases hi : YL c g with
          | true =>
            rw[hi, oK]at ha;split at ha<;>cases ha
          | false =>
            rw[hi, oM]at ha;split at ha
            · exact absurd ha nVH
            · cases ha
        | _ => cases ht
      | builtin b =>
        simp only[hc]at ha;split at ha<;>first
          | exact absurd ha nV
          | exact absurd ha nVH
          | (cases ha;done)
          | (split at ha<;>first|exact absurd ha nVH|(cases ha;done)|(split at ha<;>first|exact absurd ha nVH|(cases ha;done)))
      | invoke r n => simp only[hc]at ht;cases ht
  case fieldAddr t x f =>
    revert ha
    (repeat' split)<;>intro ha<;>first
      | (cases ha;done)
      | (unfold afa at ha
         revert ha;split
         · rename_i tf _
           cases Nat.blt 0 tf.size<;>(intro ha;cases ha)
         · intro ha;cases ha)
  case makeFunc fn a b =>
    cases fn<;>simp only at ha<;>first|(cases ha;done)|skip
    revert ha
    (repeat' split)<;>intro ha<;>(cases ha)
  case makeMap t r =>
    cases r<;>first|(cases ha;done)|exact absurd ha nVH
  all_goals
    revert ha
    (repeat' split)<;>intro ha<;>first|exact absurd ha nV|exact absurd ha nVH|(cases ha;done)
theorem zCL {o:Oper}{s:St}{b:Bool}{orc orc':Nat->List V->H->Option (V×H)}{fs:List Nat}(hf:∀f,f∈yB [o]->f∈fs) (ho:∀f,f∈fs->orc f=orc' f) (ht:wg o=true):zV c orc b ws o s=zV c orc' b ws o s:=by
 unfold zV;cases ha:zh c o (zz s.tm) s.heap with
 | none=>rfl
 | some an =>
  cases an with
  | call f args =>
   obtain⟨cl,h1,h2⟩:=Jy ht ha (λ_=>rfl);have hm:f∈yB [o]:=by simp[yB,h1,h2]
   have hc:wx c orc ws f args s.heap=wx c orc' ws f args s.heap:=by unfold wx;rw[ho f (hf f hm)]
   simp only[hc]
  | _=>rfl
theorem yP (o:Oper) (l:List Oper):yB (o::l)=yB [o]++yB l:=by simp[yB]
theorem zAf {ops:List Oper}{b:Bool}{orc orc':Nat->List V->H->Option (V×H)}:∀(l:List Oper) {s:St},l.all wg=true->(∀f,f∈yB l->orc f=orc' f)->wV c orc b ws ops l s=wV c orc' b ws ops l s:=by
 intro l
 induction l with
 | nil=>intro s _ _;rfl
 | cons o l ih =>
  intro s ht ho;simp only[List.all_cons,oG]at ht;rw[yP]at ho;have h1:∀s,zV c orc b ws o s=zV c orc' b ws o s:=λs=>zCL (fs:=yB [o]) (λ_ h=>h) (λf hf=>ho f (List.mem_append_left _ hf)) ht.1
  have h2:∀s,wV c orc b ws ops l s=wV c orc' b ws ops l s:=λs=>ih ht.2 λf hf=>ho f (List.mem_append_right _ hf)
  simp only[wV,h1,h2]
theorem OJ (_:CtxOK P c) {b:Bool}{ops:List Oper}:∀(l:List Oper) {s:St}{Q:AX->St->Prop},l.all wg=true->xe (yB l)=true->YW P c b ops l s Q ->
  ∃orc,xb P c orc/\(∀f,f∉yB l->orc f=XE f)/\∃x s',wV c orc b ws ops l s=some (.done x s')/\Q x s':=by
 intro l
 induction l with
 | nil=>intro s Q _ _ h;exact⟨XE,jy,λ_ _=>rfl,.normal,s,rfl,h⟩
 | cons o l ih =>
  intro s Q ht hd h;simp only[List.all_cons,oG]at ht;have hd2:xe (yB l)=true:=by
   rw[yP]at hd;generalize yB [o]=q at hd
   induction q with
   | nil=>exact hd
   | cons a q ihq=>simp only[List.cons_append,xe,oG]at hd;exact ihq hd.2
  simp only[YW]at h;have plain:∀s1,zU ops s.tm o=true->zV c XE b ws o s=some (.normal,s1)->YW P c b ops l s1 Q->(∀f args,zh c o (zz s.tm) s.heap≠some (.call f args)) ->
    ∃orc,xb P c orc/\(∀f,f∉yB (o::l)->orc f=XE f)/\∃x s',wV c orc b ws ops (o::l) s=some (.done x s')/\Q x s':=by
   intro s1 hw hs hk hnc;obtain⟨orc,h1,h2,x,s',h3,h4⟩:=ih ht.2 hd2 hk;refine⟨orc,h1,λf hf=>h2 f λg=>hf (by rw[yP];exact List.mem_append_right _ g),x,s',?_,h4⟩
   have hs':zV c orc b ws o s=some (.normal,s1):=by
    rw[<-hs];unfold zV;cases ha:zh c o (zz s.tm) s.heap with
    | none=>rfl
    | some an=>cases an with
     | call f args=>exact absurd ha (hnc f args)
     | _=>rfl
   simp only[wV,hw,oK,hs',h3]
  split at h
  ·rename_i hw
   have hpn:¬zBs o.op=true:=by
    intro hd;have h1:=ht.1;unfold wg at h1;unfold zBs at hd;cases ho:o.op<;>simp only[ho]at h1 hd<;>first|(cases h1;done)|(cases hd;done)
   have hdp:¬zKe o.op=true:=by
    intro hd;have h1:=ht.1;unfold wg at h1;unfold zKe at hd;cases ho:o.op<;>simp only[ho]at h1 hd<;>first|(cases h1;done)|(cases hd;done)
   rw[if_neg hpn,if_neg hdp]at h;have hk:=qe h;cases ha:zh c o (zz s.tm) s.heap with
   | none=>rw[ha]at hk;exact hk.elim
   | some an =>
    rw[ha]at hk;cases an with
    | val v h' =>
     have hk:wp o.dst v s h' (λs'=>YW P c b ops l s' Q):=hk;obtain⟨s1,hp,hk⟩:=yS hk;exact plain s1 hw (by unfold zV;simp only[ha,hp]) hk (λf args e=>by rw[ha]at e;cases e)
    | skip h' =>
     have hk:wp o.dst zB s h' (λs'=>YW P c b ops l s' Q):=hk;obtain⟨s1,hp,hk⟩:=yS hk;exact plain s1 hw (by unfold zV;simp only[ha,hp]) hk (λf args e=>by rw[ha]at e;cases e)
    | round lp args=>exact absurd ha (zAg ht.1 (λ_=>rfl))
    | call f args =>
     obtain⟨v,h',⟨hfn,hs⟩,hq⟩:=hk;obtain⟨s1,hp,hk⟩:=yS hq;obtain⟨cl,g1,g2⟩:=Jy ht.1 ha (λ_=>rfl);have hcf:yB [o]=[f]:=by simp[yB,g1,g2]
     have hfl:f∉yB l:=by
      rw[yP,hcf]at hd;simp only[List.singleton_append,xe,oG,Bool.not_eq_true']at hd;intro hm;rw[(kP _ _).2 hm]at hd;exact absurd hd.1 (by simp)
     obtain⟨orc,h1,h2,x,s',h3,h4⟩:=ih ht.2 hd2 hk
     let orcN:Nat->List V->H->Option (V×H):=λg=>if g=f then zBU f args s.heap v h' g else orc g
     have hN:∀g,g∈yB l->orcN g=orc g:=λg hg=>by
      have:g≠f:=λe=>hfl (e ▸ hg)
      simp only[orcN,if_neg this]
     refine⟨orcN,?_,?_,x,s',?_,h4⟩
     ·intro g a2 h5 v2 h6 e
      simp only[orcN]at e;by_cases hg:g=f
      ·rw[if_pos hg]at e;exact Xr hfn hs g a2 h5 v2 h6 e
      ·rw[if_neg hg]at e;exact h1 g a2 h5 v2 h6 e
     ·intro g hg
      rw[yP,hcf]at hg;have hgf:g≠f:=λe=>hg (by rw[e];simp)
      have hgl:g∉yB l:=λe=>hg (List.mem_append_right _ e)
      simp only[orcN,if_neg hgf];exact h2 g hgl
     ·have hs':zV c orcN b ws o s=some (.normal,s1):=by
       unfold zV;simp only[ha];unfold wx;have:orcN f args s.heap=some (v,h'):=by simp only[orcN,if_pos rfl];exact Xq _ _ _ _ _
       rw[this];simp only[hp]
      simp only[wV,hw,oK,hs'];rw[zAf l ht.2 hN];exact h3
    | _=>exact hk.elim
  ·rename_i hw
   have hw:zU ops s.tm o=false:=by simpa using hw
   obtain⟨s1,hp,hk⟩:=yS h;obtain⟨orc,h1,h2,x,s',h3,h4⟩:=ih ht.2 hd2 hk;refine⟨orc,h1,λf hf=>h2 f λg=>hf (by rw[yP];exact List.mem_append_right _ g),x,s',?_,h4⟩
   simp only[wV,hw,oM,hp,h3]
theorem xH:∀l:List AD,xG l l=true:=by
 intro l
 induction l with
 | nil=>rfl
 | cons a l ih=>exact ih
theorem zMX (ok:CtxOK P c) {b:Bool}{ops:List Oper}{bs:List Nat}{m:Nat}:∀(l:List Oper) (r k:Nat) {s:St}{Q:AX->St->Prop},s.heap.nx<=T.top->s.heap.low<=T.top->(l.take r).all (qy c)=true ->
  (l.drop r).all wg=true->xe (yB (l.drop r))=true->YW P c b ops l s Q->∃orc,xb P c orc/\∃x s',yF c orc b ws ops bs m r k l s=some (.done x s')/\Q x s':=by
 intro l
 induction l with
 | nil=>intro r k s Q _ _ _ _ _ h;exact⟨XE,jy,.normal,s,by cases r<;>rfl,h⟩
 | cons o l ih =>
  intro r k s Q hn hl hq ht hd h;cases r with
  | zero =>
   obtain⟨orc,h1,_,x,s',h3,h4⟩:=OJ ok (o::l) ht hd h;exact⟨orc,h1,x,s',h3,h4⟩
  | succ r =>
   simp only[List.take_succ_cons,List.all_cons,oG]at hq;simp only[List.drop_succ_cons]at ht hd;simp only[YW]at h;split at h
   ·rename_i hw
    have hpn:¬zBs o.op=true:=by
     intro hd;have h1:=hq.1;unfold qy at h1;unfold zBs at hd;cases ho:o.op<;>simp only[ho]at h1 hd<;>first|(cases h1;done)|(cases hd;done)
    have hdp:¬zKe o.op=true:=by
     intro hd;have h1:=hq.1;unfold qy at h1;unfold zKe at hd;cases ho:o.op<;>simp only[ho]at h1 hd<;>first|(cases h1;done)|(cases hd;done)
    rw[if_neg hpn,if_neg hdp]at h;have hk:=qe h;cases ha:zh c o (zz s.tm) s.heap with
    | none=>rw[ha]at hk;exact hk.elim
    | some an =>
     obtain⟨v,h2,rfl,ht2,hlow,hn2⟩:=zIS hq.1 hn ha;rw[ha]at hk;have hk:wp o.dst v s h2 (λs'=>YW P c b ops l s' Q):=hk;rw[zAW]at hk;have heq:(⟨h2.tbl,h2.nx,cond (Nat.ble s.heap.low T.top) s.heap.low T.top⟩:H)=h2:=by
      rw[oC hl,oK,<-hlow]
     have hd1:∀tm',YW P c b ops l ⟨s.n,tm',s.dfr,h2⟩ Q->(∀orc,zV c orc b ws o ⟨s.n,s.tm,s.dfr,zM s.heap⟩=some (.normal,⟨s.n,tm',s.dfr,zM h2⟩)) ->
       ∃orc,xb P c orc/\∃x s',yF c orc b ws ops bs m (r+1) k (o::l) s=some (.done x s')/\Q x s':=by
      intro tm' hw2 hst;obtain⟨orc,h1,x,s',h3,h4⟩:=ih r (k+1) (s:=⟨s.n,tm',s.dfr,h2⟩) hn2 (by show h2.low<=_;rw[hlow];exact hl) hq.2 ht hd hw2;refine⟨orc,h1,x,s',?_,h4⟩;unfold yF;show cond (zU ops s.tm o) (match zV c orc b ws o ⟨s.n,s.tm,s.dfr,zM s.heap⟩with|some (.normal,s')=>_|_=>none) _=_
      rw[hw,oK,hst orc];show cond (Nat.ble s.heap.nx T.top || _) (cond (xG s.dfr s.dfr) (yF c orc b ws ops bs m r (k+1) l ⟨s.n,tm',s.dfr,⟨h2.tbl,h2.nx,cond (Nat.ble s.heap.low T.top) s.heap.low T.top⟩⟩) none) none=_;rw[oC hn,Bool.true_or,oK,xH,oK,heq];exact h3
     rcases hk with⟨hd2,hk⟩|⟨t,hd2,hb,hk⟩
     ·refine hd1 s.tm hk λorc=>?_
      unfold zV;simp only[ht2,hd2];rfl
     ·refine hd1 _ hk λorc=>?_
      unfold zV;simp only[ht2,hd2];unfold yW;simp only[hb,oK]
   ·rename_i hw
    have hw:zU ops s.tm o=false:=by simpa using hw
    obtain⟨s1,hp,hk⟩:=yS h;have hs1:s1.heap=s.heap:=by
     obtain⟨_,e⟩:=xP hp;rw[e]
    obtain⟨orc,h1,x,s',h3,h4⟩:=ih r (k+1) (s:=s1) (by rw[hs1];exact hn) (by rw[hs1];exact hl) hq.2 ht hd hk;refine⟨orc,h1,x,s',?_,h4⟩;unfold yF;show cond (zU ops s.tm o) _ (match yW s o.dst zB s.heap with|some s'=>yF c orc b ws ops bs m r (k+1) l s'|none=>none)=_
    rw[hw,oM,hp];exact h3
def yG (h h':H):H:=⟨h'.tbl,h'.nx,cond (Nat.ble h.low h'.low) h.low h'.low⟩
def lowOk (ops:List Oper) (bs:List Nat) (m k:Nat) (h h':H):Prop:=match XP ops bs m k with|true=>h'.nx<=T.top|false=>h.nx<=h'.low/\h'.nx<=T.top
theorem lowOk.nx {ops:List Oper}{bs:List Nat}{m k:Nat}{h h':H}(e:lowOk ops bs m k h h'):h'.nx<=T.top:=by
 unfold lowOk at e;split at e
 ·exact e
 ·exact e.2
theorem lowOk.ok {ops:List Oper}{bs:List Nat}{m k:Nat}{h h':H}{tm:Tm}{o:Oper}(e:lowOk ops bs m k h h'):(Nat.ble h.nx h'.low || xr ops bs m k tm o)=true:=by
 unfold lowOk at e;unfold xr;split at e
 ·rename_i g
  rw[g,Bool.or_true,Bool.or_true]
 ·rw[oC e.1,Bool.true_or]
variable (P c) in
def wpF (b:Bool) (ops:List Oper) (bs:List Nat) (m:Nat):Nat->Nat->List Oper->St->(AX->St->Prop)->Prop
 | 0,_,l,s,Q=>YW P c b ops l s Q
 | _+1,_,[],s,Q=>Q .normal s
 | r+1,k,o::l,s,Q =>
  if zU ops s.tm o=true then
   (if qy c o=true then zDs c P o (zz s.tm) s.heap λv h=>wp o.dst v s h λs'=>wpF b ops bs m r (k+1) l s' Q
   else if zBs o.op=true\/zKe o.op=true then False else
    zDs c P o (zz s.tm) (zM s.heap) λv h=>lowOk ops bs m k s.heap h/\∀h2,h2=yG s.heap h->wp o.dst v s h2 λs'=>wpF b ops bs m r (k+1) l s' Q)
  else wp o.dst zB s s.heap λs'=>wpF b ops bs m r (k+1) l s' Q
def zGJ (ops:List Oper) (bs:List Nat) (m:Nat):Nat->List Oper->Bool
 | _,[]=>true
 | k,o::l=>(match o.op with | .store ..=>Nat.ble m k || XP ops bs m k | .mapUpdate ..=>Nat.ble m k || XP ops bs m k|_=>true) && zGJ ops bs m (k+1) l
def J0 (ops:List Oper):Bool:=(match yZ ops with|some m=>zGJ ops (z8 ops []) m 0 ops|none=>false) && (ops.all wg && (xe (yB ops) && (yZ ops).isSome))
def zBj (ops:List Oper):Nat:=match yZ ops with|some m=>m|none=>0
theorem zLU {ops:List Oper}{b:Bool}{bs:List Nat}{m:Nat}{orc orc':Nat->List V->H->Option (V×H)}:∀(l:List Oper) (r k:Nat) {s:St},l.all wg=true->(∀f,f∈yB l->orc f=orc' f) ->
  yF c orc b ws ops bs m r k l s=yF c orc' b ws ops bs m r k l s:=by
 intro l
 induction l with
 | nil=>intro r k s _ _;cases r<;>rfl
 | cons o l ih =>
  intro r k s ht ho;cases r with
  | zero=>exact zAf (o::l) ht ho
  | succ r =>
   simp only[List.all_cons,oG]at ht;rw[yP]at ho;have h1:∀s,zV c orc b ws o s=zV c orc' b ws o s:=λs=>zCL (fs:=yB [o]) (λ_ h=>h) (λf hf=>ho f (List.mem_append_left _ hf)) ht.1
   have h2:∀k s,yF c orc b ws ops bs m r k l s=yF c orc' b ws ops bs m r k l s:=λk s=>ih r k ht.2 λf hf=>ho f (List.mem_append_right _ hf)
   simp only[yF,h1,h2]
theorem zKX (ok:CtxOK P c) {b:Bool}{ops:List Oper}{bs:List Nat}{m:Nat}:∀(l:List Oper) (r k:Nat) {s:St}{Q:AX->St->Prop},s.heap.nx<=T.top->s.heap.low<=T.top->l.all wg=true->xe (yB l)=true->wpF P c b ops bs m r k l s Q ->
  ∃orc,xb P c orc/\(∀f,f∉yB l->orc f=XE f)/\∃x s',yF c orc b ws ops bs m r k l s=some (.done x s')/\Q x s':=by
 intro l
 induction l with
 | nil=>intro r k s Q _ _ _ _ h;refine⟨XE,jy,λ_ _=>rfl,.normal,s,by cases r<;>rfl,by cases r<;>exact h⟩
 | cons o l ih =>
  intro r k s Q hn hl ht hd h;cases r with
  | zero =>
   obtain⟨orc,h1,h2,x,s',h3,h4⟩:=OJ ok (o::l) ht hd h;exact⟨orc,h1,h2,x,s',h3,h4⟩
  | succ r =>
   simp only[List.all_cons,oG]at ht;have hd2:xe (yB l)=true:=by
    rw[yP]at hd;generalize yB [o]=q at hd
    induction q with
    | nil=>exact hd
    | cons a q ihq=>simp only[List.cons_append,xe,oG]at hd;exact ihq hd.2
   simp only[wpF]at h;split at h
   ·rename_i hw
    split at h
    · -- a quiet operation
     rename_i hqo;have hk:=qe h;cases ha:zh c o (zz s.tm) s.heap with
     | none=>rw[ha]at hk;exact hk.elim
     | some an =>
      obtain⟨v,h2,rfl,ht2,hlow,hn2⟩:=zIS hqo hn ha;rw[ha]at hk;have hk:wp o.dst v s h2 (λs'=>wpF P c b ops bs m r (k+1) l s' Q):=hk
      rw[zAW]at hk;have heq:(⟨h2.tbl,h2.nx,cond (Nat.ble s.heap.low T.top) s.heap.low T.top⟩:H)=h2:=by
       rw[oC hl,oK,<-hlow]
      have hd1:∀tm',wpF P c b ops bs m r (k+1) l ⟨s.n,tm',s.dfr,h2⟩ Q->(∀orc,zV c orc b ws o ⟨s.n,s.tm,s.dfr,zM s.heap⟩=some (.normal,⟨s.n,tm',s.dfr,zM h2⟩)) ->
        ∃orc,xb P c orc/\(∀f,f∉yB (o::l)->orc f=XE f)/\∃x s',yF c orc b ws ops bs m (r+1) k (o::l) s=some (.done x s')/\Q x s':=by
       intro tm' hw2 hst;obtain⟨orc,h1,h1b,x,s',h3,h4⟩:=ih r (k+1) (s:=⟨s.n,tm',s.dfr,h2⟩) hn2 (by show h2.low<=_;rw[hlow];exact hl) ht.2 hd2 hw2;refine⟨orc,h1,λf hf=>h1b f λg=>hf (by rw[yP];exact List.mem_append_right _ g),x,s',?_,h4⟩
       show cond (zU ops s.tm o) (match zV c orc b ws o ⟨s.n,s.tm,s.dfr,zM s.heap⟩with|some (.normal,s')=>_|_=>none) _=_
       rw[hw,oK,hst orc];show cond (Nat.ble s.heap.nx T.top || _) (cond (xG s.dfr s.dfr) (yF c orc b ws ops bs m r (k+1) l ⟨s.n,tm',s.dfr,⟨h2.tbl,h2.nx,cond (Nat.ble s.heap.low T.top) s.heap.low T.top⟩⟩) none) none=_;rw[oC hn,Bool.true_or,oK,xH,oK,heq];exact h3
      rcases hk with⟨hdd,hk⟩|⟨t,hdd,hb,hk⟩
      ·refine hd1 s.tm hk λorc=>?_
       unfold zV;simp only[ht2,hdd];rfl
      ·refine hd1 _ hk λorc=>?_
       unfold zV;simp only[ht2,hdd];unfold yW;simp only[hb,oK]
    split at h
    ·exact h.elim
    have hk:=qe h;have fin:∀(orc:Nat->List V->H->Option (V×H)) (v:V) (h':H) (s1:St),lowOk ops bs m k s.heap h'->yW s o.dst v (yG s.heap h')=some s1 ->
      zV c orc b ws o ⟨s.n,s.tm,s.dfr,zM s.heap⟩=(match yW ⟨s.n,s.tm,s.dfr,zM s.heap⟩ o.dst v h' with|some s'=>some (.normal,s')|none=>none) ->
      yF c orc b ws ops bs m (r+1) k (o::l) s=yF c orc b ws ops bs m r (k+1) l s1:=by
     intro orc v h' s1 hlow hp hst;show cond (zU ops s.tm o) (match zV c orc b ws o ⟨s.n,s.tm,s.dfr,zM s.heap⟩with|some (.normal,s')=>_|_=>none) _=_
     rw[hw,oK,hst];cases hd:o.dst with
     | none =>
      rw[hd]at hp;simp only[yW,oA]at hp;subst hp;show cond (Nat.ble s.heap.nx h'.low || xr ops bs m k s.tm o) (cond (xG s.dfr s.dfr) (yF c orc b ws ops bs m r (k+1) l ⟨s.n,s.tm,s.dfr,yG s.heap h'⟩) none) none=_;rw[hlow.ok,oK,xH,oK]
     | some t =>
      rw[hd]at hp;unfold yW at hp ⊢;simp only at hp ⊢;cases hb:Nat.blt t s.n with
      | false=>rw[hb]at hp;cases hp
      | true =>
       rw[hb,oK]at hp;simp only[oA]at hp;subst hp;rw[oK];show cond (Nat.ble s.heap.nx h'.low || xr ops bs m k s.tm o) (cond (xG s.dfr s.dfr) (yF c orc b ws ops bs m r (k+1) l ⟨s.n,s.tm.set t v,s.dfr,yG s.heap h'⟩) none) none=_;rw[hlow.ok,oK,xH,oK]
    have hlm:∀h':H,(yG s.heap h').low<=T.top:=by
     intro h';show cond (Nat.ble s.heap.low h'.low) s.heap.low h'.low<=_;cases hb:Nat.ble s.heap.low h'.low with
     | true=>exact hl
     | false =>
      rw[oM];rcases Nat.le_total s.heap.low h'.low with g|g
      ·rw[oC g]at hb;cases hb
      ·exact oQ g hl
    have hs1:∀{v:V}{h':H}{s1:St},yW s o.dst v (yG s.heap h')=some s1->s1.heap=yG s.heap h':=by
     intro v h' s1 hp;obtain⟨_,e⟩:=xP hp;rw[e]
    have plain:∀(v:V) (h':H),lowOk ops bs m k s.heap h'->wp o.dst v s (yG s.heap h') (λs'=>wpF P c b ops bs m r (k+1) l s' Q) ->
      (∀orc,zV c orc b ws o ⟨s.n,s.tm,s.dfr,zM s.heap⟩=(match yW ⟨s.n,s.tm,s.dfr,zM s.heap⟩ o.dst v h' with|some s'=>some (.normal,s')|none=>none)) ->
      ∃orc,xb P c orc/\(∀f,f∉yB (o::l)->orc f=XE f)/\∃x s',yF c orc b ws ops bs m (r+1) k (o::l) s=some (.done x s')/\Q x s':=by
     intro v h' hlow hp hst;obtain⟨s1,hp1,hk1⟩:=yS hp;obtain⟨orc,h1,h2,x,s',h3,h4⟩:=ih r (k+1) (by rw[hs1 hp1];exact hlow.nx) (by rw[hs1 hp1];exact hlm _) ht.2 hd2 hk1;exact⟨orc,h1,λf hf=>h2 f λg=>hf (by rw[yP];exact List.mem_append_right _ g),x,s',by rw[fin orc v h' s1 hlow hp1 (hst orc)];exact h3,h4⟩
    cases ha:zh c o (zz s.tm) (zM s.heap)with
    | none=>rw[ha]at hk;exact hk.elim
    | some an =>
     rw[ha]at hk;cases an with
     | val v h'=>exact plain v h' hk.1 (hk.2 _ rfl) λorc=>by unfold zV;simp only[ha];rfl
     | skip h'=>exact plain zB h' hk.1 (hk.2 _ rfl) λorc=>by unfold zV;simp only[ha];rfl
     | round lp args=>exact absurd ha (zAg ht.1 (λ_=>rfl))
     | call f args =>
      obtain⟨v,h',⟨hfn,hs⟩,hlow2,hq⟩:=hk;have hlow:=hlow2;obtain⟨s1,hp1,hk1⟩:=yS (hq _ rfl);obtain⟨cl,g1,g2⟩:=Jy ht.1 ha (λ_=>rfl);have hcf:yB [o]=[f]:=by simp[yB,g1,g2]
      have hfl:f∉yB l:=by
       rw[yP,hcf]at hd;simp only[List.singleton_append,xe,oG,Bool.not_eq_true']at hd;intro hm;rw[(kP _ _).2 hm]at hd;exact absurd hd.1 (by simp)
      obtain⟨orc,h1,h2,x,s',h3,h4⟩:=ih r (k+1) (by rw[hs1 hp1];exact hlow2.nx) (by rw[hs1 hp1];exact hlm _) ht.2 hd2 hk1
      let orcN:Nat->List V->H->Option (V×H):=λg=>if g=f then zBU f args (zM s.heap) v h' g else orc g
      have hN:∀g,g∈yB l->orcN g=orc g:=λg hg=>by
       have:g≠f:=λe=>hfl (e ▸ hg)
       simp only[orcN,if_neg this]
      refine⟨orcN,?_,?_,x,s',?_,h4⟩
      ·intro g a2 h5 v2 h6 e
       simp only[orcN]at e;by_cases hg:g=f
       ·rw[if_pos hg]at e;exact Xr hfn hs g a2 h5 v2 h6 e
       ·rw[if_neg hg]at e;exact h1 g a2 h5 v2 h6 e
      ·intro g hg
       rw[yP,hcf]at hg;have hgf:g≠f:=λe=>hg (by rw[e];simp)
       have hgl:g∉yB l:=λe=>hg (List.mem_append_right _ e)
       simp only[orcN,if_neg hgf];exact h2 g hgl
      ·rw[fin orcN v h' s1 hlow hp1 ?_,zLU l r (k+1) ht.2 hN]
       ·exact h3
       ·have hcO:wx c orcN ws f args (zM s.heap)=some (.ret v h'):=by
         unfold wx;have:orcN f args (zM s.heap)=some (v,h'):=by simp only[orcN,if_pos rfl];exact Xq _ _ _ _ _
         rw[this]
        unfold zV;simp only[ha,hcO];rfl
     | _=>exact hk.elim
   ·rename_i hw
    have hw:zU ops s.tm o=false:=by simpa using hw
    obtain⟨s1,hp,hk⟩:=yS h;have hs1:s1.heap=s.heap:=by
     obtain⟨_,e⟩:=xP hp;rw[e]
    obtain⟨orc,h1,h2,x,s',h3,h4⟩:=ih r (k+1) (by rw[hs1];exact hn) (by rw[hs1];exact hl) ht.2 hd2 hk;refine⟨orc,h1,λf hf=>h2 f λg=>hf (by rw[yP];exact List.mem_append_right _ g),x,s',?_,h4⟩
    unfold yF;show cond (zU ops s.tm o) _ (match yW s o.dst zB s.heap with|some s'=>yF c orc b ws ops bs m r (k+1) l s'|none=>none)=_
    rw[hw,oM,hp];exact h3
theorem wpDr.of_calls (ok:CtxOK P c) {b:Bool}{ops:List Oper}{s:St}{Q:AX->St->Prop}(hp:J0 ops=true) (hn:s.heap.nx<=T.top) (hl:s.heap.low<=T.top) (h:wpF P c b ops (z8 ops []) (zBj ops) (zBj ops) 0 ops s Q):wpDr P c b ops s Q:=by
 unfold J0 at hp;rw[oG]at hp;have hp:=hp.2;simp only[oG,Option.isSome_iff_exists]at hp;obtain⟨h1,h2,m,hm⟩:=hp;have hmm:zBj ops=m:=by unfold zBj;rw[hm]
 rw[hmm]at h;obtain⟨orc,hor,_,x,s',e,hq⟩:=zKX (bs:=z8 ops []) (m:=m) ok ops m 0 hn hl h1 h2 h;exact⟨orc,m,x,s',hor,hm,e,hq⟩
theorem zPj {b:Bool}{ops:List Oper}{bs:List Nat}{m:Nat}:∀(r k:Nat) (l:List Oper) {s:St}{Q Q':AX->St->Prop},(∀x s',Q x s'->Q' x s')->wpF P c b ops bs m r k l s Q->wpF P c b ops bs m r k l s Q':=by
 intro r
 induction r with
 | zero=>intro k l s Q Q' hq h;exact zAs _ hq h
 | succ r ih =>
  intro k l s Q Q' hq h;cases l with
  | nil=>exact hq _ _ h
  | cons o l =>
   simp only[wpF]at h ⊢;split
   ·rename_i hw
    rw[if_pos hw]at h;split
    ·rename_i hqo;rw[if_pos hqo]at h;exact KC (λv w h1=>YQ (λs hk=>ih _ l hq hk) h1) h
    rename_i hqo;rw[if_neg hqo]at h;split
    ·rename_i hp;rw[if_pos hp]at h;exact h
    ·rename_i hp
     rw[if_neg hp]at h;exact KC (λv w h1=>⟨h1.1,λh2 e=>YQ (λs hk=>ih _ l hq hk) (h1.2 h2 e)⟩) h
   ·rename_i hw
    rw[if_neg hw]at h;exact YQ (λs hk=>ih _ l hq hk) h
theorem wpDr.of_seq (ok:CtxOK P c) {b:Bool}{ops:List Oper}{s:St}{Q:AX->St->Prop}(hp:zCu c ops=true) (hn:s.heap.nx<=T.top) (hl:s.heap.low<=T.top) (h:YW P c b ops ops s Q):wpDr P c b ops s Q:=by
 unfold zCu at hp;split at hp
 ·rename_i m hm
  simp only[oG]at hp;obtain⟨h1,h2,h3⟩:=hp;obtain⟨orc,hor,x,s',e,hq⟩:=zMX (bs:=z8 ops []) (m:=m) ok ops m 0 hn hl h1 h2 h3 h;exact⟨orc,m,x,s',hor,hm,e,hq⟩
 ·cases hp
def thenC (k:St->Prop) (Q:AX->St->Prop):AX->St->Prop
 | .normal,s=>k s
 | e,s=>Q e s
variable (P c)
def wpC (b:Bool):Code->St->(AX->St->Prop)->Prop
 | .skip,s,Q=>Q .normal s
 | .region _ ops draw,s,Q =>
  if draw=true then (if zCu c ops.toList=true then (s.heap.nx<=T.top/\s.heap.low<=T.top)/\YW P c b ops.toList ops.toList s Q else if J0 ops.toList=true then (s.heap.nx<=T.top/\s.heap.low<=T.top)/\wpF P c b ops.toList (z8 ops.toList []) (zBj ops.toList) (zBj ops.toList) 0 ops.toList s Q else wpDr P c b ops.toList s Q)
  else YW P c b ops.toList ops.toList s Q
 | .seq x y,s,Q=>wpC b x s (thenC (λs1=>wpC b y s1 Q) Q)
 | .cond o x y,s,Q=>match zz s.tm o with
  | some v=>xJ v λt=>match t with|true=>wpC b x s Q|false=>wpC b y s Q
  | none=>False
 | .block id x,s,Q=>wpC b x s (λe s1=>Q (zc id e) s1)
 | .loop x,s,Q=>∃I:Nat->Tm->H->Prop,(∃k,I k s.tm s.heap)/\∀k tm h,I k tm h->wpC b x ⟨s.n,tm,s.dfr,h⟩ (thenC (λs1=>s1.n=s.n/\s1.dfr=s.dfr/\∃j,j<k/\I j s1.tm s1.heap) Q)
 | .scope x,s,Q=>wpC b x s Q
 | .label _,s,Q=>Q .normal s
 | .exit id,s,Q=>Q (.exit id) s
 | .ret,s,Q=>Q .ret s
 | .rangeFunc f ps asg body,s,Q=>RC P b (.rangeFunc f ps asg body) s Q
 | _,_,_=>False
variable {P c}
theorem RC.of_wp (ok:CtxOK P c) {b:Bool}:∀(code:Code) {s:St}{Q:AX->St->Prop},wpC P c b (wq code) s Q->RC P b code s Q:=by
 intro code
 induction code with
 | skip=>intro s Q h;exact⟨.normal,s,λ_ _=>SimC.skip s,h⟩
 | region id ops draw =>
  intro s Q h;cases draw with
  | true =>
   simp only[wq,wpC,if_true]at h;split at h
   ·rename_i hp;exact RC.of_dr ok (wpDr.of_seq ok hp h.1.1 h.1.2 h.2)
   ·split at h
    ·rename_i hp;exact RC.of_dr ok (wpDr.of_calls ok hp h.1.1 h.1.2 h.2)
    ·exact RC.of_dr ok h
  | false=>exact RC.region ok (by simpa [wq,wpC]using h)
 | seq x y ihx ihy =>
  intro s Q h;refine RC.seq ((ihx h).mono λe s1 h1=>?_)
  cases e<;>first|exact ihy h1|exact h1
 | cond o x y ihx ihy =>
  intro s Q h;simp only[wq,wpC]at h;split at h
  ·rename_i v ho
   obtain⟨t,rfl,h2⟩:=zAu h;refine RC.cond ho ?_;cases t with
   | true=>exact ihx h2
   | false=>exact ihy h2
  ·exact h.elim
 | block id x ih=>intro s Q h;exact RC.block (ih h)
 | loop x ih =>
  intro s Q h;obtain⟨I,⟨k,hk⟩,hI⟩:=h;refine RC.loop (λk s1=>s1.n=s.n/\s1.dfr=s.dfr/\I k s1.tm s1.heap) (λk s1 hi=>?_) k s ⟨rfl,rfl,hk⟩;obtain⟨h1,h2,h3⟩:=hi;have h4:=hI k s1.tm s1.heap h3;have hs:s1=⟨s.n,s1.tm,s.dfr,s1.heap⟩:=by cases s1;simp only at h1 h2;subst h1;subst h2;rfl
  rw[<-hs]at h4;refine(ih h4).mono λe s2 h5=>?_
  cases e with
  | normal=>obtain⟨g1,g2,j,g3,g4⟩:=h5;exact⟨j,g3,g1,g2,g4⟩
  | _=>exact h5
 | scope x ih =>
  intro s Q h;obtain⟨e,s1,h1,h2⟩:=ih h;exact⟨e,s1,λrd hrd=>SimC.scope (h1 rd hrd),h2⟩
 | label l=>intro s Q h;exact⟨.normal,s,λ_ _=>SimC.label l s,h⟩
 | exit id=>intro s Q h;exact⟨.exit id,s,λ_ _=>SimC.exit id s,h⟩
 | ret=>intro s Q h;exact⟨.ret,s,λ_ _=>SimC.ret s,h⟩
 | rangeFunc f ps asg body=>intro s Q h;exact h
 | _=>intro s Q h;exact h.elim
theorem Zx {b:Bool}:∀(code:Code) {s:St}{Q Q':AX->St->Prop},(∀x s',Q x s'->Q' x s')->wpC P c b code s Q->wpC P c b code s Q':=by
 intro code;have hthen:∀{k k':St->Prop}{Q Q':AX->St->Prop},(∀s,k s->k' s)->(∀x s,Q x s->Q' x s)->∀x s,thenC k Q x s->thenC k' Q' x s:=by
  intro k k' Q Q' h1 h2 x s h;cases x<;>first|exact h1 _ h|exact h2 _ _ h
 induction code with
 | skip=>intro s Q Q' hq h;exact hq _ _ h
 | region id ops draw =>
  intro s Q Q' hq h;simp only[wpC]at h ⊢;cases draw with
  | true =>
   rw[if_pos rfl]at h ⊢;split
   ·rename_i hp;rw[if_pos hp]at h;exact⟨h.1,zAs _ hq h.2⟩
   ·rename_i hp
    rw[if_neg hp]at h;split
    ·rename_i hp2;rw[if_pos hp2]at h;exact⟨h.1,zPj _ _ _ hq h.2⟩
    ·rename_i hp2;rw[if_neg hp2]at h;exact h.mono hq
  | false=>rw[if_neg (by simp)]at h ⊢;exact zAs _ hq h
 | seq x y ihx ihy =>
  intro s Q Q' hq h;exact ihx (hthen (λs hs=>ihy hq hs) hq) h
 | cond o x y ihx ihy =>
  intro s Q Q' hq h;simp only[wpC]at h ⊢;cases ho:zz s.tm o with
  | none=>rw[ho]at h;exact h
  | some v =>
   rw[ho]at h;refine kl (λt ht=>?_) h;cases t with
   | true=>exact ihx hq ht
   | false=>exact ihy hq ht
 | block id x ih=>intro s Q Q' hq h;exact ih (λe s1=>hq _ _) h
 | loop x ih =>
  intro s Q Q' hq h;obtain⟨I,hk,hI⟩:=h;exact⟨I,hk,λk tm hh hi=>ih (hthen (λ_ h=>h) hq) (hI k tm hh hi)⟩
 | scope x ih=>intro s Q Q' hq h;exact ih hq h
 | label l=>intro s Q Q' hq h;exact hq _ _ h
 | exit id=>intro s Q Q' hq h;exact hq _ _ h
 | ret=>intro s Q Q' hq h;exact hq _ _ h
 | rangeFunc f ps asg body=>intro s Q Q' hq h;exact RC.mono h hq
 | _=>intro s Q Q' hq h;exact h.elim
def zA5 (tm tm':Tm):List Nat->Prop->Prop
 | [],q=>q
 | t::l,q=>zi tm' t=zi tm t->zA5 tm tm' l q
def zy (live:List Nat) (Q:AX->St->Prop):AX->St->Prop:=λx s=>∀tm',zA5 s.tm tm' live (Q x ⟨s.n,tm',s.dfr,s.heap⟩)
theorem zCI {tm:Tm}{q:Prop}:∀{l:List Nat},zA5 tm tm l q->q:=by
 intro l
 induction l with
 | nil=>exact λh=>h
 | cons t l ih=>exact λh=>ih (h rfl)
theorem YS {live:List Nat}{Q:AX->St->Prop}{x:AX}{s:St}(h:zy live Q x s):Q x s:=zCI (h s.tm)
theorem N8.set_get {α:Type}(d:D8) (t:N8 α) (f:α->α) (h:f (N8.get d t)=N8.get d t):N8.mod d f t=t:=by
 obtain⟨a0,a1,a2,a3,a4,a5,a6,a7⟩:=t;cases d<;>simp only[N8.mod,N8.get]at h ⊢<;>rw[h]
theorem zXh {tm:Tm}{t:Nat}{v:V}(ht:t<511) (h:zi tm t=v):Tb.set tm t v=tm:=by
 unfold zi Tb.get at h;have hb:Nat.ble t 511=true:=oC (by omega);rw[hb,oK]at h;unfold Tb.getF at h;unfold Tb.set;refine N8.set_get _ _ _ (N8.set_get _ _ _ (N8.set_get _ _ _ ?_));exact h.symm
def wpD:List AD->H->(H->Prop)->Prop
 | [],h,k=>k h
 | .coll id::l,h,k=>match h.get id with
  | some (.deferred true)=>wpD l (h.upd id (some (.deferred false))) k
  | _=>False
 | .fn _ _ _::_,_,_=>False
theorem zPh {call:Nat->List V->H->Option CallOut}:∀{l:List AD}{h:H}{k:H->Prop},wpD l h k->∃h',xQ call l h=some h'/\k h':=by
 intro l
 induction l with
 | nil=>intro h k hk;exact⟨h,rfl,hk⟩
 | cons d l ih =>
  intro h k hk;cases d with
  | coll id =>
   simp only[wpD]at hk;split at hk
   ·rename_i hg
    obtain⟨h',h1,h2⟩:=ih hk;exact⟨h',by simp only[xQ,hg,h1],h2⟩
   ·exact hk.elim
  | fn f cap args=>exact hk.elim
variable (c) in
def endW (fi:FI) (Q:V->H->Prop):AX->St->Prop
 | .normal,s=>wpD s.dfr s.heap λh'=>match leave c fi.results s.tm h' fi.results []with|some vs=>Q (yM vs) h'|none=>False
 | .ret,s=>wpD s.dfr s.heap λh'=>match leave c fi.results s.tm h' fi.results []with|some vs=>Q (yM vs) h'|none=>False
 | _,_=>False
def zI (fi:FI):FI:=⟨fi.n,fi.results,wq fi.body⟩
theorem RF.enter (ok:CtxOK P c) {f:Nat}{fi:FI}{args:List V}{h:H}{Q:V->H->Prop}(hf:(c.fn.get f).map zI=some fi) (ha:args.length<=fi.n) (hn:fi.n<=511)
  (hw:wpC P c false fi.body ⟨fi.n,zC args 0 (Tb.leaf zB),[],h⟩ (endW c fi Q)):RF P c f args h Q:=by
 cases hg:c.fn.get f with
 | none=>rw[hg]at hf;cases hf
 | some fj =>
  rw[hg]at hf;simp only[oZ,oA]at hf;subst hf;obtain⟨e,s1,h1,h2⟩:=RC.of_wp ok fj.body hw;obtain⟨ih,hih,hrun⟩:∃ih,j6 P ih/\ih false fj.body ⟨fj.n,zC args 0 (Tb.leaf zB),[],h⟩=some (.done e s1) :=
   ⟨ih1 false fj.body ⟨fj.n,zC args 0 (Tb.leaf zB),[],h⟩ e s1,zAD h1,zAC _ _ _ _ _⟩
  have hent:jm ih fj args h=some (.done e s1):=by
   unfold jm;have e1:Nat.ble (xw args 0) fj.n=true:=by rw[zIm];exact oC ha
   have e2:Nat.ble fj.n 511=true:=oC hn;rw[e1,e2];exact hrun
  have fin:∀(hq:wpD s1.dfr s1.heap λh'=>match leave c fj.results s1.tm h' fj.results []with|some vs=>Q (yM vs) h'|none=>False) (he:e = .normal\/e = .ret),RF P c f args h Q:=by
   intro hq he;obtain⟨h',h3,h4⟩:=zPh (call:=ZX c ih) hq;cases hl:leave c fj.results s1.tm h' fj.results []with
   | none=>rw[hl]at h4;exact h4.elim
   | some vs =>
    rw[hl]at h4;refine⟨yM vs,h',⟨⟨fj,hg⟩,?_⟩,h4⟩;refine ZY ok hih ?_;have hend:zEu c ih fj s1=some (.ret (yM vs) h'):=by
     unfold zEu;rw[h3];show(match leave c fj.results s1.tm h' fj.results []with|some vs=>some (CallOut.ret (yM vs) h')|none=>none)=_
     rw[hl]
    unfold zBc;rw[hg];simp only[hent];rcases he with rfl|rfl<;>exact hend
  cases e with
  | normal=>exact fin h2 (.inl rfl)
  | ret=>exact fin h2 (.inr rfl)
  | _=>exact h2.elim
def t (n:Nat):Operand:=.tmp n
def ci (n:Nat):Operand:=.const (.int .i64 (.ofNat n))
def cs (l:List UInt8):Operand:=.const (.string ⟨l.toArray⟩)
abbrev zH (n:Int):Int:=zT .i64 n
def O1 (d:Option Nat) (ty:Nat) (op:Op):Oper:=⟨d,op,ty, "",#[],none⟩
def O2 (d:Option Nat) (ty:Nat) (op:Op) (g:Nat×Bool):Oper:=⟨d,op,ty, "",#[],some g⟩
end
end Go.Sim
