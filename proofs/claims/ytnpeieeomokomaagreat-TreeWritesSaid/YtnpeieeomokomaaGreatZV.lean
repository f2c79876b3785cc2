/- V. No condition. -/
import Derived.Test.YtnpeieeomokomaaGreatZS
noncomputable section
namespace Go.Sim
section
variable (P:Program) (c:Ctx)
def RC (b:Bool) (code:Code) (s:St) (Q:AX->St->Prop):Prop:=∃x s',(∀rd:Option Nat,rd.isSome=b->SimC P rd code s x s')/\Q x s'
def RF (f:Nat) (args:List V) (h:H) (Q:V->H->Prop):Prop:=∃v h',((∃fi,c.fn.get f=some fi)/\SimF P f args h (.ret v h'))/\Q v h'
def RR (l:Nat) (args:List V) (h:H) (Q:V->H->Prop):Prop:=∃v h',zUv P l args h (.ret v h')/\Q v h'
variable {P c}
theorem RC.mono {b:Bool}{code:Code}{s:St}{Q Q':AX->St->Prop}(h:RC P b code s Q) (hq:∀x s',Q x s'->Q' x s'):RC P b code s Q':=by
 obtain⟨x,s',h1,h2⟩:=h;exact⟨x,s',h1,hq _ _ h2⟩
theorem RF.mono {f:Nat}{args:List V}{h:H}{Q Q':V->H->Prop}(r:RF P c f args h Q) (hq:∀v h',Q v h'->Q' v h'):RF P c f args h Q':=by
 obtain⟨x,s',h1,h2⟩:=r;exact⟨x,s',h1,hq _ _ h2⟩
theorem RR.mono {l:Nat}{args:List V}{h:H}{Q Q':V->H->Prop}(r:RR P l args h Q) (hq:∀v h',Q v h'->Q' v h'):RR P l args h Q':=by
 obtain⟨x,s',h1,h2⟩:=r;exact⟨x,s',h1,hq _ _ h2⟩
def StepW (P:Program) (b:Bool) (o:Oper) (s:St) (x:AX) (s':St):Prop :=
 ∀(rd:Option Nat),rd.isSome=b->∀{ρ:Env}{D:Nat->Prop}{w:World}{a:Act},StR ρ D s a w->∀{next:Act->World->Prop}{Q:Exit->Act->World->Prop},
  (x = .normal->∀ρ' v w',Mv ρ D s.heap w ρ' s'.heap w'->StR ρ' (Dx D s.heap s'.heap) s' v w'->next v w') ->
  (∀v,x = .panic v->∀ρ' w',Mv ρ D s.heap w ρ' s'.heap w'->StR ρ' (Dx D s.heap s'.heap) s' a w'->v.In (Dx D s.heap s'.heap)->Q (.panic [{ v:=v.conc ρ',recovered:=false }]) a w') ->
  o.wpIn (Fx (rd.map ρ.blk)) 0 P a w next Q
theorem StepW.of_step (ok:CtxOK P c) {orc:Nat->List V->H->Option (V×H)}(hor:yg P c orc) {ih:Bool->Code->St->Option Out}(hih:ju P ih) {b:Bool}{o:Oper}{s s':St}{x:AX}
  (e:z6 c orc b ih o s=some (x,s')):StepW P b o s x s':=by
 intro rd hrd ρ D w a k next Q hn hq;subst hrd;exact xz ok hor hih e k (λhx ρ' v w' m _ k'=>hn hx ρ' v w' m k') hq
def OJ:Nat->List V->H->Option (V×H):=λ_ _ _=>none
def kH:Bool->Code->St->Option Out:=λ_ _ _=>none
theorem qR:yg P c OJ:=λ_ _ _ _ _ e=>by cases e
theorem YI:ju P kH:=λ_ _ _ _ _ e=>by cases e
open Classical in
def zEM (f:Nat) (args:List V) (h:H) (v:V) (h':H):Nat->List V->H->Option (V×H):=λf2 a2 h2=>if f2=f/\a2=args/\h2=h then some (v,h') else none
theorem KR {f:Nat}{args:List V}{h h':H}{v:V}(hf:∃fi,c.fn.get f=some fi) (hs:SimF P f args h (.ret v h')):yg P c (zEM f args h v h'):=by
 intro f2 a2 h2 v2 h3 e;unfold zEM at e;split at e
 ·rename_i hc
  obtain⟨rfl,rfl,rfl⟩:=hc;simp only[oA,oB]at e;obtain⟨rfl,rfl⟩:=e;exact⟨hf,hs⟩
 ·cases e
theorem KQ (f:Nat) (args:List V) (h:H) (v:V) (h':H):zEM f args h v h' f args h=some (v,h'):=by
 unfold zEM;rw[if_pos ⟨rfl,rfl,rfl⟩]
open Classical in
def ih1 (b:Bool) (code:Code) (s:St) (x:AX) (s':St):Bool->Code->St->Option Out:=λb2 c2 s2=>if b2=b/\c2=code/\s2=s then some (.done x s') else none
theorem zGG {b:Bool}{code:Code}{s s':St}{x:AX}(h:∀rd:Option Nat,rd.isSome=b->SimC P rd code s x s'):ju P (ih1 b code s x s'):=by
 intro rd c2 s2 x2 s3 e;unfold ih1 at e;split at e
 ·rename_i hc
  obtain⟨h1,rfl,rfl⟩:=hc;simp only[oA,Out.done.injEq]at e;obtain⟨rfl,rfl⟩:=e;exact h rd h1
 ·cases e
theorem zGF (b:Bool) (code:Code) (s:St) (x:AX) (s':St):ih1 b code s x s' b code s=some (.done x s'):=by
 unfold ih1;rw[if_pos ⟨rfl,rfl,rfl⟩]
theorem StepW.call (ok:CtxOK P c) {b:Bool}{o:Oper}{s s':St}{f:Nat}{args:List V}{v:V}{h':H}(ha:yD c o (yQ s.tm) s.heap=some (.call f args))
  (hf:∃fi,c.fn.get f=some fi) (hs:SimF P f args s.heap (.ret v h')) (hp:yF s o.dst v h'=some s'):StepW P b o s .normal s':=by
 refine StepW.of_step (c:=c) (orc:=zEM f args s.heap v h') (ih:=kH) ok (KR hf hs) YI ?_;unfold z6 xe;simp only[ha,KQ,hp]
theorem StepW.round (ok:CtxOK P c) {b:Bool}{o:Oper}{s s':St}{l:Nat}{args:List V}{v:V}{h':H}(ha:yD c o (yQ s.tm) s.heap=some (.round l args))
  (hs:zUv P l args s.heap (.ret v h')) (hp:yF s o.dst v h'=some s'):StepW P b o s .normal s':=by
 intro rd hrd ρ D w a k next Q hn _;refine⟨λ_ _=>trivial,?_⟩
 have hsem:=JO (rd:=rd) ha;have hop:=Xc (P:=P) (a:=a.eval) ok ha k.hr (λy _ v hv=>wU k y v hv);rw[show(Fx (rd.map ρ.blk)).round=rd.map ρ.blk from rfl,hsem (λ_ _ h=>by cases h)];obtain⟨hl,hin,hr⟩:=hop;obtain⟨fn,tmps,y,z,hy,hR⟩:=hs ρ D w k.hr hl hin;rw[hr,hy];refine⟨λh=>by simp[Fx]at h,YU none _ (RoundIn.mono hR ?_)⟩
 rintro en w' ⟨ρ',rfl,m,r,hv⟩;rw[zBK]at hp;have k1:=k.step m r;have hp':yF { s with heap:=h' } o.dst v ({ s with heap:=h' }:St).heap=some s':=hp;obtain⟨k2,hh⟩:=StR.put k1 hv hp';have hh:s'.heap=h':=hh;exact hn rfl _ _ _ (by rw[hh];exact m) (by rw[hh];exact k2)
def SimO (P:Program) (b:Bool) (ops:Array Oper) (l:List Oper) (s:St) (x:AX) (s':St):Prop :=
 ∀rd:Option Nat,rd.isSome=b->∀(is:List Nat),is.mapM (λi=>ops[i]?)=some l ->
  ∀{ρ0:Env}{D0:Nat->Prop}{s0:St}{w0:World}{ρ:Env}{w:World}{a:Act},(∀id,D0 id->id<s0.heap.next)->(∀l,rd=some l->D0 l)->Mv ρ0 D0 s0.heap w0 ρ s.heap w->StR ρ (Dx D0 s0.heap s.heap) s a w ->
  wpOpsIn (Fx (rd.map ρ0.blk)) 0 P ops (Ends ρ0 D0 s0 w0 x s') is a w
theorem SimO.nil {b:Bool}{ops:Array Oper}{s:St}:SimO P b ops [] s .normal s:=by
 intro rd _ is his ρ0 D0 s0 w0 ρ w a hlt hl m k;cases is with
 | nil=>exact⟨ρ,m,k,rfl,trivial⟩
 | cons i is =>
  simp only[List.mapM_cons,Option.bind_eq_bind,Option.bind_eq_some_iff]at his;obtain⟨o,_,l',_,h⟩:=his;simp at h
theorem SimO.step {b:Bool}{ops:Array Oper}{o:Oper}{l:List Oper}{s s1 s':St}{x:AX}(hw:zZ ops.toList s.tm o=true) (h1:StepW P b o s .normal s1) (h2:SimO P b ops l s1 x s'):SimO P b ops (o::l) s x s':=by
 intro rd hrd is his ρ0 D0 s0 w0 ρ w a hlt hl m k;cases is with
 | nil=>simp at his
 | cons i is =>
  simp only[List.mapM_cons,Option.bind_eq_bind,Option.bind_eq_some_iff]at his;obtain⟨o',ho,l',hl',h⟩:=his;simp only[Option.pure_def,oA,List.cons.injEq]at h;obtain⟨rfl,rfl⟩:=h;simp only[wpOpsIn,ho];rw[xR k,hw,if_pos rfl,<-wu m.agree hl];refine h1 rd hrd k ?_ (λv hv=>by cases hv);intro _ ρ' a' w' m' k';rw[wu m.agree hl];rw[xS (D:=D0) m.next m'.next]at k';exact h2 rd hrd is hl' hlt hl (Mv.trans hlt m m') k'
theorem SimO.out {b:Bool}{ops:Array Oper}{o:Oper}{l:List Oper}{s s1:St}{v:V}(hw:zZ ops.toList s.tm o=true) (h1:StepW P b o s (.panic v) s1):SimO P b ops (o::l) s (.panic v) s1:=by
 intro rd hrd is his ρ0 D0 s0 w0 ρ w a hlt hl m k;cases is with
 | nil=>simp at his
 | cons i is =>
  simp only[List.mapM_cons,Option.bind_eq_bind,Option.bind_eq_some_iff]at his;obtain⟨o',ho,l',hl',h⟩:=his;simp only[Option.pure_def,oA,List.cons.injEq]at h;obtain⟨rfl,rfl⟩:=h;simp only[wpOpsIn,ho];rw[xR k,hw,if_pos rfl,<-wu m.agree hl];refine h1 rd hrd k (λhn=>by cases hn) ?_;intro v2 hv ρ' w' m' k' hvi;cases hv;have hDx:=xS (D:=D0) m.next m'.next;exact⟨ρ',Mv.trans hlt m m',by rw[<-hDx];exact k',rfl,by rw[<-hDx];exact hvi⟩
theorem SimO.off {b:Bool}{ops:Array Oper}{o:Oper}{l:List Oper}{s s1 s':St}{x:AX}(hw:zZ ops.toList s.tm o=false) (hp:yF s o.dst zC s.heap=some s1) (h2:SimO P b ops l s1 x s'):SimO P b ops (o::l) s x s':=by
 intro rd hrd is his ρ0 D0 s0 w0 ρ w a hlt hl m k;cases is with
 | nil=>simp at his
 | cons i is =>
  simp only[List.mapM_cons,Option.bind_eq_bind,Option.bind_eq_some_iff]at his;obtain⟨o',ho,l',hl',h⟩:=his;simp only[Option.pure_def,oA,List.cons.injEq]at h;obtain⟨rfl,rfl⟩:=h;simp only[wpOpsIn,ho];rw[xR k,hw,if_neg (by simp)];obtain⟨k2,hh⟩:=StR.put k (xY _) hp;rw[xO]at k2;exact⟨λ_ _=>trivial,h2 rd hrd is hl' hlt hl (by rw[hh];exact m) (by rw[hh];exact k2)⟩
def jM (d:Option Tmp) (v:V) (s:St) (h:H) (k:St->Prop):Prop :=
 match d with
 | none=>k ⟨s.n,s.tm,s.dfr,h⟩
 | some t=>(match Nat.blt t s.n with|true=>k ⟨s.n,s.tm.set t v,s.dfr,h⟩|false=>False)
theorem yd {d:Option Tmp}{v:V}{s:St}{h:H}{k:St->Prop}(e:jM d v s h k):∃s',yF s d v h=some s'/\k s':=by
 cases d with
 | none=>exact⟨_,rfl,e⟩
 | some t =>
  unfold jM at e;unfold yF;simp only at e ⊢;cases hb:Nat.blt t s.n with
  | false=>rw[hb]at e;exact e.elim
  | true=>rw[hb]at e;rw[oK];exact⟨_,rfl,e⟩
theorem OQ {d:Option Tmp}{v:V}{s:St}{h:H}{k:St->Prop}:jM d v s h k↔(d=none/\k ⟨s.n,s.tm,s.dfr,h⟩)\/∃t,d=some t/\Nat.blt t s.n=true/\k ⟨s.n,s.tm.set t v,s.dfr,h⟩:=by
 cases d with
 | none=>simp[jM]
 | some t =>
  show(match Nat.blt t s.n with|true=>k ⟨s.n,s.tm.set t v,s.dfr,h⟩|false=>False)↔_;generalize hb:Nat.blt t s.n=x;cases x with
  | false =>
   refine⟨λe=>False.elim e,?_⟩
   rintro(⟨h1,_⟩|⟨t2,h1,h2,_⟩)
   ·cases h1
   ·cases h1;rw[hb]at h2;cases h2
  | true =>
   refine⟨λe=>.inr ⟨t,rfl,hb,e⟩,?_⟩
   rintro(⟨h1,_⟩|⟨t2,h1,_,h3⟩)
   ·cases h1
   ·cases h1;exact h3
theorem Z5 {d:Option Tmp}{v:V}{s:St}{h:H}{k k':St->Prop}(hk:∀s,k s->k' s) (e:jM d v s h k):jM d v s h k':=by
 rw[OQ]at e ⊢;rcases e with⟨h1,h2⟩|⟨t,h1,h2,h3⟩
 ·exact .inl ⟨h1,hk _ h2⟩
 ·exact .inr ⟨t,h1,h2,hk _ h3⟩
variable (P c)
def after (d:Option Tmp) (s:St) (k:St->Prop) (v:V) (h:H):Prop:=jM d v s h k
def wpA (b:Bool) (d:Option Tmp) (s:St) (k:St->Prop) (Q:AX->St->Prop):Option AN->Prop
 | some (.val v h)=>jM d v s h k
 | some (.skip h)=>jM d zC s h k
 | some (.call f args)=>RF P c f args s.heap (after d s k)
 | some (.round l args)=>RR P l args s.heap (after d s k)
 | some (.dfr ad)=>b=false/\jM d zC ⟨s.n,s.tm,ad::s.dfr,s.heap⟩ s.heap k
 | some (.pan v h)=>Q (.panic v) ⟨s.n,s.tm,s.dfr,h⟩
 | _=>False
mutual
def JR:V->(V->Prop)->Prop
 | .int κ _,k=>∃x,k (.int κ x)
 | .bool _,k=>∃t,k (.bool t)
 | .str _,k=>∃l,k (.str l)
 | .agg zs,k=>XS zs λvs=>k (.agg vs)
 | _,k=>∃v,k v
def XS:List V->(List V->Prop)->Prop
 | [],k=>k []
 | z::zs,k=>JR z λv=>XS zs λvs=>k (v::vs)
end
mutual
theorem JS:∀(z:V) {k:V->Prop},JR z k->∃v,k v
 | .int _ _,_,⟨_,h⟩ | .bool _,_,⟨_,h⟩ | .str _,_,⟨_,h⟩ | .ptr _ _,_,⟨_,h⟩ | .nilptr,_,⟨_,h⟩ | .slice _ _ _ _,_,⟨_,h⟩ | .nilslice,_,⟨_,h⟩ | .map _,_,⟨_,h⟩ | .nilmap,_,⟨_,h⟩
 | .func _ _ _,_,⟨_,h⟩ | .yield _,_,⟨_,h⟩ | .nilFunc,_,⟨_,h⟩ | .iface _ _,_,⟨_,h⟩ | .nilIface,_,⟨_,h⟩ | .tuple _,_,⟨_,h⟩=>⟨_,h⟩
 | .agg zs,_,h=>by obtain⟨vs,h⟩:=Of zs h;exact⟨_,h⟩
theorem Of:∀(zs:List V) {k:List V->Prop},XS zs k->∃vs,k vs
 | [],_,h=>⟨[],h⟩
 | z::zs,_,h=>by
  obtain⟨v,h⟩:=JS z h;obtain⟨vs,h⟩:=Of zs h;exact⟨_,h⟩
end
def JQ (t:TypeId) (k:V->Prop):Prop :=
 match c.ty.get t with
 | some ti=>(match ti.zero with|some z=>JR z k|none=>∃v,k v)
 | none=>∃v,k v
def XR:List TypeId->(List V->Prop)->Prop
 | [],k=>k []
 | t::ts,k=>JQ c t λv=>XR ts λvs=>k (v::vs)
def z01:TypeDesc->Option (List TypeId)
 | .tuple ts=>some ts.toList
 | _=>none
def Oh (t:Bool) (k:V->Prop):Prop:=(t=true->k (.bool true))/\(t=false->k (.bool false))
def jP (p:Prop) (k:V->Prop):Prop:=(p->k (.bool true))/\(¬p->k (.bool false))
def zIG:V->(V->Prop)->(V->Prop)->Prop
 | .bool _,e,k=>∃t,e (.bool t)/\Oh t k
 | z,e,k=>JR z λv=>e v/\k v
def YX (t:TypeId) (e k:V->Prop):Prop :=
 match c.ty.get t with
 | some ti=>(match z01 ti.desc with
  | some ts=>XR c ts λvs=>e (.tuple vs)/\k (.tuple vs)
  | none=>(match ti.zero with|some z=>zIG z e k|none=>∃v,e v/\k v))
 | none=>∃v,e v/\k v
def q7 (t:TypeId) (r:Option V) (k:V->Prop):Prop:=YX c t (λv=>r=some v) k
def qk (t:TypeId):Bool:=match c.ty.get t with|some ti=>(match ti.zero with|some (.bool _)=>true|_=>false)|none=>false
def YY:V->(V->Prop)->Prop
 | .bool t,k=>Oh t k
 | v,k=>k v
def wx (op:BinOp) (t:TypeId) (x y:Operand) (ot:TypeId):V->V->(V->Prop)->Prop
 | .int κ m,.int κ' n,k =>
  if xq op=true\/xE κ κ'=true then
   (match op with
   | .add=>k (.int κ (zN κ (m+n)))
   | .sub=>k (.int κ (zN κ (m-n)))
   | .mul=>k (.int κ (zN κ (m*n)))
   | .eql=>jP (m=n) k
   | .neq=>jP (m≠n) k
   | .lss=>jP (m<n) k
   | .leq=>jP (m<=n) k
   | .gtr=>jP (n<m) k
   | .geq=>jP (n<=m) k
   | .quo=>n≠0/\k (.int κ (zN κ (m.tdiv n)))
   | .rem=>n≠0/\k (.int κ (m.tmod n))
   | op=>∃r,zj op κ m n=some (.int κ r)/\k (.int κ r))
  else False
 | .str l,.str m,k =>
  (match op with
  | .eql=>jP (l=m) k
  | .neq=>jP (l≠m) k
  | .add=>l.length+m.length<=4611686018427387904/\k (.str (l++m))
  | _=>q7 c ot (yn c op t x y (.str l) (.str m)) k)
 | a,b,k=>q7 c ot (yn c op t x y a b) k
def zAG (op:UnOp):V->(V->Prop)->Prop
 | .bool b,k=>(match op with | .not=>k (.bool (!b))|_=>False)
 | .int κ n,k=>(match op with | .neg=>k (.int κ (zN κ (0-n)))|op=>∃r,aun op (.int κ n)=some (.int κ r)/\k (.int κ r))
 | _,_=>False
def YK:TypeDesc->Option IntKind
 | .int κ=>some κ
 | _=>none
def zGz (t:TypeId):Bool:=match c.ty.get t with|some ti=>(match ti.desc with | .string=>true|_=>false)|none=>false
def wF (s d:TypeId) (h:H) (v:V) (k:V->H->Prop):Prop :=
 match v with
 | .int _ n=>(match c.ty.get s,c.ty.get d with
  | some ts,some td=>(match YK ts.desc,YK td.desc with|some _,some κ=>k (.int κ (zN κ n)) h|_,_=>False)
  | _,_=>False)
 | v=>(match zGz c d with
  | true=>∃l h',yt c s d h v=some (.str l,h')/\k (.str l) h'
  | false=>∃u h',yt c s d h v=some (u,h')/\k u h')
def zY (t:TypeId) (f:Nat) (h:H):V->(V->H->Prop)->Prop
 | .ptr b o,k=>(match c.ty.get t with
  | some ti=>(match ti.desc with
   | .struct fs=>(match fs[f]? with
    | some fd=>(match c.ty.get fd.type with|some tf=>if 0<tf.size then k (.ptr b (o+fd.offset)) h else False|none=>False)
    | none=>False)
   | _=>False)
  | none=>False)
 | _,_=>False
def ZS (i:Nat) (ot:TypeId):V->(V->Prop)->Prop
 | .tuple l,k=>(match l[i]? with|some u=>(match qk c ot with|true=>YY u k|false=>k u)|none=>False)
 | _,_=>False
def jk (t:Bool) (k:Bool->Prop):Prop:=match t with|true=>k true|false=>k false
def wG:V->(Bool->Prop)->Prop
 | .bool t,k=>jk t k
 | _,_=>False
def xV (r:Option Cs) (k:Cs->Prop):Prop:=match r with|some cs=>k cs|none=>False
def zAA (t:TypeId) (h:H) (v:V) (k:V->H->Prop):Prop :=
 match c.ty.get t with
 | some ti=>if xi ti.desc=true then xV (cond (zU v.cells) (Cs.ofL v.cells) none) λcs=>h.next<T.top/\∀b h',b=h.next->h'=h.new (.cells cs ⟨0,t+1,0⟩ true false)->k (.ptr b 0) h'
  else v.one=true/\h.next<T.top/\∀b h',b=h.next->h'=h.new (.cells (.ls [v]) ⟨0,t+1,0⟩ true false)->k (.ptr b 0) h'
 | none=>False
def j7 (ot:TypeId) (r:Option V) (k:V->Prop):Prop:=match r with|some u=>(match qk c ot with|true=>YY u k|false=>k u)|none=>False
def Jn (mx:Bool):List V->(V->Prop)->Prop
 | [.int κ a,.int _ b],k=>k (.int κ (if mx=true then max a b else min a b))
 | v::l,k=>∃u,qQ mx v l=some u/\k u
 | [],_=>False
def z0W:V->(List UInt8->Prop)->Prop
 | .str l,k=>k l
 | _,_=>False
def zBV (t:TypeId) (h:H) (v:V) (k:V->Prop):Prop :=
 match zGz c t with
 | true=>z0W v λl=>k (.int .i64 (.ofNat l.length))
 | false=>∃x,zc c t h v=some (.int .i64 x)/\k (.int .i64 x)
def qA (t:TypeId) (k:V->H->Prop) (v:V) (h:H):Prop:=YX c t (λu=>v=u) λu=>k u h
def jt (b:Builtin) (ot:TypeId) (h:H) (k:V->H->Prop) (g:Option AN):List V->List TypeId->Prop
 | [x],[t]=>(match b with
  | .len=>zBV c t h x λv=>k v h
  | _=>∃v h',g=some (.val v h')/\qA c ot k v h')
 | [s,x],[t,tx]=>(match b with
  | .append=>True/\∃v h',KD c tx t h s x=some (v,h')/\k v h'
  | .copy=>∃x' h',zHS c t h s x=some (.int .i64 x',h')/\k (.int .i64 x') h'
  | .min=>Jn false [s,x] λv=>k v h
  | .max=>Jn true [s,x] λv=>k v h
  | _=>∃v h',g=some (.val v h')/\qA c ot k v h')
 | l,_=>(match b with
  | .min=>Jn false l λv=>k v h
  | .max=>Jn true l λv=>k v h
  | _=>∃v h',g=some (.val v h')/\qA c ot k v h')
def zX3 (P:Program) (ot:TypeId) (h:H) (k:V->H->Prop):Option AN->Prop
 | some (.val v h')=>k v h'
 | some (.call g as)=>RF P c g as h (qA c ot k)
 | _=>False
def yV (P:Program) (ot:TypeId) (h:H) (k:V->H->Prop) (args:List V):V->Prop
 | .func (.func g) first captured=>zX3 c P ot h k (qH c h g first args captured)
 | .yield l=>RR P l args h (qA c ot k)
 | _=>False
def JV (P:Program) (cl:Call) (ot:TypeId) (e:Operand->Option V) (h:H) (k:V->H->Prop):Prop :=
 match qe e cl.args.toList with
 | none=>False
 | some args =>
  match cl.callee with
  | .value f=>(match e f with|some v=>yV c P ot h k args v|none=>False)
  | .builtin b=>jt c b ot h k (yr c cl e h) args cl.argTypes.toList
  | .invoke r name=>(match e r with
   | some (.iface t v)=>(match ZU c t name with
    | some (f,none)=>RF P c f (v::args) h (qA c ot k)
    | some (f,some el)=>∃u,zO c el h v=some u/\RF P c f (u::args) h (qA c ot k)
    | none=>False)
   | _=>False)
def zWW:TypeDesc->Bool
 | .interface _=>true
 | _=>false
def zEy (P:Program) (o:Oper) (e:Operand->Option V) (h:H) (k:V->H->Prop):Prop :=
 match o.op with
 | .move x=>(match e x with|some v=>k v h|none=>False)
 | .assign x=>(match e x with|some v=>k v h|none=>False)
 | .pick cc a b=>(match e cc,e a,e b with|some v,some x,some y=>wG v λt=>k (cond t x y) h|_,_,_=>False)
 | .binOp op t x y _=>(match e x,e y with|some a,some b=>wx c op t x y o.type a b λv=>k v h|_,_=>False)
 | .unOp op _ x=>(match e x with|some a=>zAG op a λv=>k v h|none=>False)
 | .convert s d x=>(match e x with|some v=>wF c s d h v k|none=>False)
 | .load t a=>(match e a with|some p=>q7 c t (zO c t h p) λv=>k v h|none=>False)
 | .store t a x=>(match e a,e x with|some p,some v=>∃h',yA c t h p v=some h'/\k zC h'|_,_=>False)
 | .field t x f=>(match e x with|some v=>j7 c o.type (zK2 c t v f) λv=>k v h|none=>False)
 | .fieldAddr t x f=>(match e x with|some p=>zY c t f h p k|none=>False)
 | .indexAddr t x ix=>(match e x,e ix with|some a,some i=>∃pb po,zV c t a i=some (.ptr pb po)/\k (.ptr pb po) h|_,_=>False)
 | .index t x ix=>(match e x,e ix with|some a,some i=>q7 c o.type (jw c t a i) λv=>k v h|_,_=>False)
 | .extract x i=>(match e x with|some v=>ZS c i o.type v λu=>k u h|none=>False)
 | .alloc t=>(match c.ty.get t with|some ti=>(match ti.zero with|some z=>zAA c t h z k|none=>False)|none=>False)
 | .box t x=>(match e x with|some v=>zAA c t h v k|none=>False)
 | .makeFunc (.func g) first captured=>(match qe e first.toList,qe e captured.toList with|some a,some b=>k (.func (.func g) a b) h|_,_=>False)
 | .call cl=>JV c P cl o.type e h k
 | .slice t x lo hi mx=>(match e x,evO e lo,evO e hi,evO e mx with|some v,some a,some b,some m=>q7 c o.type (yP c t h v a b m) λv=>k v h|_,_,_,_=>False)
 | .build t ps=>(match evP e ps.toList with|some l=>j7 c t (wc c t l) λv=>k v h|none=>False)
 | .buildSlice t n ps=>(match evP e ps.toList with|some l=>∃v h',zS c t n l h=some (v,h')/\k v h'|none=>False)
 | .makeInterface t x=>(match c.ty.get t,e x with|some ti,some v=>(match zWW ti.desc with|true=>False|false=>k (.iface t v) h)|_,_=>False)
 | .makeSlice t l m=>(match e l,e m with|some a,some b=>∃v h',we c t a b h=some (v,h')/\k v h'|_,_=>False)
 | .lookup t x i ok=>(match e x,e i with|some a,some b=>q7 c o.type (JZ c t h a b ok) λv=>k v h|_,_=>False)
 | .mapUpdate t m x v=>(match e m,e x,e v with|some a,some b,some d=>∃h',zAY c t h a b d=some h'/\k zC h'|_,_,_=>False)
 | _=>∃v h',yD c o e h=some (.val v h')/\k v h'
def zJO:Op->Bool
 | .defer _=>true
 | _=>false
def zBA:Op->Bool
 | .panic _=>true
 | _=>false
def Y4 (b:Bool) (ops:List Oper):List Oper->St->(AX->St->Prop)->Prop
  | [],s,Q=>Q .normal s
  | o::l,s,Q =>
    if zZ ops s.tm o=true then
      (if zBA o.op=true then False else if zJO o.op=true then wpA P c b o.dst s (λs'=>Y4 b ops l s' Q) Q (yD c o (yQ s.tm) s.heap)
       else zEy c P o (yQ s.tm) s.heap λv h=>jM o.dst v s h λs'=>Y4 b ops l s' Q)
    else jM o.dst zC s s.heap λs'=>Y4 b ops l s' Q
variable {P c}
theorem Oi {v:V}{k:V->Prop}(h:YY v k):k v:=by
 cases v with
 | bool t =>
  cases t with
  | true=>exact h.1 rfl
  | false=>exact h.2 rfl
 | _=>exact h
theorem zJm {t:TypeId}{k:V->Prop}(h:JQ c t k):∃v,k v:=by
 unfold JQ at h;split at h
 ·split at h
  ·exact JS _ h
  ·exact h
 ·exact h
theorem zGt:∀{ts:List TypeId}{k:List V->Prop},XR c ts k->∃vs,k vs:=by
 intro ts
 induction ts with
 | nil=>intro k h;exact⟨[],h⟩
 | cons t ts ih =>
  intro k h;obtain⟨v,h⟩:=zJm h;obtain⟨vs,h⟩:=ih h;exact⟨_,h⟩
theorem zGv {t:Bool}{k:V->Prop}(h:Oh t k):k (.bool t):=by
 cases t with
 | true=>exact h.1 rfl
 | false=>exact h.2 rfl
theorem xm {p:Prop}[Decidable p] {k:V->Prop}(h:jP p k):k (.bool (decide p)):=by
 by_cases hp:p
 ·simp only[hp,decide_true];exact h.1 hp
 ·simp only[hp,decide_false];exact h.2 hp
theorem Oe {t:TypeId}{e k:V->Prop}(h:YX c t e k):∃v,e v/\k v:=by
 unfold YX at h;split at h
 ·split at h
  ·obtain⟨vs,h⟩:=zGt h;exact⟨_,h⟩
  ·split at h
   ·unfold zIG at h
    split at h
    ·obtain⟨t,h1,h2⟩:=h;exact⟨_,h1,zGv h2⟩
    ·exact JS _ h
   ·exact h
 ·exact h
theorem jN {t:TypeId}{r:Option V}{k:V->Prop}(h:q7 c t r k):∃v,r=some v/\k v:=Oe h
theorem ZJ {t:TypeId}{k:V->H->Prop}{v:V}{h:H}(r:qA c t k v h):k v h:=by
 obtain⟨u,rfl,h2⟩:=Oe r;exact h2
def anK (P:Program) (c:Ctx) (h:H) (k:V->H->Prop):Option AN->Prop
 | some (.val v h')=>k v h'
 | some (.skip h')=>k zC h'
 | some (.call f args)=>RF P c f args h k
 | some (.round l args)=>RR P l args h k
 | _=>False
theorem xP {h:H}{k:V->H->Prop}{r:Option V}(e:∃v,r=some v/\k v h):anK P c h k (AN.ofV r h):=by
 obtain⟨v,rfl,hk⟩:=e;exact hk
theorem qh {h:H}{k:V->H->Prop}{r:Option (V×H)}(e:∃v h',r=some (v,h')/\k v h'):anK P c h k (AN.ofVH r):=by
 obtain⟨v,h',rfl,hk⟩:=e;exact hk
theorem zQD (m n:Int):(!(m == n))=decide (m≠n):=by
 by_cases h:m=n<;>simp[h]
theorem zWM (m n:Int):(m == n)=decide (m=n):=by
 by_cases h:m=n<;>simp[h]
theorem zHj (m n:Int):(!decide (n<m))=decide (m<=n):=by
 by_cases h:n<m
 ·have:¬m<=n:=by omega
  simp[h,this]
 ·have:m<=n:=by omega
  simp[h,this]
theorem zKE {op:BinOp}{t ot:TypeId}{x y:Operand}{a b:V}{k:V->Prop}(h:wx c op t x y ot a b k):∃v,yn c op t x y a b=some v/\k v:=by
 unfold wx at h;split at h
 ·rename_i κ m κ' n
  split at h
  ·rename_i hc
   have hab:yn c op t x y (.int κ m) (.int κ' n)=zj op κ m n:=by
    unfold yn;rcases hc with hc|hc
    ·rw[hc];rfl
    ·cases hs:xq op<;>simp[hc]
   rw[hab];split at h
   ·exact⟨_,by simp only[zj,KE],h⟩
   ·exact⟨_,by simp only[zj,KV],h⟩
   ·exact⟨_,by simp only[zj,zHl],h⟩
   ·exact⟨_,by simp only[zj,jF,zWM],xm h⟩
   ·exact⟨_,by simp only[zj,jF,zQD],xm h⟩
   ·exact⟨_,by simp only[zj,yo],xm h⟩
   ·exact⟨_,by simp only[zj,yo,zHj],xm h⟩
   ·exact⟨_,by simp only[zj,yo],xm h⟩
   ·exact⟨_,by simp only[zj,yo,zHj],xm h⟩
   ·refine⟨_,?_,h.2⟩
    simp only[zj,jF,zBp];rw[show(n == 0)=false from by simpa using h.1];rfl
   ·refine⟨_,?_,h.2⟩
    simp only[zj,jF,zHk];rw[show(n == 0)=false from by simpa using h.1];rfl
   ·obtain⟨r,h1,h2⟩:=h;exact⟨_,h1,h2⟩
  ·exact h.elim
 ·rename_i l m
  have hab:yn c op t x y (.str l) (.str m)=zGy op l m:=rfl;split at h
  ·refine⟨_,?_,xm h⟩
   rw[hab];simp only[zGy,qr]
   congr 2
   by_cases hl:l=m<;>simp[hl]
  ·refine⟨_,?_,xm h⟩
   rw[hab];simp only[zGy,qr]
   congr 2
   by_cases hl:l=m<;>simp[hl]
  ·refine⟨_,?_,h.2⟩
   rw[hab];simp only[zGy];have:Nat.ble (qP l (qP m 0)) 4611686018427387904=true:=oC (by rw[yu,yu];have:=h.1;omega);rw[this];rfl
  ·exact jN h
 ·exact jN h
theorem zOs {op:UnOp}{a:V}{k:V->Prop}(h:zAG op a k):∃v,aun op a=some v/\k v:=by
 unfold zAG at h;split at h
 ·split at h
  ·exact⟨_,rfl,h⟩
  ·exact h.elim
 ·split at h
  ·exact⟨_,by simp only[aun,KV],h⟩
  ·obtain⟨r,h1,h2⟩:=h;exact⟨_,h1,h2⟩
 ·exact h.elim
theorem zCC {d:TypeDesc}{κ:IntKind}(h:YK d=some κ):d = .int κ:=by
 cases d<;>simp only[YK,oA,reduceCtorEq]at h;rw[h]
theorem zHH {s d:TypeId}{h:H}{v:V}{k:V->H->Prop}(w:wF c s d h v k):∃u h',yt c s d h v=some (u,h')/\k u h':=by
 unfold wF at w;split at w
 ·rename_i κ0 n
  split at w
  ·rename_i ts td h1 h2
   split at w
   ·rename_i κ1 κ h3 h4
    refine⟨_,_,?_,w⟩;unfold yt;rw[h1,h2];simp only[zCC h3,zCC h4]
   ·exact w.elim
  ·exact w.elim
 ·split at w
  ·obtain⟨l,h',h1,h2⟩:=w;exact⟨_,_,h1,h2⟩
  ·exact w
theorem zAF {v:V}{k:Bool->Prop}(h:wG v k):∃t,v = .bool t/\k t:=by
 cases v with
 | bool t =>
  cases t with
  | true=>exact⟨_,rfl,h⟩
  | false=>exact⟨_,rfl,h⟩
 | _=>exact h.elim
theorem zBW {t:TypeId}{h:H}{v:V}{k:V->H->Prop}(w:zAA c t h v k):∃bh,qi h v.cells ⟨0,t+1,0⟩ false=some bh/\k (.ptr bh.1 0) bh.2:=by
 unfold zAA at w;split at w
 ·split at w
  ·unfold xV at w
   split at w
   ·rename_i cs h1
    obtain⟨h2,h3⟩:=w;refine⟨(h.next,h.new (.cells cs ⟨0,t+1,0⟩ true false)),?_,h3 _ _ rfl rfl⟩;unfold qi ky;cases ha:zU v.cells with
    | false=>rw[ha]at h1;cases h1
    | true =>
     rw[ha,oK]at h1;rw[oK,(z8 _ _).2 h2,oK,h1]
   ·exact w.elim
  ·obtain⟨h1,h2,h3⟩:=w
   refine⟨(h.next,h.new (.cells (.ls [v]) ⟨0,t+1,0⟩ true false)),?_,h3 _ _ rfl rfl⟩;have hc:v.cells=[v]:=by cases v<;>first|rfl|cases h1
   have ha:zU v.cells=true:=by rw[hc];unfold zU;rw[h1];rfl
   unfold qi ky;rw[ha,oK,(z8 _ _).2 h2,oK,hc];rfl
 ·exact w.elim
theorem zBX {ot:TypeId}{r:Option V}{k:V->Prop}(h:j7 c ot r k):∃v,r=some v/\k v:=by
 unfold j7 at h;split at h
 ·rename_i u
  split at h
  ·exact⟨u,rfl,Oi h⟩
  ·exact⟨u,rfl,h⟩
 ·exact h.elim
theorem Z8 {mx:Bool}{l:List V}{k:V->Prop}(h:Jn mx l k):∃v l' u,l=v::l'/\qQ mx v l'=some u/\k u:=by
 unfold Jn at h;split at h
 ·rename_i κ a κ' b
  refine⟨_,_,_,rfl,?_,h⟩;simp only[qQ,yo];cases mx with
  | true =>
   simp only[oK,if_true];by_cases hab:a<b
   ·simp only[hab,decide_true,oK];rw[show max a b=b from by omega]
   ·simp only[hab,decide_false,oL];rw[show max a b=a from by omega]
  | false =>
   simp only[oL,Bool.false_eq_true,if_false];by_cases hab:b<a
   ·simp only[hab,decide_true,oK];rw[show min a b=b from by omega]
   ·simp only[hab,decide_false,oL];rw[show min a b=a from by omega]
 ·obtain⟨u,h1,h2⟩:=h;exact⟨_,_,u,rfl,h1,h2⟩
 ·exact h.elim
theorem zKH {t:TypeId}{h:H}{v:V}{k:V->Prop}(w:zBV c t h v k):∃u,zc c t h v=some u/\k u:=by
 unfold zBV at w;split at w
 ·rename_i hs
  unfold z0W at w;split at w
  ·rename_i l
   unfold zGz at hs;split at hs
   ·rename_i ti hti
    split at hs
    ·rename_i hd
     refine⟨.int .i64 (.ofNat (qP l 0)),?_,by rw[yu,Nat.add_zero];exact w⟩;unfold zc;rw[hti];simp only[hd]
    ·cases hs
   ·cases hs
  ·exact w.elim
 ·obtain⟨x,w1,w2⟩:=w;exact⟨_,w1,w2⟩
theorem zAg {b:Builtin}{cl:Call}{ot:TypeId}{e:Operand->Option V}{h:H}{k:V->H->Prop}{args:List V}(hc:cl.callee = .builtin b) (ha:qe e cl.args.toList=some args)
  (w:jt c b ot h k (yr c cl e h) args cl.argTypes.toList):anK P c h k (yr c cl e h):=by
 have hg:∀(g:Option AN),(∃v h',g=some (.val v h')/\qA c ot k v h')->anK P c h k g:=by
  rintro g ⟨v,h',rfl,hk⟩;exact ZJ hk
 generalize hl:cl.argTypes.toList=ts at w;unfold jt at w;split at w
 ·rename_i x t
  split at w
  ·obtain⟨u,h1,h2⟩:=zKH w
   unfold yr;rw[ha,hc,hl];exact xP ⟨u,h1,h2⟩
  ·exact hg _ w
 ·rename_i s x t tx
  split at w
  ·obtain⟨_,w2⟩:=w
   unfold yr;rw[ha,hc,hl];exact qh w2
  ·obtain⟨x',h',w1,w2⟩:=w
   unfold yr;rw[ha,hc,hl];exact qh ⟨_,_,w1,w2⟩
  ·obtain⟨v,l',u,h0,h1,h2⟩:=Z8 w
   unfold yr;rw[ha,hc,h0];exact xP ⟨u,h1,h2⟩
  ·obtain⟨v,l',u,h0,h1,h2⟩:=Z8 w
   unfold yr;rw[ha,hc,h0];exact xP ⟨u,h1,h2⟩
  ·exact hg _ w
 ·split at w
  ·obtain⟨v,l',u,h0,h1,h2⟩:=Z8 w
   unfold yr;rw[ha,hc,h0];exact xP ⟨u,h1,h2⟩
  ·obtain⟨v,l',u,h0,h1,h2⟩:=Z8 w
   unfold yr;rw[ha,hc,h0];exact xP ⟨u,h1,h2⟩
  ·exact hg _ w
theorem zHG {cl:Call}{ot:TypeId}{e:Operand->Option V}{h:H}{k:V->H->Prop}(w:JV c P cl ot e h k):anK P c h k (yr c cl e h):=by
 unfold JV at w;cases ha:qe e cl.args.toList with
 | none=>rw[ha]at w;exact w.elim
 | some args =>
  rw[ha]at w;cases hc:cl.callee with
  | value f =>
   simp only[hc]at w;have hac:yr c cl e h=(match e f with|some (.func (.func g) first captured)=>qH c h g first args captured|some (.yield l)=>some (.round l args)|_=>none):=by
    unfold yr;rw[ha,hc];rfl
   rw[hac];cases hf:e f with
   | none=>rw[hf]at w;exact w.elim
   | some v =>
    rw[hf]at w;have w:yV c P ot h k args v:=w;unfold yV at w;split at w
    ·rename_i g first captured _
     show anK P c h k (qH c h g first args captured);generalize qH c h g first args captured=r at w
     cases r with
     | none=>exact w.elim
     | some an =>
      cases an<;>first|exact w|exact w.elim|exact RF.mono w λ_ _ h1=>ZJ h1
    ·exact RR.mono w λ_ _ h1=>ZJ h1
    ·exact w.elim
  | builtin b =>
   simp only[hc]at w;exact zAg hc ha w
  | invoke r name =>
   simp only[hc]at w;unfold yr;rw[ha];simp only[hc];cases hr:e r with
   | none=>rw[hr]at w;exact w.elim
   | some x =>
    rw[hr]at w;cases x<;>first|exact w.elim|skip
    simp only at w ⊢;split at w
    ·rename_i he
     rw[he];exact RF.mono w λ_ _ h1=>ZJ h1
    ·rename_i he
     obtain⟨u,hu,w⟩:=w;rw[he];simp only[hu];exact RF.mono w λ_ _ h1=>ZJ h1
    ·exact w.elim
theorem zOn {t:TypeId}{f:Nat}{o:Oper}{e:Operand->Option V}{x:Operand}{h:H}{p:V}{k:V->H->Prop}(ho:o.op = .fieldAddr t x f) (hx:e x=some p) (w:zY c t f h p k):anK P c h k (yD c o e h):=by
 unfold yD;rw[ho];simp only[hx];unfold zY at w;split at w
 ·rename_i b off
  split at w
  ·rename_i ti hti
   rw[hti];split at w
   ·rename_i fs hd
    simp only[hd];split at w
    ·rename_i fd hfd
     simp only[hfd];split at w
     ·rename_i tf htf
      split at w
      ·rename_i hs
       unfold afa;rw[htf];simp only[(z8 _ _).2 hs,oK];exact w
      ·exact w.elim
     ·exact w.elim
    ·exact w.elim
   ·exact w.elim
  ·exact w.elim
 ·exact w.elim
theorem ZT {o:Oper}{e:Operand->Option V}{h:H}{k:V->H->Prop}(w:zEy c P o e h k):anK P c h k (yD c o e h):=by
 have gen:(∃v h',yD c o e h=some (.val v h')/\k v h')->anK P c h k (yD c o e h):=by
  rintro⟨v,h',h1,h2⟩;rw[h1];exact h2
 unfold zEy at w;cases ho:o.op<;>simp only[ho]at w<;>first|exact gen w|skip
 case move x =>
  unfold yD;rw[ho];simp only;cases hx:e x with
  | none=>rw[hx]at w;exact w.elim
  | some v=>rw[hx]at w;exact w
 case assign x =>
  unfold yD;rw[ho];simp only;cases hx:e x with
  | none=>rw[hx]at w;exact w.elim
  | some v=>rw[hx]at w;exact w
 case pick cc a b =>
  unfold yD;rw[ho];simp only;cases hc:e cc with
  | none=>rw[hc]at w;exact w.elim
  | some v =>
   cases hx:e a with
   | none=>rw[hc,hx]at w;exact w.elim
   | some x =>
    cases hy:e b with
    | none=>rw[hc,hx,hy]at w;exact w.elim
    | some y =>
     rw[hc,hx,hy]at w;obtain⟨t,rfl,h2⟩:=zAF w;simp only;exact xP ⟨_,by cases t<;>rfl,h2⟩
 case alloc t =>
  unfold yD;rw[ho];simp only;split at w
  ·rename_i ti hti
   split at w
   ·rename_i z hz
    obtain⟨bh,h1,h2⟩:=zBW w;rw[hti];simp only[hz,h1];exact h2
   ·exact w.elim
  ·exact w.elim
 case box t x =>
  unfold yD;rw[ho];simp only;split at w
  ·rename_i v hv
   obtain⟨bh,h1,h2⟩:=zBW w;rw[hv];simp only[h1];exact h2
  ·exact w.elim
 case build t ps =>
  unfold yD;rw[ho];simp only;split at w
  ·rename_i l hl;rw[hl];exact xP (zBX w)
  ·exact w.elim
 case buildSlice t n ps =>
  unfold yD;rw[ho];simp only;split at w
  ·rename_i l hl;rw[hl];exact qh w
  ·exact w.elim
 case makeInterface t x =>
  unfold yD;rw[ho];simp only;split at w
  ·rename_i ti v h1 h2
   split at w
   ·exact w.elim
   ·rename_i hd
    rw[h1,h2];simp only;cases hdd:ti.desc<;>rw[hdd]at hd<;>first|(cases hd;done)|exact w
  ·exact w.elim
 case makeSlice t l m =>
  unfold yD;rw[ho];simp only;split at w
  ·rename_i a b ha hb;rw[ha,hb];exact qh w
  ·exact w.elim
 case load t a =>
  unfold yD;rw[ho];simp only;split at w
  ·rename_i p hp;rw[hp];exact xP (jN w)
  ·exact w.elim
 case store t a x =>
  unfold yD;rw[ho];simp only;split at w
  ·rename_i p v hp hv
   obtain⟨h',h1,h2⟩:=w;rw[hp,hv];simp only[h1];exact h2
  ·exact w.elim
 case binOp op t x y t2 =>
  unfold yD;rw[ho];simp only;split at w
  ·rename_i a b ha hb;rw[ha,hb];exact xP (zKE w)
  ·exact w.elim
 case unOp op t x =>
  unfold yD;rw[ho];simp only;split at w
  ·rename_i a ha;rw[ha];exact xP (zOs w)
  ·exact w.elim
 case convert s d x =>
  unfold yD;rw[ho];simp only;split at w
  ·rename_i a ha;rw[ha];exact qh (zHH w)
  ·exact w.elim
 case makeFunc f first captured =>
  cases f with
  | func g =>
   unfold yD;rw[ho];simp only at w ⊢;split at w
   ·rename_i a b ha hb;rw[ha,hb];exact w
   ·exact w.elim
  | _=>exact gen w
 case slice t x lo hi mx =>
  unfold yD;rw[ho];simp only;split at w
  ·rename_i v a b m h1 h2 h3 h4;rw[h1,h2,h3,h4];exact xP (jN w)
  ·exact w.elim
 case fieldAddr t x f =>
  split at w
  ·rename_i p hp;exact zOn ho hp w
  ·exact w.elim
 case field t x f =>
  unfold yD;rw[ho];simp only;split at w
  ·rename_i v hv;rw[hv];exact xP (zBX w)
  ·exact w.elim
 case indexAddr t x ix =>
  unfold yD;rw[ho];simp only;split at w
  ·rename_i a i ha hi
   obtain⟨pb,po,h1,h2⟩:=w;rw[ha,hi];exact xP ⟨_,h1,h2⟩
  ·exact w.elim
 case index t x ix =>
  unfold yD;rw[ho];simp only;split at w
  ·rename_i a i ha hi;rw[ha,hi];exact xP (jN w)
  ·exact w.elim
 case lookup t x i ok =>
  unfold yD;rw[ho];simp only;split at w
  ·rename_i a b ha hb;rw[ha,hb];exact xP (jN w)
  ·exact w.elim
 case mapUpdate t m x v =>
  unfold yD;rw[ho];simp only;split at w
  ·rename_i a b d ha hb hd
   obtain⟨h',h1,h2⟩:=w;rw[ha,hb,hd];simp only[h1];exact h2
  ·exact w.elim
 case extract x i =>
  unfold yD;rw[ho];simp only;split at w
  ·rename_i v hv
   rw[hv];unfold ZS at w;split at w
   ·rename_i l
    simp only;split at w
    ·rename_i u hu
     rw[hu];split at w
     ·exact Oi w
     ·exact w
    ·exact w.elim
   ·exact w.elim
  ·exact w.elim
 case call cl =>
  have:yD c o e h=yr c cl e h:=by unfold yD;rw[ho]
  rw[this];exact zHG w
theorem zX4 {b:Bool}{d:Option Tmp}{s:St}{kk:St->Prop}{Q:AX->St->Prop}{r:Option AN}(h:anK P c s.heap (λv h=>jM d v s h kk) r):wpA P c b d s kk Q r:=by
 cases r with
 | none=>exact h.elim
 | some an =>
  cases an<;>first|exact h|exact h.elim
def wX (o:Oper):Oper:={ dst:=o.dst,op:=o.op,type:=o.type,pos := "",after:=#[],guard:=o.guard }
def wZ:Code->Code
 | .region id ops false=>.region id ⟨ops.toList.map wX⟩ false
 | .seq x y=>.seq (wZ x) (wZ y)
 | .cond o x y=>.cond o (wZ x) (wZ y)
 | .block id x=>.block id (wZ x)
 | .loop x=>.loop (wZ x)
 | .scope x=>.scope (wZ x)
 | x=>x
theorem zYE (o:Oper) (e:Operand->Option V) (h:H):yD c (wX o) e h=yD c o e h:=rfl
theorem zEs (ops:List Oper) (tm:Tm) (o:Oper):zZ (ops.map wX) tm (wX o)=zZ ops tm o:=by
 unfold zZ;show(match o.guard with|none=>_|some (j,w)=>_)=_
 cases o.guard with
 | none=>rfl
 | some g =>
  obtain⟨j,w⟩:=g;simp only[oU];cases ops[j]? with
  | none=>rfl
  | some o'=>rfl
theorem zKI (ok:CtxOK P c) {b:Bool}{ops:Array Oper}:∀(l:List Oper) {s:St}{Q:AX->St->Prop},Y4 P c b (ops.toList.map wX) (l.map wX) s Q->∃x s',SimO P b ops l s x s'/\Q x s':=by
 intro l
 induction l with
 | nil=>intro s Q h;exact⟨_,_,SimO.nil,h⟩
 | cons o l ih =>
  intro s Q h;simp only[List.map_cons,Y4,zEs]at h;have go:∀{s1:St},StepW P b o s .normal s1->zZ ops.toList s.tm o=true->Y4 P c b (ops.toList.map wX) (l.map wX) s1 Q->∃x s',SimO P b ops (o::l) s x s'/\Q x s':=by
   intro s1 hs hw hk;obtain⟨x,s',h1,h2⟩:=ih hk;exact⟨x,s',SimO.step hw hs h1,h2⟩
  split at h
  ·rename_i hw
   have h:wpA P c b o.dst s (λs'=>Y4 P c b (ops.toList.map wX) (l.map wX) s' Q) Q (yD c o (yQ s.tm) s.heap):=by
    split at h
    ·exact h.elim
    ·split at h
     ·exact h
     ·exact zX4 (ZT h)
   cases ha:yD c o (yQ s.tm) s.heap with
   | none=>rw[ha]at h;exact h.elim
   | some an =>
    rw[ha]at h;cases an with
    | val v h' =>
     have h:jM o.dst v s h' (λs'=>Y4 P c b (ops.toList.map wX) (l.map wX) s' Q):=h
     obtain⟨s1,hp,hk⟩:=yd h;exact go (StepW.of_step ok qR YI (by unfold z6;simp only[ha,hp])) hw hk
    | skip h' =>
     have h:jM o.dst zC s h' (λs'=>Y4 P c b (ops.toList.map wX) (l.map wX) s' Q):=h
     obtain⟨s1,hp,hk⟩:=yd h;exact go (StepW.of_step ok qR YI (by unfold z6;simp only[ha,hp])) hw hk
    | call f args =>
     obtain⟨v,h',⟨hf,hs⟩,hq⟩:=h;have hq:jM o.dst v s h' (λs'=>Y4 P c b (ops.toList.map wX) (l.map wX) s' Q):=hq
     obtain⟨s1,hp,hk⟩:=yd hq;exact go (StepW.call ok ha hf hs hp) hw hk
    | round lp args =>
     obtain⟨v,h',hs,hq⟩:=h;have hq:jM o.dst v s h' (λs'=>Y4 P c b (ops.toList.map wX) (l.map wX) s' Q):=hq
     obtain⟨s1,hp,hk⟩:=yd hq;exact go (StepW.round ok ha hs hp) hw hk
    | dfr ad =>
     obtain⟨hb,hq⟩:=h;obtain⟨s1,hp,hk⟩:=yd hq;have hst:z6 c OJ b kH o s=some (.normal,s1):=by
      unfold z6;rw[ha];show cond b none (match yF ⟨s.n,s.tm,ad::s.dfr,s.heap⟩ o.dst zC s.heap with|some s'=>some (AX.normal,s')|none=>none)=_
      rw[hb,oL,hp]
     exact go (StepW.of_step ok qR YI hst) hw hk
    | recover=>exact h.elim
    | pan v h'=>exact⟨_,_,SimO.out hw (StepW.of_step ok qR YI (by unfold z6;simp only[ha])),h⟩
  ·rename_i hw
   have hw:zZ ops.toList s.tm o=false:=by simpa using hw
   obtain⟨s1,hp,hk⟩:=yd h;obtain⟨x,s',h1,h2⟩:=ih hk;exact⟨x,s',SimO.off hw hp h1,h2⟩
theorem RC.region (ok:CtxOK P c) {b:Bool}{id:Nat}{ops:Array Oper}{s:St}{Q:AX->St->Prop}(h:Y4 P c b (ops.toList.map wX) (ops.toList.map wX) s Q):RC P b (.region id ops false) s Q:=by
 obtain⟨x,s',h1,h2⟩:=zKI ok _ h;refine⟨x,s',λrd hrd ρ D w a k hl=>?_,h2⟩
 exact wpIn_region (h1 rd hrd _ (OB ops) k.hr.lt hl (Mv.refl _ _ _ _) (by rw[zk];exact k))
theorem RC.seq {b:Bool}{x y:Code}{s:St}{Q:AX->St->Prop}(h:RC P b x s λe s1=>match e with | .normal=>RC P b y s1 Q|e=>Q e s1):RC P b (.seq x y) s Q:=by
 obtain⟨e,s1,h1,h2⟩:=h;cases e with
 | normal =>
  obtain⟨e2,s2,h3,h4⟩:=h2;exact⟨e2,s2,λrd hrd=>SimC.seq (h1 rd hrd) (h3 rd hrd),h4⟩
 | _=>exact⟨_,s1,λrd hrd=>SimC.seq_out (h1 rd hrd) (by intro h;cases h),h2⟩
theorem RC.cond {b:Bool}{o:Operand}{x y:Code}{s:St}{Q:AX->St->Prop}{t:Bool}(ho:yQ s.tm o=some (.bool t)) (h:RC P b (cond t x y) s Q):RC P b (.cond o x y) s Q:=by
 obtain⟨e,s1,h1,h2⟩:=h;exact⟨e,s1,λrd hrd=>SimC.cond ho (h1 rd hrd),h2⟩
def zK (id:Nat):AX->AX
 | .exit i=>if i=id then .normal else .exit i
 | e=>e
theorem RC.block {b:Bool}{id:Nat}{x:Code}{s:St}{Q:AX->St->Prop}(h:RC P b x s λe s1=>Q (zK id e) s1):RC P b (.block id x) s Q:=by
 obtain⟨e,s1,h1,h2⟩:=h;refine⟨zK id e,s1,λrd hrd=>?_,h2⟩
 have:=SimC.block (id:=id) (h1 rd hrd);cases e<;>exact this
theorem RC.loop {b:Bool}{x:Code}{Q:AX->St->Prop}(I:Nat->St->Prop) (hI:∀k s,I k s->RC P b x s λe s1=>match e with | .normal=>∃j,j<k/\I j s1|e=>Q e s1) :
  ∀k s,I k s->RC P b (.loop x) s Q:=by
 have key:∀k s,I k s->∃e s1,(∀rd:Option Nat,rd.isSome=b->SimL P rd x s e s1)/\Q e s1:=by
  intro k
  induction k using Nat.strongRecOn with
  | _ k ih =>
   intro s hi;obtain⟨e,s1,h1,h2⟩:=hI k s hi;cases e with
   | normal =>
    obtain⟨j,hj,hi2⟩:=h2;obtain⟨e2,s2,h3,h4⟩:=ih j hj s1 hi2;exact⟨e2,s2,λrd hrd=>SimL.next (h1 rd hrd) (h3 rd hrd),h4⟩
   | _=>exact⟨_,s1,λrd hrd=>SimL.last (h1 rd hrd) (by intro h;cases h),h2⟩
 intro k s hi;obtain⟨e,s1,h1,h2⟩:=key k s hi;exact⟨e,s1,λrd hrd=>SimL.loop (h1 rd hrd),h2⟩
theorem RC.rangeFunc (ok:CtxOK P c) {f:Operand}{params:Array Tmp}{assign body:Code}{s:St}{Q:AX->St->Prop}{g:Nat}{first captured:List V}
  (hf:yQ s.tm f=some (.func (.func g) first captured)) (hn:s.heap.next+1<T.top)
  (h:RF P c g (first++(.yield (s.heap.next+1)::captured)) ((s.heap.new (.deferred true)).new (.loop .ready none s.n s.tm params assign body s.heap.next))
   λ_ h3=>match j2 s.heap.next (s.heap.next+1) s h3 with|some (.done x s')=>Q x s'|none=>False):RC P false (.rangeFunc f params assign body) s Q:=by
 obtain⟨v,h3,⟨hfn,hs⟩,hq⟩:=h;cases he:j2 s.heap.next (s.heap.next+1) s h3 with
 | none=>rw[he]at hq;exact hq.elim
 | some out =>
  obtain⟨x,s'⟩:=out;rw[he]at hq;refine⟨x,s',λrd hrd=>?_,hq⟩
  have hrn:rd=none:=by cases rd with|none=>rfl|some l=>simp at hrd
  subst hrn;refine XO (orc:=zEM g (first++(.yield (s.heap.next+1)::captured)) ((s.heap.new (.deferred true)).new (.loop .ready none s.n s.tm params assign body s.heap.next)) v h3) (ih:=kH) ok (KR hfn hs) YI ?_;unfold qW;rw[hf];have:(Option.isSome (none:Option Nat) || !(Nat.blt (s.heap.next+1) T.top))=false:=by
   rw[(z8 _ _).2 hn];rfl
  simp only[this,oL];unfold xe;rw[KQ];exact he
theorem RR.intro {l:Nat}{args:List V}{h:H}{Q:V->H->Prop}{pend:Option Code}{n:Nat}{tm tm':Tm}{params:Array Tmp}{assign body:Code}{df:Nat}(hl:l<T.top)
  (hg:h.get l=some (.loop .ready pend n tm params assign body df)) (hs:xy params.toList args n tm=some tm')
  (ha:RC P true assign ⟨n,tm',[],h⟩ λe s1=>e = .normal/\∃pend1 n1 tm1 ps1 as1 bd1 df1,s1.heap.get l=some (.loop .ready pend1 n1 tm1 ps1 as1 bd1 df1) /\
   RC P true body ⟨s1.n,s1.tm,s1.dfr,s1.heap.upd l (some (.loop .busy pend1 n1 tm1 ps1 as1 bd1 df1))⟩ λe2 s2=>match j3 l e2 s2 with|some (.ret v h')=>Q v h'|_=>False):RR P l args h Q:=by
 obtain⟨e,s1,h1,rfl,pend1,n1,tm1,ps1,as1,bd1,df1,hg1,e2,s2,h2,hq⟩:=ha;cases hr:j3 l e2 s2 with
 | none=>rw[hr]at hq;exact hq.elim
 | some out =>
  rw[hr]at hq;cases out with
  | panic v h'=>exact hq.elim
  | ret v h' =>
   refine⟨v,h',?_,hq⟩
   classical
   let sB:St:=⟨s1.n,s1.tm,s1.dfr,s1.heap.upd l (some (.loop .busy pend1 n1 tm1 ps1 as1 bd1 df1))⟩
   let sA:St:=⟨n,tm',[],h⟩
   let ih:Bool->Code->St->Option Out:=λb2 c2 s3=>match ih1 true body sB e2 s2 b2 c2 s3 with|some r=>some r|none=>ih1 true assign sA .normal s1 b2 c2 s3
   have hih:ju P ih:=by
    intro rd c2 s3 x3 s4 e3;have hB:=zGG (P:=P) h2;have hA:=zGG (P:=P) h1;simp only[ih]at e3;split at e3
    ·rename_i r hr3
     exact hB rd c2 s3 x3 s4 (by rw[hr3];exact e3)
    ·exact hA rd c2 s3 x3 s4 e3
   refine qY (ih:=ih) hih ?_;have hBat:ih true body sB=some (.done e2 s2):=by simp only[ih];rw[zGF]
   have hAat:ih true assign sA=some (.done .normal s1)\/(body=assign/\sB=sA):=by
    by_cases hc:body=assign/\sB=sA
    ·exact .inr hc
    ·refine .inl ?_
     simp only[ih];have:ih1 true body sB e2 s2 true assign sA=none:=by
      unfold ih1;rw[if_neg];rintro⟨_,h3,h4⟩;exact hc ⟨h3.symm,h4.symm⟩
     rw[this];exact zGF _ _ _ _ _
   have hbody:ih true body sB=some (.done e2 s2):=hBat;unfold kb;rw[hg];simp only[hs];rcases hAat with hA|⟨hc1,hc2⟩
   ·rw[show(⟨n,tm',[],h⟩:St)=sA from rfl,hA]
    simp only;unfold JK;rw[hg1];simp only;rw[show(⟨s1.n,s1.tm,s1.dfr,s1.heap.upd l (some (.loop .busy pend1 n1 tm1 ps1 as1 bd1 df1))⟩:St)=sB from rfl,hbody];exact hr
   ·exfalso
    have h5:sB.heap=sA.heap:=by rw[hc2]
    have h6:(s1.heap.upd l (some (.loop .busy pend1 n1 tm1 ps1 as1 bd1 df1))).get l=h.get l:=by
     show sB.heap.get l=sA.heap.get l;rw[h5]
    rw[H.get_upd _ _ _ _ hl,if_pos rfl,hg]at h6;simp at h6
section mono
variable {P:Program}{c:Ctx}
mutual
theorem ZM:∀(z:V) {k k':V->Prop},(∀v,k v->k' v)->JR z k->JR z k'
 | .int _ _,_,_,h,⟨x,e⟩ | .bool _,_,_,h,⟨x,e⟩ | .str _,_,_,h,⟨x,e⟩ | .ptr _ _,_,_,h,⟨x,e⟩ | .nilptr,_,_,h,⟨x,e⟩ | .slice _ _ _ _,_,_,h,⟨x,e⟩ | .nilslice,_,_,h,⟨x,e⟩
 | .map _,_,_,h,⟨x,e⟩ | .nilmap,_,_,h,⟨x,e⟩ | .func _ _ _,_,_,h,⟨x,e⟩ | .yield _,_,_,h,⟨x,e⟩ | .nilFunc,_,_,h,⟨x,e⟩ | .iface _ _,_,_,h,⟨x,e⟩ | .nilIface,_,_,h,⟨x,e⟩ | .tuple _,_,_,h,⟨x,e⟩=>⟨x,h _ e⟩
 | .agg zs,_,_,h,e=>XT zs (λ_=>h _) e
theorem XT:∀(zs:List V) {k k':List V->Prop},(∀v,k v->k' v)->XS zs k->XS zs k'
 | [],_,_,h,e=>h _ e
 | z::zs,_,_,h,e=>ZM z (λ_=>XT zs λ_=>h _) e
end
theorem zEe {t:TypeId}{k k':V->Prop}(h:∀v,k v->k' v) (e:JQ c t k):JQ c t k':=by
 unfold JQ at e ⊢;split
 ·rename_i ti hti
  rw[hti]at e;simp only at e;split
  ·rename_i z hz;rw[hz]at e;exact ZM z h e
  ·rename_i hz;rw[hz]at e;obtain⟨v,e⟩:=e;exact⟨v,h _ e⟩
 ·rename_i hti;rw[hti]at e;obtain⟨v,e⟩:=e;exact⟨v,h _ e⟩
theorem zCh:∀{ts:List TypeId}{k k':List V->Prop},(∀v,k v->k' v)->XR c ts k->XR c ts k':=by
 intro ts
 induction ts with
 | nil=>intro k k' h e;exact h _ e
 | cons t ts ih=>intro k k' h e;exact zEe (λv=>ih λvs=>h _) e
theorem Jf {t:Bool}{k k':V->Prop}(h:∀v,k v->k' v) (e:Oh t k):Oh t k':=⟨λg=>h _ (e.1 g),λg=>h _ (e.2 g)⟩
theorem Jg {p:Prop}{k k':V->Prop}(h:∀v,k v->k' v) (e:jP p k):jP p k':=⟨λg=>h _ (e.1 g),λg=>h _ (e.2 g)⟩
theorem Jh {v:V}{k k':V->Prop}(h:∀v,k v->k' v) (e:YY v k):YY v k':=by
 cases v<;>first|exact Jf h e|exact h _ e
theorem Je {t:TypeId}{q k k':V->Prop}(h:∀v,k v->k' v) (e:YX c t q k):YX c t q k':=by
 unfold YX at e ⊢;cases hti:c.ty.get t with
 | none=>rw[hti]at e;obtain⟨v,e1,e2⟩:=e;exact⟨v,e1,h _ e2⟩
 | some ti =>
  rw[hti]at e;simp only at e ⊢;cases htd:z01 ti.desc with
  | some ts=>rw[htd]at e;exact zCh (λvs e=>⟨e.1,h _ e.2⟩) e
  | none =>
   rw[htd]at e;simp only at e ⊢;cases hz:ti.zero with
   | none=>rw[hz]at e;obtain⟨v,e1,e2⟩:=e;exact⟨v,e1,h _ e2⟩
   | some z =>
    rw[hz]at e;simp only at e ⊢;cases z<;>first
     | (obtain⟨t,e1,e2⟩:=e;exact⟨t,e1,Jf h e2⟩)
     | exact ZM _ (λv (e:_/\_)=>⟨e.1,h _ e.2⟩) e
theorem wW {t:TypeId}{r:Option V}{k k':V->Prop}(h:∀v,k v->k' v) (e:q7 c t r k):q7 c t r k':=Je h e
theorem qB {t:TypeId}{k k':V->H->Prop}(h:∀v w,k v w->k' v w) {v:V}{w:H}(e:qA c t k v w):qA c t k' v w:=Je (λu=>h u w) e
theorem zHF {op:BinOp}{t ot:TypeId}{x y:Operand}{a b:V}{k k':V->Prop}(h:∀v,k v->k' v) (e:wx c op t x y ot a b k):wx c op t x y ot a b k':=by
 cases a<;>cases b<;>first
  | exact wW h e
  | skip
 ·rename_i κ m κ' n
  have e:(if xq op=true\/xE κ κ'=true then _ else False):=e;show(if xq op=true\/xE κ κ'=true then _ else False);by_cases hc:xq op=true\/xE κ κ'=true
  ·rw[if_pos hc]at e ⊢
   cases op<;>first|exact h _ e|exact Jg h e|exact⟨e.1,h _ e.2⟩|(obtain⟨r,e1,e2⟩:=e;exact⟨r,e1,h _ e2⟩)
  ·rw[if_neg hc]at e;exact e.elim
 ·cases op<;>first|exact Jg h e|exact⟨e.1,h _ e.2⟩|exact wW h e
theorem zKK {op:UnOp}{a:V}{k k':V->Prop}(h:∀v,k v->k' v) (e:zAG op a k):zAG op a k':=by
 cases a<;>first|exact e.elim|skip
 ·cases op<;>first|exact h _ e|exact e.elim
 ·cases op<;>first|exact h _ e|(obtain⟨r,e1,e2⟩:=e;exact⟨r,e1,h _ e2⟩)
theorem zEx {s d:TypeId}{w:H}{v:V}{k k':V->H->Prop}(h:∀v w,k v w->k' v w) (e:wF c s d w v k):wF c s d w v k':=by
 have gen:(match zGz c d with|true=>∃l h',yt c s d w v=some (.str l,h')/\k (.str l) h'|false=>∃u h',yt c s d w v=some (u,h')/\k u h') ->
   (match zGz c d with|true=>∃l h',yt c s d w v=some (.str l,h')/\k' (.str l) h'|false=>∃u h',yt c s d w v=some (u,h')/\k' u h'):=by
  cases zGz c d<;>(rintro⟨x,y,e1,e2⟩;exact⟨x,y,e1,h _ _ e2⟩)
 cases v<;>first|exact gen e|skip
 rename_i κ n;have e:(match c.ty.get s,c.ty.get d with|some ts,some td=>(match YK ts.desc,YK td.desc with|some _,some κ=>k (.int κ (zN κ n)) w|_,_=>False)|_,_=>False):=e
 show(match c.ty.get s,c.ty.get d with|some ts,some td=>(match YK ts.desc,YK td.desc with|some _,some κ=>k' (.int κ (zN κ n)) w|_,_=>False)|_,_=>False)
 cases h1:c.ty.get s with
 | none=>rw[h1]at e;exact False.elim e
 | some ts =>
  cases h2:c.ty.get d with
  | none=>rw[h1,h2]at e;exact False.elim e
  | some td =>
   rw[h1,h2]at e;have e:(match YK ts.desc,YK td.desc with|some _,some κ=>k (.int κ (zN κ n)) w|_,_=>False):=e
   show(match YK ts.desc,YK td.desc with|some _,some κ=>k' (.int κ (zN κ n)) w|_,_=>False)
   cases h3:YK ts.desc with
   | none=>rw[h3]at e;exact False.elim e
   | some κ1 =>
    cases h4:YK td.desc with
    | none=>rw[h3,h4]at e;exact False.elim e
    | some κ2=>rw[h3,h4]at e;exact h _ _ e
theorem zKG {t:TypeId}{f:Nat}{w:H}{v:V}{k k':V->H->Prop}(h:∀v w,k v w->k' v w) (e:zY c t f w v k):zY c t f w v k':=by
 cases v<;>first|exact e.elim|skip
 unfold zY at e ⊢;simp only at e ⊢;cases hti:c.ty.get t with
 | none=>rw[hti]at e;exact e
 | some ti =>
  rw[hti]at e;simp only at e ⊢;cases hd:ti.desc<;>rw[hd]at e<;>first|exact e.elim|skip
  rename_i fs;simp only at e ⊢;cases hf:fs[f]? with
  | none=>rw[hf]at e;exact e
  | some fd =>
   rw[hf]at e;simp only at e ⊢;cases htf:c.ty.get fd.type with
   | none=>rw[htf]at e;exact e
   | some tf =>
    rw[htf]at e;simp only at e ⊢;split
    ·rename_i hs;rw[if_pos hs]at e;exact h _ _ e
    ·rename_i hs;rw[if_neg hs]at e;exact e
theorem zHI {i:Nat}{ot:TypeId}{v:V}{k k':V->Prop}(h:∀v,k v->k' v) (e:ZS c i ot v k):ZS c i ot v k':=by
 cases v<;>first|exact e.elim|skip
 rename_i l;unfold ZS at e ⊢;simp only at e ⊢;cases hl:l[i]? with
 | none=>rw[hl]at e;exact e
 | some u =>
  rw[hl]at e;simp only at e ⊢;cases hb:qk c ot with
  | true=>rw[hb]at e;exact Jh h e
  | false=>rw[hb]at e;exact h _ e
theorem kY {v:V}{k k':Bool->Prop}(h:∀v,k v->k' v) (e:wG v k):wG v k':=by
 cases v<;>first|exact e.elim|skip
 rename_i b;cases b<;>exact h _ e
theorem zAB {t:TypeId}{w:H}{v:V}{k k':V->H->Prop}(h:∀v w,k v w->k' v w) (e:zAA c t w v k):zAA c t w v k':=by
 unfold zAA at e ⊢;cases hti:c.ty.get t with
 | none=>rw[hti]at e;exact e
 | some ti =>
  rw[hti]at e;simp only at e ⊢;split
  ·rename_i ha
   rw[if_pos ha]at e;unfold xV at e ⊢;cases hcs:(cond (zU v.cells) (Cs.ofL v.cells) none)with
   | none=>rw[hcs]at e;exact e
   | some cs=>rw[hcs]at e;exact⟨e.1,λb h' g1 g2=>h _ _ (e.2 b h' g1 g2)⟩
  ·rename_i ha
   rw[if_neg ha]at e;exact⟨e.1,e.2.1,λb h' g1 g2=>h _ _ (e.2.2 b h' g1 g2)⟩
theorem zAE {ot:TypeId}{r:Option V}{k k':V->Prop}(h:∀v,k v->k' v) (e:j7 c ot r k):j7 c ot r k':=by
 unfold j7 at e ⊢;cases r with
 | none=>exact e
 | some u =>
  simp only at e ⊢;cases hb:qk c ot with
  | true=>rw[hb]at e;exact Jh h e
  | false=>rw[hb]at e;exact h _ e
theorem Oz {mx:Bool}{l:List V}{k k':V->Prop}(h:∀v,k v->k' v) (e:Jn mx l k):Jn mx l k':=by
 rcases l with _|⟨v,_|⟨u,_|⟨x,l⟩⟩⟩
 ·exact e
 ·cases v<;>(obtain⟨u,e1,e2⟩:=e;exact⟨u,e1,h _ e2⟩)
 ·cases v<;>cases u<;>first|exact h _ e|(obtain⟨u,e1,e2⟩:=e;exact⟨u,e1,h _ e2⟩)
 ·cases v<;>cases u<;>(obtain⟨u,e1,e2⟩:=e;exact⟨u,e1,h _ e2⟩)
theorem zHK {t:TypeId}{w:H}{v:V}{k k':V->Prop}(h:∀v,k v->k' v) (e:zBV c t w v k):zBV c t w v k':=by
 unfold zBV at e ⊢;cases hs:zGz c t with
 | true=>rw[hs]at e;cases v<;>first|exact h _ e|exact e.elim
 | false=>rw[hs]at e;obtain⟨x,e1,e2⟩:=e;exact⟨x,e1,h _ e2⟩
theorem Oy {b:Builtin}{ot:TypeId}{w:H}{g:Option AN}{l:List V}{ts:List TypeId}{k k':V->H->Prop}(h:∀v w,k v w->k' v w) (e:jt c b ot w k g l ts):jt c b ot w k' g l ts:=by
 have hg:(∃v h',g=some (.val v h')/\qA c ot k v h')->∃v h',g=some (.val v h')/\qA c ot k' v h':=λ⟨v,h',e1,e2⟩=>⟨v,h',e1,qB h e2⟩
 unfold jt at e ⊢;split
 ·simp only at e
  cases b<;>first|exact zHK (λv=>h v w) e|exact hg e
 ·simp only at e
  cases b<;>first|exact hg e|exact Oz (λv=>h v w) e|(obtain⟨e1,v,h',e2,e3⟩:=e;exact⟨e1,v,h',e2,h _ _ e3⟩)|(obtain⟨v,h',e2,e3⟩:=e;exact⟨v,h',e2,h _ _ e3⟩)
 ·rename_i g1 g2
  split at e
  ·exact(g1 _ _ rfl rfl).elim
  ·exact(g2 _ _ _ _ rfl rfl).elim
  ·cases b<;>first|exact hg e|exact Oz (λv=>h v w) e
theorem zKD {ot:TypeId}{w:H}{r:Option AN}{k k':V->H->Prop}(h:∀v w,k v w->k' v w) (e:zX3 c P ot w k r):zX3 c P ot w k' r:=by
 cases r with
 | none=>exact e
 | some an=>cases an<;>first|exact h _ _ e|exact e.elim|exact RF.mono e λ_ _=>qB h
theorem zCp {ot:TypeId}{w:H}{args:List V}{v:V}{k k':V->H->Prop}(h:∀v w,k v w->k' v w) (e:yV c P ot w k args v):yV c P ot w k' args v:=by
 cases v<;>first|exact e.elim|skip
 ·rename_i f _ _
  cases f<;>first|exact zKD h e|exact e.elim
 ·exact RR.mono e λ_ _=>qB h
theorem zEw {cl:Call}{ot:TypeId}{ev:Operand->Option V}{w:H}{k k':V->H->Prop}(h:∀v w,k v w->k' v w) (e:JV c P cl ot ev w k):JV c P cl ot ev w k':=by
 unfold JV at e ⊢;cases ha:qe ev cl.args.toList with
 | none=>rw[ha]at e;exact e
 | some args =>
  rw[ha]at e;simp only at e ⊢;cases hc:cl.callee with
  | value f =>
   rw[hc]at e;simp only at e ⊢;cases hf:ev f with
   | none=>rw[hf]at e;exact e
   | some v=>rw[hf]at e;exact zCp h e
  | builtin b=>rw[hc]at e;exact Oy h e
  | invoke r n =>
   rw[hc]at e;simp only at e ⊢;cases hr:ev r with
   | none=>rw[hr]at e;exact e
   | some x =>
    rw[hr]at e;cases x<;>first|exact e.elim|skip
    simp only at e ⊢;split at e
    ·exact RF.mono e λ_ _=>qB h
    ·obtain⟨u,hu,e⟩:=e
     exact⟨u,hu,RF.mono e λ_ _=>qB h⟩
    ·exact e.elim
theorem JW {o:Oper}{ev:Operand->Option V}{w:H}{k k':V->H->Prop}(h:∀v w,k v w->k' v w) (e:zEy c P o ev w k):zEy c P o ev w k':=by
 have gen:(∃v h',yD c o ev w=some (.val v h')/\k v h')->∃v h',yD c o ev w=some (.val v h')/\k' v h':=λ⟨v,h',e1,e2⟩=>⟨v,h',e1,h _ _ e2⟩
 unfold zEy at e ⊢;cases ho:o.op<;>simp only[ho]at e ⊢<;>first|exact gen e|skip
 case move x=>cases hx:ev x with
  | none=>rw[hx]at e;exact e
  | some v=>rw[hx]at e;exact h _ _ e
 case assign x=>cases hx:ev x with
  | none=>rw[hx]at e;exact e
  | some v=>rw[hx]at e;exact h _ _ e
 case pick a b d =>
  split at e
  ·exact kY (λt=>h _ _) e
  ·exact e.elim
 case alloc t =>
  split at e
  ·split at e
   ·exact zAB h e
   ·exact e.elim
  ·exact e.elim
 case box t x =>
  split at e
  ·exact zAB h e
  ·exact e.elim
 case build t ps =>
  split at e
  ·exact zAE (λv=>h v w) e
  ·exact e.elim
 case buildSlice t n ps =>
  split at e
  ·obtain⟨v,h',e1,e2⟩:=e;exact⟨v,h',e1,h _ _ e2⟩
  ·exact e.elim
 case load t a =>
  split at e
  ·exact wW (λv=>h v w) e
  ·exact e.elim
 case store t a x =>
  split at e
  ·obtain⟨h',e1,e2⟩:=e;exact⟨h',e1,h _ _ e2⟩
  ·exact e.elim
 case binOp op t x y t2 =>
  split at e
  ·exact zHF (λv=>h v w) e
  ·exact e.elim
 case unOp op t x =>
  split at e
  ·exact zKK (λv=>h v w) e
  ·exact e.elim
 case convert s d x =>
  split at e
  ·exact zEx h e
  ·exact e.elim
 case makeFunc f a b =>
  cases f<;>simp only at e ⊢<;>first|exact gen e|skip
  split at e
  ·exact h _ _ e
  ·exact e.elim
 case makeInterface t x =>
  split at e
  ·split at e
   ·exact e.elim
   ·exact h _ _ e
  ·exact e.elim
 case makeSlice t a b =>
  split at e
  ·obtain⟨v,h',e1,e2⟩:=e;exact⟨v,h',e1,h _ _ e2⟩
  ·exact e.elim
 case slice t x a b d =>
  split at e
  ·exact wW (λv=>h v w) e
  ·exact e.elim
 case fieldAddr t x f =>
  split at e
  ·exact zKG h e
  ·exact e.elim
 case field t x f =>
  split at e
  ·exact zAE (λv=>h v w) e
  ·exact e.elim
 case indexAddr t x i =>
  split at e
  ·obtain⟨pb,po,e1,e2⟩:=e;exact⟨pb,po,e1,h _ _ e2⟩
  ·exact e.elim
 case index t x i =>
  split at e
  ·exact wW (λv=>h v w) e
  ·exact e.elim
 case lookup t x i ok =>
  split at e
  ·exact wW (λv=>h v w) e
  ·exact e.elim
 case mapUpdate t m x v =>
  split at e
  ·obtain⟨h',e1,e2⟩:=e;exact⟨h',e1,h _ _ e2⟩
  ·exact e.elim
 case extract x i =>
  split at e
  ·exact zHI (λv=>h v w) e
  ·exact e.elim
 case call cl=>exact zEw h e
theorem zAC {b:Bool}{ops:List Oper}:∀(l:List Oper) {s:St}{Q Q':AX->St->Prop},(∀x s',Q x s'->Q' x s')->Y4 P c b ops l s Q->Y4 P c b ops l s Q':=by
 intro l
 induction l with
 | nil=>intro s Q Q' hq h;exact hq _ _ h
 | cons o l ih =>
  intro s Q Q' hq h;have hput:∀{d v s h},jM d v s h (λs'=>Y4 P c b ops l s' Q)->jM d v s h (λs'=>Y4 P c b ops l s' Q'):=Z5 λs hk=>ih hq hk
  simp only[Y4]at h ⊢;split
  ·rename_i hw
   rw[if_pos hw]at h;split
   ·rename_i hpn;rw[if_pos hpn]at h;exact h
   rename_i hpn;rw[if_neg hpn]at h;split
   ·rename_i hd
    rw[if_pos hd]at h;cases ha:yD c o (yQ s.tm) s.heap with
    | none=>rw[ha]at h;exact h
    | some an =>
     rw[ha]at h;cases an with
     | val v h'=>exact hput h
     | skip h'=>exact hput h
     | call f args=>exact RF.mono h λv h' h1=>hput h1
     | round lp args=>exact RR.mono h λv h' h1=>hput h1
     | dfr ad=>exact⟨h.1,hput h.2⟩
     | recover=>exact h.elim
     | pan v h'=>exact hq _ _ h
   ·rename_i hd
    rw[if_neg hd]at h;exact JW (λv w h1=>hput h1) h
  ·rename_i hw
   rw[if_neg hw]at h;exact hput h
end mono
variable (P c)
def wpDr (b:Bool) (ops:List Oper) (s:St) (Q:AX->St->Prop):Prop :=
 ∃orc m x s',yg P c orc/\xD ops=some m/\yJ c orc b kH ops (zp ops []) m m 0 ops s=some (.done x s')/\Q x s'
variable {P c}
theorem RC.of_dr (ok:CtxOK P c) {b:Bool}{id:Nat}{ops:Array Oper}{s:St}{Q:AX->St->Prop}(h:wpDr P c b ops.toList s Q):RC P b (.region id ops true) s Q:=by
 obtain⟨orc,m,x,s',hor,hm,e,hq⟩:=h;exact⟨x,s',λrd hrd=>by subst hrd;exact zAq ok hor YI hm e,hq⟩
theorem wpDr.mono {b:Bool}{ops:List Oper}{s:St}{Q Q':AX->St->Prop}(h:wpDr P c b ops s Q) (hq:∀x s',Q x s'->Q' x s'):wpDr P c b ops s Q':=by
 obtain⟨orc,m,x,s',hor,hm,e,h3⟩:=h;exact⟨orc,m,x,s',hor,hm,e,hq _ _ h3⟩
def za (h:H):H:=⟨h.tbl,h.next,T.top⟩
variable (c) in
def qV (o:Oper):Bool :=
 match o.op with
 | .move _ | .assign _ | .pick .. | .binOp .. | .unOp .. | .load .. | .field .. | .fieldAddr .. | .index .. | .indexAddr .. | .extract .. | .makeFunc .. | .slice .. | .build .. | .alloc _ | .box .. | .buildSlice .. | .makeSlice .. | .makeInterface ..=>true
 | .convert _ d _=>(match c.ty.get d with|some td=>(match YK td.desc with|some _=>true|none=>false)|none=>false)
 | .call cl=>(match cl.callee with | .builtin .len=>true | .builtin .min=>true | .builtin .max=>true|_=>false)
 | _=>false
def yC:List Oper->List Nat
 | []=>[]
 | o::l=>(match o.op with | .call cl=>(match cl.callee with | .value (.func f)=>[f]|_=>[])|_=>[])++yC l
def ww (o:Oper):Bool :=
 match o.op with
 | .call cl=>(match cl.callee with | .value (.func _)=>true | .builtin _=>true|_=>false)
 | .panic _=>false
 | .defer _=>false
 | .sliceToArrayPointer ..=>false
 | _=>true
def xU:List Nat->Bool
 | []=>true
 | n::l=>!(zA9 n l) && xU l
variable (c) in
def zBq (ops:List Oper):Bool :=
 match xD ops with
 | some m=>(ops.take m).all (qV c) && ((ops.drop m).all ww && xU (yC (ops.drop m)))
 | none=>false
theorem zP4 (t:TypeId) (h:H) (v:V):zO c t (za h) v=zO c t h v:=by
 cases v<;>rfl
theorem zFT (t:TypeId) (h:H) (x:V) (a b d:Option V):yP c t (za h) x a b d=yP c t h x a b d:=rfl
theorem zEH {h h':H}{r:Option Cs}{k:Rk}{op:Bool}{b:Nat}(e:ky h r k op=some (b,h')):ky (za h) r k op=some (b,za h')/\h'.low=h.low/\h'.next<=T.top:=by
 unfold ky at e ⊢;cases hb:Nat.blt h.next T.top with
 | false=>rw[hb,oL]at e;cases e
 | true =>
  rw[hb,oK]at e;show cond (Nat.blt h.next T.top) _ none=_/\_;rw[hb,oK];cases r with
  | none=>cases e
  | some cs =>
   simp only[oA,oB]at e;obtain⟨rfl,rfl⟩:=e;exact⟨rfl,rfl,(z8 _ _).1 hb⟩
theorem K5 {h h':H}{l:List V}{k:Rk}{op:Bool}{b:Nat}(e:qi h l k op=some (b,h')):qi (za h) l k op=some (b,za h')/\h'.low=h.low/\h'.next<=T.top:=by
 unfold qi at e ⊢;cases ha:zU l with
 | false=>rw[ha,oL]at e;cases e
 | true=>rw[ha,oK]at e;rw[oK];exact zEH e
theorem Kf {t:TypeId}{n:Nat}{ps:List (Nat×V)}{h h':H}{v:V}(e:zS c t n ps h=some (v,h')):zS c t n ps (za h)=some (v,za h')/\h'.low=h.low/\h'.next<=T.top:=by
 unfold zS at e ⊢;split at e
 ·rename_i ti hti
  split at e
  ·rename_i el hd
   split at e
   ·rename_i te hte
    split at e
    ·rename_i z hz
     cases h1:Nat.ble (n*te.size) 1048576 with
     | false=>rw[h1,oL]at e;cases e
     | true =>
      rw[h1,oK]at e;rw[oK];cases h2:wL z.cells te.size with
      | false=>rw[h2,oL]at e;cases e
      | true =>
       rw[h2,oK]at e;rw[oK];split at e
       ·rename_i r hr
        split at e
        ·rename_i b h1 hn
         simp only[oA,oB]at e;obtain⟨rfl,rfl⟩:=e;obtain⟨g1,g2,g3⟩:=K5 hn;exact⟨by simp only[g1],g2,g3⟩
        ·cases e
       ·cases e
    ·cases e
   ·cases e
  ·cases e
 ·cases e
theorem zM7 {t:TypeId}{a b:V}{h h':H}{v:V}(e:we c t a b h=some (v,h')):we c t a b (za h)=some (v,za h')/\h'.low=h.low/\h'.next<=T.top:=by
 unfold we at e ⊢;split at e
 ·split at e
  ·rename_i l k hl hk
   split at e
   ·rename_i ti hti
    split at e
    ·rename_i el hd
     split at e
     ·rename_i te hte
      split at e
      ·rename_i z hz
       generalize hg:(Nat.ble l k && Nat.ble k 4294967296 && Nat.ble (te.bytes*k) 1099511627776 && wL z.cells te.size)=g at e ⊢;cases g with
       | false=>cases e
       | true =>
        rw[oK]at e ⊢;split at e
        ·rename_i b h1 hn
         simp only[oA,oB]at e;obtain⟨rfl,rfl⟩:=e;obtain⟨g1,g2,g3⟩:=zEH hn;exact⟨by simp only[g1],g2,g3⟩
        ·cases e
      ·cases e
     ·cases e
    ·cases e
   ·cases e
  ·cases e
 ·cases e
theorem zHW {o:Oper}{e:Operand->Option V}{h:H}{an:AN}(hp:qV c o=true) (hn:h.next<=T.top) (ha:yD c o e h=some an) :
  ∃v h2,an = .val v h2/\yD c o e (za h)=some (.val v (za h2))/\h2.low=h.low/\h2.next<=T.top:=by
 have ofV:∀{r:Option V}{an:AN},AN.ofV r h=some an->∃v h2,an = .val v h2/\AN.ofV r (za h)=some (.val v (za h2))/\h2.low=h.low/\h2.next<=T.top:=by
  intro r an e;cases r with
  | none=>cases e
  | some v=>simp only[AN.ofV,oA]at e;exact⟨v,h,e.symm,rfl,rfl,hn⟩
 have ofVH:∀{r r':Option (V×H)}{an:AN},AN.ofVH r=some an->(∀v h2,r=some (v,h2)->r'=some (v,za h2)/\h2.low=h.low/\h2.next<=T.top)->∃v h2,an = .val v h2/\AN.ofVH r'=some (.val v (za h2))/\h2.low=h.low/\h2.next<=T.top:=by
  intro r r' an e hr;cases r with
  | none=>cases e
  | some q =>
   obtain⟨v,h2⟩:=q;simp only[AN.ofVH,oA]at e;obtain⟨g1,g2,g3⟩:=hr v h2 rfl;exact⟨v,h2,e.symm,by rw[g1];rfl,g2,g3⟩
 unfold qV at hp;unfold yD at ha ⊢;cases ho:o.op<;>simp only[ho]at hp ha ⊢<;>first|(cases hp;done)|skip
 case move x=>exact ofV ha
 case assign x=>exact ofV ha
 case pick x a b =>
  cases h0:e x with
  | none=>simp[h0]at ha
  | some v=>cases v<;>simp only[h0]at ha ⊢<;>first|(cases ha;done)|exact ofV ha
 case alloc t =>
  cases h0:c.ty.get t with
  | none=>simp[h0]at ha
  | some ti =>
   simp only[h0]at ha ⊢;cases h1:ti.zero with
   | none=>simp[h1]at ha
   | some z =>
    simp only[h1]at ha ⊢;split at ha
    ·rename_i b h' hnw
     simp only[oA]at ha;obtain⟨g1,g2,g3⟩:=K5 hnw;exact⟨_,_,ha.symm,by simp only[g1],g2,g3⟩
    ·cases ha
 case box t x =>
  cases h0:e x with
  | none=>simp[h0]at ha
  | some v =>
   simp only[h0]at ha ⊢;split at ha
   ·rename_i b h' hnw
    simp only[oA]at ha;obtain⟨g1,g2,g3⟩:=K5 hnw;exact⟨_,_,ha.symm,by simp only[g1],g2,g3⟩
   ·cases ha
 case build t ps =>
  cases h0:evP e ps.toList with
  | none=>simp[h0]at ha
  | some v=>simp only[h0]at ha ⊢;exact ofV ha
 case buildSlice t n ps =>
  cases h0:evP e ps.toList with
  | none=>simp[h0]at ha
  | some v=>simp only[h0]at ha ⊢;exact ofVH ha λv h2 e=>Kf e
 case makeSlice t a b =>
  cases h0:e a with
  | none=>simp[h0]at ha
  | some v =>
   cases h1:e b with
   | none=>simp[h0,h1]at ha
   | some u=>simp only[h0,h1]at ha ⊢;exact ofVH ha λv h2 e=>zM7 e
 case makeInterface t x =>
  cases h0:c.ty.get t with
  | none=>simp[h0]at ha
  | some ti =>
   cases h1:e x with
   | none=>simp[h0,h1]at ha
   | some v =>
    simp only[h0,h1]at ha ⊢;cases hd:ti.desc<;>simp only[hd,oA]at ha ⊢<;>first|(cases ha;done)|exact⟨_,h,ha.symm,rfl,rfl,hn⟩
 case load t a =>
  cases h0:e a with
  | none=>simp[h0]at ha
  | some v=>simp only[h0,zP4]at ha ⊢;exact ofV ha
 case binOp op t x y t2 =>
  cases h0:e x with
  | none=>simp[h0]at ha
  | some v =>
   cases h1:e y with
   | none=>simp[h0,h1]at ha
   | some v=>simp only[h0,h1]at ha ⊢;exact ofV ha
 case unOp op t x =>
  cases h0:e x with
  | none=>simp[h0]at ha
  | some v=>simp only[h0]at ha ⊢;exact ofV ha
 case field t x f =>
  cases h0:e x with
  | none=>simp[h0]at ha
  | some v=>simp only[h0]at ha ⊢;exact ofV ha
 case fieldAddr t x f =>
  cases h0:c.ty.get t with
  | none=>simp[h0]at ha
  | some ti =>
   cases h1:e x with
   | none=>simp[h0,h1]at ha
   | some v =>
    cases v<;>simp only[h0,h1]at ha ⊢<;>first|(cases ha;done)|skip
    cases hd:ti.desc<;>simp only[hd]at ha ⊢<;>first|(cases ha;done)|skip
    rename_i fs;cases hf:fs[f]? with
    | none=>simp[hf]at ha
    | some fd =>
     simp only[hf]at ha ⊢;unfold afa at ha ⊢;cases htf:c.ty.get fd.type with
     | none=>simp[htf]at ha
     | some tf =>
      simp only[htf]at ha ⊢;cases hb:Nat.blt 0 tf.size with
      | false=>rw[hb,oL]at ha;cases ha
      | true =>
       rw[hb,oK]at ha;simp only[oA]at ha;exact⟨_,h,ha.symm,by rw[oK],rfl,hn⟩
 case indexAddr t x y =>
  cases h0:e x with
  | none=>simp[h0]at ha
  | some v =>
   cases h1:e y with
   | none=>simp[h0,h1]at ha
   | some v=>simp only[h0,h1]at ha ⊢;exact ofV ha
 case index t x y =>
  cases h0:e x with
  | none=>simp[h0]at ha
  | some v =>
   cases h1:e y with
   | none=>simp[h0,h1]at ha
   | some v=>simp only[h0,h1]at ha ⊢;exact ofV ha
 case extract x i =>
  cases h0:e x with
  | none=>simp[h0]at ha
  | some v=>cases v<;>simp only[h0]at ha ⊢<;>first|(cases ha;done)|exact ofV ha
 case makeFunc f first captured =>
  cases f with
  | func g =>
   cases h0:qe e first.toList with
   | none=>simp[h0]at ha
   | some v =>
    cases h1:qe e captured.toList with
    | none=>simp[h0,h1]at ha
    | some v=>simp only[h0,h1,oA]at ha ⊢;exact⟨_,h,ha.symm,rfl,rfl,hn⟩
  | _=>cases ha
 case slice t x lo hi mx =>
  cases h0:e x with
  | none=>simp[h0]at ha
  | some v0 =>
   cases h1:Sim.evO e lo with
   | none=>simp[h0,h1]at ha
   | some v1 =>
    cases h2:Sim.evO e hi with
    | none=>simp[h0,h1,h2]at ha
    | some v2 =>
     cases h3:Sim.evO e mx with
     | none=>simp[h0,h1,h2,h3]at ha
     | some v3=>simp only[h0,h1,h2,h3,zFT]at ha ⊢;exact ofV ha
 case convert s d x =>
  cases h0:e x with
  | none=>simp[h0]at ha
  | some v =>
   simp only[h0]at ha ⊢;split at hp
   ·rename_i td htd
    split at hp
    ·rename_i κ hκ
     have hκ:=zCC hκ;refine ofVH ha λu h2 e=>?_
     have hall:∀h3:H,yt c s d h3 v=(match yt c s d h v with|some (u,_)=>some (u,h3)|none=>none)/\∀u h4,yt c s d h v=some (u,h4)->h4=h:=by
      intro h3;unfold yt;cases c.ty.get s with
      | none=>exact⟨rfl,λ_ _ e=>by cases e⟩
      | some ts =>
       rw[htd];dsimp only;rw[hκ];cases ts.desc<;>cases v<;>exact⟨rfl,λ_ _ e=>by cases e<;>rfl⟩
     obtain rfl:=(hall h).2 u h2 e;have h5:=(hall (za h2)).1;rw[e]at h5;exact⟨h5,rfl,hn⟩
    ·cases hp
   ·cases hp
 case call cl =>
  split at hp
  ·rename_i hc
   unfold yr at ha ⊢;cases hl:qe e cl.args.toList with
   | none=>simp[hl]at ha
   | some args =>
    simp only[hl,hc]at ha ⊢;generalize cl.argTypes.toList=ts at ha ⊢
    match args,ts,ha with
    | [x],[t],ha=>exact ofV ha
    | [],_,ha|_::_::_,_,ha | [_],[],ha | [_],_::_::_,ha=>cases ha
  ·rename_i hc
   unfold yr at ha ⊢;cases hl:qe e cl.args.toList with
   | none=>simp[hl]at ha
   | some args =>
    simp only[hl,hc]at ha ⊢;cases args with
    | nil=>cases ha
    | cons x l=>exact ofV ha
  ·rename_i hc
   unfold yr at ha ⊢;cases hl:qe e cl.args.toList with
   | none=>simp[hl]at ha
   | some args =>
    simp only[hl,hc]at ha ⊢;cases args with
    | nil=>cases ha
    | cons x l=>exact ofV ha
  ·cases hp
theorem JT {o : Oper}{e : Operand -> Option V}{h : H}{f : Nat}{args : List V}(ht : ww o = true) (ha : yD c o e h = some (.call f args)) (he : ∀g, e (.func g) = some (.func (.func g) [] [])) : ∃cl, o.op = .call cl /\ cl.callee = .value (.func f) := by
  have nV : ∀{r : Option V}, AN.ofV r h ≠ some (.call f args) := by intro r;cases r<;>(intro e;cases e)
  have nVH : ∀{r : Option (V × H)}, AN.ofVH r ≠ some (.call f args) := by intro r;cases r<;>(intro e;cases e)
  unfold ww at ht;unfold yD at ha;cases ho : o.op<;>simp only[ho]at ht ha<;>first
    | (cases ht;done)
    | (exact absurd ha nV)
    | (exact absurd ha nVH)
    | (cases ha;done)
    | skip
  case call cl =>
    refine⟨cl, rfl, ?_⟩;unfold yr at ha;cases hl : qe e cl.args.toList with
    | none => simp[hl]at ha
    | some as =>
      simp only[hl]at ha;cases hc : cl.callee with
      | value q =>
        simp only[hc]at ht ha;cases q with
        | func g =>
          rw[he g]at ha;simp only at ha;unfold qH at ha;cases hi : Yw c g with
          | true =>
            rw[hi, oK]at ha;split at ha<;>cases ha
          | false =>
            rw[hi, oL]at ha;split at ha
            · exact absurd ha nVH
            · simp only[oA, AN.call.injEq]at ha;rw[ha.1]
        | _ => cases ht
      | builtin b =>
        simp only[hc]at ha;split at ha<;>first
          | exact absurd ha nV
          | exact absurd ha nVH
          | (cases ha;done)
          | (split at ha<;>first|exact absurd ha nVH|(cases ha;done)|(split at ha<;>first|exact absurd ha nVH|(cases ha;done)))
      | invoke r n => simp only[hc]at ht;cases ht
  case fieldAddr t x f =>
    revert ha
    (repeat' split)<;>intro ha<;>first
      | (cases ha;done)
      | (unfold afa at ha
         revert ha;split
         · rename_i tf _
           cases Nat.blt 0 tf.size<;>(intro ha;cases ha)
         · intro ha;cases ha)
  case makeFunc fn a b =>
    cases fn<;>simp only at ha<;>first|(cases ha;done)|skip
    revert ha
    (repeat' split)<;>intro ha<;>(cases ha)
  case makeMap t r =>
    cases r<;>first|(cases ha;done)|exact absurd ha nVH
  all_goals
    revert ha
    (repeat' split)<;>intro ha<;>first|exact absurd ha nV|exact absurd ha nVH|(cases ha;done)
theorem On {o : Oper}{e : Operand -> Option V}{h : H}{f : Nat}{args : List V}(ht : ww o = true) (he : ∀g, e (.func g) = some (.func (.func g) [] [])) : yD c o e h ≠ some (.round f args) := by
  intro ha;have nV : ∀{r : Option V}, AN.ofV r h ≠ some (.round f args) := by intro r;cases r<;>(intro e;cases e)
  have nVH : ∀{r : Option (V × H)}, AN.ofVH r ≠ some (.round f args) := by intro r;cases r<;>(intro e;cases e)
  unfold ww at ht;unfold yD at ha;cases ho : o.op<;>simp only[ho]at ht ha<;>first
    | (cases ht;done)
    | (exact absurd ha nV)
    | (exact absurd ha nVH)
    | (cases ha;done)
    | skip
  case call cl =>
    unfold yr at ha;cases hl : qe e cl.args.toList with
    | none => simp[hl]at ha
    | some as =>
      simp only[hl]at ha;cases hc : cl.callee with
      | value q =>
        simp only[hc]at ht ha;cases q with
        | func g =>
          rw[he g]at ha;simp only at ha;unfold qH at ha;cases hi : Yw c g with
          | true =>
            rw[hi, oK]at ha;split at ha<;>cases ha
          | false =>
            rw[hi, oL]at ha;split at ha
            · exact absurd ha nVH
            · cases ha
        | _ => cases ht
      | builtin b =>
        simp only[hc]at ha;split at ha<;>first
          | exact absurd ha nV
          | exact absurd ha nVH
          | (cases ha;done)
          | (split at ha<;>first|exact absurd ha nVH|(cases ha;done)|(split at ha<;>first|exact absurd ha nVH|(cases ha;done)))
      | invoke r n => simp only[hc]at ht;cases ht
  case fieldAddr t x f =>
    revert ha
    (repeat' split)<;>intro ha<;>first
      | (cases ha;done)
      | (unfold afa at ha
         revert ha;split
         · rename_i tf _
           cases Nat.blt 0 tf.size<;>(intro ha;cases ha)
         · intro ha;cases ha)
  case makeFunc fn a b =>
    cases fn<;>simp only at ha<;>first|(cases ha;done)|skip
    revert ha
    (repeat' split)<;>intro ha<;>(cases ha)
  case makeMap t r =>
    cases r<;>first|(cases ha;done)|exact absurd ha nVH
  all_goals
    revert ha
    (repeat' split)<;>intro ha<;>first|exact absurd ha nV|exact absurd ha nVH|(cases ha;done)
theorem zBQ {o:Oper}{s:St}{b:Bool}{orc orc':Nat->List V->H->Option (V×H)}{fs:List Nat}(hf:∀f,f∈yC [o]->f∈fs) (ho:∀f,f∈fs->orc f=orc' f) (ht:ww o=true):z6 c orc b kH o s=z6 c orc' b kH o s:=by
 unfold z6;cases ha:yD c o (yQ s.tm) s.heap with
 | none=>rfl
 | some an =>
  cases an with
  | call f args =>
   obtain⟨cl,h1,h2⟩:=JT ht ha (λ_=>rfl);have hm:f∈yC [o]:=by simp[yC,h1,h2]
   have hc:xe c orc kH f args s.heap=xe c orc' kH f args s.heap:=by unfold xe;rw[ho f (hf f hm)]
   simp only[hc]
  | _=>rfl
theorem yN (o:Oper) (l:List Oper):yC (o::l)=yC [o]++yC l:=by simp[yC]
theorem zEm {ops:List Oper}{b:Bool}{orc orc':Nat->List V->H->Option (V×H)}:∀(l:List Oper) {s:St},l.all ww=true->(∀f,f∈yC l->orc f=orc' f)->xk c orc b kH ops l s=xk c orc' b kH ops l s:=by
 intro l
 induction l with
 | nil=>intro s _ _;rfl
 | cons o l ih =>
  intro s ht ho;simp only[List.all_cons,oG]at ht;rw[yN]at ho;have h1:∀s,z6 c orc b kH o s=z6 c orc' b kH o s:=λs=>zBQ (fs:=yC [o]) (λ_ h=>h) (λf hf=>ho f (List.mem_append_left _ hf)) ht.1
  have h2:∀s,xk c orc b kH ops l s=xk c orc' b kH ops l s:=λs=>ih ht.2 λf hf=>ho f (List.mem_append_right _ hf)
  simp only[xk,h1,h2]
theorem zHn (ok:CtxOK P c) {b:Bool}{ops:List Oper}:∀(l:List Oper) {s:St}{Q:AX->St->Prop},l.all ww=true->xU (yC l)=true->Y4 P c b ops l s Q ->
  ∃orc,yg P c orc/\(∀f,f∉yC l->orc f=OJ f)/\∃x s',xk c orc b kH ops l s=some (.done x s')/\Q x s':=by
 intro l
 induction l with
 | nil=>intro s Q _ _ h;exact⟨OJ,qR,λ_ _=>rfl,.normal,s,rfl,h⟩
 | cons o l ih =>
  intro s Q ht hd h;simp only[List.all_cons,oG]at ht;have hd2:xU (yC l)=true:=by
   rw[yN]at hd;generalize yC [o]=q at hd
   induction q with
   | nil=>exact hd
   | cons a q ihq=>simp only[List.cons_append,xU,oG]at hd;exact ihq hd.2
  simp only[Y4]at h;have plain:∀s1,zZ ops s.tm o=true->z6 c OJ b kH o s=some (.normal,s1)->Y4 P c b ops l s1 Q->(∀f args,yD c o (yQ s.tm) s.heap≠some (.call f args)) ->
    ∃orc,yg P c orc/\(∀f,f∉yC (o::l)->orc f=OJ f)/\∃x s',xk c orc b kH ops (o::l) s=some (.done x s')/\Q x s':=by
   intro s1 hw hs hk hnc;obtain⟨orc,h1,h2,x,s',h3,h4⟩:=ih ht.2 hd2 hk;refine⟨orc,h1,λf hf=>h2 f λg=>hf (by rw[yN];exact List.mem_append_right _ g),x,s',?_,h4⟩
   have hs':z6 c orc b kH o s=some (.normal,s1):=by
    rw[<-hs];unfold z6;cases ha:yD c o (yQ s.tm) s.heap with
    | none=>rfl
    | some an=>cases an with
     | call f args=>exact absurd ha (hnc f args)
     | _=>rfl
   simp only[xk,hw,oK,hs',h3]
  split at h
  ·rename_i hw
   have hpn:¬zBA o.op=true:=by
    intro hd;have h1:=ht.1;unfold ww at h1;unfold zBA at hd;cases ho:o.op<;>simp only[ho]at h1 hd<;>first|(cases h1;done)|(cases hd;done)
   have hdp:¬zJO o.op=true:=by
    intro hd;have h1:=ht.1;unfold ww at h1;unfold zJO at hd;cases ho:o.op<;>simp only[ho]at h1 hd<;>first|(cases h1;done)|(cases hd;done)
   rw[if_neg hpn,if_neg hdp]at h;have hk:=ZT h;cases ha:yD c o (yQ s.tm) s.heap with
   | none=>rw[ha]at hk;exact hk.elim
   | some an =>
    rw[ha]at hk;cases an with
    | val v h' =>
     have hk:jM o.dst v s h' (λs'=>Y4 P c b ops l s' Q):=hk;obtain⟨s1,hp,hk⟩:=yd hk;exact plain s1 hw (by unfold z6;simp only[ha,hp]) hk (λf args e=>by rw[ha]at e;cases e)
    | skip h' =>
     have hk:jM o.dst zC s h' (λs'=>Y4 P c b ops l s' Q):=hk;obtain⟨s1,hp,hk⟩:=yd hk;exact plain s1 hw (by unfold z6;simp only[ha,hp]) hk (λf args e=>by rw[ha]at e;cases e)
    | round lp args=>exact absurd ha (On ht.1 (λ_=>rfl))
    | call f args =>
     obtain⟨v,h',⟨hfn,hs⟩,hq⟩:=hk;obtain⟨s1,hp,hk⟩:=yd hq;obtain⟨cl,g1,g2⟩:=JT ht.1 ha (λ_=>rfl);have hcf:yC [o]=[f]:=by simp[yC,g1,g2]
     have hfl:f∉yC l:=by
      rw[yN,hcf]at hd;simp only[List.singleton_append,xU,oG,Bool.not_eq_true']at hd;intro hm;rw[(kJ _ _).2 hm]at hd;exact absurd hd.1 (by simp)
     obtain⟨orc,h1,h2,x,s',h3,h4⟩:=ih ht.2 hd2 hk
     let orcN:Nat->List V->H->Option (V×H):=λg=>if g=f then zEM f args s.heap v h' g else orc g
     have hN:∀g,g∈yC l->orcN g=orc g:=λg hg=>by
      have:g≠f:=λe=>hfl (e ▸ hg)
      simp only[orcN,if_neg this]
     refine⟨orcN,?_,?_,x,s',?_,h4⟩
     ·intro g a2 h5 v2 h6 e
      simp only[orcN]at e;by_cases hg:g=f
      ·rw[if_pos hg]at e;exact KR hfn hs g a2 h5 v2 h6 e
      ·rw[if_neg hg]at e;exact h1 g a2 h5 v2 h6 e
     ·intro g hg
      rw[yN,hcf]at hg;have hgf:g≠f:=λe=>hg (by rw[e];simp)
      have hgl:g∉yC l:=λe=>hg (List.mem_append_right _ e)
      simp only[orcN,if_neg hgf];exact h2 g hgl
     ·have hs':z6 c orcN b kH o s=some (.normal,s1):=by
       unfold z6;simp only[ha];unfold xe;have:orcN f args s.heap=some (v,h'):=by simp only[orcN,if_pos rfl];exact KQ _ _ _ _ _
       rw[this];simp only[hp]
      simp only[xk,hw,oK,hs'];rw[zEm l ht.2 hN];exact h3
    | _=>exact hk.elim
  ·rename_i hw
   have hw:zZ ops s.tm o=false:=by simpa using hw
   obtain⟨s1,hp,hk⟩:=yd h;obtain⟨orc,h1,h2,x,s',h3,h4⟩:=ih ht.2 hd2 hk;refine⟨orc,h1,λf hf=>h2 f λg=>hf (by rw[yN];exact List.mem_append_right _ g),x,s',?_,h4⟩
   simp only[xk,hw,oL,hp,h3]
theorem xw:∀l:List AD,yl l l=true:=by
 intro l
 induction l with
 | nil=>rfl
 | cons a l ih=>exact ih
theorem zLB (ok:CtxOK P c) {b:Bool}{ops:List Oper}{bs:List Nat}{m:Nat}:∀(l:List Oper) (r k:Nat) {s:St}{Q:AX->St->Prop},s.heap.next<=T.top->s.heap.low<=T.top->(l.take r).all (qV c)=true ->
  (l.drop r).all ww=true->xU (yC (l.drop r))=true->Y4 P c b ops l s Q->∃orc,yg P c orc/\∃x s',yJ c orc b kH ops bs m r k l s=some (.done x s')/\Q x s':=by
 intro l
 induction l with
 | nil=>intro r k s Q _ _ _ _ _ h;exact⟨OJ,qR,.normal,s,by cases r<;>rfl,h⟩
 | cons o l ih =>
  intro r k s Q hn hl hq ht hd h;cases r with
  | zero =>
   obtain⟨orc,h1,_,x,s',h3,h4⟩:=zHn ok (o::l) ht hd h;exact⟨orc,h1,x,s',h3,h4⟩
  | succ r =>
   simp only[List.take_succ_cons,List.all_cons,oG]at hq;simp only[List.drop_succ_cons]at ht hd;simp only[Y4]at h;split at h
   ·rename_i hw
    have hpn:¬zBA o.op=true:=by
     intro hd;have h1:=hq.1;unfold qV at h1;unfold zBA at hd;cases ho:o.op<;>simp only[ho]at h1 hd<;>first|(cases h1;done)|(cases hd;done)
    have hdp:¬zJO o.op=true:=by
     intro hd;have h1:=hq.1;unfold qV at h1;unfold zJO at hd;cases ho:o.op<;>simp only[ho]at h1 hd<;>first|(cases h1;done)|(cases hd;done)
    rw[if_neg hpn,if_neg hdp]at h;have hk:=ZT h;cases ha:yD c o (yQ s.tm) s.heap with
    | none=>rw[ha]at hk;exact hk.elim
    | some an =>
     obtain⟨v,h2,rfl,ht2,hlow,hn2⟩:=zHW hq.1 hn ha;rw[ha]at hk;have hk:jM o.dst v s h2 (λs'=>Y4 P c b ops l s' Q):=hk;rw[OQ]at hk;have heq:(⟨h2.tbl,h2.next,cond (Nat.ble s.heap.low T.top) s.heap.low T.top⟩:H)=h2:=by
      rw[oC hl,oK,<-hlow]
     have hd1:∀tm',Y4 P c b ops l ⟨s.n,tm',s.dfr,h2⟩ Q->(∀orc,z6 c orc b kH o ⟨s.n,s.tm,s.dfr,za s.heap⟩=some (.normal,⟨s.n,tm',s.dfr,za h2⟩)) ->
       ∃orc,yg P c orc/\∃x s',yJ c orc b kH ops bs m (r+1) k (o::l) s=some (.done x s')/\Q x s':=by
      intro tm' hw2 hst;obtain⟨orc,h1,x,s',h3,h4⟩:=ih r (k+1) (s:=⟨s.n,tm',s.dfr,h2⟩) hn2 (by show h2.low<=_;rw[hlow];exact hl) hq.2 ht hd hw2;refine⟨orc,h1,x,s',?_,h4⟩;unfold yJ;show cond (zZ ops s.tm o) (match z6 c orc b kH o ⟨s.n,s.tm,s.dfr,za s.heap⟩with|some (.normal,s')=>_|_=>none) _=_
      rw[hw,oK,hst orc];show cond (Nat.ble s.heap.next T.top || _) (cond (yl s.dfr s.dfr) (yJ c orc b kH ops bs m r (k+1) l ⟨s.n,tm',s.dfr,⟨h2.tbl,h2.next,cond (Nat.ble s.heap.low T.top) s.heap.low T.top⟩⟩) none) none=_;rw[oC hn,Bool.true_or,oK,xw,oK,heq];exact h3
     rcases hk with⟨hd2,hk⟩|⟨t,hd2,hb,hk⟩
     ·refine hd1 s.tm hk λorc=>?_
      unfold z6;simp only[ht2,hd2];rfl
     ·refine hd1 _ hk λorc=>?_
      unfold z6;simp only[ht2,hd2];unfold yF;simp only[hb,oK]
   ·rename_i hw
    have hw:zZ ops s.tm o=false:=by simpa using hw
    obtain⟨s1,hp,hk⟩:=yd h;have hs1:s1.heap=s.heap:=by
     obtain⟨_,e⟩:=yW hp;rw[e]
    obtain⟨orc,h1,x,s',h3,h4⟩:=ih r (k+1) (s:=s1) (by rw[hs1];exact hn) (by rw[hs1];exact hl) hq.2 ht hd hk;refine⟨orc,h1,x,s',?_,h4⟩;unfold yJ;show cond (zZ ops s.tm o) _ (match yF s o.dst zC s.heap with|some s'=>yJ c orc b kH ops bs m r (k+1) l s'|none=>none)=_
    rw[hw,oL,hp];exact h3
def yh (h h':H):H:=⟨h'.tbl,h'.next,cond (Nat.ble h.low h'.low) h.low h'.low⟩
def lowOk (ops:List Oper) (bs:List Nat) (m k:Nat) (h h':H):Prop:=match Y0 ops bs m k with|true=>h'.next<=T.top|false=>h.next<=h'.low/\h'.next<=T.top
theorem lowOk.next {ops:List Oper}{bs:List Nat}{m k:Nat}{h h':H}(e:lowOk ops bs m k h h'):h'.next<=T.top:=by
 unfold lowOk at e;split at e
 ·exact e
 ·exact e.2
theorem lowOk.ok {ops:List Oper}{bs:List Nat}{m k:Nat}{h h':H}{tm:Tm}{o:Oper}(e:lowOk ops bs m k h h'):(Nat.ble h.next h'.low || wA ops bs m k tm o)=true:=by
 unfold lowOk at e;unfold wA;split at e
 ·rename_i g
  rw[g,Bool.or_true,Bool.or_true]
 ·rw[oC e.1,Bool.true_or]
variable (P c) in
def wpF (b:Bool) (ops:List Oper) (bs:List Nat) (m:Nat):Nat->Nat->List Oper->St->(AX->St->Prop)->Prop
 | 0,_,l,s,Q=>Y4 P c b ops l s Q
 | _+1,_,[],s,Q=>Q .normal s
 | r+1,k,o::l,s,Q =>
  if zZ ops s.tm o=true then
   (if qV c o=true then zEy c P o (yQ s.tm) s.heap λv h=>jM o.dst v s h λs'=>wpF b ops bs m r (k+1) l s' Q
   else if zBA o.op=true\/zJO o.op=true then False else
    zEy c P o (yQ s.tm) (za s.heap) λv h=>lowOk ops bs m k s.heap h/\∀h2,h2=yh s.heap h->jM o.dst v s h2 λs'=>wpF b ops bs m r (k+1) l s' Q)
  else jM o.dst zC s s.heap λs'=>wpF b ops bs m r (k+1) l s' Q
def zEl (ops:List Oper) (bs:List Nat) (m:Nat):Nat->List Oper->Bool
 | _,[]=>true
 | k,o::l=>(match o.op with | .store ..=>Nat.ble m k || Y0 ops bs m k | .mapUpdate ..=>Nat.ble m k || Y0 ops bs m k|_=>true) && zEl ops bs m (k+1) l
def Xo (ops:List Oper):Bool:=(match xD ops with|some m=>zEl ops (zp ops []) m 0 ops|none=>false) && (ops.all ww && (xU (yC ops) && (xD ops).isSome))
def zAr (ops:List Oper):Nat:=match xD ops with|some m=>m|none=>0
theorem zJw {ops:List Oper}{b:Bool}{bs:List Nat}{m:Nat}{orc orc':Nat->List V->H->Option (V×H)}:∀(l:List Oper) (r k:Nat) {s:St},l.all ww=true->(∀f,f∈yC l->orc f=orc' f) ->
  yJ c orc b kH ops bs m r k l s=yJ c orc' b kH ops bs m r k l s:=by
 intro l
 induction l with
 | nil=>intro r k s _ _;cases r<;>rfl
 | cons o l ih =>
  intro r k s ht ho;cases r with
  | zero=>exact zEm (o::l) ht ho
  | succ r =>
   simp only[List.all_cons,oG]at ht;rw[yN]at ho;have h1:∀s,z6 c orc b kH o s=z6 c orc' b kH o s:=λs=>zBQ (fs:=yC [o]) (λ_ h=>h) (λf hf=>ho f (List.mem_append_left _ hf)) ht.1
   have h2:∀k s,yJ c orc b kH ops bs m r k l s=yJ c orc' b kH ops bs m r k l s:=λk s=>ih r k ht.2 λf hf=>ho f (List.mem_append_right _ hf)
   simp only[yJ,h1,h2]
theorem zIx (ok:CtxOK P c) {b:Bool}{ops:List Oper}{bs:List Nat}{m:Nat}:∀(l:List Oper) (r k:Nat) {s:St}{Q:AX->St->Prop},s.heap.next<=T.top->s.heap.low<=T.top->l.all ww=true->xU (yC l)=true->wpF P c b ops bs m r k l s Q ->
  ∃orc,yg P c orc/\(∀f,f∉yC l->orc f=OJ f)/\∃x s',yJ c orc b kH ops bs m r k l s=some (.done x s')/\Q x s':=by
 intro l
 induction l with
 | nil=>intro r k s Q _ _ _ _ h;refine⟨OJ,qR,λ_ _=>rfl,.normal,s,by cases r<;>rfl,by cases r<;>exact h⟩
 | cons o l ih =>
  intro r k s Q hn hl ht hd h;cases r with
  | zero =>
   obtain⟨orc,h1,h2,x,s',h3,h4⟩:=zHn ok (o::l) ht hd h;exact⟨orc,h1,h2,x,s',h3,h4⟩
  | succ r =>
   simp only[List.all_cons,oG]at ht;have hd2:xU (yC l)=true:=by
    rw[yN]at hd;generalize yC [o]=q at hd
    induction q with
    | nil=>exact hd
    | cons a q ihq=>simp only[List.cons_append,xU,oG]at hd;exact ihq hd.2
   simp only[wpF]at h;split at h
   ·rename_i hw
    split at h
    ·-- a quiet operation
     rename_i hqo;have hk:=ZT h;cases ha:yD c o (yQ s.tm) s.heap with
     | none=>rw[ha]at hk;exact hk.elim
     | some an =>
      obtain⟨v,h2,rfl,ht2,hlow,hn2⟩:=zHW hqo hn ha;rw[ha]at hk;have hk:jM o.dst v s h2 (λs'=>wpF P c b ops bs m r (k+1) l s' Q):=hk
      rw[OQ]at hk;have heq:(⟨h2.tbl,h2.next,cond (Nat.ble s.heap.low T.top) s.heap.low T.top⟩:H)=h2:=by
       rw[oC hl,oK,<-hlow]
      have hd1:∀tm',wpF P c b ops bs m r (k+1) l ⟨s.n,tm',s.dfr,h2⟩ Q->(∀orc,z6 c orc b kH o ⟨s.n,s.tm,s.dfr,za s.heap⟩=some (.normal,⟨s.n,tm',s.dfr,za h2⟩)) ->
        ∃orc,yg P c orc/\(∀f,f∉yC (o::l)->orc f=OJ f)/\∃x s',yJ c orc b kH ops bs m (r+1) k (o::l) s=some (.done x s')/\Q x s':=by
       intro tm' hw2 hst;obtain⟨orc,h1,h1b,x,s',h3,h4⟩:=ih r (k+1) (s:=⟨s.n,tm',s.dfr,h2⟩) hn2 (by show h2.low<=_;rw[hlow];exact hl) ht.2 hd2 hw2;refine⟨orc,h1,λf hf=>h1b f λg=>hf (by rw[yN];exact List.mem_append_right _ g),x,s',?_,h4⟩
       show cond (zZ ops s.tm o) (match z6 c orc b kH o ⟨s.n,s.tm,s.dfr,za s.heap⟩with|some (.normal,s')=>_|_=>none) _=_
       rw[hw,oK,hst orc];show cond (Nat.ble s.heap.next T.top || _) (cond (yl s.dfr s.dfr) (yJ c orc b kH ops bs m r (k+1) l ⟨s.n,tm',s.dfr,⟨h2.tbl,h2.next,cond (Nat.ble s.heap.low T.top) s.heap.low T.top⟩⟩) none) none=_;rw[oC hn,Bool.true_or,oK,xw,oK,heq];exact h3
      rcases hk with⟨hdd,hk⟩|⟨t,hdd,hb,hk⟩
      ·refine hd1 s.tm hk λorc=>?_
       unfold z6;simp only[ht2,hdd];rfl
      ·refine hd1 _ hk λorc=>?_
       unfold z6;simp only[ht2,hdd];unfold yF;simp only[hb,oK]
    split at h
    ·exact h.elim
    have hk:=ZT h;have fin:∀(orc:Nat->List V->H->Option (V×H)) (v:V) (h':H) (s1:St),lowOk ops bs m k s.heap h'->yF s o.dst v (yh s.heap h')=some s1 ->
      z6 c orc b kH o ⟨s.n,s.tm,s.dfr,za s.heap⟩=(match yF ⟨s.n,s.tm,s.dfr,za s.heap⟩ o.dst v h' with|some s'=>some (.normal,s')|none=>none) ->
      yJ c orc b kH ops bs m (r+1) k (o::l) s=yJ c orc b kH ops bs m r (k+1) l s1:=by
     intro orc v h' s1 hlow hp hst;show cond (zZ ops s.tm o) (match z6 c orc b kH o ⟨s.n,s.tm,s.dfr,za s.heap⟩with|some (.normal,s')=>_|_=>none) _=_
     rw[hw,oK,hst];cases hd:o.dst with
     | none =>
      rw[hd]at hp;simp only[yF,oA]at hp;subst hp;show cond (Nat.ble s.heap.next h'.low || wA ops bs m k s.tm o) (cond (yl s.dfr s.dfr) (yJ c orc b kH ops bs m r (k+1) l ⟨s.n,s.tm,s.dfr,yh s.heap h'⟩) none) none=_;rw[hlow.ok,oK,xw,oK]
     | some t =>
      rw[hd]at hp;unfold yF at hp ⊢;simp only at hp ⊢;cases hb:Nat.blt t s.n with
      | false=>rw[hb]at hp;cases hp
      | true =>
       rw[hb,oK]at hp;simp only[oA]at hp;subst hp;rw[oK];show cond (Nat.ble s.heap.next h'.low || wA ops bs m k s.tm o) (cond (yl s.dfr s.dfr) (yJ c orc b kH ops bs m r (k+1) l ⟨s.n,s.tm.set t v,s.dfr,yh s.heap h'⟩) none) none=_;rw[hlow.ok,oK,xw,oK]
    have hlm:∀h':H,(yh s.heap h').low<=T.top:=by
     intro h';show cond (Nat.ble s.heap.low h'.low) s.heap.low h'.low<=_;cases hb:Nat.ble s.heap.low h'.low with
     | true=>exact hl
     | false =>
      rw[oL];rcases Nat.le_total s.heap.low h'.low with g|g
      ·rw[oC g]at hb;cases hb
      ·exact oP g hl
    have hs1:∀{v:V}{h':H}{s1:St},yF s o.dst v (yh s.heap h')=some s1->s1.heap=yh s.heap h':=by
     intro v h' s1 hp;obtain⟨_,e⟩:=yW hp;rw[e]
    have plain:∀(v:V) (h':H),lowOk ops bs m k s.heap h'->jM o.dst v s (yh s.heap h') (λs'=>wpF P c b ops bs m r (k+1) l s' Q) ->
      (∀orc,z6 c orc b kH o ⟨s.n,s.tm,s.dfr,za s.heap⟩=(match yF ⟨s.n,s.tm,s.dfr,za s.heap⟩ o.dst v h' with|some s'=>some (.normal,s')|none=>none)) ->
      ∃orc,yg P c orc/\(∀f,f∉yC (o::l)->orc f=OJ f)/\∃x s',yJ c orc b kH ops bs m (r+1) k (o::l) s=some (.done x s')/\Q x s':=by
     intro v h' hlow hp hst;obtain⟨s1,hp1,hk1⟩:=yd hp;obtain⟨orc,h1,h2,x,s',h3,h4⟩:=ih r (k+1) (by rw[hs1 hp1];exact hlow.next) (by rw[hs1 hp1];exact hlm _) ht.2 hd2 hk1;exact⟨orc,h1,λf hf=>h2 f λg=>hf (by rw[yN];exact List.mem_append_right _ g),x,s',by rw[fin orc v h' s1 hlow hp1 (hst orc)];exact h3,h4⟩
    cases ha:yD c o (yQ s.tm) (za s.heap)with
    | none=>rw[ha]at hk;exact hk.elim
    | some an =>
     rw[ha]at hk;cases an with
     | val v h'=>exact plain v h' hk.1 (hk.2 _ rfl) λorc=>by unfold z6;simp only[ha];rfl
     | skip h'=>exact plain zC h' hk.1 (hk.2 _ rfl) λorc=>by unfold z6;simp only[ha];rfl
     | round lp args=>exact absurd ha (On ht.1 (λ_=>rfl))
     | call f args =>
      obtain⟨v,h',⟨hfn,hs⟩,hlow2,hq⟩:=hk;have hlow:=hlow2;obtain⟨s1,hp1,hk1⟩:=yd (hq _ rfl);obtain⟨cl,g1,g2⟩:=JT ht.1 ha (λ_=>rfl);have hcf:yC [o]=[f]:=by simp[yC,g1,g2]
      have hfl:f∉yC l:=by
       rw[yN,hcf]at hd;simp only[List.singleton_append,xU,oG,Bool.not_eq_true']at hd;intro hm;rw[(kJ _ _).2 hm]at hd;exact absurd hd.1 (by simp)
      obtain⟨orc,h1,h2,x,s',h3,h4⟩:=ih r (k+1) (by rw[hs1 hp1];exact hlow2.next) (by rw[hs1 hp1];exact hlm _) ht.2 hd2 hk1
      let orcN:Nat->List V->H->Option (V×H):=λg=>if g=f then zEM f args (za s.heap) v h' g else orc g
      have hN:∀g,g∈yC l->orcN g=orc g:=λg hg=>by
       have:g≠f:=λe=>hfl (e ▸ hg)
       simp only[orcN,if_neg this]
      refine⟨orcN,?_,?_,x,s',?_,h4⟩
      ·intro g a2 h5 v2 h6 e
       simp only[orcN]at e;by_cases hg:g=f
       ·rw[if_pos hg]at e;exact KR hfn hs g a2 h5 v2 h6 e
       ·rw[if_neg hg]at e;exact h1 g a2 h5 v2 h6 e
      ·intro g hg
       rw[yN,hcf]at hg;have hgf:g≠f:=λe=>hg (by rw[e];simp)
       have hgl:g∉yC l:=λe=>hg (List.mem_append_right _ e)
       simp only[orcN,if_neg hgf];exact h2 g hgl
      ·rw[fin orcN v h' s1 hlow hp1 ?_,zJw l r (k+1) ht.2 hN]
       ·exact h3
       ·have hcO:xe c orcN kH f args (za s.heap)=some (.ret v h'):=by
         unfold xe;have:orcN f args (za s.heap)=some (v,h'):=by simp only[orcN,if_pos rfl];exact KQ _ _ _ _ _
         rw[this]
        unfold z6;simp only[ha,hcO];rfl
     | _=>exact hk.elim
   ·rename_i hw
    have hw:zZ ops s.tm o=false:=by simpa using hw
    obtain⟨s1,hp,hk⟩:=yd h;have hs1:s1.heap=s.heap:=by
     obtain⟨_,e⟩:=yW hp;rw[e]
    obtain⟨orc,h1,h2,x,s',h3,h4⟩:=ih r (k+1) (by rw[hs1];exact hn) (by rw[hs1];exact hl) ht.2 hd2 hk;refine⟨orc,h1,λf hf=>h2 f λg=>hf (by rw[yN];exact List.mem_append_right _ g),x,s',?_,h4⟩
    unfold yJ;show cond (zZ ops s.tm o) _ (match yF s o.dst zC s.heap with|some s'=>yJ c orc b kH ops bs m r (k+1) l s'|none=>none)=_
    rw[hw,oL,hp];exact h3
theorem wpDr.of_calls (ok:CtxOK P c) {b:Bool}{ops:List Oper}{s:St}{Q:AX->St->Prop}(hp:Xo ops=true) (hn:s.heap.next<=T.top) (hl:s.heap.low<=T.top) (h:wpF P c b ops (zp ops []) (zAr ops) (zAr ops) 0 ops s Q):wpDr P c b ops s Q:=by
 unfold Xo at hp;rw[oG]at hp;have hp:=hp.2;simp only[oG,Option.isSome_iff_exists]at hp;obtain⟨h1,h2,m,hm⟩:=hp;have hmm:zAr ops=m:=by unfold zAr;rw[hm]
 rw[hmm]at h;obtain⟨orc,hor,_,x,s',e,hq⟩:=zIx (bs:=zp ops []) (m:=m) ok ops m 0 hn hl h1 h2 h;exact⟨orc,m,x,s',hor,hm,e,hq⟩
theorem zOo {b:Bool}{ops:List Oper}{bs:List Nat}{m:Nat}:∀(r k:Nat) (l:List Oper) {s:St}{Q Q':AX->St->Prop},(∀x s',Q x s'->Q' x s')->wpF P c b ops bs m r k l s Q->wpF P c b ops bs m r k l s Q':=by
 intro r
 induction r with
 | zero=>intro k l s Q Q' hq h;exact zAC _ hq h
 | succ r ih =>
  intro k l s Q Q' hq h;cases l with
  | nil=>exact hq _ _ h
  | cons o l =>
   simp only[wpF]at h ⊢;split
   ·rename_i hw
    rw[if_pos hw]at h;split
    ·rename_i hqo;rw[if_pos hqo]at h;exact JW (λv w h1=>Z5 (λs hk=>ih _ l hq hk) h1) h
    rename_i hqo;rw[if_neg hqo]at h;split
    ·rename_i hp;rw[if_pos hp]at h;exact h
    ·rename_i hp
     rw[if_neg hp]at h;exact JW (λv w h1=>⟨h1.1,λh2 e=>Z5 (λs hk=>ih _ l hq hk) (h1.2 h2 e)⟩) h
   ·rename_i hw
    rw[if_neg hw]at h;exact Z5 (λs hk=>ih _ l hq hk) h
theorem wpDr.of_seq (ok:CtxOK P c) {b:Bool}{ops:List Oper}{s:St}{Q:AX->St->Prop}(hp:zBq c ops=true) (hn:s.heap.next<=T.top) (hl:s.heap.low<=T.top) (h:Y4 P c b ops ops s Q):wpDr P c b ops s Q:=by
 unfold zBq at hp;split at hp
 ·rename_i m hm
  simp only[oG]at hp;obtain⟨h1,h2,h3⟩:=hp;obtain⟨orc,hor,x,s',e,hq⟩:=zLB (bs:=zp ops []) (m:=m) ok ops m 0 hn hl h1 h2 h3 h;exact⟨orc,m,x,s',hor,hm,e,hq⟩
 ·cases hp
def thenC (k:St->Prop) (Q:AX->St->Prop):AX->St->Prop
 | .normal,s=>k s
 | e,s=>Q e s
variable (P c)
def wpC (b:Bool):Code->St->(AX->St->Prop)->Prop
 | .skip,s,Q=>Q .normal s
 | .region _ ops draw,s,Q =>
  if draw=true then (if zBq c ops.toList=true then (s.heap.next<=T.top/\s.heap.low<=T.top)/\Y4 P c b ops.toList ops.toList s Q else if Xo ops.toList=true then (s.heap.next<=T.top/\s.heap.low<=T.top)/\wpF P c b ops.toList (zp ops.toList []) (zAr ops.toList) (zAr ops.toList) 0 ops.toList s Q else wpDr P c b ops.toList s Q)
  else Y4 P c b ops.toList ops.toList s Q
 | .seq x y,s,Q=>wpC b x s (thenC (λs1=>wpC b y s1 Q) Q)
 | .cond o x y,s,Q=>match yQ s.tm o with
  | some v=>wG v λt=>match t with|true=>wpC b x s Q|false=>wpC b y s Q
  | none=>False
 | .block id x,s,Q=>wpC b x s (λe s1=>Q (zK id e) s1)
 | .loop x,s,Q=>∃I:Nat->Tm->H->Prop,(∃k,I k s.tm s.heap)/\∀k tm h,I k tm h->wpC b x ⟨s.n,tm,s.dfr,h⟩ (thenC (λs1=>s1.n=s.n/\s1.dfr=s.dfr/\∃j,j<k/\I j s1.tm s1.heap) Q)
 | .scope x,s,Q=>wpC b x s Q
 | .label _,s,Q=>Q .normal s
 | .exit id,s,Q=>Q (.exit id) s
 | .ret,s,Q=>Q .ret s
 | .rangeFunc f ps asg body,s,Q=>RC P b (.rangeFunc f ps asg body) s Q
 | _,_,_=>False
variable {P c}
theorem RC.of_wp (ok:CtxOK P c) {b:Bool}:∀(code:Code) {s:St}{Q:AX->St->Prop},wpC P c b (wZ code) s Q->RC P b code s Q:=by
 intro code
 induction code with
 | skip=>intro s Q h;exact⟨.normal,s,λ_ _=>SimC.skip s,h⟩
 | region id ops draw =>
  intro s Q h;cases draw with
  | true =>
   simp only[wZ,wpC,if_true]at h;split at h
   ·rename_i hp;exact RC.of_dr ok (wpDr.of_seq ok hp h.1.1 h.1.2 h.2)
   ·split at h
    ·rename_i hp;exact RC.of_dr ok (wpDr.of_calls ok hp h.1.1 h.1.2 h.2)
    ·exact RC.of_dr ok h
  | false=>exact RC.region ok (by simpa [wZ,wpC]using h)
 | seq x y ihx ihy =>
  intro s Q h;refine RC.seq ((ihx h).mono λe s1 h1=>?_)
  cases e<;>first|exact ihy h1|exact h1
 | cond o x y ihx ihy =>
  intro s Q h;simp only[wZ,wpC]at h;split at h
  ·rename_i v ho
   obtain⟨t,rfl,h2⟩:=zAF h;refine RC.cond ho ?_;cases t with
   | true=>exact ihx h2
   | false=>exact ihy h2
  ·exact h.elim
 | block id x ih=>intro s Q h;exact RC.block (ih h)
 | loop x ih =>
  intro s Q h;obtain⟨I,⟨k,hk⟩,hI⟩:=h;refine RC.loop (λk s1=>s1.n=s.n/\s1.dfr=s.dfr/\I k s1.tm s1.heap) (λk s1 hi=>?_) k s ⟨rfl,rfl,hk⟩;obtain⟨h1,h2,h3⟩:=hi;have h4:=hI k s1.tm s1.heap h3;have hs:s1=⟨s.n,s1.tm,s.dfr,s1.heap⟩:=by cases s1;simp only at h1 h2;subst h1;subst h2;rfl
  rw[<-hs]at h4;refine(ih h4).mono λe s2 h5=>?_
  cases e with
  | normal=>obtain⟨g1,g2,j,g3,g4⟩:=h5;exact⟨j,g3,g1,g2,g4⟩
  | _=>exact h5
 | scope x ih =>
  intro s Q h;obtain⟨e,s1,h1,h2⟩:=ih h;exact⟨e,s1,λrd hrd=>SimC.scope (h1 rd hrd),h2⟩
 | label l=>intro s Q h;exact⟨.normal,s,λ_ _=>SimC.label l s,h⟩
 | exit id=>intro s Q h;exact⟨.exit id,s,λ_ _=>SimC.exit id s,h⟩
 | ret=>intro s Q h;exact⟨.ret,s,λ_ _=>SimC.ret s,h⟩
 | rangeFunc f ps asg body=>intro s Q h;exact h
 | _=>intro s Q h;exact h.elim
theorem ZR {b:Bool}:∀(code:Code) {s:St}{Q Q':AX->St->Prop},(∀x s',Q x s'->Q' x s')->wpC P c b code s Q->wpC P c b code s Q':=by
 intro code;have hthen:∀{k k':St->Prop}{Q Q':AX->St->Prop},(∀s,k s->k' s)->(∀x s,Q x s->Q' x s)->∀x s,thenC k Q x s->thenC k' Q' x s:=by
  intro k k' Q Q' h1 h2 x s h;cases x<;>first|exact h1 _ h|exact h2 _ _ h
 induction code with
 | skip=>intro s Q Q' hq h;exact hq _ _ h
 | region id ops draw =>
  intro s Q Q' hq h;simp only[wpC]at h ⊢;cases draw with
  | true =>
   rw[if_pos rfl]at h ⊢;split
   ·rename_i hp;rw[if_pos hp]at h;exact⟨h.1,zAC _ hq h.2⟩
   ·rename_i hp
    rw[if_neg hp]at h;split
    ·rename_i hp2;rw[if_pos hp2]at h;exact⟨h.1,zOo _ _ _ hq h.2⟩
    ·rename_i hp2;rw[if_neg hp2]at h;exact h.mono hq
  | false=>rw[if_neg (by simp)]at h ⊢;exact zAC _ hq h
 | seq x y ihx ihy =>
  intro s Q Q' hq h;exact ihx (hthen (λs hs=>ihy hq hs) hq) h
 | cond o x y ihx ihy =>
  intro s Q Q' hq h;simp only[wpC]at h ⊢;cases ho:yQ s.tm o with
  | none=>rw[ho]at h;exact h
  | some v =>
   rw[ho]at h;refine kY (λt ht=>?_) h;cases t with
   | true=>exact ihx hq ht
   | false=>exact ihy hq ht
 | block id x ih=>intro s Q Q' hq h;exact ih (λe s1=>hq _ _) h
 | loop x ih =>
  intro s Q Q' hq h;obtain⟨I,hk,hI⟩:=h;exact⟨I,hk,λk tm hh hi=>ih (hthen (λ_ h=>h) hq) (hI k tm hh hi)⟩
 | scope x ih=>intro s Q Q' hq h;exact ih hq h
 | label l=>intro s Q Q' hq h;exact hq _ _ h
 | exit id=>intro s Q Q' hq h;exact hq _ _ h
 | ret=>intro s Q Q' hq h;exact hq _ _ h
 | rangeFunc f ps asg body=>intro s Q Q' hq h;exact RC.mono h hq
 | _=>intro s Q Q' hq h;exact h.elim
def Ob (tm tm':Tm):List Nat->Prop->Prop
 | [],q=>q
 | t::l,q=>yB tm' t=yB tm t->Ob tm tm' l q
def zD (live:List Nat) (Q:AX->St->Prop):AX->St->Prop:=λx s=>∀tm',Ob s.tm tm' live (Q x ⟨s.n,tm',s.dfr,s.heap⟩)
theorem zBO {tm:Tm}{q:Prop}:∀{l:List Nat},Ob tm tm l q->q:=by
 intro l
 induction l with
 | nil=>exact λh=>h
 | cons t l ih=>exact λh=>ih (h rfl)
theorem zJk {live:List Nat}{Q:AX->St->Prop}{x:AX}{s:St}(h:zD live Q x s):Q x s:=zBO (h s.tm)
theorem N8.set_get {α:Type}(d:D8) (t:N8 α) (f:α->α) (h:f (N8.get d t)=N8.get d t):N8.mod d f t=t:=by
 obtain⟨a0,a1,a2,a3,a4,a5,a6,a7⟩:=t;cases d<;>simp only[N8.mod,N8.get]at h ⊢<;>rw[h]
theorem zWm {tm:Tm}{t:Nat}{v:V}(ht:t<511) (h:yB tm t=v):Tb.set tm t v=tm:=by
 unfold yB Tb.get at h;have hb:Nat.ble t 511=true:=oC (by omega);rw[hb,oK]at h;unfold Tb.getF at h;unfold Tb.set;refine N8.set_get _ _ _ (N8.set_get _ _ _ (N8.set_get _ _ _ ?_));exact h.symm
def wpD:List AD->H->(H->Prop)->Prop
 | [],h,k=>k h
 | .coll id::l,h,k=>match h.get id with
  | some (.deferred true)=>wpD l (h.upd id (some (.deferred false))) k
  | _=>False
 | .fn _ _ _::_,_,_=>False
theorem zOm {call:Nat->List V->H->Option CallOut}:∀{l:List AD}{h:H}{k:H->Prop},wpD l h k->∃h',xv call l h=some h'/\k h':=by
 intro l
 induction l with
 | nil=>intro h k hk;exact⟨h,rfl,hk⟩
 | cons d l ih =>
  intro h k hk;cases d with
  | coll id =>
   simp only[wpD]at hk;split at hk
   ·rename_i hg
    obtain⟨h',h1,h2⟩:=ih hk;exact⟨h',by simp only[xv,hg,h1],h2⟩
   ·exact hk.elim
  | fn f cap args=>exact hk.elim
variable (c) in
def endW (fi:FI) (Q:V->H->Prop):AX->St->Prop
 | .normal,s=>wpD s.dfr s.heap λh'=>match leave c fi.results s.tm h' fi.results []with|some vs=>Q (yj vs) h'|none=>False
 | .ret,s=>wpD s.dfr s.heap λh'=>match leave c fi.results s.tm h' fi.results []with|some vs=>Q (yj vs) h'|none=>False
 | _,_=>False
def zR (fi:FI):FI:=⟨fi.n,fi.results,wZ fi.body⟩
theorem RF.enter (ok:CtxOK P c) {f:Nat}{fi:FI}{args:List V}{h:H}{Q:V->H->Prop}(hf:(c.fn.get f).map zR=some fi) (ha:args.length<=fi.n) (hn:fi.n<=511)
  (hw:wpC P c false fi.body ⟨fi.n,zF args 0 (Tb.leaf zC),[],h⟩ (endW c fi Q)):RF P c f args h Q:=by
 cases hg:c.fn.get f with
 | none=>rw[hg]at hf;cases hf
 | some fj =>
  rw[hg]at hf;simp only[oX,oA]at hf;subst hf;obtain⟨e,s1,h1,h2⟩:=RC.of_wp ok fj.body hw;obtain⟨ih,hih,hrun⟩:∃ih,ju P ih/\ih false fj.body ⟨fj.n,zF args 0 (Tb.leaf zC),[],h⟩=some (.done e s1) :=
   ⟨ih1 false fj.body ⟨fj.n,zF args 0 (Tb.leaf zC),[],h⟩ e s1,zGG h1,zGF _ _ _ _ _⟩
  have hent:qp ih fj args h=some (.done e s1):=by
   unfold qp;have e1:Nat.ble (xr args 0) fj.n=true:=by rw[zTz];exact oC ha
   have e2:Nat.ble fj.n 511=true:=oC hn;rw[e1,e2];exact hrun
  have fin:∀(hq:wpD s1.dfr s1.heap λh'=>match leave c fj.results s1.tm h' fj.results []with|some vs=>Q (yj vs) h'|none=>False) (he:e = .normal\/e = .ret),RF P c f args h Q:=by
   intro hq he;obtain⟨h',h3,h4⟩:=zOm (call:=zAn c ih) hq;cases hl:leave c fj.results s1.tm h' fj.results []with
   | none=>rw[hl]at h4;exact h4.elim
   | some vs =>
    rw[hl]at h4;refine⟨yj vs,h',⟨⟨fj,hg⟩,?_⟩,h4⟩;refine J3 ok hih ?_;have hend:zJB c ih fj s1=some (.ret (yj vs) h'):=by
     unfold zJB;rw[h3];show(match leave c fj.results s1.tm h' fj.results []with|some vs=>some (CallOut.ret (yj vs) h')|none=>none)=_
     rw[hl]
    unfold zDY;rw[hg];simp only[hent];rcases he with rfl|rfl<;>exact hend
  cases e with
  | normal=>exact fin h2 (.inl rfl)
  | ret=>exact fin h2 (.inr rfl)
  | _=>exact h2.elim
def t (n:Nat):Operand:=.tmp n
def ci (n:Nat):Operand:=.const (.int .i64 (.ofNat n))
def cs (l:List UInt8):Operand:=.const (.string ⟨l.toArray⟩)
abbrev zL (n:Int):Int:=zN .i64 n
def O1 (d:Option Nat) (ty:Nat) (op:Op):Oper:=⟨d,op,ty, "",#[],none⟩
def O2 (d:Option Nat) (ty:Nat) (op:Op) (g:Nat×Bool):Oper:=⟨d,op,ty, "",#[],some g⟩
end
end Go.Sim
