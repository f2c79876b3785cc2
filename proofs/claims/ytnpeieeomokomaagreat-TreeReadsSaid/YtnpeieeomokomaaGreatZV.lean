/- V. No condition. -/
import Derived.Test.YtnpeieeomokomaaGreatZS
namespace Go.Sim
section
variable (P:Program) (c:Ctx)
def RC (b:Bool) (code:Code) (s:St) (Q:AX→St→Prop):Prop:=∃ x s',(∀ rd:Option Nat,rd.isSome=b→SimC P rd code s x s')∧Q x s'
def RF (f:Nat) (args:List V) (h:H) (Q:V→H→Prop):Prop:=∃ v h',((∃ fi,c.fn.get f=some fi)∧SimF P f args h (.ret v h'))∧Q v h'
def RR (l:Nat) (args:List V) (h:H) (Q:V→H→Prop):Prop:=∃ v h',SimR P l args h (.ret v h')∧Q v h'
variable {P c}
theorem RC.mono {b:Bool} {code:Code} {s:St} {Q Q':AX→St→Prop} (h:RC P b code s Q) (hq:∀ x s',Q x s'→Q' x s'):RC P b code s Q':=by
 obtain ⟨x,s',h1,h2⟩:=h; exact ⟨x,s',h1,hq _ _ h2⟩
theorem RF.mono {f:Nat} {args:List V} {h:H} {Q Q':V→H→Prop} (r:RF P c f args h Q) (hq:∀ v h',Q v h'→Q' v h'):RF P c f args h Q':=by
 obtain ⟨x,s',h1,h2⟩:=r; exact ⟨x,s',h1,hq _ _ h2⟩
theorem RR.mono {l:Nat} {args:List V} {h:H} {Q Q':V→H→Prop} (r:RR P l args h Q) (hq:∀ v h',Q v h'→Q' v h'):RR P l args h Q':=by
 obtain ⟨x,s',h1,h2⟩:=r; exact ⟨x,s',h1,hq _ _ h2⟩
def StepW (P:Program) (b:Bool) (o:Oper) (s:St) (x:AX) (s':St):Prop :=
 ∀ (rd:Option Nat),rd.isSome=b→∀ {ρ:Env} {D:Nat→Prop} {w:World} {a:Act},StR ρ D s a w→∀ {next:Act→World→Prop} {Q:Exit→Act→World→Prop},
  (x = .normal→∀ ρ' v w',Mv ρ D s.heap w ρ' s'.heap w'→StR ρ' (Dx D s.heap s'.heap) s' v w'→next v w') →
  (∀ v,x = .panic v→∀ ρ' w',Mv ρ D s.heap w ρ' s'.heap w'→StR ρ' (Dx D s.heap s'.heap) s' a w'→v.In (Dx D s.heap s'.heap)→Q (.panic [{ v:=v.conc ρ',recovered:=false }]) a w') →
  o.wpIn (Fx (rd.map ρ.blk)) 0 P a w next Q
theorem StepW.of_step (ok:CtxOK P c) {orc:Nat→List V→H→Option (V×H)} (hor:OrcOk P c orc) {ih:Bool→Code→St→Option Out} (hih:IHok P ih) {b:Bool} {o:Oper} {s s':St} {x:AX}
  (e:stepOp c orc b ih o s=some (x,s')):StepW P b o s x s':=by
 intro rd hrd ρ D w a k next Q hn hq
 subst hrd
 exact stepOp_sound ok hor hih e k (fun hx ρ' v w' m _ k'=>hn hx ρ' v w' m k') hq
def orc0:Nat→List V→H→Option (V×H):=fun _ _ _=>none
def ih0:Bool→Code→St→Option Out:=fun _ _ _=>none
theorem orc0_ok:OrcOk P c orc0:=fun _ _ _ _ _ e=>by cases e
theorem ih0_ok:IHok P ih0:=fun _ _ _ _ _ e=>by cases e
open Classical in
noncomputable def orc1 (f:Nat) (args:List V) (h:H) (v:V) (h':H):Nat→List V→H→Option (V×H):=fun f2 a2 h2=>if f2=f∧a2=args∧h2=h then some (v,h') else none
theorem orc1_ok {f:Nat} {args:List V} {h h':H} {v:V} (hf:∃ fi,c.fn.get f=some fi) (hs:SimF P f args h (.ret v h')):OrcOk P c (orc1 f args h v h'):=by
 intro f2 a2 h2 v2 h3 e
 unfold orc1 at e
 split at e
 ·rename_i hc
  obtain ⟨rfl,rfl,rfl⟩:=hc
  simp only [Option.some.injEq,Prod.mk.injEq] at e
  obtain ⟨rfl,rfl⟩:=e
  exact ⟨hf,hs⟩
 ·cases e
theorem orc1_at (f:Nat) (args:List V) (h:H) (v:V) (h':H):orc1 f args h v h' f args h=some (v,h'):=by
 unfold orc1; rw [if_pos ⟨rfl,rfl,rfl⟩]
open Classical in
noncomputable def ih1 (b:Bool) (code:Code) (s:St) (x:AX) (s':St):Bool→Code→St→Option Out:=fun b2 c2 s2=>if b2=b∧c2=code∧s2=s then some (.done x s') else none
theorem ih1_ok {b:Bool} {code:Code} {s s':St} {x:AX} (h:∀ rd:Option Nat,rd.isSome=b→SimC P rd code s x s'):IHok P (ih1 b code s x s'):=by
 intro rd c2 s2 x2 s3 e
 unfold ih1 at e
 split at e
 ·rename_i hc
  obtain ⟨h1,rfl,rfl⟩:=hc
  simp only [Option.some.injEq,Out.done.injEq] at e
  obtain ⟨rfl,rfl⟩:=e
  exact h rd h1
 ·cases e
theorem ih1_at (b:Bool) (code:Code) (s:St) (x:AX) (s':St):ih1 b code s x s' b code s=some (.done x s'):=by
 unfold ih1; rw [if_pos ⟨rfl,rfl,rfl⟩]
theorem StepW.call (ok:CtxOK P c) {b:Bool} {o:Oper} {s s':St} {f:Nat} {args:List V} {v:V} {h':H} (ha:aop c o (evx s.tm) s.heap=some (.call f args))
  (hf:∃ fi,c.fn.get f=some fi) (hs:SimF P f args s.heap (.ret v h')) (hp:putD s o.dst v h'=some s'):StepW P b o s .normal s':=by
 refine StepW.of_step (c:=c) (orc:=orc1 f args s.heap v h') (ih:=ih0) ok (orc1_ok hf hs) ih0_ok ?_
 unfold stepOp callO
 simp only [ha,orc1_at,hp]
theorem StepW.round (ok:CtxOK P c) {b:Bool} {o:Oper} {s s':St} {l:Nat} {args:List V} {v:V} {h':H} (ha:aop c o (evx s.tm) s.heap=some (.round l args))
  (hs:SimR P l args s.heap (.ret v h')) (hp:putD s o.dst v h'=some s'):StepW P b o s .normal s':=by
 intro rd hrd ρ D w a k next Q hn _
 refine ⟨fun _ _=>trivial,?_⟩
 have hsem:=semAt_run (rd:=rd) ha
 have hop:=aop_sound (P:=P) (a:=a.eval) ok ha k.hr (fun y _ v hv=>evx_sound k y v hv)
 rw [show (Fx (rd.map ρ.blk)).round=rd.map ρ.blk from rfl,hsem (fun _ _ h=>by cases h)]
 obtain ⟨hl,hin,hr⟩:=hop
 obtain ⟨fn,tmps,y,z,hy,hR⟩:=hs ρ D w k.hr hl hin
 rw [hr,hy]
 refine ⟨fun h=>by simp [Fx] at h,roundIn_Fx none _ (RoundIn.mono hR ?_)⟩
 rintro en w' ⟨ρ',rfl,m,r,hv⟩
 rw [putD_heap] at hp
 have k1:=k.step m r
 have hp':putD { s with heap:=h' } o.dst v ({ s with heap:=h' }:St).heap=some s':=hp
 obtain ⟨k2,hh⟩:=StR.put k1 hv hp'
 have hh:s'.heap=h':=hh
 exact hn rfl _ _ _ (by rw [hh]; exact m) (by rw [hh]; exact k2)
def SimO (P:Program) (b:Bool) (ops:Array Oper) (l:List Oper) (s:St) (x:AX) (s':St):Prop :=
 ∀ rd:Option Nat,rd.isSome=b→∀ (is:List Nat),is.mapM (fun i=>ops[i]?)=some l →
  ∀ {ρ0:Env} {D0:Nat→Prop} {s0:St} {w0:World} {ρ:Env} {w:World} {a:Act},(∀ id,D0 id→id<s0.heap.next)→(∀ l,rd=some l→D0 l)→Mv ρ0 D0 s0.heap w0 ρ s.heap w→StR ρ (Dx D0 s0.heap s.heap) s a w →
  wpOpsIn (Fx (rd.map ρ0.blk)) 0 P ops (Ends ρ0 D0 s0 w0 x s') is a w
theorem SimO.nil {b:Bool} {ops:Array Oper} {s:St}:SimO P b ops [] s .normal s:=by
 intro rd _ is his ρ0 D0 s0 w0 ρ w a hlt hl m k
 cases is with
 | nil=>exact ⟨ρ,m,k,rfl,trivial⟩
 | cons i is =>
  simp only [List.mapM_cons,Option.bind_eq_bind,Option.bind_eq_some_iff] at his
  obtain ⟨o,_,l',_,h⟩:=his
  simp at h
theorem SimO.step {b:Bool} {ops:Array Oper} {o:Oper} {l:List Oper} {s s1 s':St} {x:AX} (hw:wantedB ops.toList s.tm o=true) (h1:StepW P b o s .normal s1) (h2:SimO P b ops l s1 x s'):SimO P b ops (o :: l) s x s':=by
 intro rd hrd is his ρ0 D0 s0 w0 ρ w a hlt hl m k
 cases is with
 | nil=>simp at his
 | cons i is =>
  simp only [List.mapM_cons,Option.bind_eq_bind,Option.bind_eq_some_iff] at his
  obtain ⟨o',ho,l',hl',h⟩:=his
  simp only [Option.pure_def,Option.some.injEq,List.cons.injEq] at h
  obtain ⟨rfl,rfl⟩:=h
  simp only [wpOpsIn,ho]
  rw [wanted_sound k,hw,if_pos rfl,← rd_agree m.agree hl]
  refine h1 rd hrd k ?_ (fun v hv=>by cases hv)
  intro _ ρ' a' w' m' k'
  rw [rd_agree m.agree hl]
  rw [Dx_trans (D:=D0) m.next m'.next] at k'
  exact h2 rd hrd is hl' hlt hl (Mv.trans hlt m m') k'
theorem SimO.out {b:Bool} {ops:Array Oper} {o:Oper} {l:List Oper} {s s1:St} {v:V} (hw:wantedB ops.toList s.tm o=true) (h1:StepW P b o s (.panic v) s1):SimO P b ops (o :: l) s (.panic v) s1:=by
 intro rd hrd is his ρ0 D0 s0 w0 ρ w a hlt hl m k
 cases is with
 | nil=>simp at his
 | cons i is =>
  simp only [List.mapM_cons,Option.bind_eq_bind,Option.bind_eq_some_iff] at his
  obtain ⟨o',ho,l',hl',h⟩:=his
  simp only [Option.pure_def,Option.some.injEq,List.cons.injEq] at h
  obtain ⟨rfl,rfl⟩:=h
  simp only [wpOpsIn,ho]
  rw [wanted_sound k,hw,if_pos rfl,← rd_agree m.agree hl]
  refine h1 rd hrd k (fun hn=>by cases hn) ?_
  intro v2 hv ρ' w' m' k' hvi
  cases hv
  have hDx:=Dx_trans (D:=D0) m.next m'.next
  exact ⟨ρ',Mv.trans hlt m m',by rw [← hDx]; exact k',rfl,by rw [← hDx]; exact hvi⟩
theorem SimO.off {b:Bool} {ops:Array Oper} {o:Oper} {l:List Oper} {s s1 s':St} {x:AX} (hw:wantedB ops.toList s.tm o=false) (hp:putD s o.dst undefV s.heap=some s1) (h2:SimO P b ops l s1 x s'):SimO P b ops (o :: l) s x s':=by
 intro rd hrd is his ρ0 D0 s0 w0 ρ w a hlt hl m k
 cases is with
 | nil=>simp at his
 | cons i is =>
  simp only [List.mapM_cons,Option.bind_eq_bind,Option.bind_eq_some_iff] at his
  obtain ⟨o',ho,l',hl',h⟩:=his
  simp only [Option.pure_def,Option.some.injEq,List.cons.injEq] at h
  obtain ⟨rfl,rfl⟩:=h
  simp only [wpOpsIn,ho]
  rw [wanted_sound k,hw,if_neg (by simp)]
  obtain ⟨k2,hh⟩:=StR.put k (undefV_In _) hp
  rw [undefV_conc] at k2
  exact ⟨fun _ _=>trivial,h2 rd hrd is hl' hlt hl (by rw [hh]; exact m) (by rw [hh]; exact k2)⟩
def put1 (d:Option Tmp) (v:V) (s:St) (h:H) (k:St→Prop):Prop :=
 match d with
 | none=>k ⟨s.n,s.tm,s.dfr,h⟩
 | some t=>(match Nat.blt t s.n with | true=>k ⟨s.n,s.tm.set t v,s.dfr,h⟩ | false=>False)
theorem put1_spec {d:Option Tmp} {v:V} {s:St} {h:H} {k:St→Prop} (e:put1 d v s h k):∃ s',putD s d v h=some s'∧k s':=by
 cases d with
 | none=>exact ⟨_,rfl,e⟩
 | some t =>
  unfold put1 at e
  unfold putD
  simp only at e ⊢
  cases hb:Nat.blt t s.n with
  | false=>rw [hb] at e; exact e.elim
  | true=>rw [hb] at e; rw [cond_true]; exact ⟨_,rfl,e⟩
theorem put1_iff {d:Option Tmp} {v:V} {s:St} {h:H} {k:St→Prop}:put1 d v s h k↔(d=none∧k ⟨s.n,s.tm,s.dfr,h⟩)∨∃ t,d=some t∧Nat.blt t s.n=true∧k ⟨s.n,s.tm.set t v,s.dfr,h⟩:=by
 cases d with
 | none=>simp [put1]
 | some t =>
  show (match Nat.blt t s.n with | true=>k ⟨s.n,s.tm.set t v,s.dfr,h⟩ | false=>False)↔_
  generalize hb:Nat.blt t s.n=x
  cases x with
  | false =>
   refine ⟨fun e=>False.elim e,?_⟩
   rintro (⟨h1,_⟩ | ⟨t2,h1,h2,_⟩)
   ·cases h1
   ·cases h1; rw [hb] at h2; cases h2
  | true =>
   refine ⟨fun e=>.inr ⟨t,rfl,hb,e⟩,?_⟩
   rintro (⟨h1,_⟩ | ⟨t2,h1,_,h3⟩)
   ·cases h1
   ·cases h1; exact h3
theorem put1_mono {d:Option Tmp} {v:V} {s:St} {h:H} {k k':St→Prop} (hk:∀ s,k s→k' s) (e:put1 d v s h k):put1 d v s h k':=by
 rw [put1_iff] at e ⊢
 rcases e with ⟨h1,h2⟩ | ⟨t,h1,h2,h3⟩
 ·exact .inl ⟨h1,hk _ h2⟩
 ·exact .inr ⟨t,h1,h2,hk _ h3⟩
variable (P c)
def after (d:Option Tmp) (s:St) (k:St→Prop) (v:V) (h:H):Prop:=put1 d v s h k
def wpA (b:Bool) (d:Option Tmp) (s:St) (k:St→Prop) (Q:AX→St→Prop):Option AN→Prop
 | some (.val v h)=>put1 d v s h k
 | some (.skip h)=>put1 d undefV s h k
 | some (.call f args)=>RF P c f args s.heap (after d s k)
 | some (.round l args)=>RR P l args s.heap (after d s k)
 | some (.dfr ad)=>b=false∧put1 d undefV ⟨s.n,s.tm,ad :: s.dfr,s.heap⟩ s.heap k
 | some (.pan v h)=>Q (.panic v) ⟨s.n,s.tm,s.dfr,h⟩
 | _=>False
mutual
def shapeZ:V→(V→Prop)→Prop
 | .int κ _,k=>∃ x,k (.int κ x)
 | .bool _,k=>∃ t,k (.bool t)
 | .str _,k=>∃ l,k (.str l)
 | .agg zs,k=>shapeZL zs fun vs=>k (.agg vs)
 | _,k=>∃ v,k v
def shapeZL:List V→(List V→Prop)→Prop
 | [],k=>k []
 | z :: zs,k=>shapeZ z fun v=>shapeZL zs fun vs=>k (v :: vs)
end
mutual
theorem shapeZ_ex:∀ (z:V) {k:V→Prop},shapeZ z k→∃ v,k v
 | .int _ _,_,⟨_,h⟩ | .bool _,_,⟨_,h⟩ | .str _,_,⟨_,h⟩ | .ptr _ _,_,⟨_,h⟩ | .nilptr,_,⟨_,h⟩ | .slice _ _ _ _,_,⟨_,h⟩ | .nilslice,_,⟨_,h⟩ | .map _,_,⟨_,h⟩ | .nilmap,_,⟨_,h⟩
 | .func _ _ _,_,⟨_,h⟩ | .yield _,_,⟨_,h⟩ | .nilFunc,_,⟨_,h⟩ | .iface _ _,_,⟨_,h⟩ | .nilIface,_,⟨_,h⟩ | .tuple _,_,⟨_,h⟩=>⟨_,h⟩
 | .agg zs,_,h=>by obtain ⟨vs,h⟩:=shapeZL_ex zs h; exact ⟨_,h⟩
theorem shapeZL_ex:∀ (zs:List V) {k:List V→Prop},shapeZL zs k→∃ vs,k vs
 | [],_,h=>⟨[],h⟩
 | z :: zs,_,h=>by
  obtain ⟨v,h⟩:=shapeZ_ex z h
  obtain ⟨vs,h⟩:=shapeZL_ex zs h
  exact ⟨_,h⟩
end
def shape1 (t:TypeId) (k:V→Prop):Prop :=
 match c.ty.get t with
 | some ti=>(match ti.zero with | some z=>shapeZ z k | none=>∃ v,k v)
 | none=>∃ v,k v
def shapeTs:List TypeId→(List V→Prop)→Prop
 | [],k=>k []
 | t :: ts,k=>shape1 c t fun v=>shapeTs ts fun vs=>k (v :: vs)
def tupD:TypeDesc→Option (List TypeId)
 | .tuple ts=>some ts.toList
 | _=>none
def splitB (t:Bool) (k:V→Prop):Prop:=(t=true→k (.bool true))∧(t=false→k (.bool false))
def splitP (p:Prop) (k:V→Prop):Prop:=(p→k (.bool true))∧(¬ p→k (.bool false))
def shapeZ1:V→(V→Prop)→(V→Prop)→Prop
 | .bool _,e,k=>∃ t,e (.bool t)∧splitB t k
 | z,e,k=>shapeZ z fun v=>e v∧k v
def shapeG (t:TypeId) (e k:V→Prop):Prop :=
 match c.ty.get t with
 | some ti=>(match tupD ti.desc with
  | some ts=>shapeTs c ts fun vs=>e (.tuple vs)∧k (.tuple vs)
  | none=>(match ti.zero with | some z=>shapeZ1 z e k | none=>∃ v,e v∧k v))
 | none=>∃ v,e v∧k v
def shapeK (t:TypeId) (r:Option V) (k:V→Prop):Prop:=shapeG c t (fun v=>r=some v) k
def boolT (t:TypeId):Bool:=match c.ty.get t with | some ti=>(match ti.zero with | some (.bool _)=>true | _=>false) | none=>false
def splitV:V→(V→Prop)→Prop
 | .bool t,k=>splitB t k
 | v,k=>k v
def wpBin (op:BinOp) (t:TypeId) (x y:Operand) (ot:TypeId):V→V→(V→Prop)→Prop
 | .int κ m,.int κ' n,k =>
  if isShift op=true∨kindEq κ κ'=true then
   (match op with
   | .add=>k (.int κ (wrapF κ (m+n)))
   | .sub=>k (.int κ (wrapF κ (m-n)))
   | .mul=>k (.int κ (wrapF κ (m*n)))
   | .eql=>splitP (m=n) k
   | .neq=>splitP (m≠n) k
   | .lss=>splitP (m<n) k
   | .leq=>splitP (m≤n) k
   | .gtr=>splitP (n<m) k
   | .geq=>splitP (n≤m) k
   | .quo=>n≠0∧k (.int κ (wrapF κ (m.tdiv n)))
   | .rem=>n≠0∧k (.int κ (m.tmod n))
   | op=>∃ r,intB op κ m n=some (.int κ r)∧k (.int κ r))
  else False
 | .str l,.str m,k =>
  (match op with
  | .eql=>splitP (l=m) k
  | .neq=>splitP (l≠m) k
  | .add=>l.length+m.length≤4611686018427387904∧k (.str (l++m))
  | _=>shapeK c ot (abin c op t x y (.str l) (.str m)) k)
 | a,b,k=>shapeK c ot (abin c op t x y a b) k
def wpUn (op:UnOp):V→(V→Prop)→Prop
 | .bool b,k=>(match op with | .not=>k (.bool (!b)) | _=>False)
 | .int κ n,k=>(match op with | .neg=>k (.int κ (wrapF κ (0-n))) | op=>∃ r,aun op (.int κ n)=some (.int κ r)∧k (.int κ r))
 | _,_=>False
def intD:TypeDesc→Option IntKind
 | .int κ=>some κ
 | _=>none
def strT (t:TypeId):Bool:=match c.ty.get t with | some ti=>(match ti.desc with | .string=>true | _=>false) | none=>false
def wpConv (s d:TypeId) (h:H) (v:V) (k:V→H→Prop):Prop :=
 match v with
 | .int _ n=>(match c.ty.get s,c.ty.get d with
  | some ts,some td=>(match intD ts.desc,intD td.desc with | some _,some κ=>k (.int κ (wrapF κ n)) h | _,_=>False)
  | _,_=>False)
 | v=>(match strT c d with
  | true=>∃ l h',aconv c s d h v=some (.str l,h')∧k (.str l) h'
  | false=>∃ u h',aconv c s d h v=some (u,h')∧k u h')
def wpFA (t:TypeId) (f:Nat) (h:H):V→(V→H→Prop)→Prop
 | .ptr b o,k=>(match c.ty.get t with
  | some ti=>(match ti.desc with
   | .struct fs=>(match fs[f]? with
    | some fd=>(match c.ty.get fd.type with | some tf=>if 0<tf.size then k (.ptr b (o+fd.offset)) h else False | none=>False)
    | none=>False)
   | _=>False)
  | none=>False)
 | _,_=>False
def wpExt (i:Nat) (ot:TypeId):V→(V→Prop)→Prop
 | .tuple l,k=>(match l[i]? with | some u=>(match boolT c ot with | true=>splitV u k | false=>k u) | none=>False)
 | _,_=>False
def pickB (t:Bool) (k:Bool→Prop):Prop:=match t with | true=>k true | false=>k false
def wpPick:V→(Bool→Prop)→Prop
 | .bool t,k=>pickB t k
 | _,_=>False
def wpCs (r:Option Cs) (k:Cs→Prop):Prop:=match r with | some cs=>k cs | none=>False
def wpNew (t:TypeId) (h:H) (v:V) (k:V→H→Prop):Prop :=
 match c.ty.get t with
 | some ti=>if isAggD ti.desc=true then wpCs (cond (allOne v.cells) (Cs.ofL v.cells) none) fun cs=>h.next<T.top∧∀ b h',b=h.next→h'=h.new (.cells cs ⟨0,t+1,0⟩ true false)→k (.ptr b 0) h'
  else v.one=true∧h.next<T.top∧∀ b h',b=h.next→h'=h.new (.cells (.ls [v]) ⟨0,t+1,0⟩ true false)→k (.ptr b 0) h'
 | none=>False
def wpOpt (ot:TypeId) (r:Option V) (k:V→Prop):Prop:=match r with | some u=>(match boolT c ot with | true=>splitV u k | false=>k u) | none=>False
def wpMin (mx:Bool):List V→(V→Prop)→Prop
 | [.int κ a,.int _ b],k=>k (.int κ (if mx=true then max a b else min a b))
 | v :: l,k=>∃ u,minmax mx v l=some u∧k u
 | [],_=>False
def strV:V→(List UInt8→Prop)→Prop
 | .str l,k=>k l
 | _,_=>False
def wpLen (t:TypeId) (h:H) (v:V) (k:V→Prop):Prop :=
 match strT c t with
 | true=>strV v fun l=>k (.int .i64 (.ofNat l.length))
 | false=>∃ x,alen c t h v=some (.int .i64 x)∧k (.int .i64 x)
def resK (t:TypeId) (k:V→H→Prop) (v:V) (h:H):Prop:=shapeG c t (fun u=>v=u) fun u=>k u h
def wpBuiltin (b:Builtin) (ot:TypeId) (h:H) (k:V→H→Prop) (g:Option AN):List V→List TypeId→Prop
 | [x],[t]=>(match b with
  | .len=>wpLen c t h x fun v=>k v h
  | _=>∃ v h',g=some (.val v h')∧resK c ot k v h')
 | [s,x],[t,tx]=>(match b with
  | .append=>True∧∃ v h',aappAny c tx t h s x=some (v,h')∧k v h'
  | .copy=>∃ x' h',acopy c t h s x=some (.int .i64 x',h')∧k (.int .i64 x') h'
  | .min=>wpMin false [s,x] fun v=>k v h
  | .max=>wpMin true [s,x] fun v=>k v h
  | _=>∃ v h',g=some (.val v h')∧resK c ot k v h')
 | l,_=>(match b with
  | .min=>wpMin false l fun v=>k v h
  | .max=>wpMin true l fun v=>k v h
  | _=>∃ v h',g=some (.val v h')∧resK c ot k v h')
def wpAN (P:Program) (ot:TypeId) (h:H) (k:V→H→Prop):Option AN→Prop
 | some (.val v h')=>k v h'
 | some (.call g as)=>RF P c g as h (resK c ot k)
 | _=>False
def wpCallV (P:Program) (ot:TypeId) (h:H) (k:V→H→Prop) (args:List V):V→Prop
 | .func (.func g) first captured=>wpAN c P ot h k (acallF c h g first args captured)
 | .yield l=>RR P l args h (resK c ot k)
 | _=>False
def wpCall (P:Program) (cl:Call) (ot:TypeId) (e:Operand→Option V) (h:H) (k:V→H→Prop):Prop :=
 match evL e cl.args.toList with
 | none=>False
 | some args =>
  match cl.callee with
  | .value f=>(match e f with | some v=>wpCallV c P ot h k args v | none=>False)
  | .builtin b=>wpBuiltin c b ot h k (acall c cl e h) args cl.argTypes.toList
  | .invoke _ _=>(match acall c cl e h with | some (.call g as)=>RF P c g as h (resK c ot k) | _=>False)
def ifaceD:TypeDesc→Bool
 | .interface _=>true
 | _=>false
def wpOp (P:Program) (o:Oper) (e:Operand→Option V) (h:H) (k:V→H→Prop):Prop :=
 match o.op with
 | .move x=>(match e x with | some v=>k v h | none=>False)
 | .assign x=>(match e x with | some v=>k v h | none=>False)
 | .pick cc a b=>(match e cc,e a,e b with | some v,some x,some y=>wpPick v fun t=>k (cond t x y) h | _,_,_=>False)
 | .binOp op t x y _=>(match e x,e y with | some a,some b=>wpBin c op t x y o.type a b fun v=>k v h | _,_=>False)
 | .unOp op _ x=>(match e x with | some a=>wpUn op a fun v=>k v h | none=>False)
 | .convert s d x=>(match e x with | some v=>wpConv c s d h v k | none=>False)
 | .load t a=>(match e a with | some p=>shapeK c t (ald c t h p) fun v=>k v h | none=>False)
 | .store t a x=>(match e a,e x with | some p,some v=>∃ h',ast c t h p v=some h'∧k undefV h' | _,_=>False)
 | .field t x f=>(match e x with | some v=>wpOpt c o.type (afld c t v f) fun v=>k v h | none=>False)
 | .fieldAddr t x f=>(match e x with | some p=>wpFA c t f h p k | none=>False)
 | .indexAddr t x ix=>(match e x,e ix with | some a,some i=>∃ pb po,aidx c t a i=some (.ptr pb po)∧k (.ptr pb po) h | _,_=>False)
 | .index t x ix=>(match e x,e ix with | some a,some i=>shapeK c o.type (aindex c t a i) fun v=>k v h | _,_=>False)
 | .extract x i=>(match e x with | some v=>wpExt c i o.type v fun u=>k u h | none=>False)
 | .alloc t=>(match c.ty.get t with | some ti=>(match ti.zero with | some z=>wpNew c t h z k | none=>False) | none=>False)
 | .box t x=>(match e x with | some v=>wpNew c t h v k | none=>False)
 | .makeFunc (.func g) first captured=>(match evL e first.toList,evL e captured.toList with | some a,some b=>k (.func (.func g) a b) h | _,_=>False)
 | .call cl=>wpCall c P cl o.type e h k
 | .slice t x lo hi mx=>(match e x,evO e lo,evO e hi,evO e mx with | some v,some a,some b,some m=>shapeK c o.type (aslice c t h v a b m) fun v=>k v h | _,_,_,_=>False)
 | .build t ps=>(match evP e ps.toList with | some l=>wpOpt c t (abuild c t l) fun v=>k v h | none=>False)
 | .buildSlice t n ps=>(match evP e ps.toList with | some l=>∃ v h',abuildSlice c t n l h=some (v,h')∧k v h' | none=>False)
 | .makeInterface t x=>(match c.ty.get t,e x with | some ti,some v=>(match ifaceD ti.desc with | true=>False | false=>k (.iface t v) h) | _,_=>False)
 | .makeSlice t l m=>(match e l,e m with | some a,some b=>∃ v h',amake c t a b h=some (v,h')∧k v h' | _,_=>False)
 | .lookup t x i ok=>(match e x,e i with | some a,some b=>shapeK c o.type (alook c t h a b ok) fun v=>k v h | _,_=>False)
 | .mapUpdate t m x v=>(match e m,e x,e v with | some a,some b,some d=>∃ h',aupd c t h a b d=some h'∧k undefV h' | _,_,_=>False)
 | _=>∃ v h',aop c o e h=some (.val v h')∧k v h'
def isDP:Op→Bool
 | .defer _=>true
 | _=>false
def isPan:Op→Bool
 | .panic _=>true
 | _=>false
def wpO (b:Bool) (ops:List Oper):List Oper→St→(AX→St→Prop)→Prop
  | [],s,Q=>Q .normal s
  | o :: l,s,Q =>
    if wantedB ops s.tm o=true then
      (if isPan o.op=true then False else if isDP o.op=true then wpA P c b o.dst s (fun s'=>wpO b ops l s' Q) Q (aop c o (evx s.tm) s.heap)
       else wpOp c P o (evx s.tm) s.heap fun v h=>put1 o.dst v s h fun s'=>wpO b ops l s' Q)
    else put1 o.dst undefV s s.heap fun s'=>wpO b ops l s' Q
variable {P c}
theorem splitV_out {v:V} {k:V→Prop} (h:splitV v k):k v:=by
 cases v with
 | bool t =>
  cases t with
  | true=>exact h.1 rfl
  | false=>exact h.2 rfl
 | _=>exact h
theorem shape1_ex {t:TypeId} {k:V→Prop} (h:shape1 c t k):∃ v,k v:=by
 unfold shape1 at h
 split at h
 ·split at h
  ·exact shapeZ_ex _ h
  ·exact h
 ·exact h
theorem shapeTs_ex:∀ {ts:List TypeId} {k:List V→Prop},shapeTs c ts k→∃ vs,k vs:=by
 intro ts
 induction ts with
 | nil=>intro k h; exact ⟨[],h⟩
 | cons t ts ih =>
  intro k h
  obtain ⟨v,h⟩:=shape1_ex h
  obtain ⟨vs,h⟩:=ih h
  exact ⟨_,h⟩
theorem splitB_out {t:Bool} {k:V→Prop} (h:splitB t k):k (.bool t):=by
 cases t with
 | true=>exact h.1 rfl
 | false=>exact h.2 rfl
theorem splitP_out {p:Prop} [Decidable p] {k:V→Prop} (h:splitP p k):k (.bool (decide p)):=by
 by_cases hp:p
 ·simp only [hp,decide_true]; exact h.1 hp
 ·simp only [hp,decide_false]; exact h.2 hp
theorem shapeG_out {t:TypeId} {e k:V→Prop} (h:shapeG c t e k):∃ v,e v∧k v:=by
 unfold shapeG at h
 split at h
 ·split at h
  ·obtain ⟨vs,h⟩:=shapeTs_ex h; exact ⟨_,h⟩
  ·split at h
   ·unfold shapeZ1 at h
    split at h
    ·obtain ⟨t,h1,h2⟩:=h; exact ⟨_,h1,splitB_out h2⟩
    ·exact shapeZ_ex _ h
   ·exact h
 ·exact h
theorem shapeK_out {t:TypeId} {r:Option V} {k:V→Prop} (h:shapeK c t r k):∃ v,r=some v∧k v:=shapeG_out h
theorem resK_out {t:TypeId} {k:V→H→Prop} {v:V} {h:H} (r:resK c t k v h):k v h:=by
 obtain ⟨u,rfl,h2⟩:=shapeG_out r
 exact h2
def anK (P:Program) (c:Ctx) (h:H) (k:V→H→Prop):Option AN→Prop
 | some (.val v h')=>k v h'
 | some (.skip h')=>k undefV h'
 | some (.call f args)=>RF P c f args h k
 | some (.round l args)=>RR P l args h k
 | _=>False
theorem anK_ofV {h:H} {k:V→H→Prop} {r:Option V} (e:∃ v,r=some v∧k v h):anK P c h k (AN.ofV r h):=by
 obtain ⟨v,rfl,hk⟩:=e; exact hk
theorem anK_ofVH {h:H} {k:V→H→Prop} {r:Option (V×H)} (e:∃ v h',r=some (v,h')∧k v h'):anK P c h k (AN.ofVH r):=by
 obtain ⟨v,h',rfl,hk⟩:=e; exact hk
theorem neq_dec (m n:Int):(!(m == n))=decide (m≠n):=by
 by_cases h:m=n <;> simp [h]
theorem eq_dec (m n:Int):(m == n)=decide (m=n):=by
 by_cases h:m=n <;> simp [h]
theorem leq_dec (m n:Int):(!decide (n<m))=decide (m≤n):=by
 by_cases h:n<m
 ·have:¬ m≤n:=by omega
  simp [h,this]
 ·have:m≤n:=by omega
  simp [h,this]
theorem wpBin_out {op:BinOp} {t ot:TypeId} {x y:Operand} {a b:V} {k:V→Prop} (h:wpBin c op t x y ot a b k):∃ v,abin c op t x y a b=some v∧k v:=by
 unfold wpBin at h
 split at h
 ·rename_i κ m κ' n
  split at h
  ·rename_i hc
   have hab:abin c op t x y (.int κ m) (.int κ' n)=intB op κ m n:=by
    unfold abin
    rcases hc with hc | hc
    ·rw [hc]; rfl
    ·cases hs:isShift op <;> simp [hc]
   rw [hab]
   split at h
   ·exact ⟨_,by simp only [intB,addF_eq],h⟩
   ·exact ⟨_,by simp only [intB,subF_eq],h⟩
   ·exact ⟨_,by simp only [intB,mulF_eq],h⟩
   ·exact ⟨_,by simp only [intB,eqF_eq,eq_dec],splitP_out h⟩
   ·exact ⟨_,by simp only [intB,eqF_eq,neq_dec],splitP_out h⟩
   ·exact ⟨_,by simp only [intB,ltF_eq],splitP_out h⟩
   ·exact ⟨_,by simp only [intB,ltF_eq,leq_dec],splitP_out h⟩
   ·exact ⟨_,by simp only [intB,ltF_eq],splitP_out h⟩
   ·exact ⟨_,by simp only [intB,ltF_eq,leq_dec],splitP_out h⟩
   ·refine ⟨_,?_,h.2⟩
    simp only [intB,eqF_eq,divF_eq]
    rw [show (n == 0)=false from by simpa using h.1]; rfl
   ·refine ⟨_,?_,h.2⟩
    simp only [intB,eqF_eq,modF_eq]
    rw [show (n == 0)=false from by simpa using h.1]; rfl
   ·obtain ⟨r,h1,h2⟩:=h; exact ⟨_,h1,h2⟩
  ·exact h.elim
 ·rename_i l m
  have hab:abin c op t x y (.str l) (.str m)=strB op l m:=rfl
  split at h
  ·refine ⟨_,?_,splitP_out h⟩
   rw [hab]; simp only [strB,eqB_eq]
   congr 2
   by_cases hl:l=m <;> simp [hl]
  ·refine ⟨_,?_,splitP_out h⟩
   rw [hab]; simp only [strB,eqB_eq]
   congr 2
   by_cases hl:l=m <;> simp [hl]
  ·refine ⟨_,?_,h.2⟩
   rw [hab]; simp only [strB]
   have:Nat.ble (lenB l (lenB m 0)) 4611686018427387904=true:=Nat.ble_eq_true_of_le (by rw [lenB_eq,lenB_eq]; have:=h.1; omega)
   rw [this]; rfl
  ·exact shapeK_out h
 ·exact shapeK_out h
theorem wpUn_out {op:UnOp} {a:V} {k:V→Prop} (h:wpUn op a k):∃ v,aun op a=some v∧k v:=by
 unfold wpUn at h
 split at h
 ·split at h
  ·exact ⟨_,rfl,h⟩
  ·exact h.elim
 ·split at h
  ·exact ⟨_,by simp only [aun,subF_eq],h⟩
  ·obtain ⟨r,h1,h2⟩:=h; exact ⟨_,h1,h2⟩
 ·exact h.elim
theorem intD_eq {d:TypeDesc} {κ:IntKind} (h:intD d=some κ):d = .int κ:=by
 cases d <;> simp only [intD,Option.some.injEq,reduceCtorEq] at h
 rw [h]
theorem wpConv_out {s d:TypeId} {h:H} {v:V} {k:V→H→Prop} (w:wpConv c s d h v k):∃ u h',aconv c s d h v=some (u,h')∧k u h':=by
 unfold wpConv at w
 split at w
 ·rename_i κ0 n
  split at w
  ·rename_i ts td h1 h2
   split at w
   ·rename_i κ1 κ h3 h4
    refine ⟨_,_,?_,w⟩
    unfold aconv
    rw [h1,h2]
    simp only [intD_eq h3,intD_eq h4]
   ·exact w.elim
  ·exact w.elim
 ·split at w
  ·obtain ⟨l,h',h1,h2⟩:=w; exact ⟨_,_,h1,h2⟩
  ·exact w
theorem wpPick_out {v:V} {k:Bool→Prop} (h:wpPick v k):∃ t,v = .bool t∧k t:=by
 cases v with
 | bool t =>
  cases t with
  | true=>exact ⟨_,rfl,h⟩
  | false=>exact ⟨_,rfl,h⟩
 | _=>exact h.elim
theorem wpNew_out {t:TypeId} {h:H} {v:V} {k:V→H→Prop} (w:wpNew c t h v k):∃ bh,anew h v.cells ⟨0,t+1,0⟩ false=some bh∧k (.ptr bh.1 0) bh.2:=by
 unfold wpNew at w
 split at w
 ·split at w
  ·unfold wpCs at w
   split at w
   ·rename_i cs h1
    obtain ⟨h2,h3⟩:=w
    refine ⟨(h.next,h.new (.cells cs ⟨0,t+1,0⟩ true false)),?_,h3 _ _ rfl rfl⟩
    unfold anew newC
    cases ha:allOne v.cells with
    | false=>rw [ha] at h1; cases h1
    | true =>
     rw [ha,cond_true] at h1
     rw [cond_true,(blt_iff _ _).2 h2,cond_true,h1]
   ·exact w.elim
  ·obtain ⟨h1,h2,h3⟩:=w
   refine ⟨(h.next,h.new (.cells (.ls [v]) ⟨0,t+1,0⟩ true false)),?_,h3 _ _ rfl rfl⟩
   have hc:v.cells=[v]:=by cases v <;> first | rfl | cases h1
   have ha:allOne v.cells=true:=by rw [hc]; unfold allOne; rw [h1]; rfl
   unfold anew newC
   rw [ha,cond_true,(blt_iff _ _).2 h2,cond_true,hc]
   rfl
 ·exact w.elim
theorem wpOpt_out {ot:TypeId} {r:Option V} {k:V→Prop} (h:wpOpt c ot r k):∃ v,r=some v∧k v:=by
 unfold wpOpt at h
 split at h
 ·rename_i u
  split at h
  ·exact ⟨u,rfl,splitV_out h⟩
  ·exact ⟨u,rfl,h⟩
 ·exact h.elim
theorem wpMin_out {mx:Bool} {l:List V} {k:V→Prop} (h:wpMin mx l k):∃ v l' u,l=v :: l'∧minmax mx v l'=some u∧k u:=by
 unfold wpMin at h
 split at h
 ·rename_i κ a κ' b
  refine ⟨_,_,_,rfl,?_,h⟩
  simp only [minmax,ltF_eq]
  cases mx with
  | true =>
   simp only [cond_true,if_true]
   by_cases hab:a<b
   ·simp only [hab,decide_true,cond_true]; rw [show max a b=b from by omega]
   ·simp only [hab,decide_false,cond_false]; rw [show max a b=a from by omega]
  | false =>
   simp only [cond_false,Bool.false_eq_true,if_false]
   by_cases hab:b<a
   ·simp only [hab,decide_true,cond_true]; rw [show min a b=b from by omega]
   ·simp only [hab,decide_false,cond_false]; rw [show min a b=a from by omega]
 ·obtain ⟨u,h1,h2⟩:=h; exact ⟨_,_,u,rfl,h1,h2⟩
 ·exact h.elim
theorem wpLen_out {t:TypeId} {h:H} {v:V} {k:V→Prop} (w:wpLen c t h v k):∃ u,alen c t h v=some u∧k u:=by
 unfold wpLen at w
 split at w
 ·rename_i hs
  unfold strV at w
  split at w
  ·rename_i l
   unfold strT at hs
   split at hs
   ·rename_i ti hti
    split at hs
    ·rename_i hd
     refine ⟨.int .i64 (.ofNat (lenB l 0)),?_,by rw [lenB_eq,Nat.add_zero]; exact w⟩
     unfold alen
     rw [hti]
     simp only [hd]
    ·cases hs
   ·cases hs
  ·exact w.elim
 ·obtain ⟨x,w1,w2⟩:=w; exact ⟨_,w1,w2⟩
theorem wpBuiltin_out {b:Builtin} {cl:Call} {ot:TypeId} {e:Operand→Option V} {h:H} {k:V→H→Prop} {args:List V} (hc:cl.callee = .builtin b) (ha:evL e cl.args.toList=some args)
  (w:wpBuiltin c b ot h k (acall c cl e h) args cl.argTypes.toList):anK P c h k (acall c cl e h):=by
 have hg:∀ (g:Option AN),(∃ v h',g=some (.val v h')∧resK c ot k v h')→anK P c h k g:=by
  rintro g ⟨v,h',rfl,hk⟩; exact resK_out hk
 generalize hl:cl.argTypes.toList=ts at w
 unfold wpBuiltin at w
 split at w
 ·rename_i x t
  split at w
  ·obtain ⟨u,h1,h2⟩:=wpLen_out w
   unfold acall
   rw [ha,hc,hl]
   exact anK_ofV ⟨u,h1,h2⟩
  ·exact hg _ w
 ·rename_i s x t tx
  split at w
  ·obtain ⟨_,w2⟩:=w
   unfold acall
   rw [ha,hc,hl]
   exact anK_ofVH w2
  ·obtain ⟨x',h',w1,w2⟩:=w
   unfold acall
   rw [ha,hc,hl]
   exact anK_ofVH ⟨_,_,w1,w2⟩
  ·obtain ⟨v,l',u,h0,h1,h2⟩:=wpMin_out w
   unfold acall
   rw [ha,hc,h0]
   exact anK_ofV ⟨u,h1,h2⟩
  ·obtain ⟨v,l',u,h0,h1,h2⟩:=wpMin_out w
   unfold acall
   rw [ha,hc,h0]
   exact anK_ofV ⟨u,h1,h2⟩
  ·exact hg _ w
 ·split at w
  ·obtain ⟨v,l',u,h0,h1,h2⟩:=wpMin_out w
   unfold acall
   rw [ha,hc,h0]
   exact anK_ofV ⟨u,h1,h2⟩
  ·obtain ⟨v,l',u,h0,h1,h2⟩:=wpMin_out w
   unfold acall
   rw [ha,hc,h0]
   exact anK_ofV ⟨u,h1,h2⟩
  ·exact hg _ w
theorem wpCall_out {cl:Call} {ot:TypeId} {e:Operand→Option V} {h:H} {k:V→H→Prop} (w:wpCall c P cl ot e h k):anK P c h k (acall c cl e h):=by
 unfold wpCall at w
 cases ha:evL e cl.args.toList with
 | none=>rw [ha] at w; exact w.elim
 | some args =>
  rw [ha] at w
  cases hc:cl.callee with
  | value f =>
   simp only [hc] at w
   have hac:acall c cl e h=(match e f with | some (.func (.func g) first captured)=>acallF c h g first args captured | some (.yield l)=>some (.round l args) | _=>none):=by
    unfold acall; rw [ha,hc]; rfl
   rw [hac]
   cases hf:e f with
   | none=>rw [hf] at w; exact w.elim
   | some v =>
    rw [hf] at w
    have w:wpCallV c P ot h k args v:=w
    unfold wpCallV at w
    split at w
    ·rename_i g first captured _
     show anK P c h k (acallF c h g first args captured)
     generalize acallF c h g first args captured=r at w
     cases r with
     | none=>exact w.elim
     | some an =>
      cases an <;> first | exact w | exact w.elim | exact RF.mono w fun _ _ h1=>resK_out h1
    ·exact RR.mono w fun _ _ h1=>resK_out h1
    ·exact w.elim
  | builtin b =>
   simp only [hc] at w
   exact wpBuiltin_out hc ha w
  | invoke r name =>
   simp only [hc] at w
   split at w
   ·rename_i hac
    rw [hac]
    exact RF.mono w fun _ _ h1=>resK_out h1
   ·exact w.elim
theorem wpFA_out {t:TypeId} {f:Nat} {o:Oper} {e:Operand→Option V} {x:Operand} {h:H} {p:V} {k:V→H→Prop} (ho:o.op = .fieldAddr t x f) (hx:e x=some p) (w:wpFA c t f h p k):anK P c h k (aop c o e h):=by
 unfold aop
 rw [ho]
 simp only [hx]
 unfold wpFA at w
 split at w
 ·rename_i b off
  split at w
  ·rename_i ti hti
   rw [hti]
   split at w
   ·rename_i fs hd
    simp only [hd]
    split at w
    ·rename_i fd hfd
     simp only [hfd]
     split at w
     ·rename_i tf htf
      split at w
      ·rename_i hs
       unfold afa
       rw [htf]
       simp only [(blt_iff _ _).2 hs,cond_true]
       exact w
      ·exact w.elim
     ·exact w.elim
    ·exact w.elim
   ·exact w.elim
  ·exact w.elim
 ·exact w.elim
theorem wpOp_out {o:Oper} {e:Operand→Option V} {h:H} {k:V→H→Prop} (w:wpOp c P o e h k):anK P c h k (aop c o e h):=by
 have gen:(∃ v h',aop c o e h=some (.val v h')∧k v h')→anK P c h k (aop c o e h):=by
  rintro ⟨v,h',h1,h2⟩; rw [h1]; exact h2
 unfold wpOp at w
 cases ho:o.op <;> simp only [ho] at w <;> first | exact gen w | skip
 case move x =>
  unfold aop; rw [ho]; simp only
  cases hx:e x with
  | none=>rw [hx] at w; exact w.elim
  | some v=>rw [hx] at w; exact w
 case assign x =>
  unfold aop; rw [ho]; simp only
  cases hx:e x with
  | none=>rw [hx] at w; exact w.elim
  | some v=>rw [hx] at w; exact w
 case pick cc a b =>
  unfold aop; rw [ho]; simp only
  cases hc:e cc with
  | none=>rw [hc] at w; exact w.elim
  | some v =>
   cases hx:e a with
   | none=>rw [hc,hx] at w; exact w.elim
   | some x =>
    cases hy:e b with
    | none=>rw [hc,hx,hy] at w; exact w.elim
    | some y =>
     rw [hc,hx,hy] at w
     obtain ⟨t,rfl,h2⟩:=wpPick_out w
     simp only
     exact anK_ofV ⟨_,by cases t <;> rfl,h2⟩
 case alloc t =>
  unfold aop; rw [ho]; simp only
  split at w
  ·rename_i ti hti
   split at w
   ·rename_i z hz
    obtain ⟨bh,h1,h2⟩:=wpNew_out w
    rw [hti]; simp only [hz,h1]; exact h2
   ·exact w.elim
  ·exact w.elim
 case box t x =>
  unfold aop; rw [ho]; simp only
  split at w
  ·rename_i v hv
   obtain ⟨bh,h1,h2⟩:=wpNew_out w
   rw [hv]; simp only [h1]; exact h2
  ·exact w.elim
 case build t ps =>
  unfold aop; rw [ho]; simp only
  split at w
  ·rename_i l hl; rw [hl]; exact anK_ofV (wpOpt_out w)
  ·exact w.elim
 case buildSlice t n ps =>
  unfold aop; rw [ho]; simp only
  split at w
  ·rename_i l hl; rw [hl]; exact anK_ofVH w
  ·exact w.elim
 case makeInterface t x =>
  unfold aop; rw [ho]; simp only
  split at w
  ·rename_i ti v h1 h2
   split at w
   ·exact w.elim
   ·rename_i hd
    rw [h1,h2]
    simp only
    cases hdd:ti.desc <;> rw [hdd] at hd <;> first | (cases hd; done) | exact w
  ·exact w.elim
 case makeSlice t l m =>
  unfold aop; rw [ho]; simp only
  split at w
  ·rename_i a b ha hb; rw [ha,hb]; exact anK_ofVH w
  ·exact w.elim
 case load t a =>
  unfold aop; rw [ho]; simp only
  split at w
  ·rename_i p hp; rw [hp]; exact anK_ofV (shapeK_out w)
  ·exact w.elim
 case store t a x =>
  unfold aop; rw [ho]; simp only
  split at w
  ·rename_i p v hp hv
   obtain ⟨h',h1,h2⟩:=w
   rw [hp,hv]; simp only [h1]; exact h2
  ·exact w.elim
 case binOp op t x y t2 =>
  unfold aop; rw [ho]; simp only
  split at w
  ·rename_i a b ha hb; rw [ha,hb]; exact anK_ofV (wpBin_out w)
  ·exact w.elim
 case unOp op t x =>
  unfold aop; rw [ho]; simp only
  split at w
  ·rename_i a ha; rw [ha]; exact anK_ofV (wpUn_out w)
  ·exact w.elim
 case convert s d x =>
  unfold aop; rw [ho]; simp only
  split at w
  ·rename_i a ha; rw [ha]; exact anK_ofVH (wpConv_out w)
  ·exact w.elim
 case makeFunc f first captured =>
  cases f with
  | func g =>
   unfold aop; rw [ho]; simp only at w ⊢
   split at w
   ·rename_i a b ha hb; rw [ha,hb]; exact w
   ·exact w.elim
  | _=>exact gen w
 case slice t x lo hi mx =>
  unfold aop; rw [ho]; simp only
  split at w
  ·rename_i v a b m h1 h2 h3 h4; rw [h1,h2,h3,h4]; exact anK_ofV (shapeK_out w)
  ·exact w.elim
 case fieldAddr t x f =>
  split at w
  ·rename_i p hp; exact wpFA_out ho hp w
  ·exact w.elim
 case field t x f =>
  unfold aop; rw [ho]; simp only
  split at w
  ·rename_i v hv; rw [hv]; exact anK_ofV (wpOpt_out w)
  ·exact w.elim
 case indexAddr t x ix =>
  unfold aop; rw [ho]; simp only
  split at w
  ·rename_i a i ha hi
   obtain ⟨pb,po,h1,h2⟩:=w
   rw [ha,hi]; exact anK_ofV ⟨_,h1,h2⟩
  ·exact w.elim
 case index t x ix =>
  unfold aop; rw [ho]; simp only
  split at w
  ·rename_i a i ha hi; rw [ha,hi]; exact anK_ofV (shapeK_out w)
  ·exact w.elim
 case lookup t x i ok =>
  unfold aop; rw [ho]; simp only
  split at w
  ·rename_i a b ha hb; rw [ha,hb]; exact anK_ofV (shapeK_out w)
  ·exact w.elim
 case mapUpdate t m x v =>
  unfold aop; rw [ho]; simp only
  split at w
  ·rename_i a b d ha hb hd
   obtain ⟨h',h1,h2⟩:=w
   rw [ha,hb,hd]; simp only [h1]; exact h2
  ·exact w.elim
 case extract x i =>
  unfold aop; rw [ho]; simp only
  split at w
  ·rename_i v hv
   rw [hv]
   unfold wpExt at w
   split at w
   ·rename_i l
    simp only
    split at w
    ·rename_i u hu
     rw [hu]
     split at w
     ·exact splitV_out w
     ·exact w
    ·exact w.elim
   ·exact w.elim
  ·exact w.elim
 case call cl =>
  have:aop c o e h=acall c cl e h:=by unfold aop; rw [ho]
  rw [this]
  exact wpCall_out w
theorem wpA_of {b:Bool} {d:Option Tmp} {s:St} {kk:St→Prop} {Q:AX→St→Prop} {r:Option AN} (h:anK P c s.heap (fun v h=>put1 d v s h kk) r):wpA P c b d s kk Q r:=by
 cases r with
 | none=>exact h.elim
 | some an =>
  cases an <;> first | exact h | exact h.elim
def slimO (o:Oper):Oper:={ dst:=o.dst,op:=o.op,type:=o.type,pos := "",after:=#[],guard:=o.guard }
def slim:Code→Code
 | .region id ops false=>.region id ⟨ops.toList.map slimO⟩ false
 | .seq x y=>.seq (slim x) (slim y)
 | .cond o x y=>.cond o (slim x) (slim y)
 | .block id x=>.block id (slim x)
 | .loop x=>.loop (slim x)
 | .scope x=>.scope (slim x)
 | x=>x
theorem aop_slim (o:Oper) (e:Operand→Option V) (h:H):aop c (slimO o) e h=aop c o e h:=rfl
theorem wanted_slim (ops:List Oper) (tm:Tm) (o:Oper):wantedB (ops.map slimO) tm (slimO o)=wantedB ops tm o:=by
 unfold wantedB
 show (match o.guard with | none=>_ | some (j,w)=>_)=_
 cases o.guard with
 | none=>rfl
 | some g =>
  obtain ⟨j,w⟩:=g
  simp only [List.getElem?_map]
  cases ops[j]? with
  | none=>rfl
  | some o'=>rfl
theorem wpO_sound (ok:CtxOK P c) {b:Bool} {ops:Array Oper}:∀ (l:List Oper) {s:St} {Q:AX→St→Prop},wpO P c b (ops.toList.map slimO) (l.map slimO) s Q→∃ x s',SimO P b ops l s x s'∧Q x s':=by
 intro l
 induction l with
 | nil=>intro s Q h; exact ⟨_,_,SimO.nil,h⟩
 | cons o l ih =>
  intro s Q h
  simp only [List.map_cons,wpO,wanted_slim] at h
  have go:∀ {s1:St},StepW P b o s .normal s1→wantedB ops.toList s.tm o=true→wpO P c b (ops.toList.map slimO) (l.map slimO) s1 Q→∃ x s',SimO P b ops (o :: l) s x s'∧Q x s':=by
   intro s1 hs hw hk
   obtain ⟨x,s',h1,h2⟩:=ih hk
   exact ⟨x,s',SimO.step hw hs h1,h2⟩
  split at h
  ·rename_i hw
   have h:wpA P c b o.dst s (fun s'=>wpO P c b (ops.toList.map slimO) (l.map slimO) s' Q) Q (aop c o (evx s.tm) s.heap):=by
    split at h
    ·exact h.elim
    ·split at h
     ·exact h
     ·exact wpA_of (wpOp_out h)
   cases ha:aop c o (evx s.tm) s.heap with
   | none=>rw [ha] at h; exact h.elim
   | some an =>
    rw [ha] at h
    cases an with
    | val v h' =>
     have h:put1 o.dst v s h' (fun s'=>wpO P c b (ops.toList.map slimO) (l.map slimO) s' Q):=h
     obtain ⟨s1,hp,hk⟩:=put1_spec h
     exact go (StepW.of_step ok orc0_ok ih0_ok (by unfold stepOp; simp only [ha,hp])) hw hk
    | skip h' =>
     have h:put1 o.dst undefV s h' (fun s'=>wpO P c b (ops.toList.map slimO) (l.map slimO) s' Q):=h
     obtain ⟨s1,hp,hk⟩:=put1_spec h
     exact go (StepW.of_step ok orc0_ok ih0_ok (by unfold stepOp; simp only [ha,hp])) hw hk
    | call f args =>
     obtain ⟨v,h',⟨hf,hs⟩,hq⟩:=h
     have hq:put1 o.dst v s h' (fun s'=>wpO P c b (ops.toList.map slimO) (l.map slimO) s' Q):=hq
     obtain ⟨s1,hp,hk⟩:=put1_spec hq
     exact go (StepW.call ok ha hf hs hp) hw hk
    | round lp args =>
     obtain ⟨v,h',hs,hq⟩:=h
     have hq:put1 o.dst v s h' (fun s'=>wpO P c b (ops.toList.map slimO) (l.map slimO) s' Q):=hq
     obtain ⟨s1,hp,hk⟩:=put1_spec hq
     exact go (StepW.round ok ha hs hp) hw hk
    | dfr ad =>
     obtain ⟨hb,hq⟩:=h
     obtain ⟨s1,hp,hk⟩:=put1_spec hq
     have hst:stepOp c orc0 b ih0 o s=some (.normal,s1):=by
      unfold stepOp
      rw [ha]
      show cond b none (match putD ⟨s.n,s.tm,ad :: s.dfr,s.heap⟩ o.dst undefV s.heap with | some s'=>some (AX.normal,s') | none=>none)=_
      rw [hb,cond_false,hp]
     exact go (StepW.of_step ok orc0_ok ih0_ok hst) hw hk
    | recover=>exact h.elim
    | pan v h'=>exact ⟨_,_,SimO.out hw (StepW.of_step ok orc0_ok ih0_ok (by unfold stepOp; simp only [ha])),h⟩
  ·rename_i hw
   have hw:wantedB ops.toList s.tm o=false:=by simpa using hw
   obtain ⟨s1,hp,hk⟩:=put1_spec h
   obtain ⟨x,s',h1,h2⟩:=ih hk
   exact ⟨x,s',SimO.off hw hp h1,h2⟩
theorem RC.region (ok:CtxOK P c) {b:Bool} {id:Nat} {ops:Array Oper} {s:St} {Q:AX→St→Prop} (h:wpO P c b (ops.toList.map slimO) (ops.toList.map slimO) s Q):RC P b (.region id ops false) s Q:=by
 obtain ⟨x,s',h1,h2⟩:=wpO_sound ok _ h
 refine ⟨x,s',fun rd hrd ρ D w a k hl=>?_,h2⟩
 exact wpIn_region (h1 rd hrd _ (mapM_range ops) k.hr.lt hl (Mv.refl _ _ _ _) (by rw [Dx_self]; exact k))
theorem RC.seq {b:Bool} {x y:Code} {s:St} {Q:AX→St→Prop} (h:RC P b x s fun e s1=>match e with | .normal=>RC P b y s1 Q | e=>Q e s1):RC P b (.seq x y) s Q:=by
 obtain ⟨e,s1,h1,h2⟩:=h
 cases e with
 | normal =>
  obtain ⟨e2,s2,h3,h4⟩:=h2
  exact ⟨e2,s2,fun rd hrd=>SimC.seq (h1 rd hrd) (h3 rd hrd),h4⟩
 | _=>exact ⟨_,s1,fun rd hrd=>SimC.seq_out (h1 rd hrd) (by intro h; cases h),h2⟩
theorem RC.cond {b:Bool} {o:Operand} {x y:Code} {s:St} {Q:AX→St→Prop} {t:Bool} (ho:evx s.tm o=some (.bool t)) (h:RC P b (cond t x y) s Q):RC P b (.cond o x y) s Q:=by
 obtain ⟨e,s1,h1,h2⟩:=h
 exact ⟨e,s1,fun rd hrd=>SimC.cond ho (h1 rd hrd),h2⟩
def exitB (id:Nat):AX→AX
 | .exit i=>if i=id then .normal else .exit i
 | e=>e
theorem RC.block {b:Bool} {id:Nat} {x:Code} {s:St} {Q:AX→St→Prop} (h:RC P b x s fun e s1=>Q (exitB id e) s1):RC P b (.block id x) s Q:=by
 obtain ⟨e,s1,h1,h2⟩:=h
 refine ⟨exitB id e,s1,fun rd hrd=>?_,h2⟩
 have:=SimC.block (id:=id) (h1 rd hrd)
 cases e <;> exact this
theorem RC.loop {b:Bool} {x:Code} {Q:AX→St→Prop} (I:Nat→St→Prop) (hI:∀ k s,I k s→RC P b x s fun e s1=>match e with | .normal=>∃ j,j<k∧I j s1 | e=>Q e s1) :
  ∀ k s,I k s→RC P b (.loop x) s Q:=by
 have key:∀ k s,I k s→∃ e s1,(∀ rd:Option Nat,rd.isSome=b→SimL P rd x s e s1)∧Q e s1:=by
  intro k
  induction k using Nat.strongRecOn with
  | _ k ih =>
   intro s hi
   obtain ⟨e,s1,h1,h2⟩:=hI k s hi
   cases e with
   | normal =>
    obtain ⟨j,hj,hi2⟩:=h2
    obtain ⟨e2,s2,h3,h4⟩:=ih j hj s1 hi2
    exact ⟨e2,s2,fun rd hrd=>SimL.next (h1 rd hrd) (h3 rd hrd),h4⟩
   | _=>exact ⟨_,s1,fun rd hrd=>SimL.last (h1 rd hrd) (by intro h; cases h),h2⟩
 intro k s hi
 obtain ⟨e,s1,h1,h2⟩:=key k s hi
 exact ⟨e,s1,fun rd hrd=>SimL.loop (h1 rd hrd),h2⟩
theorem RC.rangeFunc (ok:CtxOK P c) {f:Operand} {params:Array Tmp} {assign body:Code} {s:St} {Q:AX→St→Prop} {g:Nat} {first captured:List V}
  (hf:evx s.tm f=some (.func (.func g) first captured)) (hn:s.heap.next+1<T.top)
  (h:RF P c g (first++(.yield (s.heap.next+1) :: captured)) ((s.heap.new (.deferred true)).new (.loop .ready none s.n s.tm params assign body s.heap.next))
   fun _ h3=>match rangeEnd s.heap.next (s.heap.next+1) s h3 with | some (.done x s')=>Q x s' | none=>False):RC P false (.rangeFunc f params assign body) s Q:=by
 obtain ⟨v,h3,⟨hfn,hs⟩,hq⟩:=h
 cases he:rangeEnd s.heap.next (s.heap.next+1) s h3 with
 | none=>rw [he] at hq; exact hq.elim
 | some out =>
  obtain ⟨x,s'⟩:=out
  rw [he] at hq
  refine ⟨x,s',fun rd hrd=>?_,hq⟩
  have hrn:rd=none:=by cases rd with | none=>rfl | some l=>simp at hrd
  subst hrn
  refine rangeF_sound (orc:=orc1 g (first++(.yield (s.heap.next+1) :: captured)) ((s.heap.new (.deferred true)).new (.loop .ready none s.n s.tm params assign body s.heap.next)) v h3) (ih:=ih0) ok (orc1_ok hfn hs) ih0_ok ?_
  unfold rangeF
  rw [hf]
  have:(Option.isSome (none:Option Nat) || !(Nat.blt (s.heap.next+1) T.top))=false:=by
   rw [(blt_iff _ _).2 hn]; rfl
  simp only [this,cond_false]
  unfold callO
  rw [orc1_at]
  exact he
theorem RR.intro {l:Nat} {args:List V} {h:H} {Q:V→H→Prop} {pend:Option Code} {n:Nat} {tm tm':Tm} {params:Array Tmp} {assign body:Code} {df:Nat} (hl:l<T.top)
  (hg:h.get l=some (.loop .ready pend n tm params assign body df)) (hs:setParams params.toList args n tm=some tm')
  (ha:RC P true assign ⟨n,tm',[],h⟩ fun e s1=>e = .normal∧∃ pend1 n1 tm1 ps1 as1 bd1 df1,s1.heap.get l=some (.loop .ready pend1 n1 tm1 ps1 as1 bd1 df1) ∧
   RC P true body ⟨s1.n,s1.tm,s1.dfr,s1.heap.upd l (some (.loop .busy pend1 n1 tm1 ps1 as1 bd1 df1))⟩ fun e2 s2=>match roundEnd l e2 s2 with | some (.ret v h')=>Q v h' | _=>False):RR P l args h Q:=by
 obtain ⟨e,s1,h1,rfl,pend1,n1,tm1,ps1,as1,bd1,df1,hg1,e2,s2,h2,hq⟩:=ha
 cases hr:roundEnd l e2 s2 with
 | none=>rw [hr] at hq; exact hq.elim
 | some out =>
  rw [hr] at hq
  cases out with
  | panic v h'=>exact hq.elim
  | ret v h' =>
   refine ⟨v,h',?_,hq⟩
   classical
   let sB:St:=⟨s1.n,s1.tm,s1.dfr,s1.heap.upd l (some (.loop .busy pend1 n1 tm1 ps1 as1 bd1 df1))⟩
   let sA:St:=⟨n,tm',[],h⟩
   let ih:Bool→Code→St→Option Out:=fun b2 c2 s3=>match ih1 true body sB e2 s2 b2 c2 s3 with | some r=>some r | none=>ih1 true assign sA .normal s1 b2 c2 s3
   have hih:IHok P ih:=by
    intro rd c2 s3 x3 s4 e3
    have hB:=ih1_ok (P:=P) h2
    have hA:=ih1_ok (P:=P) h1
    simp only [ih] at e3
    split at e3
    ·rename_i r hr3
     exact hB rd c2 s3 x3 s4 (by rw [hr3]; exact e3)
    ·exact hA rd c2 s3 x3 s4 e3
   refine roundF_sound (ih:=ih) hih ?_
   have hBat:ih true body sB=some (.done e2 s2):=by simp only [ih]; rw [ih1_at]
   have hAat:ih true assign sA=some (.done .normal s1)∨(body=assign∧sB=sA):=by
    by_cases hc:body=assign∧sB=sA
    ·exact .inr hc
    ·refine .inl ?_
     simp only [ih]
     have:ih1 true body sB e2 s2 true assign sA=none:=by
      unfold ih1
      rw [if_neg]
      rintro ⟨_,h3,h4⟩
      exact hc ⟨h3.symm,h4.symm⟩
     rw [this]
     exact ih1_at _ _ _ _ _
   have hbody:ih true body sB=some (.done e2 s2):=hBat
   unfold roundF
   rw [hg]
   simp only [hs]
   rcases hAat with hA | ⟨hc1,hc2⟩
   ·rw [show (⟨n,tm',[],h⟩:St)=sA from rfl,hA]
    simp only
    unfold roundBody
    rw [hg1]
    simp only
    rw [show (⟨s1.n,s1.tm,s1.dfr,s1.heap.upd l (some (.loop .busy pend1 n1 tm1 ps1 as1 bd1 df1))⟩:St)=sB from rfl,hbody]
    exact hr
   ·exfalso
    have h5:sB.heap=sA.heap:=by rw [hc2]
    have h6:(s1.heap.upd l (some (.loop .busy pend1 n1 tm1 ps1 as1 bd1 df1))).get l=h.get l:=by
     show sB.heap.get l=sA.heap.get l
     rw [h5]
    rw [H.get_upd _ _ _ _ hl,if_pos rfl,hg] at h6
    simp at h6
section mono
variable {P:Program} {c:Ctx}
mutual
theorem shapeZ_mono:∀ (z:V) {k k':V→Prop},(∀ v,k v→k' v)→shapeZ z k→shapeZ z k'
 | .int _ _,_,_,h,⟨x,e⟩ | .bool _,_,_,h,⟨x,e⟩ | .str _,_,_,h,⟨x,e⟩ | .ptr _ _,_,_,h,⟨x,e⟩ | .nilptr,_,_,h,⟨x,e⟩ | .slice _ _ _ _,_,_,h,⟨x,e⟩ | .nilslice,_,_,h,⟨x,e⟩
 | .map _,_,_,h,⟨x,e⟩ | .nilmap,_,_,h,⟨x,e⟩ | .func _ _ _,_,_,h,⟨x,e⟩ | .yield _,_,_,h,⟨x,e⟩ | .nilFunc,_,_,h,⟨x,e⟩ | .iface _ _,_,_,h,⟨x,e⟩ | .nilIface,_,_,h,⟨x,e⟩ | .tuple _,_,_,h,⟨x,e⟩=>⟨x,h _ e⟩
 | .agg zs,_,_,h,e=>shapeZL_mono zs (fun _=>h _) e
theorem shapeZL_mono:∀ (zs:List V) {k k':List V→Prop},(∀ v,k v→k' v)→shapeZL zs k→shapeZL zs k'
 | [],_,_,h,e=>h _ e
 | z :: zs,_,_,h,e=>shapeZ_mono z (fun _=>shapeZL_mono zs fun _=>h _) e
end
theorem shape1_mono {t:TypeId} {k k':V→Prop} (h:∀ v,k v→k' v) (e:shape1 c t k):shape1 c t k':=by
 unfold shape1 at e ⊢
 split
 ·rename_i ti hti
  rw [hti] at e
  simp only at e
  split
  ·rename_i z hz; rw [hz] at e; exact shapeZ_mono z h e
  ·rename_i hz; rw [hz] at e; obtain ⟨v,e⟩:=e; exact ⟨v,h _ e⟩
 ·rename_i hti; rw [hti] at e; obtain ⟨v,e⟩:=e; exact ⟨v,h _ e⟩
theorem shapeTs_mono:∀ {ts:List TypeId} {k k':List V→Prop},(∀ v,k v→k' v)→shapeTs c ts k→shapeTs c ts k':=by
 intro ts
 induction ts with
 | nil=>intro k k' h e; exact h _ e
 | cons t ts ih=>intro k k' h e; exact shape1_mono (fun v=>ih fun vs=>h _) e
theorem splitB_mono {t:Bool} {k k':V→Prop} (h:∀ v,k v→k' v) (e:splitB t k):splitB t k':=⟨fun g=>h _ (e.1 g),fun g=>h _ (e.2 g)⟩
theorem splitP_mono {p:Prop} {k k':V→Prop} (h:∀ v,k v→k' v) (e:splitP p k):splitP p k':=⟨fun g=>h _ (e.1 g),fun g=>h _ (e.2 g)⟩
theorem splitV_mono {v:V} {k k':V→Prop} (h:∀ v,k v→k' v) (e:splitV v k):splitV v k':=by
 cases v <;> first | exact splitB_mono h e | exact h _ e
theorem shapeG_mono {t:TypeId} {q k k':V→Prop} (h:∀ v,k v→k' v) (e:shapeG c t q k):shapeG c t q k':=by
 unfold shapeG at e ⊢
 cases hti:c.ty.get t with
 | none=>rw [hti] at e; obtain ⟨v,e1,e2⟩:=e; exact ⟨v,e1,h _ e2⟩
 | some ti =>
  rw [hti] at e
  simp only at e ⊢
  cases htd:tupD ti.desc with
  | some ts=>rw [htd] at e; exact shapeTs_mono (fun vs e=>⟨e.1,h _ e.2⟩) e
  | none =>
   rw [htd] at e
   simp only at e ⊢
   cases hz:ti.zero with
   | none=>rw [hz] at e; obtain ⟨v,e1,e2⟩:=e; exact ⟨v,e1,h _ e2⟩
   | some z =>
    rw [hz] at e
    simp only at e ⊢
    cases z <;> first
     | (obtain ⟨t,e1,e2⟩:=e; exact ⟨t,e1,splitB_mono h e2⟩)
     | exact shapeZ_mono _ (fun v (e:_∧_)=>⟨e.1,h _ e.2⟩) e
theorem shapeK_mono {t:TypeId} {r:Option V} {k k':V→Prop} (h:∀ v,k v→k' v) (e:shapeK c t r k):shapeK c t r k':=shapeG_mono h e
theorem resK_mono {t:TypeId} {k k':V→H→Prop} (h:∀ v w,k v w→k' v w) {v:V} {w:H} (e:resK c t k v w):resK c t k' v w:=shapeG_mono (fun u=>h u w) e
theorem wpBin_mono {op:BinOp} {t ot:TypeId} {x y:Operand} {a b:V} {k k':V→Prop} (h:∀ v,k v→k' v) (e:wpBin c op t x y ot a b k):wpBin c op t x y ot a b k':=by
 cases a <;> cases b <;> first
  | exact shapeK_mono h e
  | skip
 ·rename_i κ m κ' n
  have e:(if isShift op=true∨kindEq κ κ'=true then _ else False):=e
  show (if isShift op=true∨kindEq κ κ'=true then _ else False)
  by_cases hc:isShift op=true∨kindEq κ κ'=true
  ·rw [if_pos hc] at e ⊢
   cases op <;> first | exact h _ e | exact splitP_mono h e | exact ⟨e.1,h _ e.2⟩ | (obtain ⟨r,e1,e2⟩:=e; exact ⟨r,e1,h _ e2⟩)
  ·rw [if_neg hc] at e; exact e.elim
 ·cases op <;> first | exact splitP_mono h e | exact ⟨e.1,h _ e.2⟩ | exact shapeK_mono h e
theorem wpUn_mono {op:UnOp} {a:V} {k k':V→Prop} (h:∀ v,k v→k' v) (e:wpUn op a k):wpUn op a k':=by
 cases a <;> first | exact e.elim | skip
 ·cases op <;> first | exact h _ e | exact e.elim
 ·cases op <;> first | exact h _ e | (obtain ⟨r,e1,e2⟩:=e; exact ⟨r,e1,h _ e2⟩)
theorem wpConv_mono {s d:TypeId} {w:H} {v:V} {k k':V→H→Prop} (h:∀ v w,k v w→k' v w) (e:wpConv c s d w v k):wpConv c s d w v k':=by
 have gen:(match strT c d with | true=>∃ l h',aconv c s d w v=some (.str l,h')∧k (.str l) h' | false=>∃ u h',aconv c s d w v=some (u,h')∧k u h') →
   (match strT c d with | true=>∃ l h',aconv c s d w v=some (.str l,h')∧k' (.str l) h' | false=>∃ u h',aconv c s d w v=some (u,h')∧k' u h'):=by
  cases strT c d <;> (rintro ⟨x,y,e1,e2⟩; exact ⟨x,y,e1,h _ _ e2⟩)
 cases v <;> first | exact gen e | skip
 rename_i κ n
 have e:(match c.ty.get s,c.ty.get d with | some ts,some td=>(match intD ts.desc,intD td.desc with | some _,some κ=>k (.int κ (wrapF κ n)) w | _,_=>False) | _,_=>False):=e
 show (match c.ty.get s,c.ty.get d with | some ts,some td=>(match intD ts.desc,intD td.desc with | some _,some κ=>k' (.int κ (wrapF κ n)) w | _,_=>False) | _,_=>False)
 cases h1:c.ty.get s with
 | none=>rw [h1] at e; exact False.elim e
 | some ts =>
  cases h2:c.ty.get d with
  | none=>rw [h1,h2] at e; exact False.elim e
  | some td =>
   rw [h1,h2] at e
   have e:(match intD ts.desc,intD td.desc with | some _,some κ=>k (.int κ (wrapF κ n)) w | _,_=>False):=e
   show (match intD ts.desc,intD td.desc with | some _,some κ=>k' (.int κ (wrapF κ n)) w | _,_=>False)
   cases h3:intD ts.desc with
   | none=>rw [h3] at e; exact False.elim e
   | some κ1 =>
    cases h4:intD td.desc with
    | none=>rw [h3,h4] at e; exact False.elim e
    | some κ2=>rw [h3,h4] at e; exact h _ _ e
theorem wpFA_mono {t:TypeId} {f:Nat} {w:H} {v:V} {k k':V→H→Prop} (h:∀ v w,k v w→k' v w) (e:wpFA c t f w v k):wpFA c t f w v k':=by
 cases v <;> first | exact e.elim | skip
 unfold wpFA at e ⊢
 simp only at e ⊢
 cases hti:c.ty.get t with
 | none=>rw [hti] at e; exact e
 | some ti =>
  rw [hti] at e
  simp only at e ⊢
  cases hd:ti.desc <;> rw [hd] at e <;> first | exact e.elim | skip
  rename_i fs
  simp only at e ⊢
  cases hf:fs[f]? with
  | none=>rw [hf] at e; exact e
  | some fd =>
   rw [hf] at e
   simp only at e ⊢
   cases htf:c.ty.get fd.type with
   | none=>rw [htf] at e; exact e
   | some tf =>
    rw [htf] at e
    simp only at e ⊢
    split
    ·rename_i hs; rw [if_pos hs] at e; exact h _ _ e
    ·rename_i hs; rw [if_neg hs] at e; exact e
theorem wpExt_mono {i:Nat} {ot:TypeId} {v:V} {k k':V→Prop} (h:∀ v,k v→k' v) (e:wpExt c i ot v k):wpExt c i ot v k':=by
 cases v <;> first | exact e.elim | skip
 rename_i l
 unfold wpExt at e ⊢
 simp only at e ⊢
 cases hl:l[i]? with
 | none=>rw [hl] at e; exact e
 | some u =>
  rw [hl] at e
  simp only at e ⊢
  cases hb:boolT c ot with
  | true=>rw [hb] at e; exact splitV_mono h e
  | false=>rw [hb] at e; exact h _ e
theorem wpPick_mono {v:V} {k k':Bool→Prop} (h:∀ v,k v→k' v) (e:wpPick v k):wpPick v k':=by
 cases v <;> first | exact e.elim | skip
 rename_i b
 cases b <;> exact h _ e
theorem wpNew_mono {t:TypeId} {w:H} {v:V} {k k':V→H→Prop} (h:∀ v w,k v w→k' v w) (e:wpNew c t w v k):wpNew c t w v k':=by
 unfold wpNew at e ⊢
 cases hti:c.ty.get t with
 | none=>rw [hti] at e; exact e
 | some ti =>
  rw [hti] at e
  simp only at e ⊢
  split
  ·rename_i ha
   rw [if_pos ha] at e
   unfold wpCs at e ⊢
   cases hcs:(cond (allOne v.cells) (Cs.ofL v.cells) none) with
   | none=>rw [hcs] at e; exact e
   | some cs=>rw [hcs] at e; exact ⟨e.1,fun b h' g1 g2=>h _ _ (e.2 b h' g1 g2)⟩
  ·rename_i ha
   rw [if_neg ha] at e
   exact ⟨e.1,e.2.1,fun b h' g1 g2=>h _ _ (e.2.2 b h' g1 g2)⟩
theorem wpOpt_mono {ot:TypeId} {r:Option V} {k k':V→Prop} (h:∀ v,k v→k' v) (e:wpOpt c ot r k):wpOpt c ot r k':=by
 unfold wpOpt at e ⊢
 cases r with
 | none=>exact e
 | some u =>
  simp only at e ⊢
  cases hb:boolT c ot with
  | true=>rw [hb] at e; exact splitV_mono h e
  | false=>rw [hb] at e; exact h _ e
theorem wpMin_mono {mx:Bool} {l:List V} {k k':V→Prop} (h:∀ v,k v→k' v) (e:wpMin mx l k):wpMin mx l k':=by
 rcases l with _ | ⟨v,_ | ⟨u,_ | ⟨x,l⟩⟩⟩
 ·exact e
 ·cases v <;> (obtain ⟨u,e1,e2⟩:=e; exact ⟨u,e1,h _ e2⟩)
 ·cases v <;> cases u <;> first | exact h _ e | (obtain ⟨u,e1,e2⟩:=e; exact ⟨u,e1,h _ e2⟩)
 ·cases v <;> cases u <;> (obtain ⟨u,e1,e2⟩:=e; exact ⟨u,e1,h _ e2⟩)
theorem wpLen_mono {t:TypeId} {w:H} {v:V} {k k':V→Prop} (h:∀ v,k v→k' v) (e:wpLen c t w v k):wpLen c t w v k':=by
 unfold wpLen at e ⊢
 cases hs:strT c t with
 | true=>rw [hs] at e; cases v <;> first | exact h _ e | exact e.elim
 | false=>rw [hs] at e; obtain ⟨x,e1,e2⟩:=e; exact ⟨x,e1,h _ e2⟩
theorem wpBuiltin_mono {b:Builtin} {ot:TypeId} {w:H} {g:Option AN} {l:List V} {ts:List TypeId} {k k':V→H→Prop} (h:∀ v w,k v w→k' v w) (e:wpBuiltin c b ot w k g l ts):wpBuiltin c b ot w k' g l ts:=by
 have hg:(∃ v h',g=some (.val v h')∧resK c ot k v h')→∃ v h',g=some (.val v h')∧resK c ot k' v h':=fun ⟨v,h',e1,e2⟩=>⟨v,h',e1,resK_mono h e2⟩
 unfold wpBuiltin at e ⊢
 split
 ·simp only at e
  cases b <;> first | exact wpLen_mono (fun v=>h v w) e | exact hg e
 ·simp only at e
  cases b <;> first | exact hg e | exact wpMin_mono (fun v=>h v w) e | (obtain ⟨e1,v,h',e2,e3⟩:=e; exact ⟨e1,v,h',e2,h _ _ e3⟩) | (obtain ⟨v,h',e2,e3⟩:=e; exact ⟨v,h',e2,h _ _ e3⟩)
 ·rename_i g1 g2
  split at e
  ·exact (g1 _ _ rfl rfl).elim
  ·exact (g2 _ _ _ _ rfl rfl).elim
  ·cases b <;> first | exact hg e | exact wpMin_mono (fun v=>h v w) e
theorem wpAN_mono {ot:TypeId} {w:H} {r:Option AN} {k k':V→H→Prop} (h:∀ v w,k v w→k' v w) (e:wpAN c P ot w k r):wpAN c P ot w k' r:=by
 cases r with
 | none=>exact e
 | some an=>cases an <;> first | exact h _ _ e | exact e.elim | exact RF.mono e fun _ _=>resK_mono h
theorem wpCallV_mono {ot:TypeId} {w:H} {args:List V} {v:V} {k k':V→H→Prop} (h:∀ v w,k v w→k' v w) (e:wpCallV c P ot w k args v):wpCallV c P ot w k' args v:=by
 cases v <;> first | exact e.elim | skip
 ·rename_i f _ _
  cases f <;> first | exact wpAN_mono h e | exact e.elim
 ·exact RR.mono e fun _ _=>resK_mono h
theorem wpCall_mono {cl:Call} {ot:TypeId} {ev:Operand→Option V} {w:H} {k k':V→H→Prop} (h:∀ v w,k v w→k' v w) (e:wpCall c P cl ot ev w k):wpCall c P cl ot ev w k':=by
 unfold wpCall at e ⊢
 cases ha:evL ev cl.args.toList with
 | none=>rw [ha] at e; exact e
 | some args =>
  rw [ha] at e
  simp only at e ⊢
  cases hc:cl.callee with
  | value f =>
   rw [hc] at e
   simp only at e ⊢
   cases hf:ev f with
   | none=>rw [hf] at e; exact e
   | some v=>rw [hf] at e; exact wpCallV_mono h e
  | builtin b=>rw [hc] at e; exact wpBuiltin_mono h e
  | invoke r n =>
   rw [hc] at e
   simp only at e ⊢
   cases hr:acall c cl ev w with
   | none=>rw [hr] at e; exact e
   | some an=>rw [hr] at e; cases an <;> first | exact e.elim | exact RF.mono e fun _ _=>resK_mono h
theorem wpOp_mono {o:Oper} {ev:Operand→Option V} {w:H} {k k':V→H→Prop} (h:∀ v w,k v w→k' v w) (e:wpOp c P o ev w k):wpOp c P o ev w k':=by
 have gen:(∃ v h',aop c o ev w=some (.val v h')∧k v h')→∃ v h',aop c o ev w=some (.val v h')∧k' v h':=fun ⟨v,h',e1,e2⟩=>⟨v,h',e1,h _ _ e2⟩
 unfold wpOp at e ⊢
 cases ho:o.op <;> simp only [ho] at e ⊢ <;> first | exact gen e | skip
 case move x=>cases hx:ev x with
  | none=>rw [hx] at e; exact e
  | some v=>rw [hx] at e; exact h _ _ e
 case assign x=>cases hx:ev x with
  | none=>rw [hx] at e; exact e
  | some v=>rw [hx] at e; exact h _ _ e
 case pick a b d =>
  split at e
  ·exact wpPick_mono (fun t=>h _ _) e
  ·exact e.elim
 case alloc t =>
  split at e
  ·split at e
   ·exact wpNew_mono h e
   ·exact e.elim
  ·exact e.elim
 case box t x =>
  split at e
  ·exact wpNew_mono h e
  ·exact e.elim
 case build t ps =>
  split at e
  ·exact wpOpt_mono (fun v=>h v w) e
  ·exact e.elim
 case buildSlice t n ps =>
  split at e
  ·obtain ⟨v,h',e1,e2⟩:=e; exact ⟨v,h',e1,h _ _ e2⟩
  ·exact e.elim
 case load t a =>
  split at e
  ·exact shapeK_mono (fun v=>h v w) e
  ·exact e.elim
 case store t a x =>
  split at e
  ·obtain ⟨h',e1,e2⟩:=e; exact ⟨h',e1,h _ _ e2⟩
  ·exact e.elim
 case binOp op t x y t2 =>
  split at e
  ·exact wpBin_mono (fun v=>h v w) e
  ·exact e.elim
 case unOp op t x =>
  split at e
  ·exact wpUn_mono (fun v=>h v w) e
  ·exact e.elim
 case convert s d x =>
  split at e
  ·exact wpConv_mono h e
  ·exact e.elim
 case makeFunc f a b =>
  cases f <;> simp only at e ⊢ <;> first | exact gen e | skip
  split at e
  ·exact h _ _ e
  ·exact e.elim
 case makeInterface t x =>
  split at e
  ·split at e
   ·exact e.elim
   ·exact h _ _ e
  ·exact e.elim
 case makeSlice t a b =>
  split at e
  ·obtain ⟨v,h',e1,e2⟩:=e; exact ⟨v,h',e1,h _ _ e2⟩
  ·exact e.elim
 case slice t x a b d =>
  split at e
  ·exact shapeK_mono (fun v=>h v w) e
  ·exact e.elim
 case fieldAddr t x f =>
  split at e
  ·exact wpFA_mono h e
  ·exact e.elim
 case field t x f =>
  split at e
  ·exact wpOpt_mono (fun v=>h v w) e
  ·exact e.elim
 case indexAddr t x i =>
  split at e
  ·obtain ⟨pb,po,e1,e2⟩:=e; exact ⟨pb,po,e1,h _ _ e2⟩
  ·exact e.elim
 case index t x i =>
  split at e
  ·exact shapeK_mono (fun v=>h v w) e
  ·exact e.elim
 case lookup t x i ok =>
  split at e
  ·exact shapeK_mono (fun v=>h v w) e
  ·exact e.elim
 case mapUpdate t m x v =>
  split at e
  ·obtain ⟨h',e1,e2⟩:=e; exact ⟨h',e1,h _ _ e2⟩
  ·exact e.elim
 case extract x i =>
  split at e
  ·exact wpExt_mono (fun v=>h v w) e
  ·exact e.elim
 case call cl=>exact wpCall_mono h e
theorem wpO_mono {b:Bool} {ops:List Oper}:∀ (l:List Oper) {s:St} {Q Q':AX→St→Prop},(∀ x s',Q x s'→Q' x s')→wpO P c b ops l s Q→wpO P c b ops l s Q':=by
 intro l
 induction l with
 | nil=>intro s Q Q' hq h; exact hq _ _ h
 | cons o l ih =>
  intro s Q Q' hq h
  have hput:∀ {d v s h},put1 d v s h (fun s'=>wpO P c b ops l s' Q)→put1 d v s h (fun s'=>wpO P c b ops l s' Q'):=put1_mono fun s hk=>ih hq hk
  simp only [wpO] at h ⊢
  split
  ·rename_i hw
   rw [if_pos hw] at h
   split
   ·rename_i hpn; rw [if_pos hpn] at h; exact h
   rename_i hpn
   rw [if_neg hpn] at h
   split
   ·rename_i hd
    rw [if_pos hd] at h
    cases ha:aop c o (evx s.tm) s.heap with
    | none=>rw [ha] at h; exact h
    | some an =>
     rw [ha] at h
     cases an with
     | val v h'=>exact hput h
     | skip h'=>exact hput h
     | call f args=>exact RF.mono h fun v h' h1=>hput h1
     | round lp args=>exact RR.mono h fun v h' h1=>hput h1
     | dfr ad=>exact ⟨h.1,hput h.2⟩
     | recover=>exact h.elim
     | pan v h'=>exact hq _ _ h
   ·rename_i hd
    rw [if_neg hd] at h
    exact wpOp_mono (fun v w h1=>hput h1) h
  ·rename_i hw
   rw [if_neg hw] at h
   exact hput h
end mono
variable (P c)
def wpDr (b:Bool) (ops:List Oper) (s:St) (Q:AX→St→Prop):Prop :=
 ∃ orc m x s',OrcOk P c orc∧drawOk ops=some m∧drawF c orc b ih0 ops (befores ops []) m m 0 ops s=some (.done x s')∧Q x s'
variable {P c}
theorem RC.of_dr (ok:CtxOK P c) {b:Bool} {id:Nat} {ops:Array Oper} {s:St} {Q:AX→St→Prop} (h:wpDr P c b ops.toList s Q):RC P b (.region id ops true) s Q:=by
 obtain ⟨orc,m,x,s',hor,hm,e,hq⟩:=h
 exact ⟨x,s',fun rd hrd=>by subst hrd; exact drawF_top ok hor ih0_ok hm e,hq⟩
theorem wpDr.mono {b:Bool} {ops:List Oper} {s:St} {Q Q':AX→St→Prop} (h:wpDr P c b ops s Q) (hq:∀ x s',Q x s'→Q' x s'):wpDr P c b ops s Q':=by
 obtain ⟨orc,m,x,s',hor,hm,e,h3⟩:=h
 exact ⟨orc,m,x,s',hor,hm,e,hq _ _ h3⟩
def topH (h:H):H:=⟨h.tbl,h.next,T.top⟩
variable (c) in
def quietOp (o:Oper):Bool :=
 match o.op with
 | .move _ | .assign _ | .pick .. | .binOp .. | .unOp .. | .load .. | .field .. | .fieldAddr .. | .index .. | .indexAddr .. | .extract .. | .makeFunc .. | .slice .. | .build .. | .alloc _ | .box .. | .buildSlice .. | .makeSlice .. | .makeInterface ..=>true
 | .convert _ d _=>(match c.ty.get d with | some td=>(match intD td.desc with | some _=>true | none=>false) | none=>false)
 | .call cl=>(match cl.callee with | .builtin .len=>true | .builtin .min=>true | .builtin .max=>true | _=>false)
 | _=>false
def callFs:List Oper→List Nat
 | []=>[]
 | o :: l=>(match o.op with | .call cl=>(match cl.callee with | .value (.func f)=>[f] | _=>[]) | _=>[])++callFs l
def tailOp (o:Oper):Bool :=
 match o.op with
 | .call cl=>(match cl.callee with | .value (.func _)=>true | .builtin _=>true | _=>false)
 | .panic _=>false
 | .defer _=>false
 | .sliceToArrayPointer ..=>false
 | _=>true
def distinct:List Nat→Bool
 | []=>true
 | n :: l=>!(memN n l) && distinct l
variable (c) in
def drawSeq (ops:List Oper):Bool :=
 match drawOk ops with
 | some m=>(ops.take m).all (quietOp c) && ((ops.drop m).all tailOp && distinct (callFs (ops.drop m)))
 | none=>false
theorem ald_top (t:TypeId) (h:H) (v:V):ald c t (topH h) v=ald c t h v:=by
 cases v <;> rfl
theorem aslice_top (t:TypeId) (h:H) (x:V) (a b d:Option V):aslice c t (topH h) x a b d=aslice c t h x a b d:=rfl
theorem newC_top {h h':H} {r:Option Cs} {k:Rk} {op:Bool} {b:Nat} (e:newC h r k op=some (b,h')):newC (topH h) r k op=some (b,topH h')∧h'.low=h.low∧h'.next≤T.top:=by
 unfold newC at e ⊢
 cases hb:Nat.blt h.next T.top with
 | false=>rw [hb,cond_false] at e; cases e
 | true =>
  rw [hb,cond_true] at e
  show cond (Nat.blt h.next T.top) _ none=_∧_
  rw [hb,cond_true]
  cases r with
  | none=>cases e
  | some cs =>
   simp only [Option.some.injEq,Prod.mk.injEq] at e
   obtain ⟨rfl,rfl⟩:=e
   exact ⟨rfl,rfl,(blt_iff _ _).1 hb⟩
theorem anew_top {h h':H} {l:List V} {k:Rk} {op:Bool} {b:Nat} (e:anew h l k op=some (b,h')):anew (topH h) l k op=some (b,topH h')∧h'.low=h.low∧h'.next≤T.top:=by
 unfold anew at e ⊢
 cases ha:allOne l with
 | false=>rw [ha,cond_false] at e; cases e
 | true=>rw [ha,cond_true] at e; rw [cond_true]; exact newC_top e
theorem buildSlice_top {t:TypeId} {n:Nat} {ps:List (Nat×V)} {h h':H} {v:V} (e:abuildSlice c t n ps h=some (v,h')):abuildSlice c t n ps (topH h)=some (v,topH h')∧h'.low=h.low∧h'.next≤T.top:=by
 unfold abuildSlice at e ⊢
 split at e
 ·rename_i ti hti
  split at e
  ·rename_i el hd
   split at e
   ·rename_i te hte
    split at e
    ·rename_i z hz
     cases h1:Nat.ble (n*te.size) 1048576 with
     | false=>rw [h1,cond_false] at e; cases e
     | true =>
      rw [h1,cond_true] at e
      rw [cond_true]
      cases h2:lenIs z.cells te.size with
      | false=>rw [h2,cond_false] at e; cases e
      | true =>
       rw [h2,cond_true] at e
       rw [cond_true]
       split at e
       ·rename_i r hr
        split at e
        ·rename_i b h1 hn
         simp only [Option.some.injEq,Prod.mk.injEq] at e
         obtain ⟨rfl,rfl⟩:=e
         obtain ⟨g1,g2,g3⟩:=anew_top hn
         exact ⟨by simp only [g1],g2,g3⟩
        ·cases e
       ·cases e
    ·cases e
   ·cases e
  ·cases e
 ·cases e
theorem make_top {t:TypeId} {a b:V} {h h':H} {v:V} (e:amake c t a b h=some (v,h')):amake c t a b (topH h)=some (v,topH h')∧h'.low=h.low∧h'.next≤T.top:=by
 unfold amake at e ⊢
 split at e
 ·split at e
  ·rename_i l k hl hk
   split at e
   ·rename_i ti hti
    split at e
    ·rename_i el hd
     split at e
     ·rename_i te hte
      split at e
      ·rename_i z hz
       generalize hg:(Nat.ble l k && Nat.ble k 4294967296 && Nat.ble (te.bytes*k) 1099511627776 && lenIs z.cells te.size)=g at e ⊢
       cases g with
       | false=>cases e
       | true =>
        rw [cond_true] at e ⊢
        split at e
        ·rename_i b h1 hn
         simp only [Option.some.injEq,Prod.mk.injEq] at e
         obtain ⟨rfl,rfl⟩:=e
         obtain ⟨g1,g2,g3⟩:=newC_top hn
         exact ⟨by simp only [g1],g2,g3⟩
        ·cases e
      ·cases e
     ·cases e
    ·cases e
   ·cases e
  ·cases e
 ·cases e
theorem aop_top {o:Oper} {e:Operand→Option V} {h:H} {an:AN} (hp:quietOp c o=true) (hn:h.next≤T.top) (ha:aop c o e h=some an) :
  ∃ v h2,an = .val v h2∧aop c o e (topH h)=some (.val v (topH h2))∧h2.low=h.low∧h2.next≤T.top:=by
 have ofV:∀ {r:Option V} {an:AN},AN.ofV r h=some an→∃ v h2,an = .val v h2∧AN.ofV r (topH h)=some (.val v (topH h2))∧h2.low=h.low∧h2.next≤T.top:=by
  intro r an e
  cases r with
  | none=>cases e
  | some v=>simp only [AN.ofV,Option.some.injEq] at e; exact ⟨v,h,e.symm,rfl,rfl,hn⟩
 have ofVH:∀ {r r':Option (V×H)} {an:AN},AN.ofVH r=some an→(∀ v h2,r=some (v,h2)→r'=some (v,topH h2)∧h2.low=h.low∧h2.next≤T.top)→∃ v h2,an = .val v h2∧AN.ofVH r'=some (.val v (topH h2))∧h2.low=h.low∧h2.next≤T.top:=by
  intro r r' an e hr
  cases r with
  | none=>cases e
  | some q =>
   obtain ⟨v,h2⟩:=q
   simp only [AN.ofVH,Option.some.injEq] at e
   obtain ⟨g1,g2,g3⟩:=hr v h2 rfl
   exact ⟨v,h2,e.symm,by rw [g1]; rfl,g2,g3⟩
 unfold quietOp at hp
 unfold aop at ha ⊢
 cases ho:o.op <;> simp only [ho] at hp ha ⊢ <;> first | (cases hp; done) | skip
 case move x=>exact ofV ha
 case assign x=>exact ofV ha
 case pick x a b =>
  cases h0:e x with
  | none=>simp [h0] at ha
  | some v=>cases v <;> simp only [h0] at ha ⊢ <;> first | (cases ha; done) | exact ofV ha
 case alloc t =>
  cases h0:c.ty.get t with
  | none=>simp [h0] at ha
  | some ti =>
   simp only [h0] at ha ⊢
   cases h1:ti.zero with
   | none=>simp [h1] at ha
   | some z =>
    simp only [h1] at ha ⊢
    split at ha
    ·rename_i b h' hnw
     simp only [Option.some.injEq] at ha
     obtain ⟨g1,g2,g3⟩:=anew_top hnw
     exact ⟨_,_,ha.symm,by simp only [g1],g2,g3⟩
    ·cases ha
 case box t x =>
  cases h0:e x with
  | none=>simp [h0] at ha
  | some v =>
   simp only [h0] at ha ⊢
   split at ha
   ·rename_i b h' hnw
    simp only [Option.some.injEq] at ha
    obtain ⟨g1,g2,g3⟩:=anew_top hnw
    exact ⟨_,_,ha.symm,by simp only [g1],g2,g3⟩
   ·cases ha
 case build t ps =>
  cases h0:evP e ps.toList with
  | none=>simp [h0] at ha
  | some v=>simp only [h0] at ha ⊢; exact ofV ha
 case buildSlice t n ps =>
  cases h0:evP e ps.toList with
  | none=>simp [h0] at ha
  | some v=>simp only [h0] at ha ⊢; exact ofVH ha fun v h2 e=>buildSlice_top e
 case makeSlice t a b =>
  cases h0:e a with
  | none=>simp [h0] at ha
  | some v =>
   cases h1:e b with
   | none=>simp [h0,h1] at ha
   | some u=>simp only [h0,h1] at ha ⊢; exact ofVH ha fun v h2 e=>make_top e
 case makeInterface t x =>
  cases h0:c.ty.get t with
  | none=>simp [h0] at ha
  | some ti =>
   cases h1:e x with
   | none=>simp [h0,h1] at ha
   | some v =>
    simp only [h0,h1] at ha ⊢
    cases hd:ti.desc <;> simp only [hd,Option.some.injEq] at ha ⊢ <;> first | (cases ha; done) | exact ⟨_,h,ha.symm,rfl,rfl,hn⟩
 case load t a =>
  cases h0:e a with
  | none=>simp [h0] at ha
  | some v=>simp only [h0,ald_top] at ha ⊢; exact ofV ha
 case binOp op t x y t2 =>
  cases h0:e x with
  | none=>simp [h0] at ha
  | some v =>
   cases h1:e y with
   | none=>simp [h0,h1] at ha
   | some v=>simp only [h0,h1] at ha ⊢; exact ofV ha
 case unOp op t x =>
  cases h0:e x with
  | none=>simp [h0] at ha
  | some v=>simp only [h0] at ha ⊢; exact ofV ha
 case field t x f =>
  cases h0:e x with
  | none=>simp [h0] at ha
  | some v=>simp only [h0] at ha ⊢; exact ofV ha
 case fieldAddr t x f =>
  cases h0:c.ty.get t with
  | none=>simp [h0] at ha
  | some ti =>
   cases h1:e x with
   | none=>simp [h0,h1] at ha
   | some v =>
    cases v <;> simp only [h0,h1] at ha ⊢ <;> first | (cases ha; done) | skip
    cases hd:ti.desc <;> simp only [hd] at ha ⊢ <;> first | (cases ha; done) | skip
    rename_i fs
    cases hf:fs[f]? with
    | none=>simp [hf] at ha
    | some fd =>
     simp only [hf] at ha ⊢
     unfold afa at ha ⊢
     cases htf:c.ty.get fd.type with
     | none=>simp [htf] at ha
     | some tf =>
      simp only [htf] at ha ⊢
      cases hb:Nat.blt 0 tf.size with
      | false=>rw [hb,cond_false] at ha; cases ha
      | true =>
       rw [hb,cond_true] at ha
       simp only [Option.some.injEq] at ha
       exact ⟨_,h,ha.symm,by rw [cond_true],rfl,hn⟩
 case indexAddr t x y =>
  cases h0:e x with
  | none=>simp [h0] at ha
  | some v =>
   cases h1:e y with
   | none=>simp [h0,h1] at ha
   | some v=>simp only [h0,h1] at ha ⊢; exact ofV ha
 case index t x y =>
  cases h0:e x with
  | none=>simp [h0] at ha
  | some v =>
   cases h1:e y with
   | none=>simp [h0,h1] at ha
   | some v=>simp only [h0,h1] at ha ⊢; exact ofV ha
 case extract x i =>
  cases h0:e x with
  | none=>simp [h0] at ha
  | some v=>cases v <;> simp only [h0] at ha ⊢ <;> first | (cases ha; done) | exact ofV ha
 case makeFunc f first captured =>
  cases f with
  | func g =>
   cases h0:evL e first.toList with
   | none=>simp [h0] at ha
   | some v =>
    cases h1:evL e captured.toList with
    | none=>simp [h0,h1] at ha
    | some v=>simp only [h0,h1,Option.some.injEq] at ha ⊢; exact ⟨_,h,ha.symm,rfl,rfl,hn⟩
  | _=>cases ha
 case slice t x lo hi mx =>
  cases h0:e x with
  | none=>simp [h0] at ha
  | some v0 =>
   cases h1:Sim.evO e lo with
   | none=>simp [h0,h1] at ha
   | some v1 =>
    cases h2:Sim.evO e hi with
    | none=>simp [h0,h1,h2] at ha
    | some v2 =>
     cases h3:Sim.evO e mx with
     | none=>simp [h0,h1,h2,h3] at ha
     | some v3=>simp only [h0,h1,h2,h3,aslice_top] at ha ⊢; exact ofV ha
 case convert s d x =>
  cases h0:e x with
  | none=>simp [h0] at ha
  | some v =>
   simp only [h0] at ha ⊢
   split at hp
   ·rename_i td htd
    split at hp
    ·rename_i κ hκ
     have hκ:=intD_eq hκ
     refine ofVH ha fun u h2 e=>?_
     have hall:∀ h3:H,aconv c s d h3 v=(match aconv c s d h v with | some (u,_)=>some (u,h3) | none=>none)∧∀ u h4,aconv c s d h v=some (u,h4)→h4=h:=by
      intro h3
      unfold aconv
      cases c.ty.get s with
      | none=>exact ⟨rfl,fun _ _ e=>by cases e⟩
      | some ts =>
       rw [htd]
       dsimp only
       rw [hκ]
       cases ts.desc <;> cases v <;> exact ⟨rfl,fun _ _ e=>by cases e <;> rfl⟩
     obtain rfl:=(hall h).2 u h2 e
     have h5:=(hall (topH h2)).1
     rw [e] at h5
     exact ⟨h5,rfl,hn⟩
    ·cases hp
   ·cases hp
 case call cl =>
  split at hp
  ·rename_i hc
   unfold acall at ha ⊢
   cases hl:evL e cl.args.toList with
   | none=>simp [hl] at ha
   | some args =>
    simp only [hl,hc] at ha ⊢
    generalize cl.argTypes.toList=ts at ha ⊢
    match args,ts,ha with
    | [x],[t],ha=>exact ofV ha
    | [],_,ha | _ :: _ :: _,_,ha | [_],[],ha | [_],_ :: _ :: _,ha=>cases ha
  ·rename_i hc
   unfold acall at ha ⊢
   cases hl:evL e cl.args.toList with
   | none=>simp [hl] at ha
   | some args =>
    simp only [hl,hc] at ha ⊢
    cases args with
    | nil=>cases ha
    | cons x l=>exact ofV ha
  ·rename_i hc
   unfold acall at ha ⊢
   cases hl:evL e cl.args.toList with
   | none=>simp [hl] at ha
   | some args =>
    simp only [hl,hc] at ha ⊢
    cases args with
    | nil=>cases ha
    | cons x l=>exact ofV ha
  ·cases hp
theorem tail_call {o : Oper} {e : Operand → Option V} {h : H} {f : Nat} {args : List V} (ht : tailOp o = true) (ha : aop c o e h = some (.call f args)) (he : ∀ g, e (.func g) = some (.func (.func g) [] [])) : ∃ cl, o.op = .call cl ∧ cl.callee = .value (.func f) := by
  have nV : ∀ {r : Option V}, AN.ofV r h ≠ some (.call f args) := by intro r; cases r <;> (intro e; cases e)
  have nVH : ∀ {r : Option (V × H)}, AN.ofVH r ≠ some (.call f args) := by intro r; cases r <;> (intro e; cases e)
  unfold tailOp at ht
  unfold aop at ha
  cases ho : o.op <;> simp only [ho] at ht ha <;> first
    | (cases ht; done)
    | (exact absurd ha nV)
    | (exact absurd ha nVH)
    | (cases ha; done)
    | skip
  case call cl =>
    refine ⟨cl, rfl, ?_⟩
    unfold acall at ha
    cases hl : evL e cl.args.toList with
    | none => simp [hl] at ha
    | some as =>
      simp only [hl] at ha
      cases hc : cl.callee with
      | value q =>
        simp only [hc] at ht ha
        cases q with
        | func g =>
          rw [he g] at ha
          simp only at ha
          unfold acallF at ha
          cases hi : isNoesc c g with
          | true =>
            rw [hi, cond_true] at ha
            split at ha <;> cases ha
          | false =>
            rw [hi, cond_false] at ha
            split at ha
            · exact absurd ha nVH
            · simp only [Option.some.injEq, AN.call.injEq] at ha; rw [ha.1]
        | _ => cases ht
      | builtin b =>
        simp only [hc] at ha
        split at ha <;> first
          | exact absurd ha nV
          | exact absurd ha nVH
          | (cases ha; done)
          | (split at ha <;> first | exact absurd ha nVH | (cases ha; done) | (split at ha <;> first | exact absurd ha nVH | (cases ha; done)))
      | invoke r n => simp only [hc] at ht; cases ht
  case fieldAddr t x f =>
    revert ha
    (repeat' split) <;> intro ha <;> first
      | (cases ha; done)
      | (unfold afa at ha
         revert ha
         split
         · rename_i tf _
           cases Nat.blt 0 tf.size <;> (intro ha; cases ha)
         · intro ha; cases ha)
  case makeFunc fn a b =>
    cases fn <;> simp only at ha <;> first | (cases ha; done) | skip
    revert ha
    (repeat' split) <;> intro ha <;> (cases ha)
  case makeMap t r =>
    cases r <;> first | (cases ha; done) | exact absurd ha nVH
  all_goals
    revert ha
    (repeat' split) <;> intro ha <;> first | exact absurd ha nV | exact absurd ha nVH | (cases ha; done)
theorem tail_round {o : Oper} {e : Operand → Option V} {h : H} {f : Nat} {args : List V} (ht : tailOp o = true) (he : ∀ g, e (.func g) = some (.func (.func g) [] [])) : aop c o e h ≠ some (.round f args) := by
  intro ha
  have nV : ∀ {r : Option V}, AN.ofV r h ≠ some (.round f args) := by intro r; cases r <;> (intro e; cases e)
  have nVH : ∀ {r : Option (V × H)}, AN.ofVH r ≠ some (.round f args) := by intro r; cases r <;> (intro e; cases e)
  unfold tailOp at ht
  unfold aop at ha
  cases ho : o.op <;> simp only [ho] at ht ha <;> first
    | (cases ht; done)
    | (exact absurd ha nV)
    | (exact absurd ha nVH)
    | (cases ha; done)
    | skip
  case call cl =>
    unfold acall at ha
    cases hl : evL e cl.args.toList with
    | none => simp [hl] at ha
    | some as =>
      simp only [hl] at ha
      cases hc : cl.callee with
      | value q =>
        simp only [hc] at ht ha
        cases q with
        | func g =>
          rw [he g] at ha
          simp only at ha
          unfold acallF at ha
          cases hi : isNoesc c g with
          | true =>
            rw [hi, cond_true] at ha
            split at ha <;> cases ha
          | false =>
            rw [hi, cond_false] at ha
            split at ha
            · exact absurd ha nVH
            · cases ha
        | _ => cases ht
      | builtin b =>
        simp only [hc] at ha
        split at ha <;> first
          | exact absurd ha nV
          | exact absurd ha nVH
          | (cases ha; done)
          | (split at ha <;> first | exact absurd ha nVH | (cases ha; done) | (split at ha <;> first | exact absurd ha nVH | (cases ha; done)))
      | invoke r n => simp only [hc] at ht; cases ht
  case fieldAddr t x f =>
    revert ha
    (repeat' split) <;> intro ha <;> first
      | (cases ha; done)
      | (unfold afa at ha
         revert ha
         split
         · rename_i tf _
           cases Nat.blt 0 tf.size <;> (intro ha; cases ha)
         · intro ha; cases ha)
  case makeFunc fn a b =>
    cases fn <;> simp only at ha <;> first | (cases ha; done) | skip
    revert ha
    (repeat' split) <;> intro ha <;> (cases ha)
  case makeMap t r =>
    cases r <;> first | (cases ha; done) | exact absurd ha nVH
  all_goals
    revert ha
    (repeat' split) <;> intro ha <;> first | exact absurd ha nV | exact absurd ha nVH | (cases ha; done)
theorem tail_step {o:Oper} {s:St} {b:Bool} {orc orc':Nat→List V→H→Option (V×H)} {fs:List Nat} (hf:∀ f,f∈callFs [o]→f∈fs) (ho:∀ f,f∈fs→orc f=orc' f) (ht:tailOp o=true):stepOp c orc b ih0 o s=stepOp c orc' b ih0 o s:=by
 unfold stepOp
 cases ha:aop c o (evx s.tm) s.heap with
 | none=>rfl
 | some an =>
  cases an with
  | call f args =>
   obtain ⟨cl,h1,h2⟩:=tail_call ht ha (fun _=>rfl)
   have hm:f∈callFs [o]:=by simp [callFs,h1,h2]
   have hc:callO c orc ih0 f args s.heap=callO c orc' ih0 f args s.heap:=by unfold callO; rw [ho f (hf f hm)]
   simp only [hc]
  | _=>rfl
theorem callFs_cons (o:Oper) (l:List Oper):callFs (o :: l)=callFs [o]++callFs l:=by simp [callFs]
theorem tail_ops {ops:List Oper} {b:Bool} {orc orc':Nat→List V→H→Option (V×H)}:∀ (l:List Oper) {s:St},l.all tailOp=true→(∀ f,f∈callFs l→orc f=orc' f)→opsF c orc b ih0 ops l s=opsF c orc' b ih0 ops l s:=by
 intro l
 induction l with
 | nil=>intro s _ _; rfl
 | cons o l ih =>
  intro s ht ho
  simp only [List.all_cons,Bool.and_eq_true] at ht
  rw [callFs_cons] at ho
  have h1:∀ s,stepOp c orc b ih0 o s=stepOp c orc' b ih0 o s:=fun s=>tail_step (fs:=callFs [o]) (fun _ h=>h) (fun f hf=>ho f (List.mem_append_left _ hf)) ht.1
  have h2:∀ s,opsF c orc b ih0 ops l s=opsF c orc' b ih0 ops l s:=fun s=>ih ht.2 fun f hf=>ho f (List.mem_append_right _ hf)
  simp only [opsF,h1,h2]
theorem opsF_wp (ok:CtxOK P c) {b:Bool} {ops:List Oper}:∀ (l:List Oper) {s:St} {Q:AX→St→Prop},l.all tailOp=true→distinct (callFs l)=true→wpO P c b ops l s Q →
  ∃ orc,OrcOk P c orc∧(∀ f,f∉callFs l→orc f=orc0 f)∧∃ x s',opsF c orc b ih0 ops l s=some (.done x s')∧Q x s':=by
 intro l
 induction l with
 | nil=>intro s Q _ _ h; exact ⟨orc0,orc0_ok,fun _ _=>rfl,.normal,s,rfl,h⟩
 | cons o l ih =>
  intro s Q ht hd h
  simp only [List.all_cons,Bool.and_eq_true] at ht
  have hd2:distinct (callFs l)=true:=by
   rw [callFs_cons] at hd
   generalize callFs [o]=q at hd
   induction q with
   | nil=>exact hd
   | cons a q ihq=>simp only [List.cons_append,distinct,Bool.and_eq_true] at hd; exact ihq hd.2
  simp only [wpO] at h
  have plain:∀ s1,wantedB ops s.tm o=true→stepOp c orc0 b ih0 o s=some (.normal,s1)→wpO P c b ops l s1 Q→(∀ f args,aop c o (evx s.tm) s.heap≠some (.call f args)) →
    ∃ orc,OrcOk P c orc∧(∀ f,f∉callFs (o :: l)→orc f=orc0 f)∧∃ x s',opsF c orc b ih0 ops (o :: l) s=some (.done x s')∧Q x s':=by
   intro s1 hw hs hk hnc
   obtain ⟨orc,h1,h2,x,s',h3,h4⟩:=ih ht.2 hd2 hk
   refine ⟨orc,h1,fun f hf=>h2 f fun g=>hf (by rw [callFs_cons]; exact List.mem_append_right _ g),x,s',?_,h4⟩
   have hs':stepOp c orc b ih0 o s=some (.normal,s1):=by
    rw [← hs]
    unfold stepOp
    cases ha:aop c o (evx s.tm) s.heap with
    | none=>rfl
    | some an=>cases an with
     | call f args=>exact absurd ha (hnc f args)
     | _=>rfl
   simp only [opsF,hw,cond_true,hs',h3]
  split at h
  ·rename_i hw
   have hpn:¬ isPan o.op=true:=by
    intro hd
    have h1:=ht.1
    unfold tailOp at h1
    unfold isPan at hd
    cases ho:o.op <;> simp only [ho] at h1 hd <;> first | (cases h1; done) | (cases hd; done)
   have hdp:¬ isDP o.op=true:=by
    intro hd
    have h1:=ht.1
    unfold tailOp at h1
    unfold isDP at hd
    cases ho:o.op <;> simp only [ho] at h1 hd <;> first | (cases h1; done) | (cases hd; done)
   rw [if_neg hpn,if_neg hdp] at h
   have hk:=wpOp_out h
   cases ha:aop c o (evx s.tm) s.heap with
   | none=>rw [ha] at hk; exact hk.elim
   | some an =>
    rw [ha] at hk
    cases an with
    | val v h' =>
     have hk:put1 o.dst v s h' (fun s'=>wpO P c b ops l s' Q):=hk
     obtain ⟨s1,hp,hk⟩:=put1_spec hk
     exact plain s1 hw (by unfold stepOp; simp only [ha,hp]) hk (fun f args e=>by rw [ha] at e; cases e)
    | skip h' =>
     have hk:put1 o.dst undefV s h' (fun s'=>wpO P c b ops l s' Q):=hk
     obtain ⟨s1,hp,hk⟩:=put1_spec hk
     exact plain s1 hw (by unfold stepOp; simp only [ha,hp]) hk (fun f args e=>by rw [ha] at e; cases e)
    | round lp args=>exact absurd ha (tail_round ht.1 (fun _=>rfl))
    | call f args =>
     obtain ⟨v,h',⟨hfn,hs⟩,hq⟩:=hk
     obtain ⟨s1,hp,hk⟩:=put1_spec hq
     obtain ⟨cl,g1,g2⟩:=tail_call ht.1 ha (fun _=>rfl)
     have hcf:callFs [o]=[f]:=by simp [callFs,g1,g2]
     have hfl:f∉callFs l:=by
      rw [callFs_cons,hcf] at hd
      simp only [List.singleton_append,distinct,Bool.and_eq_true,Bool.not_eq_true'] at hd
      intro hm
      rw [(memN_iff _ _).2 hm] at hd
      exact absurd hd.1 (by simp)
     obtain ⟨orc,h1,h2,x,s',h3,h4⟩:=ih ht.2 hd2 hk
     let orcN:Nat→List V→H→Option (V×H):=fun g=>if g=f then orc1 f args s.heap v h' g else orc g
     have hN:∀ g,g∈callFs l→orcN g=orc g:=fun g hg=>by
      have:g≠f:=fun e=>hfl (e ▸ hg)
      simp only [orcN,if_neg this]
     refine ⟨orcN,?_,?_,x,s',?_,h4⟩
     ·intro g a2 h5 v2 h6 e
      simp only [orcN] at e
      by_cases hg:g=f
      ·rw [if_pos hg] at e; exact orc1_ok hfn hs g a2 h5 v2 h6 e
      ·rw [if_neg hg] at e; exact h1 g a2 h5 v2 h6 e
     ·intro g hg
      rw [callFs_cons,hcf] at hg
      have hgf:g≠f:=fun e=>hg (by rw [e]; simp)
      have hgl:g∉callFs l:=fun e=>hg (List.mem_append_right _ e)
      simp only [orcN,if_neg hgf]
      exact h2 g hgl
     ·have hs':stepOp c orcN b ih0 o s=some (.normal,s1):=by
       unfold stepOp
       simp only [ha]
       unfold callO
       have:orcN f args s.heap=some (v,h'):=by simp only [orcN,if_pos rfl]; exact orc1_at _ _ _ _ _
       rw [this]
       simp only [hp]
      simp only [opsF,hw,cond_true,hs']
      rw [tail_ops l ht.2 hN]
      exact h3
    | _=>exact hk.elim
  ·rename_i hw
   have hw:wantedB ops s.tm o=false:=by simpa using hw
   obtain ⟨s1,hp,hk⟩:=put1_spec h
   obtain ⟨orc,h1,h2,x,s',h3,h4⟩:=ih ht.2 hd2 hk
   refine ⟨orc,h1,fun f hf=>h2 f fun g=>hf (by rw [callFs_cons]; exact List.mem_append_right _ g),x,s',?_,h4⟩
   simp only [opsF,hw,cond_false,hp,h3]
theorem sameLen_refl:∀ l:List AD,sameLen l l=true:=by
 intro l
 induction l with
 | nil=>rfl
 | cons a l ih=>exact ih
theorem drawF_wp (ok:CtxOK P c) {b:Bool} {ops:List Oper} {bs:List Nat} {m:Nat}:∀ (l:List Oper) (r k:Nat) {s:St} {Q:AX→St→Prop},s.heap.next≤T.top→s.heap.low≤T.top→(l.take r).all (quietOp c)=true →
  (l.drop r).all tailOp=true→distinct (callFs (l.drop r))=true→wpO P c b ops l s Q→∃ orc,OrcOk P c orc∧∃ x s',drawF c orc b ih0 ops bs m r k l s=some (.done x s')∧Q x s':=by
 intro l
 induction l with
 | nil=>intro r k s Q _ _ _ _ _ h; exact ⟨orc0,orc0_ok,.normal,s,by cases r <;> rfl,h⟩
 | cons o l ih =>
  intro r k s Q hn hl hq ht hd h
  cases r with
  | zero =>
   obtain ⟨orc,h1,_,x,s',h3,h4⟩:=opsF_wp ok (o :: l) ht hd h
   exact ⟨orc,h1,x,s',h3,h4⟩
  | succ r =>
   simp only [List.take_succ_cons,List.all_cons,Bool.and_eq_true] at hq
   simp only [List.drop_succ_cons] at ht hd
   simp only [wpO] at h
   split at h
   ·rename_i hw
    have hpn:¬ isPan o.op=true:=by
     intro hd
     have h1:=hq.1
     unfold quietOp at h1
     unfold isPan at hd
     cases ho:o.op <;> simp only [ho] at h1 hd <;> first | (cases h1; done) | (cases hd; done)
    have hdp:¬ isDP o.op=true:=by
     intro hd
     have h1:=hq.1
     unfold quietOp at h1
     unfold isDP at hd
     cases ho:o.op <;> simp only [ho] at h1 hd <;> first | (cases h1; done) | (cases hd; done)
    rw [if_neg hpn,if_neg hdp] at h
    have hk:=wpOp_out h
    cases ha:aop c o (evx s.tm) s.heap with
    | none=>rw [ha] at hk; exact hk.elim
    | some an =>
     obtain ⟨v,h2,rfl,ht2,hlow,hn2⟩:=aop_top hq.1 hn ha
     rw [ha] at hk
     have hk:put1 o.dst v s h2 (fun s'=>wpO P c b ops l s' Q):=hk
     rw [put1_iff] at hk
     have heq:(⟨h2.tbl,h2.next,cond (Nat.ble s.heap.low T.top) s.heap.low T.top⟩:H)=h2:=by
      rw [Nat.ble_eq_true_of_le hl,cond_true,← hlow]
     have hd1:∀ tm',wpO P c b ops l ⟨s.n,tm',s.dfr,h2⟩ Q→(∀ orc,stepOp c orc b ih0 o ⟨s.n,s.tm,s.dfr,topH s.heap⟩=some (.normal,⟨s.n,tm',s.dfr,topH h2⟩)) →
       ∃ orc,OrcOk P c orc∧∃ x s',drawF c orc b ih0 ops bs m (r+1) k (o :: l) s=some (.done x s')∧Q x s':=by
      intro tm' hw2 hst
      obtain ⟨orc,h1,x,s',h3,h4⟩:=ih r (k+1) (s:=⟨s.n,tm',s.dfr,h2⟩) hn2 (by show h2.low≤_; rw [hlow]; exact hl) hq.2 ht hd hw2
      refine ⟨orc,h1,x,s',?_,h4⟩
      unfold drawF
      show cond (wantedB ops s.tm o) (match stepOp c orc b ih0 o ⟨s.n,s.tm,s.dfr,topH s.heap⟩ with | some (.normal,s')=>_ | _=>none) _=_
      rw [hw,cond_true,hst orc]
      show cond (Nat.ble s.heap.next T.top || _) (cond (sameLen s.dfr s.dfr) (drawF c orc b ih0 ops bs m r (k+1) l ⟨s.n,tm',s.dfr,⟨h2.tbl,h2.next,cond (Nat.ble s.heap.low T.top) s.heap.low T.top⟩⟩) none) none=_
      rw [Nat.ble_eq_true_of_le hn,Bool.true_or,cond_true,sameLen_refl,cond_true,heq]
      exact h3
     rcases hk with ⟨hd2,hk⟩ | ⟨t,hd2,hb,hk⟩
     ·refine hd1 s.tm hk fun orc=>?_
      unfold stepOp
      simp only [ht2,hd2]
      rfl
     ·refine hd1 _ hk fun orc=>?_
      unfold stepOp
      simp only [ht2,hd2]
      unfold putD
      simp only [hb,cond_true]
   ·rename_i hw
    have hw:wantedB ops s.tm o=false:=by simpa using hw
    obtain ⟨s1,hp,hk⟩:=put1_spec h
    have hs1:s1.heap=s.heap:=by
     obtain ⟨_,e⟩:=putD_some hp
     rw [e]
    obtain ⟨orc,h1,x,s',h3,h4⟩:=ih r (k+1) (s:=s1) (by rw [hs1]; exact hn) (by rw [hs1]; exact hl) hq.2 ht hd hk
    refine ⟨orc,h1,x,s',?_,h4⟩
    unfold drawF
    show cond (wantedB ops s.tm o) _ (match putD s o.dst undefV s.heap with | some s'=>drawF c orc b ih0 ops bs m r (k+1) l s' | none=>none)=_
    rw [hw,cond_false,hp]
    exact h3
def lowM (h h':H):H:=⟨h'.tbl,h'.next,cond (Nat.ble h.low h'.low) h.low h'.low⟩
def lowOk (ops:List Oper) (bs:List Nat) (m k:Nat) (h h':H):Prop:=match turnOk ops bs m k with | true=>h'.next≤T.top | false=>h.next≤h'.low∧h'.next≤T.top
theorem lowOk.next {ops:List Oper} {bs:List Nat} {m k:Nat} {h h':H} (e:lowOk ops bs m k h h'):h'.next≤T.top:=by
 unfold lowOk at e
 split at e
 ·exact e
 ·exact e.2
theorem lowOk.ok {ops:List Oper} {bs:List Nat} {m k:Nat} {h h':H} {tm:Tm} {o:Oper} (e:lowOk ops bs m k h h'):(Nat.ble h.next h'.low || storeOk ops bs m k tm o)=true:=by
 unfold lowOk at e
 unfold storeOk
 split at e
 ·rename_i g
  rw [g,Bool.or_true,Bool.or_true]
 ·rw [Nat.ble_eq_true_of_le e.1,Bool.true_or]
variable (P c) in
def wpF (b:Bool) (ops:List Oper) (bs:List Nat) (m:Nat):Nat→Nat→List Oper→St→(AX→St→Prop)→Prop
 | 0,_,l,s,Q=>wpO P c b ops l s Q
 | _+1,_,[],s,Q=>Q .normal s
 | r+1,k,o :: l,s,Q =>
  if wantedB ops s.tm o=true then
   (if quietOp c o=true then wpOp c P o (evx s.tm) s.heap fun v h=>put1 o.dst v s h fun s'=>wpF b ops bs m r (k+1) l s' Q
   else if isPan o.op=true∨isDP o.op=true then False else
    wpOp c P o (evx s.tm) (topH s.heap) fun v h=>lowOk ops bs m k s.heap h∧∀ h2,h2=lowM s.heap h→put1 o.dst v s h2 fun s'=>wpF b ops bs m r (k+1) l s' Q)
  else put1 o.dst undefV s s.heap fun s'=>wpF b ops bs m r (k+1) l s' Q
def storesOk (ops:List Oper) (bs:List Nat) (m:Nat):Nat→List Oper→Bool
 | _,[]=>true
 | k,o :: l=>(match o.op with | .store ..=>Nat.ble m k || turnOk ops bs m k | .mapUpdate ..=>Nat.ble m k || turnOk ops bs m k | _=>true) && storesOk ops bs m (k+1) l
def drawCalls (ops:List Oper):Bool:=(match drawOk ops with | some m=>storesOk ops (befores ops []) m 0 ops | none=>false) && (ops.all tailOp && (distinct (callFs ops) && (drawOk ops).isSome))
def drawM (ops:List Oper):Nat:=match drawOk ops with | some m=>m | none=>0
theorem tail_draw {ops:List Oper} {b:Bool} {bs:List Nat} {m:Nat} {orc orc':Nat→List V→H→Option (V×H)}:∀ (l:List Oper) (r k:Nat) {s:St},l.all tailOp=true→(∀ f,f∈callFs l→orc f=orc' f) →
  drawF c orc b ih0 ops bs m r k l s=drawF c orc' b ih0 ops bs m r k l s:=by
 intro l
 induction l with
 | nil=>intro r k s _ _; cases r <;> rfl
 | cons o l ih =>
  intro r k s ht ho
  cases r with
  | zero=>exact tail_ops (o :: l) ht ho
  | succ r =>
   simp only [List.all_cons,Bool.and_eq_true] at ht
   rw [callFs_cons] at ho
   have h1:∀ s,stepOp c orc b ih0 o s=stepOp c orc' b ih0 o s:=fun s=>tail_step (fs:=callFs [o]) (fun _ h=>h) (fun f hf=>ho f (List.mem_append_left _ hf)) ht.1
   have h2:∀ k s,drawF c orc b ih0 ops bs m r k l s=drawF c orc' b ih0 ops bs m r k l s:=fun k s=>ih r k ht.2 fun f hf=>ho f (List.mem_append_right _ hf)
   simp only [drawF,h1,h2]
theorem drawF_wpF (ok:CtxOK P c) {b:Bool} {ops:List Oper} {bs:List Nat} {m:Nat}:∀ (l:List Oper) (r k:Nat) {s:St} {Q:AX→St→Prop},s.heap.next≤T.top→s.heap.low≤T.top→l.all tailOp=true→distinct (callFs l)=true→wpF P c b ops bs m r k l s Q →
  ∃ orc,OrcOk P c orc∧(∀ f,f∉callFs l→orc f=orc0 f)∧∃ x s',drawF c orc b ih0 ops bs m r k l s=some (.done x s')∧Q x s':=by
 intro l
 induction l with
 | nil=>intro r k s Q _ _ _ _ h; refine ⟨orc0,orc0_ok,fun _ _=>rfl,.normal,s,by cases r <;> rfl,by cases r <;> exact h⟩
 | cons o l ih =>
  intro r k s Q hn hl ht hd h
  cases r with
  | zero =>
   obtain ⟨orc,h1,h2,x,s',h3,h4⟩:=opsF_wp ok (o :: l) ht hd h
   exact ⟨orc,h1,h2,x,s',h3,h4⟩
  | succ r =>
   simp only [List.all_cons,Bool.and_eq_true] at ht
   have hd2:distinct (callFs l)=true:=by
    rw [callFs_cons] at hd
    generalize callFs [o]=q at hd
    induction q with
    | nil=>exact hd
    | cons a q ihq=>simp only [List.cons_append,distinct,Bool.and_eq_true] at hd; exact ihq hd.2
   simp only [wpF] at h
   split at h
   ·rename_i hw
    split at h
    ·-- a quiet operation
     rename_i hqo
     have hk:=wpOp_out h
     cases ha:aop c o (evx s.tm) s.heap with
     | none=>rw [ha] at hk; exact hk.elim
     | some an =>
      obtain ⟨v,h2,rfl,ht2,hlow,hn2⟩:=aop_top hqo hn ha
      rw [ha] at hk
      have hk:put1 o.dst v s h2 (fun s'=>wpF P c b ops bs m r (k+1) l s' Q):=hk
      rw [put1_iff] at hk
      have heq:(⟨h2.tbl,h2.next,cond (Nat.ble s.heap.low T.top) s.heap.low T.top⟩:H)=h2:=by
       rw [Nat.ble_eq_true_of_le hl,cond_true,← hlow]
      have hd1:∀ tm',wpF P c b ops bs m r (k+1) l ⟨s.n,tm',s.dfr,h2⟩ Q→(∀ orc,stepOp c orc b ih0 o ⟨s.n,s.tm,s.dfr,topH s.heap⟩=some (.normal,⟨s.n,tm',s.dfr,topH h2⟩)) →
        ∃ orc,OrcOk P c orc∧(∀ f,f∉callFs (o :: l)→orc f=orc0 f)∧∃ x s',drawF c orc b ih0 ops bs m (r+1) k (o :: l) s=some (.done x s')∧Q x s':=by
       intro tm' hw2 hst
       obtain ⟨orc,h1,h1b,x,s',h3,h4⟩:=ih r (k+1) (s:=⟨s.n,tm',s.dfr,h2⟩) hn2 (by show h2.low≤_; rw [hlow]; exact hl) ht.2 hd2 hw2
       refine ⟨orc,h1,fun f hf=>h1b f fun g=>hf (by rw [callFs_cons]; exact List.mem_append_right _ g),x,s',?_,h4⟩
       show cond (wantedB ops s.tm o) (match stepOp c orc b ih0 o ⟨s.n,s.tm,s.dfr,topH s.heap⟩ with | some (.normal,s')=>_ | _=>none) _=_
       rw [hw,cond_true,hst orc]
       show cond (Nat.ble s.heap.next T.top || _) (cond (sameLen s.dfr s.dfr) (drawF c orc b ih0 ops bs m r (k+1) l ⟨s.n,tm',s.dfr,⟨h2.tbl,h2.next,cond (Nat.ble s.heap.low T.top) s.heap.low T.top⟩⟩) none) none=_
       rw [Nat.ble_eq_true_of_le hn,Bool.true_or,cond_true,sameLen_refl,cond_true,heq]
       exact h3
      rcases hk with ⟨hdd,hk⟩ | ⟨t,hdd,hb,hk⟩
      ·refine hd1 s.tm hk fun orc=>?_
       unfold stepOp
       simp only [ht2,hdd]
       rfl
      ·refine hd1 _ hk fun orc=>?_
       unfold stepOp
       simp only [ht2,hdd]
       unfold putD
       simp only [hb,cond_true]
    split at h
    ·exact h.elim
    have hk:=wpOp_out h
    have fin:∀ (orc:Nat→List V→H→Option (V×H)) (v:V) (h':H) (s1:St),lowOk ops bs m k s.heap h'→putD s o.dst v (lowM s.heap h')=some s1 →
      stepOp c orc b ih0 o ⟨s.n,s.tm,s.dfr,topH s.heap⟩=(match putD ⟨s.n,s.tm,s.dfr,topH s.heap⟩ o.dst v h' with | some s'=>some (.normal,s') | none=>none) →
      drawF c orc b ih0 ops bs m (r+1) k (o :: l) s=drawF c orc b ih0 ops bs m r (k+1) l s1:=by
     intro orc v h' s1 hlow hp hst
     show cond (wantedB ops s.tm o) (match stepOp c orc b ih0 o ⟨s.n,s.tm,s.dfr,topH s.heap⟩ with | some (.normal,s')=>_ | _=>none) _=_
     rw [hw,cond_true,hst]
     cases hd:o.dst with
     | none =>
      rw [hd] at hp
      simp only [putD,Option.some.injEq] at hp
      subst hp
      show cond (Nat.ble s.heap.next h'.low || storeOk ops bs m k s.tm o) (cond (sameLen s.dfr s.dfr) (drawF c orc b ih0 ops bs m r (k+1) l ⟨s.n,s.tm,s.dfr,lowM s.heap h'⟩) none) none=_
      rw [hlow.ok,cond_true,sameLen_refl,cond_true]
     | some t =>
      rw [hd] at hp
      unfold putD at hp ⊢
      simp only at hp ⊢
      cases hb:Nat.blt t s.n with
      | false=>rw [hb] at hp; cases hp
      | true =>
       rw [hb,cond_true] at hp
       simp only [Option.some.injEq] at hp
       subst hp
       rw [cond_true]
       show cond (Nat.ble s.heap.next h'.low || storeOk ops bs m k s.tm o) (cond (sameLen s.dfr s.dfr) (drawF c orc b ih0 ops bs m r (k+1) l ⟨s.n,s.tm.set t v,s.dfr,lowM s.heap h'⟩) none) none=_
       rw [hlow.ok,cond_true,sameLen_refl,cond_true]
    have hlm:∀ h':H,(lowM s.heap h').low≤T.top:=by
     intro h'
     show cond (Nat.ble s.heap.low h'.low) s.heap.low h'.low≤_
     cases hb:Nat.ble s.heap.low h'.low with
     | true=>exact hl
     | false =>
      rw [cond_false]
      rcases Nat.le_total s.heap.low h'.low with g | g
      ·rw [Nat.ble_eq_true_of_le g] at hb; cases hb
      ·exact Nat.le_trans g hl
    have hs1:∀ {v:V} {h':H} {s1:St},putD s o.dst v (lowM s.heap h')=some s1→s1.heap=lowM s.heap h':=by
     intro v h' s1 hp
     obtain ⟨_,e⟩:=putD_some hp
     rw [e]
    have plain:∀ (v:V) (h':H),lowOk ops bs m k s.heap h'→put1 o.dst v s (lowM s.heap h') (fun s'=>wpF P c b ops bs m r (k+1) l s' Q) →
      (∀ orc,stepOp c orc b ih0 o ⟨s.n,s.tm,s.dfr,topH s.heap⟩=(match putD ⟨s.n,s.tm,s.dfr,topH s.heap⟩ o.dst v h' with | some s'=>some (.normal,s') | none=>none)) →
      ∃ orc,OrcOk P c orc∧(∀ f,f∉callFs (o :: l)→orc f=orc0 f)∧∃ x s',drawF c orc b ih0 ops bs m (r+1) k (o :: l) s=some (.done x s')∧Q x s':=by
     intro v h' hlow hp hst
     obtain ⟨s1,hp1,hk1⟩:=put1_spec hp
     obtain ⟨orc,h1,h2,x,s',h3,h4⟩:=ih r (k+1) (by rw [hs1 hp1]; exact hlow.next) (by rw [hs1 hp1]; exact hlm _) ht.2 hd2 hk1
     exact ⟨orc,h1,fun f hf=>h2 f fun g=>hf (by rw [callFs_cons]; exact List.mem_append_right _ g),x,s',by rw [fin orc v h' s1 hlow hp1 (hst orc)]; exact h3,h4⟩
    cases ha:aop c o (evx s.tm) (topH s.heap) with
    | none=>rw [ha] at hk; exact hk.elim
    | some an =>
     rw [ha] at hk
     cases an with
     | val v h'=>exact plain v h' hk.1 (hk.2 _ rfl) fun orc=>by unfold stepOp; simp only [ha]; rfl
     | skip h'=>exact plain undefV h' hk.1 (hk.2 _ rfl) fun orc=>by unfold stepOp; simp only [ha]; rfl
     | round lp args=>exact absurd ha (tail_round ht.1 (fun _=>rfl))
     | call f args =>
      obtain ⟨v,h',⟨hfn,hs⟩,hlow2,hq⟩:=hk
      have hlow:=hlow2
      obtain ⟨s1,hp1,hk1⟩:=put1_spec (hq _ rfl)
      obtain ⟨cl,g1,g2⟩:=tail_call ht.1 ha (fun _=>rfl)
      have hcf:callFs [o]=[f]:=by simp [callFs,g1,g2]
      have hfl:f∉callFs l:=by
       rw [callFs_cons,hcf] at hd
       simp only [List.singleton_append,distinct,Bool.and_eq_true,Bool.not_eq_true'] at hd
       intro hm
       rw [(memN_iff _ _).2 hm] at hd
       exact absurd hd.1 (by simp)
      obtain ⟨orc,h1,h2,x,s',h3,h4⟩:=ih r (k+1) (by rw [hs1 hp1]; exact hlow2.next) (by rw [hs1 hp1]; exact hlm _) ht.2 hd2 hk1
      let orcN:Nat→List V→H→Option (V×H):=fun g=>if g=f then orc1 f args (topH s.heap) v h' g else orc g
      have hN:∀ g,g∈callFs l→orcN g=orc g:=fun g hg=>by
       have:g≠f:=fun e=>hfl (e ▸ hg)
       simp only [orcN,if_neg this]
      refine ⟨orcN,?_,?_,x,s',?_,h4⟩
      ·intro g a2 h5 v2 h6 e
       simp only [orcN] at e
       by_cases hg:g=f
       ·rw [if_pos hg] at e; exact orc1_ok hfn hs g a2 h5 v2 h6 e
       ·rw [if_neg hg] at e; exact h1 g a2 h5 v2 h6 e
      ·intro g hg
       rw [callFs_cons,hcf] at hg
       have hgf:g≠f:=fun e=>hg (by rw [e]; simp)
       have hgl:g∉callFs l:=fun e=>hg (List.mem_append_right _ e)
       simp only [orcN,if_neg hgf]
       exact h2 g hgl
      ·rw [fin orcN v h' s1 hlow hp1 ?_,tail_draw l r (k+1) ht.2 hN]
       ·exact h3
       ·have hcO:callO c orcN ih0 f args (topH s.heap)=some (.ret v h'):=by
         unfold callO
         have:orcN f args (topH s.heap)=some (v,h'):=by simp only [orcN,if_pos rfl]; exact orc1_at _ _ _ _ _
         rw [this]
        unfold stepOp
        simp only [ha,hcO]
        rfl
     | _=>exact hk.elim
   ·rename_i hw
    have hw:wantedB ops s.tm o=false:=by simpa using hw
    obtain ⟨s1,hp,hk⟩:=put1_spec h
    have hs1:s1.heap=s.heap:=by
     obtain ⟨_,e⟩:=putD_some hp
     rw [e]
    obtain ⟨orc,h1,h2,x,s',h3,h4⟩:=ih r (k+1) (by rw [hs1]; exact hn) (by rw [hs1]; exact hl) ht.2 hd2 hk
    refine ⟨orc,h1,fun f hf=>h2 f fun g=>hf (by rw [callFs_cons]; exact List.mem_append_right _ g),x,s',?_,h4⟩
    unfold drawF
    show cond (wantedB ops s.tm o) _ (match putD s o.dst undefV s.heap with | some s'=>drawF c orc b ih0 ops bs m r (k+1) l s' | none=>none)=_
    rw [hw,cond_false,hp]
    exact h3
theorem wpDr.of_calls (ok:CtxOK P c) {b:Bool} {ops:List Oper} {s:St} {Q:AX→St→Prop} (hp:drawCalls ops=true) (hn:s.heap.next≤T.top) (hl:s.heap.low≤T.top) (h:wpF P c b ops (befores ops []) (drawM ops) (drawM ops) 0 ops s Q):wpDr P c b ops s Q:=by
 unfold drawCalls at hp
 rw [Bool.and_eq_true] at hp
 have hp:=hp.2
 simp only [Bool.and_eq_true,Option.isSome_iff_exists] at hp
 obtain ⟨h1,h2,m,hm⟩:=hp
 have hmm:drawM ops=m:=by unfold drawM; rw [hm]
 rw [hmm] at h
 obtain ⟨orc,hor,_,x,s',e,hq⟩:=drawF_wpF (bs:=befores ops []) (m:=m) ok ops m 0 hn hl h1 h2 h
 exact ⟨orc,m,x,s',hor,hm,e,hq⟩
theorem wpF_mono {b:Bool} {ops:List Oper} {bs:List Nat} {m:Nat}:∀ (r k:Nat) (l:List Oper) {s:St} {Q Q':AX→St→Prop},(∀ x s',Q x s'→Q' x s')→wpF P c b ops bs m r k l s Q→wpF P c b ops bs m r k l s Q':=by
 intro r
 induction r with
 | zero=>intro k l s Q Q' hq h; exact wpO_mono _ hq h
 | succ r ih =>
  intro k l s Q Q' hq h
  cases l with
  | nil=>exact hq _ _ h
  | cons o l =>
   simp only [wpF] at h ⊢
   split
   ·rename_i hw
    rw [if_pos hw] at h
    split
    ·rename_i hqo; rw [if_pos hqo] at h; exact wpOp_mono (fun v w h1=>put1_mono (fun s hk=>ih _ l hq hk) h1) h
    rename_i hqo
    rw [if_neg hqo] at h
    split
    ·rename_i hp; rw [if_pos hp] at h; exact h
    ·rename_i hp
     rw [if_neg hp] at h
     exact wpOp_mono (fun v w h1=>⟨h1.1,fun h2 e=>put1_mono (fun s hk=>ih _ l hq hk) (h1.2 h2 e)⟩) h
   ·rename_i hw
    rw [if_neg hw] at h
    exact put1_mono (fun s hk=>ih _ l hq hk) h
theorem wpDr.of_seq (ok:CtxOK P c) {b:Bool} {ops:List Oper} {s:St} {Q:AX→St→Prop} (hp:drawSeq c ops=true) (hn:s.heap.next≤T.top) (hl:s.heap.low≤T.top) (h:wpO P c b ops ops s Q):wpDr P c b ops s Q:=by
 unfold drawSeq at hp
 split at hp
 ·rename_i m hm
  simp only [Bool.and_eq_true] at hp
  obtain ⟨h1,h2,h3⟩:=hp
  obtain ⟨orc,hor,x,s',e,hq⟩:=drawF_wp (bs:=befores ops []) (m:=m) ok ops m 0 hn hl h1 h2 h3 h
  exact ⟨orc,m,x,s',hor,hm,e,hq⟩
 ·cases hp
def thenC (k:St→Prop) (Q:AX→St→Prop):AX→St→Prop
 | .normal,s=>k s
 | e,s=>Q e s
variable (P c)
def wpC (b:Bool):Code→St→(AX→St→Prop)→Prop
 | .skip,s,Q=>Q .normal s
 | .region _ ops draw,s,Q =>
  if draw=true then (if drawSeq c ops.toList=true then (s.heap.next≤T.top∧s.heap.low≤T.top)∧wpO P c b ops.toList ops.toList s Q else if drawCalls ops.toList=true then (s.heap.next≤T.top∧s.heap.low≤T.top)∧wpF P c b ops.toList (befores ops.toList []) (drawM ops.toList) (drawM ops.toList) 0 ops.toList s Q else wpDr P c b ops.toList s Q)
  else wpO P c b ops.toList ops.toList s Q
 | .seq x y,s,Q=>wpC b x s (thenC (fun s1=>wpC b y s1 Q) Q)
 | .cond o x y,s,Q=>match evx s.tm o with
  | some v=>wpPick v fun t=>match t with | true=>wpC b x s Q | false=>wpC b y s Q
  | none=>False
 | .block id x,s,Q=>wpC b x s (fun e s1=>Q (exitB id e) s1)
 | .loop x,s,Q=>∃ I:Nat→Tm→H→Prop,(∃ k,I k s.tm s.heap)∧∀ k tm h,I k tm h→wpC b x ⟨s.n,tm,s.dfr,h⟩ (thenC (fun s1=>s1.n=s.n∧s1.dfr=s.dfr∧∃ j,j<k∧I j s1.tm s1.heap) Q)
 | .scope x,s,Q=>wpC b x s Q
 | .label _,s,Q=>Q .normal s
 | .exit id,s,Q=>Q (.exit id) s
 | .ret,s,Q=>Q .ret s
 | .rangeFunc f ps asg body,s,Q=>RC P b (.rangeFunc f ps asg body) s Q
 | _,_,_=>False
variable {P c}
theorem RC.of_wp (ok:CtxOK P c) {b:Bool}:∀ (code:Code) {s:St} {Q:AX→St→Prop},wpC P c b (slim code) s Q→RC P b code s Q:=by
 intro code
 induction code with
 | skip=>intro s Q h; exact ⟨.normal,s,fun _ _=>SimC.skip s,h⟩
 | region id ops draw =>
  intro s Q h
  cases draw with
  | true =>
   simp only [slim,wpC,if_true] at h
   split at h
   ·rename_i hp; exact RC.of_dr ok (wpDr.of_seq ok hp h.1.1 h.1.2 h.2)
   ·split at h
    ·rename_i hp; exact RC.of_dr ok (wpDr.of_calls ok hp h.1.1 h.1.2 h.2)
    ·exact RC.of_dr ok h
  | false=>exact RC.region ok (by simpa [slim,wpC] using h)
 | seq x y ihx ihy =>
  intro s Q h
  refine RC.seq ((ihx h).mono fun e s1 h1=>?_)
  cases e <;> first | exact ihy h1 | exact h1
 | cond o x y ihx ihy =>
  intro s Q h
  simp only [slim,wpC] at h
  split at h
  ·rename_i v ho
   obtain ⟨t,rfl,h2⟩:=wpPick_out h
   refine RC.cond ho ?_
   cases t with
   | true=>exact ihx h2
   | false=>exact ihy h2
  ·exact h.elim
 | block id x ih=>intro s Q h; exact RC.block (ih h)
 | loop x ih =>
  intro s Q h
  obtain ⟨I,⟨k,hk⟩,hI⟩:=h
  refine RC.loop (fun k s1=>s1.n=s.n∧s1.dfr=s.dfr∧I k s1.tm s1.heap) (fun k s1 hi=>?_) k s ⟨rfl,rfl,hk⟩
  obtain ⟨h1,h2,h3⟩:=hi
  have h4:=hI k s1.tm s1.heap h3
  have hs:s1=⟨s.n,s1.tm,s.dfr,s1.heap⟩:=by cases s1; simp only at h1 h2; subst h1; subst h2; rfl
  rw [← hs] at h4
  refine (ih h4).mono fun e s2 h5=>?_
  cases e with
  | normal=>obtain ⟨g1,g2,j,g3,g4⟩:=h5; exact ⟨j,g3,g1,g2,g4⟩
  | _=>exact h5
 | scope x ih =>
  intro s Q h
  obtain ⟨e,s1,h1,h2⟩:=ih h
  exact ⟨e,s1,fun rd hrd=>SimC.scope (h1 rd hrd),h2⟩
 | label l=>intro s Q h; exact ⟨.normal,s,fun _ _=>SimC.label l s,h⟩
 | exit id=>intro s Q h; exact ⟨.exit id,s,fun _ _=>SimC.exit id s,h⟩
 | ret=>intro s Q h; exact ⟨.ret,s,fun _ _=>SimC.ret s,h⟩
 | rangeFunc f ps asg body=>intro s Q h; exact h
 | _=>intro s Q h; exact h.elim
theorem wpC_mono {b:Bool}:∀ (code:Code) {s:St} {Q Q':AX→St→Prop},(∀ x s',Q x s'→Q' x s')→wpC P c b code s Q→wpC P c b code s Q':=by
 intro code
 have hthen:∀ {k k':St→Prop} {Q Q':AX→St→Prop},(∀ s,k s→k' s)→(∀ x s,Q x s→Q' x s)→∀ x s,thenC k Q x s→thenC k' Q' x s:=by
  intro k k' Q Q' h1 h2 x s h
  cases x <;> first | exact h1 _ h | exact h2 _ _ h
 induction code with
 | skip=>intro s Q Q' hq h; exact hq _ _ h
 | region id ops draw =>
  intro s Q Q' hq h
  simp only [wpC] at h ⊢
  cases draw with
  | true =>
   rw [if_pos rfl] at h ⊢
   split
   ·rename_i hp; rw [if_pos hp] at h; exact ⟨h.1,wpO_mono _ hq h.2⟩
   ·rename_i hp
    rw [if_neg hp] at h
    split
    ·rename_i hp2; rw [if_pos hp2] at h; exact ⟨h.1,wpF_mono _ _ _ hq h.2⟩
    ·rename_i hp2; rw [if_neg hp2] at h; exact h.mono hq
  | false=>rw [if_neg (by simp)] at h ⊢; exact wpO_mono _ hq h
 | seq x y ihx ihy =>
  intro s Q Q' hq h
  exact ihx (hthen (fun s hs=>ihy hq hs) hq) h
 | cond o x y ihx ihy =>
  intro s Q Q' hq h
  simp only [wpC] at h ⊢
  cases ho:evx s.tm o with
  | none=>rw [ho] at h; exact h
  | some v =>
   rw [ho] at h
   refine wpPick_mono (fun t ht=>?_) h
   cases t with
   | true=>exact ihx hq ht
   | false=>exact ihy hq ht
 | block id x ih=>intro s Q Q' hq h; exact ih (fun e s1=>hq _ _) h
 | loop x ih =>
  intro s Q Q' hq h
  obtain ⟨I,hk,hI⟩:=h
  exact ⟨I,hk,fun k tm hh hi=>ih (hthen (fun _ h=>h) hq) (hI k tm hh hi)⟩
 | scope x ih=>intro s Q Q' hq h; exact ih hq h
 | label l=>intro s Q Q' hq h; exact hq _ _ h
 | exit id=>intro s Q Q' hq h; exact hq _ _ h
 | ret=>intro s Q Q' hq h; exact hq _ _ h
 | rangeFunc f ps asg body=>intro s Q Q' hq h; exact RC.mono h hq
 | _=>intro s Q Q' hq h; exact h.elim
def sealL (tm tm':Tm):List Nat→Prop→Prop
 | [],q=>q
 | t :: l,q=>getV tm' t=getV tm t→sealL tm tm' l q
def sealQ (live:List Nat) (Q:AX→St→Prop):AX→St→Prop:=fun x s=>∀ tm',sealL s.tm tm' live (Q x ⟨s.n,tm',s.dfr,s.heap⟩)
theorem sealL_out {tm:Tm} {q:Prop}:∀ {l:List Nat},sealL tm tm l q→q:=by
 intro l
 induction l with
 | nil=>exact fun h=>h
 | cons t l ih=>exact fun h=>ih (h rfl)
theorem sealQ_out {live:List Nat} {Q:AX→St→Prop} {x:AX} {s:St} (h:sealQ live Q x s):Q x s:=sealL_out (h s.tm)
theorem N8.set_get {α:Type} (d:D8) (t:N8 α) (f:α→α) (h:f (N8.get d t)=N8.get d t):N8.mod d f t=t:=by
 obtain ⟨a0,a1,a2,a3,a4,a5,a6,a7⟩:=t
 cases d <;> simp only [N8.mod,N8.get] at h ⊢ <;> rw [h]
theorem tm_set {tm:Tm} {t:Nat} {v:V} (ht:t<511) (h:getV tm t=v):Tb.set tm t v=tm:=by
 unfold getV Tb.get at h
 have hb:Nat.ble t 511=true:=Nat.ble_eq_true_of_le (by omega)
 rw [hb,cond_true] at h
 unfold Tb.getF at h
 unfold Tb.set
 refine N8.set_get _ _ _ (N8.set_get _ _ _ (N8.set_get _ _ _ ?_))
 exact h.symm
def wpD:List AD→H→(H→Prop)→Prop
 | [],h,k=>k h
 | .coll id :: l,h,k=>match h.get id with
  | some (.deferred true)=>wpD l (h.upd id (some (.deferred false))) k
  | _=>False
 | .fn _ _ _ :: _,_,_=>False
theorem wpD_spec {call:Nat→List V→H→Option CallOut}:∀ {l:List AD} {h:H} {k:H→Prop},wpD l h k→∃ h',runDefers call l h=some h'∧k h':=by
 intro l
 induction l with
 | nil=>intro h k hk; exact ⟨h,rfl,hk⟩
 | cons d l ih =>
  intro h k hk
  cases d with
  | coll id =>
   simp only [wpD] at hk
   split at hk
   ·rename_i hg
    obtain ⟨h',h1,h2⟩:=ih hk
    exact ⟨h',by simp only [runDefers,hg,h1],h2⟩
   ·exact hk.elim
  | fn f cap args=>exact hk.elim
variable (c) in
def endW (fi:FI) (Q:V→H→Prop):AX→St→Prop
 | .normal,s=>wpD s.dfr s.heap fun h'=>match leave c fi.results s.tm h' fi.results [] with | some vs=>Q (tupled vs) h' | none=>False
 | .ret,s=>wpD s.dfr s.heap fun h'=>match leave c fi.results s.tm h' fi.results [] with | some vs=>Q (tupled vs) h' | none=>False
 | _,_=>False
def slimF (fi:FI):FI:=⟨fi.n,fi.results,slim fi.body⟩
theorem RF.enter (ok:CtxOK P c) {f:Nat} {fi:FI} {args:List V} {h:H} {Q:V→H→Prop} (hf:(c.fn.get f).map slimF=some fi) (ha:args.length≤fi.n) (hn:fi.n≤511)
  (hw:wpC P c false fi.body ⟨fi.n,setArgs args 0 (Tb.leaf undefV),[],h⟩ (endW c fi Q)):RF P c f args h Q:=by
 cases hg:c.fn.get f with
 | none=>rw [hg] at hf; cases hf
 | some fj =>
  rw [hg] at hf
  simp only [Option.map_some,Option.some.injEq] at hf
  subst hf
  obtain ⟨e,s1,h1,h2⟩:=RC.of_wp ok fj.body hw
  obtain ⟨ih,hih,hrun⟩:∃ ih,IHok P ih∧ih false fj.body ⟨fj.n,setArgs args 0 (Tb.leaf undefV),[],h⟩=some (.done e s1) :=
   ⟨ih1 false fj.body ⟨fj.n,setArgs args 0 (Tb.leaf undefV),[],h⟩ e s1,ih1_ok h1,ih1_at _ _ _ _ _⟩
  have hent:enterF ih fj args h=some (.done e s1):=by
   unfold enterF
   have e1:Nat.ble (lenL args 0) fj.n=true:=by rw [lenL0]; exact Nat.ble_eq_true_of_le ha
   have e2:Nat.ble fj.n 511=true:=Nat.ble_eq_true_of_le hn
   rw [e1,e2]
   exact hrun
  have fin:∀ (hq:wpD s1.dfr s1.heap fun h'=>match leave c fj.results s1.tm h' fj.results [] with | some vs=>Q (tupled vs) h' | none=>False) (he:e = .normal∨e = .ret),RF P c f args h Q:=by
   intro hq he
   obtain ⟨h',h3,h4⟩:=wpD_spec (call:=callD c ih) hq
   cases hl:leave c fj.results s1.tm h' fj.results [] with
   | none=>rw [hl] at h4; exact h4.elim
   | some vs =>
    rw [hl] at h4
    refine ⟨tupled vs,h',⟨⟨fj,hg⟩,?_⟩,h4⟩
    refine callF_sound ok hih ?_
    have hend:endF c ih fj s1=some (.ret (tupled vs) h'):=by
     unfold endF
     rw [h3]
     show (match leave c fj.results s1.tm h' fj.results [] with | some vs=>some (CallOut.ret (tupled vs) h') | none=>none)=_
     rw [hl]
    unfold callF
    rw [hg]
    simp only [hent]
    rcases he with rfl | rfl <;> exact hend
  cases e with
  | normal=>exact fin h2 (.inl rfl)
  | ret=>exact fin h2 (.inr rfl)
  | _=>exact h2.elim
def t (n:Nat):Operand:=.tmp n
def ci (n:Nat):Operand:=.const (.int .i64 (.ofNat n))
def cs (l:List UInt8):Operand:=.const (.string ⟨l.toArray⟩)
abbrev w64 (n:Int):Int:=wrapF .i64 n
def O1 (d:Option Nat) (ty:Nat) (op:Op):Oper:=⟨d,op,ty, "",#[],none⟩
def O2 (d:Option Nat) (ty:Nat) (op:Op) (g:Nat×Bool):Oper:=⟨d,op,ty, "",#[],some g⟩
end
end Go.Sim
