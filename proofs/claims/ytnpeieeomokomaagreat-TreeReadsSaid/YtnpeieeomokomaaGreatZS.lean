/- S. No condition. -/
import Derived.Test.YtnpeieeomokomaaGreatZR
import Derived.Test.YtnpeieeomokomaaGreatZQ
namespace Go.Sim
section
variable {P:Program} {c:Ctx} {orc:Nat→List V→H→Option (V×H)}
def Claim (P:Program) (rd:Option Nat) (code:Code) (s:St) (x:AX) (s':St):Prop :=
 match code with
 | .loop b=>SimL P rd b s x s'
 | code=>SimC P rd code s x s'
theorem Claim.sim {rd:Option Nat} {code:Code} {s s':St} {x:AX} (h:Claim P rd code s x s'):SimC P rd code s x s':=by
 cases code <;> first | exact h | exact SimL.loop h
def IH2 (P:Program) (ih:Bool→Code→St→Option Out):Prop:=∀ rd code s x s',ih (Option.isSome rd) code s=some (.done x s')→Claim P rd code s x s'
theorem IH2.ok {ih:Bool→Code→St→Option Out} (h:IH2 P ih):IHok P ih:=fun rd code s x s' e=>(h rd code s x s' e).sim
theorem opsF_top (ok:CtxOK P c) (hor:OrcOk P c orc) {ih:Bool→Code→St→Option Out} (hih:IHok P ih) {id:Nat} {ops:Array Oper} {rd:Option Nat} {s s':St} {x:AX}
  (e:opsF c orc rd.isSome ih ops.toList ops.toList s=some (.done x s')):SimC P rd (.region id ops false) s x s':=by
 intro ρ D w a k hl
 refine wpIn_region (opsF_sound ok hor hih _ _ (mapM_range ops) e k.hr.lt hl (Mv.refl _ _ _ _) (by rw [Dx_self]; exact k))
theorem drawF_top (ok:CtxOK P c) (hor:OrcOk P c orc) {ih:Bool→Code→St→Option Out} (hih:IHok P ih) {id:Nat} {ops:Array Oper} {rd:Option Nat} {s s':St} {x:AX} {m:Nat} (hm:drawOk ops.toList=some m)
  (e:drawF c orc rd.isSome ih ops.toList (befores ops.toList []) m m 0 ops.toList s=some (.done x s')):SimC P rd (.region id ops true) s x s' :=
 drawF_sound ok hor hih hm e
theorem wpIn_scope {F:Fence} {n:Nat} {Q:Exit→Act→World→Prop} {a:Act} {w:World} {x:Code} (h:x.wpIn F n P (fun e a w=>(∀ l,e≠.goto l)∧Q e a w) a w):(Code.scope x).wpIn F n P Q a w:=by
 intro b k cs hro hb hr
 have h0:(lone (b.atR a (.code (.scope x) :: k)) cs w).fenced P F:=fenced_calm hb hr rfl
 have s0:step P (lone (b.atR a (.code (.scope x) :: k)) cs w) = .next (lone (b.atR a (.code x :: .inScope x :: k)) cs w):=step_lone_go (by simp [stepG,stepG.exec,Frame.atR])
 have s1:∀ a w,step P (lone (b.atR a (.inScope x :: k)) cs w) = .next (lone (b.atR a k) cs w):=fun a w=>step_lone_go (by simp [stepG,stepG.exec,Frame.atR])
 obtain ⟨e,a1,w1,⟨hg,hq⟩,harr⟩:=h b (.inScope x :: k) cs hro hb hr
 have hx:∀ id,exitTo id (.inScope x :: k)=exitTo id k:=fun id=>by simp [exitTo]
 cases e with
 | normal=>exact ⟨.normal,a1,w1,hq,.head h0 s0 (StepsIn.trans harr (.one (fenced_calm hb hr rfl) (s1 _ _)))⟩
 | exit id=>exact ⟨.exit id,a1,w1,hq,fun k' hk=>.head h0 s0 (harr.1 k' (by rw [hx]; exact hk)),fun hr' hk=>let ⟨k1,g1,g2⟩:=harr.2 hr' (by rw [hx]; exact hk); ⟨k1,g1,.head h0 s0 g2⟩⟩
 | goto l=>exact absurd rfl (hg l)
 | ret=>exact ⟨_,a1,w1,hq,.of_steps (.one h0 s0) harr⟩
 | panic ch=>exact ⟨_,a1,w1,hq,.of_steps (.one h0 s0) harr⟩
 | outgrown=>exact ⟨_,a1,w1,hq,.of_steps (.one h0 s0) harr⟩
theorem SimC.scope {rd:Option Nat} {x:Code} {s s1:St} {e:AX} (h:SimC P rd x s e s1):SimC P rd (.scope x) s e s1:=by
 intro ρ D w a k hl
 refine wpIn_scope (wpIn_mono (h ρ D w a k hl) ?_)
 rintro e1 a1 w1 ⟨ρ1,m1,k1,rfl,hx⟩
 exact ⟨fun l he=>by cases e <;> simp [AX.toExit] at he,ρ1,m1,k1,rfl,hx⟩
theorem SimC.label {rd:Option Nat} (l:Nat) (s:St):SimC P rd (.label l) s .normal s:=fun _ _ _ _ k _=>wpIn_label (Ends.refl k (fun _ h=>by cases h))
theorem stepC_sound (ok:CtxOK P c) (hor:OrcOk P c orc) {ih:Bool→Code→St→Option Out} (h2:IH2 P ih):IH2 P (fun rd code s=>stepC c orc ih rd code s):=by
 intro rd code s x s' e
 have hih:=h2.ok
 cases code with
 | skip =>
  simp only [stepC,Option.some.injEq,Out.done.injEq] at e
  obtain ⟨rfl,rfl⟩:=e
  exact SimC.skip s
 | region id ops draw =>
  show SimC P rd (.region id ops draw) s x s'
  simp only [stepC] at e
  cases draw with
  | false =>
   simp only [cond_false] at e
   exact opsF_top ok hor hih e
  | true =>
   simp only [cond_true] at e
   split at e
   ·rename_i m hm
    exact drawF_top ok hor hih hm e
   ·cases e
 | seq a b =>
  show SimC P rd (.seq a b) s x s'
  simp only [stepC] at e
  split at e
  ·rename_i s1 h1
   exact SimC.seq (hih rd _ _ _ _ h1) (hih rd _ _ _ _ e)
  ·rename_i r hr
   refine SimC.seq_out (hih rd _ _ _ _ e) ?_
   rintro rfl
   exact hr s' e
 | cond o a b =>
  show SimC P rd (.cond o a b) s x s'
  simp only [stepC] at e
  split at e
  ·rename_i t ho
   exact SimC.cond ho (hih rd _ _ _ _ e)
  ·cases e
 | block id b =>
  show SimC P rd (.block id b) s x s'
  simp only [stepC] at e
  split at e
  ·rename_i i s1 h1
   have h:=SimC.block (id:=id) (hih rd _ _ _ _ h1)
   by_cases hi:i=id
   ·subst hi
    simp only [Nat.beq_refl,cond_true,Option.some.injEq,Out.done.injEq] at e
    obtain ⟨rfl,rfl⟩:=e
    simpa using h
   ·have:Nat.beq i id=false:=by
     cases hb:Nat.beq i id with
     | false=>rfl
     | true=>exact absurd (Nat.eq_of_beq_eq_true hb) hi
    simp only [this,cond_false,Option.some.injEq,Out.done.injEq] at e
    obtain ⟨rfl,rfl⟩:=e
    simpa [hi] using h
  ·rename_i r hr
   have h:=SimC.block (id:=id) (hih rd _ _ _ _ e)
   cases x with
   | exit i=>exact absurd e (hr i s')
   | _=>exact h
 | loop b =>
  show SimL P rd b s x s'
  simp only [stepC] at e
  split at e
  ·rename_i s1 h1
   exact SimL.next (hih rd _ _ _ _ h1) (h2 rd _ _ _ _ e)
  ·rename_i r hr
   refine SimL.last (hih rd _ _ _ _ e) ?_
   rintro rfl
   exact hr s' e
 | scope b =>
  simp only [stepC] at e
  exact SimC.scope (hih rd _ _ _ _ e)
 | label l =>
  simp only [stepC,Option.some.injEq,Out.done.injEq] at e
  obtain ⟨rfl,rfl⟩:=e
  exact SimC.label l s
 | exit id =>
  simp only [stepC,Option.some.injEq,Out.done.injEq] at e
  obtain ⟨rfl,rfl⟩:=e
  exact SimC.exit id s
 | ret =>
  simp only [stepC,Option.some.injEq,Out.done.injEq] at e
  obtain ⟨rfl,rfl⟩:=e
  exact SimC.ret s
 | rangeFunc f params assign body =>
  simp only [stepC] at e
  exact rangeF_sound ok hor hih e
 | _=>simp [stepC] at e
theorem ev_sound (ok:CtxOK P c) (hor:OrcOk P c orc):∀ n,IH2 P (ev c orc n):=by
 intro n
 induction n with
 | zero=>intro rd code s x s' e; exact absurd e (by simp [ev])
 | succ n ih=>exact stepC_sound ok hor ih
theorem run_sound (ok:CtxOK P c) (hor:OrcOk P c orc) {n f:Nat} {args:List V} {h:H} {out:CallOut} (e:run c orc n f args h=some out):SimF P f args h out :=
 callO_sound ok hor (ev_sound ok hor n).ok e
end
end Go.Sim
namespace Go.Sim
namespace X
noncomputable def bsel (b:Bool) {β:Type} (x y:β):β:=Bool.rec (motive:=fun _=>β) y x b
theorem bsel_eq {β:Type} (b:Bool) (x y:β):bsel b x y=cond b x y:=by cases b <;> rfl
section
variable {α β:Type}
noncomputable def pickG (d:D8) (k:(N8 α→α)→β):β :=
 D8.rec (motive:=fun _=>((N8 α→α)→β)→β) (fun k=>k fun t=>N8.rec (motive:=fun _=>α) (fun a0 _ _ _ _ _ _ _=>a0) t) (fun k=>k fun t=>N8.rec (motive:=fun _=>α) (fun _ a1 _ _ _ _ _ _=>a1) t) (fun k=>k fun t=>N8.rec (motive:=fun _=>α) (fun _ _ a2 _ _ _ _ _=>a2) t) (fun k=>k fun t=>N8.rec (motive:=fun _=>α) (fun _ _ _ a3 _ _ _ _=>a3) t) (fun k=>k fun t=>N8.rec (motive:=fun _=>α) (fun _ _ _ _ a4 _ _ _=>a4) t) (fun k=>k fun t=>N8.rec (motive:=fun _=>α) (fun _ _ _ _ _ a5 _ _=>a5) t) (fun k=>k fun t=>N8.rec (motive:=fun _=>α) (fun _ _ _ _ _ _ a6 _=>a6) t) (fun k=>k fun t=>N8.rec (motive:=fun _=>α) (fun _ _ _ _ _ _ _ a7=>a7) t) d k
theorem pickG_eq (d:D8) (k:(N8 α→α)→β):pickG d k=k (N8.get d):=by cases d <;> rfl
noncomputable def pickM (d:D8) (k:((α→α)→N8 α→N8 α)→β):β :=
 D8.rec (motive:=fun _=>(((α→α)→N8 α→N8 α)→β)→β)
  (fun k=>k fun f t=>N8.rec (motive:=fun _=>N8 α) (fun a0 a1 a2 a3 a4 a5 a6 a7=>N8.mk (f a0) a1 a2 a3 a4 a5 a6 a7) t)
  (fun k=>k fun f t=>N8.rec (motive:=fun _=>N8 α) (fun a0 a1 a2 a3 a4 a5 a6 a7=>N8.mk a0 (f a1) a2 a3 a4 a5 a6 a7) t)
  (fun k=>k fun f t=>N8.rec (motive:=fun _=>N8 α) (fun a0 a1 a2 a3 a4 a5 a6 a7=>N8.mk a0 a1 (f a2) a3 a4 a5 a6 a7) t)
  (fun k=>k fun f t=>N8.rec (motive:=fun _=>N8 α) (fun a0 a1 a2 a3 a4 a5 a6 a7=>N8.mk a0 a1 a2 (f a3) a4 a5 a6 a7) t)
  (fun k=>k fun f t=>N8.rec (motive:=fun _=>N8 α) (fun a0 a1 a2 a3 a4 a5 a6 a7=>N8.mk a0 a1 a2 a3 (f a4) a5 a6 a7) t)
  (fun k=>k fun f t=>N8.rec (motive:=fun _=>N8 α) (fun a0 a1 a2 a3 a4 a5 a6 a7=>N8.mk a0 a1 a2 a3 a4 (f a5) a6 a7) t)
  (fun k=>k fun f t=>N8.rec (motive:=fun _=>N8 α) (fun a0 a1 a2 a3 a4 a5 a6 a7=>N8.mk a0 a1 a2 a3 a4 a5 (f a6) a7) t)
  (fun k=>k fun f t=>N8.rec (motive:=fun _=>N8 α) (fun a0 a1 a2 a3 a4 a5 a6 a7=>N8.mk a0 a1 a2 a3 a4 a5 a6 (f a7)) t) d k
theorem pickM_eq (d:D8) (k:((α→α)→N8 α→N8 α)→β):pickM d k=k (N8.mod d):=by cases d <;> rfl
end
abbrev M1:Type:=N8 V
abbrev M2:Type:=N8 M1
abbrev M3:Type:=N8 M2
inductive Src where
 | mk (a:Tm→V)
noncomputable def rdS (s:Src):Tm→V:=Src.rec (motive:=fun _=>Tm→V) (fun a=>a) s
noncomputable def srcM (g2:M3→M2) (g1:M2→M1) (g0:M1→V):Src:=.mk fun tm=>g0 (g1 (g2 tm))
noncomputable def srcT (t:Nat):Src:=cond (Nat.ble t 511) (pickG (D8.of (t/64)) fun g2=>pickG (D8.of (t/8)) fun g1=>pickG (D8.of t) fun g0=>srcM g2 g1 g0) (.mk fun _=>undefV)
theorem rdS_srcT (t:Nat) (tm:Tm):rdS (srcT t) tm=getV tm t:=by
 unfold srcT getV Tb.get
 cases Nat.ble t 511 with
 | false=>rfl
 | true=>simp only [cond_true,pickG_eq]; rfl
noncomputable def srcO (x:Operand):Option Src :=
 match x with
 | .tmp t=>some (srcT t)
 | .const v=>(match ofV v with | some x=>some (.mk fun _=>x) | none=>none)
 | .func f=>some (.mk fun _=>.func (.func f) [] [])
 | .global _=>none
noncomputable def evY (tm:Tm) (x:Operand):Option V:=Option.rec (motive:=fun _=>Option V) none (fun s=>some (rdS s tm)) (srcO x)
theorem evY_eq (tm:Tm):evY tm=evx tm:=by
 funext x
 cases x with
 | tmp t=>show some (rdS (srcT t) tm)=_; rw [rdS_srcT]; rfl
 | const v =>
  unfold evY srcO evx
  dsimp only
  cases ofV v <;> rfl
 | func f=>rfl
 | global g=>rfl
theorem srcO_some {x:Operand} {s:Src} (h:srcO x=some s) (tm:Tm):evx tm x=some (rdS s tm):=by
 rw [← evY_eq]; unfold evY; rw [h]
theorem srcO_none {x:Operand} (h:srcO x=none) (tm:Tm):evx tm x=none:=by
 rw [← evY_eq]; unfold evY; rw [h]
abbrev R:Type:=Tm→List AD→H→Option Out
abbrev DK:Type:=R→Tm→V→List AD→H→Option Out
inductive Dst where
 | mk (d:DK)
noncomputable def putS (d:Dst):DK:=Dst.rec (motive:=fun _=>DK) (fun d=>d) d
noncomputable def dstM (m2:(M2→M2)→M3→M3) (m1:(M1→M1)→M2→M2) (m0:(V→V)→M1→M1):Dst:=.mk fun k tm v=>k (m2 (m1 (m0 fun _=>v)) tm)
noncomputable def dstO (n:Nat) (d:Option Tmp):Dst :=
 match d with
 | none=>.mk fun k tm _=>k tm
 | some t=>cond (Nat.blt t n) (pickM (D8.of (t/64)) fun m2=>pickM (D8.of (t/8)) fun m1=>pickM (D8.of t) fun m0=>dstM m2 m1 m0) (.mk fun _ _ _ _ _=>none)
def putP (r:Option St) (k:R):Option Out :=
 match r with
 | some s=>k s.tm s.dfr s.heap
 | none=>none
theorem putS_eq (n:Nat) (d:Option Tmp) (k:R) (tm:Tm) (v:V) (dfr:List AD) (h h0:H):putS (dstO n d) k tm v dfr h=putP (putD ⟨n,tm,dfr,h0⟩ d v h) k:=by
 cases d with
 | none=>rfl
 | some t =>
  unfold dstO putD
  dsimp only
  cases Nat.blt t n with
  | false=>rfl
  | true =>
   simp only [cond_true,pickM_eq]
   rfl
noncomputable def boolA (a:V):Option Out→Option Out→Option Out :=
 V.rec (motive_1:=fun _=>Option Out→Option Out→Option Out) (motive_2:=fun _=>Unit)
  (fun b p q=>Bool.rec (motive:=fun _=>Option Out) q p b) (fun _ _ _ _=>none) (fun _ _ _=>none) (fun _ _ _ _=>none) (fun _ _=>none) (fun _ _ _ _ _ _=>none) (fun _ _=>none) (fun _ _ _=>none) (fun _ _=>none)
  (fun _ _ _ _ _ _ _=>none) (fun _ _ _=>none) (fun _ _=>none) (fun _ _ _ _ _=>none) (fun _ _=>none) (fun _ _ _ _=>none) (fun _ _ _ _=>none) () (fun _ _ _ _=>()) a
theorem boolA_bool (b:Bool) (p q:Option Out):boolA (.bool b) p q=cond b p q:=by cases b <;> rfl
theorem boolA_other {a:V} (h:∀ b,a≠.bool b) (p q:Option Out):boolA a p q=none:=by
 cases a <;> first | rfl | exact absurd rfl (h _)
noncomputable def kq (k1 k2:IntKind) (r:Option Out):Option Out :=
 IntKind.rec (motive:=fun _=>IntKind→Option Out→Option Out)
  (fun k2 r=>IntKind.rec (motive:=fun _=>Option Out→Option Out) (fun r=>r) (fun _=>none) (fun _=>none) (fun _=>none) (fun _=>none) (fun _=>none) (fun _=>none) (fun _=>none) k2 r)
  (fun k2 r=>IntKind.rec (motive:=fun _=>Option Out→Option Out) (fun _=>none) (fun r=>r) (fun _=>none) (fun _=>none) (fun _=>none) (fun _=>none) (fun _=>none) (fun _=>none) k2 r)
  (fun k2 r=>IntKind.rec (motive:=fun _=>Option Out→Option Out) (fun _=>none) (fun _=>none) (fun r=>r) (fun _=>none) (fun _=>none) (fun _=>none) (fun _=>none) (fun _=>none) k2 r)
  (fun k2 r=>IntKind.rec (motive:=fun _=>Option Out→Option Out) (fun _=>none) (fun _=>none) (fun _=>none) (fun r=>r) (fun _=>none) (fun _=>none) (fun _=>none) (fun _=>none) k2 r)
  (fun k2 r=>IntKind.rec (motive:=fun _=>Option Out→Option Out) (fun _=>none) (fun _=>none) (fun _=>none) (fun _=>none) (fun r=>r) (fun _=>none) (fun _=>none) (fun _=>none) k2 r)
  (fun k2 r=>IntKind.rec (motive:=fun _=>Option Out→Option Out) (fun _=>none) (fun _=>none) (fun _=>none) (fun _=>none) (fun _=>none) (fun r=>r) (fun _=>none) (fun _=>none) k2 r)
  (fun k2 r=>IntKind.rec (motive:=fun _=>Option Out→Option Out) (fun _=>none) (fun _=>none) (fun _=>none) (fun _=>none) (fun _=>none) (fun _=>none) (fun r=>r) (fun _=>none) k2 r)
  (fun k2 r=>IntKind.rec (motive:=fun _=>Option Out→Option Out) (fun _=>none) (fun _=>none) (fun _=>none) (fun _=>none) (fun _=>none) (fun _=>none) (fun _=>none) (fun r=>r) k2 r)
  k1 k2 r
theorem kq_eq (k1 k2:IntKind) (r:Option Out):kq k1 k2 r=cond (kindEq k1 k2) r none:=by cases k1 <;> cases k2 <;> rfl
noncomputable def binB (b:V):IntKind→Int→(IntKind→Int→Int→V)→DK→R→Tm→List AD→H→Option Out→Option Out :=
 V.rec (motive_1:=fun _=>IntKind→Int→(IntKind→Int→Int→V)→DK→R→Tm→List AD→H→Option Out→Option Out) (motive_2:=fun _=>Unit) (fun _ _ _ _ _ _ _ _ _ fb=>fb) (fun k2 n k1 m f d k tm dfr h _=>kq k1 k2 (d k tm (f k1 m n) dfr h)) (fun _ _ _ _ _ _ _ _ _ fb=>fb) (fun _ _ _ _ _ _ _ _ _ _ fb=>fb) (fun _ _ _ _ _ _ _ _ fb=>fb) (fun _ _ _ _ _ _ _ _ _ _ _ _ fb=>fb) (fun _ _ _ _ _ _ _ _ fb=>fb) (fun _ _ _ _ _ _ _ _ _ fb=>fb) (fun _ _ _ _ _ _ _ _ fb=>fb) (fun _ _ _ _ _ _ _ _ _ _ _ _ _ fb=>fb) (fun _ _ _ _ _ _ _ _ _ fb=>fb) (fun _ _ _ _ _ _ _ _ fb=>fb) (fun _ _ _ _ _ _ _ _ _ _ _ fb=>fb) (fun _ _ _ _ _ _ _ _ fb=>fb) (fun _ _ _ _ _ _ _ _ _ _ fb=>fb) (fun _ _ _ _ _ _ _ _ _ _ fb=>fb) () (fun _ _ _ _=>()) b
noncomputable def binA (a:V):V→(IntKind→Int→Int→V)→DK→R→Tm→List AD→H→Option Out→Option Out :=
 V.rec (motive_1:=fun _=>V→(IntKind→Int→Int→V)→DK→R→Tm→List AD→H→Option Out→Option Out) (motive_2:=fun _=>Unit) (fun _ _ _ _ _ _ _ _ fb=>fb) (fun k1 m b f d k tm dfr h fb=>binB b k1 m f d k tm dfr h fb) (fun _ _ _ _ _ _ _ _ fb=>fb) (fun _ _ _ _ _ _ _ _ _ fb=>fb) (fun _ _ _ _ _ _ _ fb=>fb) (fun _ _ _ _ _ _ _ _ _ _ _ fb=>fb) (fun _ _ _ _ _ _ _ fb=>fb) (fun _ _ _ _ _ _ _ _ fb=>fb) (fun _ _ _ _ _ _ _ fb=>fb) (fun _ _ _ _ _ _ _ _ _ _ _ _ fb=>fb) (fun _ _ _ _ _ _ _ _ fb=>fb) (fun _ _ _ _ _ _ _ fb=>fb) (fun _ _ _ _ _ _ _ _ _ _ fb=>fb) (fun _ _ _ _ _ _ _ fb=>fb) (fun _ _ _ _ _ _ _ _ _ fb=>fb) (fun _ _ _ _ _ _ _ _ _ fb=>fb) () (fun _ _ _ _=>()) a
theorem binA_int (k1 k2:IntKind) (m n:Int) (f:IntKind→Int→Int→V) (d:DK) (k:R) (tm:Tm) (dfr:List AD) (h:H) (fb:Option Out) :
  binA (.int k1 m) (.int k2 n) f d k tm dfr h fb=cond (kindEq k1 k2) (d k tm (f k1 m n) dfr h) none:=kq_eq _ _ _
theorem binA_l {a:V} (b:V) (h0:∀ k n,a≠.int k n) (f:IntKind→Int→Int→V) (d:DK) (k:R) (tm:Tm) (dfr:List AD) (h:H) (fb:Option Out) :
  binA a b f d k tm dfr h fb=fb:=by cases a <;> first | rfl | exact absurd rfl (h0 _ _)
theorem binA_r {b:V} (k1:IntKind) (m:Int) (h0:∀ k n,b≠.int k n) (f:IntKind→Int→Int→V) (d:DK) (k:R) (tm:Tm) (dfr:List AD) (h:H) (fb:Option Out) :
  binA (.int k1 m) b f d k tm dfr h fb=fb:=by cases b <;> first | rfl | exact absurd rfl (h0 _ _)
noncomputable def isB (w:Bool) (a:V):Bool:=match a with | .bool b=>b == w | _=>false
noncomputable def wrapV (k:IntKind):Int→V :=
 IntKind.rec (motive:=fun _=>Int→V) (fun n=>.int .i8 (wrapF .i8 n)) (fun n=>.int .i16 (wrapF .i16 n)) (fun n=>.int .i32 (wrapF .i32 n))
  (fun n=>Int.rec (motive:=fun _=>V) (fun m=>bsel (Nat.ble (Nat.succ m) 9223372036854775808) (.int .i64 (.ofNat m)) (.int .i64 (IntKind.wrap .i64 (.ofNat m))))
   (fun m=>bsel (Nat.ble (Nat.succ m) 9223372036854775808) (.int .i64 (.negSucc m)) (.int .i64 (IntKind.wrap .i64 (.negSucc m)))) n)
  (fun n=>.int .u8 (wrapF .u8 n)) (fun n=>.int .u16 (wrapF .u16 n)) (fun n=>.int .u32 (wrapF .u32 n))
  (fun n=>.int .u64 (wrapF .u64 n)) k
theorem ble_succ (a b:Nat):Nat.ble (Nat.succ a) b=Nat.blt a b:=rfl
theorem wrapV_i64p (m N:Nat) (x y:Int):bsel (Nat.ble (Nat.succ m) N) (V.int .i64 x) (V.int .i64 y) = .int .i64 (cond (Nat.blt m N) x y):=by
 rw [bsel_eq,ble_succ]
 cases Nat.blt m N <;> rfl
theorem wrapV_eq (k:IntKind) (n:Int):wrapV k n = .int k (wrapF k n):=by
 cases k
 case i64 =>
  cases n with
  | ofNat m=>exact wrapV_i64p m 9223372036854775808 _ _
  | negSucc m=>exact wrapV_i64p m 9223372036854775808 _ _
 all_goals rfl
noncomputable def addY (k:IntKind) (m n:Int):V:=wrapV k (addF m n)
noncomputable def subY (k:IntKind) (m n:Int):V:=wrapV k (subF m n)
noncomputable def mulY (k:IntKind) (m n:Int):V:=wrapV k (mulF m n)
noncomputable def eqlY (_:IntKind) (m n:Int):V:=.bool (eqF m n)
noncomputable def neqY (_:IntKind) (m n:Int):V:=.bool (!eqF m n)
noncomputable def lssY (_:IntKind) (m n:Int):V:=.bool (ltF m n)
noncomputable def leqY (_:IntKind) (m n:Int):V:=.bool (!ltF n m)
noncomputable def gtrY (_:IntKind) (m n:Int):V:=.bool (ltF n m)
noncomputable def geqY (_:IntKind) (m n:Int):V:=.bool (!ltF m n)
noncomputable def opY (op:BinOp):Option (IntKind→Int→Int→V) :=
 match op with
 | .add=>some addY
 | .sub=>some subY
 | .mul=>some mulY
 | .eql=>some eqlY
 | .neq=>some neqY
 | .lss=>some lssY
 | .leq=>some leqY
 | .gtr=>some gtrY
 | .geq=>some geqY
 | _=>none
theorem opY_eq {op:BinOp} {f:IntKind→Int→Int→V} (h:opY op=some f) (k:IntKind) (m n:Int):intB op k m n=some (f k m n)∧isShift op=false:=by
 cases op <;> simp only [opY,Option.some.injEq,reduceCtorEq] at h <;> subst h <;> simp [intB,isShift,addY,subY,mulY,eqlY,neqY,lssY,leqY,gtrY,geqY,wrapV_eq]
abbrev G:Type:=Ctx→(Operand→Option V)→H→Option AN
noncomputable def ldC (cs:Cs) (o:Nat) (ag:Bool) (sz:Nat):Option V :=
 Bool.rec (motive:=fun _=>Option V) (cs.get? o) (match cs.range o sz with | some x=>some (.agg x) | none=>none) ag
noncomputable def ldO (q:Option O):Nat→Bool→Nat→Option V :=
 Option.rec (motive:=fun _=>Nat→Bool→Nat→Option V) (fun _ _ _=>none)
  (fun q=>O.rec (motive:=fun _=>Nat→Bool→Nat→Option V) (fun cs _ _ _ o ag sz=>ldC cs o ag sz) (fun _ _ _ _ _=>none) (fun _ _ _ _ _ _ _ _ _ _ _=>none) (fun _ _ _ _=>none) (fun _ _ _ _ _=>none) (fun _ _ _ _ _ _ _=>none) q) q
noncomputable def ldV (v:V):H→TI→Option V :=
 V.rec (motive_1:=fun _=>H→TI→Option V) (motive_2:=fun _=>Unit) (fun _ _ _=>none) (fun _ _ _ _=>none) (fun _ _ _=>none)
  (fun b o h ti=>ldO (H.get h b) o (isAggD (TI.desc ti)) (TI.size ti)) (fun _ _=>none) (fun _ _ _ _ _ _=>none) (fun _ _=>none) (fun _ _ _=>none) (fun _ _=>none)
  (fun _ _ _ _ _ _ _=>none) (fun _ _ _=>none) (fun _ _=>none) (fun _ _ _ _ _=>none) (fun _ _=>none) (fun _ _ _ _=>none) (fun _ _ _ _=>none) () (fun _ _ _ _=>()) v
noncomputable def ldT (r:Option TI) (v:V) (h:H):Option V:=Option.rec (motive:=fun _=>Option V) none (fun ti=>ldV v h ti) r
noncomputable def gLoad (t:TypeId) (a:Operand):G:=fun c e h=>Option.rec (motive:=fun _=>Option AN) none (fun v=>AN.ofV (ldT (T.get (Ctx.ty c) t) v h) h) (e a)
noncomputable def gStore (t:TypeId) (a x:Operand):G:=fun c e h=>match e a,e x with | some p,some v=>(match ast c t h p v with | some h'=>some (.skip h') | none=>none) | _,_=>none
noncomputable def gBin (op:BinOp) (t:TypeId) (x y:Operand):G:=fun c e h=>match e x,e y with | some a,some b=>AN.ofV (abin c op t x y a b) h | _,_=>none
noncomputable def gUn (op:UnOp) (x:Operand):G:=fun _ e h=>match e x with | some v=>AN.ofV (aun op v) h | none=>none
noncomputable def gConv (s d:TypeId) (x:Operand):G:=fun c e h=>match e x with | some v=>AN.ofVH (aconv c s d h v) | none=>none
noncomputable def gField (t:TypeId) (x:Operand) (f:Nat):G:=fun c e h=>match e x with | some v=>AN.ofV (afld c t v f) h | none=>none
noncomputable def gIdxA (t:TypeId) (x ix:Operand):G:=fun c e h=>match e x,e ix with | some a,some b=>AN.ofV (aidx c t a b) h | _,_=>none
noncomputable def gIdx (t:TypeId) (x ix:Operand):G:=fun c e h=>match e x,e ix with | some a,some b=>AN.ofV (aindex c t a b) h | _,_=>none
noncomputable def gExtract (x:Operand) (i:Nat):G:=fun _ e h=>match e x with | some (.tuple l)=>AN.ofV l[i]? h | _=>none
noncomputable def gCall (cl:Call):G:=fun c e h=>acall c cl e h
noncomputable def gCallV (f:Operand) (args:List Operand):G:=fun c e h =>
 match evL e args with
 | none=>none
 | some args =>
  match e f with
  | some (.func (.func g) first captured)=>acallF c h g first args captured
  | some (.yield l)=>some (.round l args)
  | _=>none
noncomputable def gSlice (t:TypeId) (x:Operand) (lo hi mx:Option Operand):G:=fun c e h=>match e x,evO e lo,evO e hi,evO e mx with
  | some v,some a,some b,some m=>AN.ofV (aslice c t h v a b m) h
  | _,_,_,_=>none
noncomputable def gFieldA (t:TypeId) (x:Operand) (f:Nat):G:=fun c e h=>match c.ty.get t,e x with
  | some ti,some (.ptr b o)=>match ti.desc with | .struct fs=>(match fs[f]? with | some fd=>afa c fd b o h | none=>none) | _=>none
  | _,_=>none
noncomputable def gAny (o:Oper):G:=fun c e h=>aop c o e h
noncomputable def gK {β:Type} (o:Oper) (k:G→β):β :=
 match o.op with
 | .load t a=>k (gLoad t a)
 | .store t a x=>k (gStore t a x)
 | .binOp op t x y _=>k (gBin op t x y)
 | .unOp op _ x=>k (gUn op x)
 | .convert s d x=>k (gConv s d x)
 | .field t x f=>k (gField t x f)
 | .indexAddr t x ix=>k (gIdxA t x ix)
 | .index t x ix=>k (gIdx t x ix)
 | .extract x i=>k (gExtract x i)
 | .call cl=>(match cl.callee with | .value f=>k (gCallV f cl.args.toList) | _=>k (gCall cl))
 | .slice t x lo hi mx=>k (gSlice t x lo hi mx)
 | .fieldAddr t x f=>k (gFieldA t x f)
 | _=>k (gAny o)
noncomputable def gOf (o:Oper):G:=gK o fun g=>g
theorem gK_eq {β:Type} (o:Oper) (k:G→β):gK o k=k (gOf o):=by
 unfold gOf gK
 cases ho:o.op <;> dsimp only
 case call cl=>cases cl.callee <;> rfl
theorem ldV_eq (c:Ctx) (t:TypeId) (h:H) (v:V):ldT (c.ty.get t) v h=ald c t h v:=by
 unfold ldT ald
 cases v with
 | ptr b o =>
  show _=(match h.get b with | some (.cells l _ _ _)=>_ | _=>none)
  cases hg:h.get b with
  | none=>cases c.ty.get t with
   | none=>rfl
   | some ti=>show ldO (h.get b) _ _ _=_; rw [hg]; rfl
  | some q =>
   cases c.ty.get t with
   | none=>cases q <;> rfl
   | some ti =>
    show ldO (h.get b) _ _ _=_
    rw [hg]
    cases q with
    | cells cs k w op =>
     show ldC cs o (isAggD ti.desc) ti.size=cond (isAggD ti.desc) _ _
     unfold ldC
     cases isAggD ti.desc <;> rfl
    | _=>rfl
 | _=>cases c.ty.get t <;> rfl
theorem gOf_eq (o:Oper) (c:Ctx) (e:Operand→Option V) (h:H):gOf o c e h=aop c o e h:=by
 unfold gOf gK
 cases ho:o.op <;> dsimp only <;> first
  | rfl
  | (unfold aop; rw [ho]; rfl)
  | skip
 case load t a =>
  unfold aop gLoad; rw [ho]
  dsimp only
  cases e a with
  | none=>rfl
  | some v=>show AN.ofV (ldT (c.ty.get t) v h) h=_; rw [ldV_eq]
 case call cl =>
  have h0:aop c o e h=acall c cl e h:=by unfold aop; rw [ho]
  rw [h0]
  cases hc:cl.callee with
  | value f =>
   show gCallV f cl.args.toList c e h=_
   unfold gCallV acall
   rw [hc]
   cases evL e cl.args.toList <;> rfl
  | _=>rfl
inductive CO where
 | mv (a:Tm→V) (d:DK)
 | bin (f:IntKind→Int→Int→V) (a b:Tm→V) (g:G) (d:DK)
 | gen (g:G) (d:DK)
 | gd (a:Tm→V) (w:Bool) (g:G) (d:DK)
 | off (d:DK)
noncomputable def coGen (o:Oper) (d:Dst):CO:=Dst.rec (motive:=fun _=>CO) (fun d=>gK o fun g=>.gen g d) d
noncomputable def coBin2 (f:IntKind→Int→Int→V) (a b:Src) (o:Oper) (d:Dst):CO :=
 Src.rec (motive:=fun _=>CO) (fun a=>Src.rec (motive:=fun _=>CO) (fun b=>Dst.rec (motive:=fun _=>CO) (fun d=>gK o fun g=>.bin f a b g d) d) b) a
noncomputable def coBin (f:IntKind→Int→Int→V) (x y:Operand) (o:Oper) (d:Dst):CO :=
 match srcO x with
 | none=>coGen o d
 | some a=>match srcO y with
  | none=>coGen o d
  | some b=>coBin2 f a b o d
noncomputable def coMv2 (a:Src) (d:Dst):CO:=Src.rec (motive:=fun _=>CO) (fun a=>Dst.rec (motive:=fun _=>CO) (fun d=>.mv a d) d) a
noncomputable def coMv (x:Operand) (o:Oper) (d:Dst):CO :=
 match srcO x with
 | some a=>coMv2 a d
 | none=>coGen o d
noncomputable def coO (n:Nat) (o:Oper):CO :=
 match o.op with
 | .move x=>coMv x o (dstO n o.dst)
 | .assign x=>coMv x o (dstO n o.dst)
 | .binOp op _ x y _=>(match opY op with | some f=>coBin f x y o (dstO n o.dst) | none=>coGen o (dstO n o.dst))
 | _=>coGen o (dstO n o.dst)
noncomputable def coOff (d:Dst):CO:=Dst.rec (motive:=fun _=>CO) (fun d=>.off d) d
noncomputable def coGd (a:Src) (w:Bool) (o:Oper) (d:Dst):CO:=Src.rec (motive:=fun _=>CO) (fun a=>Dst.rec (motive:=fun _=>CO) (fun d=>gK o fun g=>.gd a w g d) d) a
noncomputable def cgO (n:Nat) (ops:List Oper) (o:Oper):CO :=
 match o.guard with
 | none=>coO n o
 | some (j,w) =>
  match ops[j]? with
  | some o'=>match o'.dst with
   | some d=>coGd (srcT d) w o (dstO n o.dst)
   | none=>coOff (dstO n o.dst)
  | none=>coOff (dstO n o.dst)
noncomputable def cgL (n:Nat) (ops l:List Oper):List CO:=List.rec (motive:=fun _=>List CO) [] (fun o _ r=>cgO n ops o :: r) l
structure En where
 rd:Bool
 kx:AX→R
abbrev IH:Type:=Nat→En→Code→R→R
noncomputable def outK (r:Option Out) (x:En) (k:R):Option Out :=
 match r with
 | some (.done .normal s)=>k s.tm s.dfr s.heap
 | some (.done a s)=>x.kx a s.tm s.dfr s.heap
 | none=>none
noncomputable def evO (ih:IH) (rd:Bool) (code:Code) (s:St):Option Out :=
 St.rec (motive:=fun _=>Option Out) (fun n tm dfr h=>ih n ⟨rd,fun a tm dfr h=>some (.done a ⟨n,tm,dfr,h⟩)⟩ code (fun tm dfr h=>some (.done .normal ⟨n,tm,dfr,h⟩)) tm dfr h) s
structure Pa where
 c:Ctx
 orc:Nat→List V→H→Option (V×H)
noncomputable def callK (r:Option CallOut) (d:DK) (x:En) (k:R) (tm:Tm) (dfr:List AD):Option Out :=
 match r with
 | some (.ret v h)=>d k tm v dfr h
 | some (.panic v h)=>x.kx (.panic v) tm dfr h
 | none=>none
noncomputable def roundK (r:Option CallOut) (d:DK) (k:R) (tm:Tm) (dfr:List AD):Option Out :=
 match r with
 | some (.ret v h)=>d k tm v dfr h
 | _=>none
abbrev AK:Type:=Pa→IH→En→DK→R→Tm→List AD→H→Option Out
noncomputable def anA (an:AN):AK :=
 AN.rec (motive:=fun _=>AK) (fun v h _ _ _ d k tm dfr _=>d k tm v dfr h) (fun h _ _ _ d k tm dfr _=>d k tm undefV dfr h)
  (fun f args p ih x d k tm dfr h0=>callK (callO (Pa.c p) (Pa.orc p) (evO ih) f args h0) d x k tm dfr) (fun l args _ ih _ d k tm dfr h0=>roundK (roundF (evO ih) l args h0) d k tm dfr)
  (fun dd _ _ x d k tm dfr h0=>bsel (En.rd x) none (d k tm undefV (dd :: dfr) h0)) (fun _ _ _ _ _ _ _ _=>none) (fun v h _ _ x _ _ tm dfr _=>En.kx x (.panic v) tm dfr h) an
noncomputable def anK (r:Option AN):AK :=
 Option.rec (motive:=fun _=>AK) (fun _ _ _ _ _ _ _ _=>none) (fun an=>anA an) r
noncomputable def genY (p:Pa) (ih:IH) (x:En) (g:G) (d:DK) (k:R) (tm:Tm) (dfr:List AD) (h:H):Option Out:=anK (g (Pa.c p) (evY tm) h) p ih x d k tm dfr h
noncomputable def coY (co:CO):Pa→IH→En→R→R :=
 CO.rec (motive:=fun _=>Pa→IH→En→R→R) (fun a d _ _ _ k tm=>d k tm (a tm))
  (fun f a b g d p ih x k tm dfr h=>binA (a tm) (b tm) f d k tm dfr h (genY p ih x g d k tm dfr h))
  (fun g d p ih x k tm dfr h=>genY p ih x g d k tm dfr h)
  (fun a w g d p ih x k tm dfr h=>bsel (isB w (a tm)) (genY p ih x g d k tm dfr h) (d k tm undefV dfr h))
  (fun d _ _ _ k tm=>d k tm undefV) co
noncomputable def opsY (l:List CO):Pa→IH→En→R→R :=
 List.rec (motive:=fun _=>Pa→IH→En→R→R) (fun _ _ _ k=>k) (fun g _ r p ih x k =>
  CO.rec (motive:=fun _=>Pa→IH→En→R→R) (fun a d _ _ _ k tm=>d k tm (a tm))
  (fun f a b g d p ih x k tm dfr h=>binA (a tm) (b tm) f d k tm dfr h (genY p ih x g d k tm dfr h))
  (fun g d p ih x k tm dfr h=>genY p ih x g d k tm dfr h)
  (fun a w g d p ih x k tm dfr h=>bsel (isB w (a tm)) (genY p ih x g d k tm dfr h) (d k tm undefV dfr h))
  (fun d _ _ _ k tm=>d k tm undefV) g p ih x (r p ih x k)) l
inductive CV where
 | skip
 | region (l:List CO)
 | draw (ops:Array Oper)
 | seq (a b:Code)
 | cnd (s:Tm→V) (a b:Code)
 | block (id:Nat) (b:Code)
 | loop (b:Code)
 | scope (b:Code)
 | exit (id:Nat)
 | ret
 | range (f:Operand) (ps:Array Tmp) (asg body:Code)
 | bad
noncomputable def cvCnd (s:Src) (a b:Code):CV:=Src.rec (motive:=fun _=>CV) (fun s=>.cnd s a b) s
noncomputable def view (n:Nat) (code:Code):CV :=
 match code with
 | .skip=>.skip
 | .region _ ops draw=>(match draw with | true=>.draw ops | false=>.region (cgL n ops.toList ops.toList))
 | .seq a b=>.seq a b
 | .cond x a b=>(match srcO x with | some s=>cvCnd s a b | none=>.bad)
 | .block id b=>.block id b
 | .loop b=>.loop b
 | .scope b=>.scope b
 | .label _=>.skip
 | .exit id=>.exit id
 | .ret=>.ret
 | .rangeFunc f ps asg body=>.range f ps asg body
 | _=>.bad
noncomputable def kBlock (i:Nat) (k:R) (kx:AX→R) (a:AX):R :=
 AX.rec (motive:=fun _=>R) (kx .normal) (fun id=>bsel (Nat.beq id i) k (kx (.exit id))) (kx .ret) (fun v=>kx (.panic v)) a
noncomputable def withLow (h:H) (l:Nat):H:=H.rec (motive:=fun _=>H) (fun t n _=>⟨t,n,l⟩) h
noncomputable def lowMin (h h':H):H:=H.rec (motive:=fun _=>H) (fun _ _ l=>H.rec (motive:=fun _=>H) (fun t' n' l'=>⟨t',n',cond (Nat.ble l l') l l'⟩) h') h
noncomputable def noX (_:AX):R:=fun _ _ _=>none
noncomputable def drawK (ops:List Oper) (bs:List Nat) (m k:Nat) (o:Oper) (tm:Tm) (dfr:List AD) (h:H) (next:R):R:=fun tm' dfr' h' =>
 bsel (Nat.ble (H.next h) (H.low h') || storeOk ops bs m k tm o) (bsel (sameLen dfr dfr') (next tm' dfr' (lowMin h h')) none) none
noncomputable def wantY (ops:List Oper) (tm:Tm) (o:Oper):Bool :=
 match o.guard with
 | none=>true
 | some (j,w) =>
  match ops[j]? with
  | some o'=>match o'.dst with
   | some d=>isB w (rdS (srcT d) tm)
   | none=>false
  | none=>false
theorem wantY_eq (ops:List Oper) (tm:Tm) (o:Oper):wantY ops tm o=wantedB ops tm o:=by
 unfold wantY wantedB
 cases o.guard with
 | none=>rfl
 | some g =>
  obtain ⟨j,w⟩:=g
  dsimp only
  cases ops[j]? with
  | none=>rfl
  | some o' =>
   dsimp only
   cases o'.dst with
   | none=>rfl
   | some d=>dsimp only; rw [rdS_srcT]; rfl
noncomputable def drawX (ops:List Oper) (bs:List Nat) (m n:Nat) (l:List Oper):Nat→Nat→Pa→IH→En→R→R :=
 List.rec (motive:=fun _=>Nat→Nat→Pa→IH→En→R→R) (fun _ _ _ _ _ k=>k)
  (fun o l rec r i p ih x k tm dfr h =>
   Nat.rec (motive:=fun _=>Option Out) (opsY (cgL n ops (o :: l)) p ih x k tm dfr h)
    (fun r' _=>bsel (wantY ops tm o)
     (coY (coO n o) p ih ⟨En.rd x,noX⟩ (drawK ops bs m i o tm dfr h (rec r' (i+1) p ih x k)) tm dfr (withLow h T.top))
     (putS (dstO n o.dst) (rec r' (i+1) p ih x k) tm undefV dfr h)) r) l
noncomputable def drawY (p:Pa) (ih:IH) (n:Nat) (x:En) (ops:List Oper) (k:R):R :=
 match drawOk ops with | some m=>drawX ops (befores ops []) m n ops m 0 p ih x k | none=>fun _ _ _=>none
noncomputable def exY (p:Pa) (f:Nat):IH:=Nat.rec (motive:=fun _=>IH) (fun _ _ _ _ _ _ _=>none) (fun _ ih n x code k =>
 CV.rec (motive:=fun _=>Pa→IH→Nat→En→R→R) (fun _ _ _ _ k=>k)
  (fun l p ih _ x k=>opsY l p ih x k)
  (fun ops p ih n x k=>drawY p ih n x ops.toList k)
  (fun a b _ ih n x k=>ih n x a (ih n x b k))
  (fun s a b _ ih n x k tm dfr h=>boolA (s tm) (ih n x a k tm dfr h) (ih n x b k tm dfr h))
  (fun id b _ ih n x k=>ih n ⟨En.rd x,kBlock id k (En.kx x)⟩ b k)
  (fun b _ ih n x k=>ih n x b (ih n x (.loop b) k))
  (fun b _ ih n x k=>ih n x b k)
  (fun id _ _ _ x _=>En.kx x (.exit id))
  (fun _ _ _ x _=>En.kx x .ret)
  (fun f ps asg body p ih n x k tm dfr h=>outK (rangeF (Pa.c p) (Pa.orc p) (evO ih) (En.rd x) f ps asg body ⟨n,tm,dfr,h⟩) x k)
  (fun _ _ _ _ _ _ _ _=>none) (view n code) p ih n x k) f
noncomputable def cvY (v:CV):Pa→IH→Nat→En→R→R :=
 CV.rec (motive:=fun _=>Pa→IH→Nat→En→R→R) (fun _ _ _ _ k=>k)
  (fun l p ih _ x k=>opsY l p ih x k)
  (fun ops p ih n x k=>drawY p ih n x ops.toList k)
  (fun a b _ ih n x k=>ih n x a (ih n x b k))
  (fun s a b _ ih n x k tm dfr h=>boolA (s tm) (ih n x a k tm dfr h) (ih n x b k tm dfr h))
  (fun id b _ ih n x k=>ih n ⟨En.rd x,kBlock id k (En.kx x)⟩ b k)
  (fun b _ ih n x k=>ih n x b (ih n x (.loop b) k))
  (fun b _ ih n x k=>ih n x b k)
  (fun id _ _ _ x _=>En.kx x (.exit id))
  (fun _ _ _ x _=>En.kx x .ret)
  (fun f ps asg body p ih n x k tm dfr h=>outK (rangeF (Pa.c p) (Pa.orc p) (evO ih) (En.rd x) f ps asg body ⟨n,tm,dfr,h⟩) x k)
  (fun _ _ _ _ _ _ _ _=>none) v
theorem exY_succ (p:Pa) (f n:Nat) (x:En) (code:Code) (k:R):exY p (f+1) n x code k=cvY (view n code) p (exY p f) n x k:=rfl
section
variable (c:Ctx) (orc:Nat→List V→H→Option (V×H))
noncomputable def run (n:Nat) (f:Nat) (args:List V) (h:H):Option CallOut:=callO c orc (evO (exY ⟨c,orc⟩ n)) f args h
theorem genY_eq (ih:IH) (n:Nat) (x:En) (o:Oper) (k:R) (tm:Tm) (dfr:List AD) (h:H) :
    genY ⟨c,orc⟩ ih x (gOf o) (putS (dstO n o.dst)) k tm dfr h =
      (match stepOp c orc x.rd (evO ih) o ⟨n,tm,dfr,h⟩ with
       | some (.normal,s')=>k s'.tm s'.dfr s'.heap
       | some (a,s')=>x.kx a s'.tm s'.dfr s'.heap
       | none=>none):=by
  unfold genY stepOp
  rw [evY_eq,gOf_eq]
  dsimp only
  cases aop c o (evx tm) h with
  | none=>rfl
  | some an =>
    cases an with
    | val v h' =>
      show putS (dstO n o.dst) k tm v dfr h'=_
      rw [putS_eq n o.dst k tm v dfr h' h]
      dsimp only
      cases putD ⟨n,tm,dfr,h⟩ o.dst v h' <;> rfl
    | skip h' =>
      show putS (dstO n o.dst) k tm undefV dfr h'=_
      rw [putS_eq n o.dst k tm undefV dfr h' h]
      dsimp only
      cases putD ⟨n,tm,dfr,h⟩ o.dst undefV h' <;> rfl
    | call f args =>
      show callK (callO c orc (evO ih) f args h) _ x k tm dfr=_
      dsimp only
      cases callO c orc (evO ih) f args h with
      | none=>rfl
      | some r =>
        cases r with
        | ret v h' =>
          show putS (dstO n o.dst) k tm v dfr h'=_
          rw [putS_eq n o.dst k tm v dfr h' h]
          dsimp only
          cases putD ⟨n,tm,dfr,h⟩ o.dst v h' <;> rfl
        | panic v h'=>rfl
    | round l args =>
      show roundK (roundF (evO ih) l args h) _ k tm dfr=_
      dsimp only
      cases roundF (evO ih) l args h with
      | none=>rfl
      | some r =>
        cases r with
        | ret v h' =>
          show putS (dstO n o.dst) k tm v dfr h'=_
          rw [putS_eq n o.dst k tm v dfr h' h]
          dsimp only
          cases putD ⟨n,tm,dfr,h⟩ o.dst v h' <;> rfl
        | panic v h'=>rfl
    | dfr d =>
      show bsel x.rd none (putS (dstO n o.dst) k tm undefV (d :: dfr) h)=_
      rw [bsel_eq,putS_eq n o.dst k tm undefV (d :: dfr) h h]
      dsimp only
      cases x.rd with
      | true=>rfl
      | false =>
        simp only [cond_false]
        cases putD ⟨n,tm,d :: dfr,h⟩ o.dst undefV h <;> rfl
    | recover=>rfl
    | pan v h'=>rfl
theorem coGen_eq (o:Oper) (d:Dst):coGen o d = .gen (gOf o) (putS d):=by
 obtain ⟨d⟩:=d
 exact gK_eq o fun g=>CO.gen g d
theorem coMv2_eq (a:Src) (d:Dst):coMv2 a d = .mv (rdS a) (putS d):=by cases a; cases d; rfl
theorem coBin2_eq (f:IntKind→Int→Int→V) (a b:Src) (o:Oper) (d:Dst):coBin2 f a b o d = .bin f (rdS a) (rdS b) (gOf o) (putS d):=by
 obtain ⟨a⟩:=a; obtain ⟨b⟩:=b; obtain ⟨d⟩:=d
 exact gK_eq o fun g=>CO.bin f a b g d
theorem coGd_eq (a:Src) (w:Bool) (o:Oper) (d:Dst):coGd a w o d = .gd (rdS a) w (gOf o) (putS d):=by
 obtain ⟨a⟩:=a; obtain ⟨d⟩:=d
 exact gK_eq o fun g=>CO.gd a w g d
theorem coOff_eq (d:Dst):coOff d = .off (putS d):=by cases d; rfl
theorem cvCnd_eq (s:Src) (a b:Code):cvCnd s a b = .cnd (rdS s) a b:=by cases s; rfl
theorem coY_eq (ih : IH) (n : Nat) (x : En) (o : Oper) (k : R) (tm : Tm) (dfr : List AD) (h : H) :
    coY (coO n o) ⟨c, orc⟩ ih x k tm dfr h =
      (match stepOp c orc x.rd (evO ih) o ⟨n, tm, dfr, h⟩ with
       | some (.normal, s') => k s'.tm s'.dfr s'.heap
       | some (a, s') => x.kx a s'.tm s'.dfr s'.heap
       | none => none) := by
  have gen : coY (coGen o (dstO n o.dst)) ⟨c, orc⟩ ih x k tm dfr h =
      (match stepOp c orc x.rd (evO ih) o ⟨n, tm, dfr, h⟩ with
       | some (.normal, s') => k s'.tm s'.dfr s'.heap
       | some (a, s') => x.kx a s'.tm s'.dfr s'.heap
       | none => none) := by
    rw [coGen_eq]; exact genY_eq c orc ih n x o k tm dfr h
  have mv : ∀ y, aop c o (evx tm) h = AN.ofV (evx tm y) h → coY (coMv y o (dstO n o.dst)) ⟨c, orc⟩ ih x k tm dfr h =
      (match stepOp c orc x.rd (evO ih) o ⟨n, tm, dfr, h⟩ with
       | some (.normal, s') => k s'.tm s'.dfr s'.heap
       | some (a, s') => x.kx a s'.tm s'.dfr s'.heap
       | none => none) := by
    intro y hy
    unfold coMv
    cases hs : srcO y with
    | none => exact gen
    | some s =>
      dsimp only
      rw [coMv2_eq]
      show putS (dstO n o.dst) k tm (rdS s tm) dfr h = _
      rw [putS_eq n o.dst k tm (rdS s tm) dfr h h]
      unfold stepOp
      dsimp only
      rw [hy, srcO_some hs]
      dsimp only [AN.ofV]
      cases putD ⟨n, tm, dfr, h⟩ o.dst (rdS s tm) h <;> rfl
  unfold coO
  split
  · rename_i y ho
    exact mv y (by unfold aop; rw [ho])
  · rename_i y ho
    exact mv y (by unfold aop; rw [ho])
  · rename_i op t y z t2 ho
    split
    · rename_i f hf
      unfold coBin
      cases hy : srcO y with
      | none => exact gen
      | some a =>
        cases hz : srcO z with
        | none => exact gen
        | some b =>
          have hrest := genY_eq c orc ih n x o k tm dfr h
          dsimp only
          rw [coBin2_eq]
          show binA (rdS a tm) (rdS b tm) f (putS (dstO n o.dst)) k tm dfr h (genY ⟨c, orc⟩ ih x (gOf o) (putS (dstO n o.dst)) k tm dfr h) = _
          have e1 := srcO_some hy tm
          have e2 := srcO_some hz tm
          by_cases h1 : ∃ k1 m, rdS a tm = .int k1 m
          · obtain ⟨k1, m, h1⟩ := h1
            rw [h1]
            by_cases h2 : ∃ k2 n', rdS b tm = .int k2 n'
            · obtain ⟨k2, n', h2⟩ := h2
              rw [h2, binA_int, putS_eq n o.dst k tm (f k1 m n') dfr h h]
              rw [h1] at e1; rw [h2] at e2
              obtain ⟨q1, q2⟩ := opY_eq hf k1 m n'
              have ha : aop c o (evx tm) h = AN.ofV (cond (kindEq k1 k2) (some (f k1 m n')) none) h := by
                unfold aop; rw [ho]
                simp only [e1, e2, abin, q2, cond_false, q1]
              unfold stepOp
              dsimp only
              rw [ha]
              cases kindEq k1 k2 with
              | false => rfl
              | true =>
                simp only [cond_true, AN.ofV]
                cases putD ⟨n, tm, dfr, h⟩ o.dst (f k1 m n') h <;> rfl
            · rw [binA_r _ _ (fun k2 n' e => h2 ⟨k2, n', e⟩)]; exact hrest
          · rw [binA_l _ (fun k1 m e => h1 ⟨k1, m, e⟩)]; exact hrest
    · exact gen
  · exact gen
theorem cgY_eq (ih : IH) (n : Nat) (x : En) (ops : List Oper) (o : Oper) (k : R) (tm : Tm) (dfr : List AD) (h : H) :
    coY (cgO n ops o) ⟨c, orc⟩ ih x k tm dfr h =
      cond (wantedB ops tm o)
        (match stepOp c orc x.rd (evO ih) o ⟨n, tm, dfr, h⟩ with
         | some (.normal, s') => k s'.tm s'.dfr s'.heap
         | some (a, s') => x.kx a s'.tm s'.dfr s'.heap
         | none => none)
        (putP (putD ⟨n, tm, dfr, h⟩ o.dst undefV h) k) := by
  have off : coY (coOff (dstO n o.dst)) ⟨c, orc⟩ ih x k tm dfr h = putP (putD ⟨n, tm, dfr, h⟩ o.dst undefV h) k := by rw [coOff_eq]; exact putS_eq _ _ _ _ _ _ _ _
  unfold cgO wantedB
  cases o.guard with
  | none => exact coY_eq c orc ih n x o k tm dfr h
  | some g =>
    obtain ⟨j, w⟩ := g
    dsimp only
    cases ops[j]? with
    | none => exact off
    | some o' =>
      dsimp only
      cases o'.dst with
      | none => exact off
      | some d =>
        dsimp only
        rw [coGd_eq]
        show bsel (isB w (rdS (srcT d) tm)) (genY ⟨c, orc⟩ ih x (gOf o) (putS (dstO n o.dst)) k tm dfr h) (putS (dstO n o.dst) k tm undefV dfr h) = _
        rw [bsel_eq, rdS_srcT, genY_eq, putS_eq n o.dst k tm undefV dfr h h]
        rfl
theorem opsY_eq (ih:IH) (n:Nat) (x:En) (ops:List Oper)
  (hn:∀ o s a s',stepOp c orc x.rd (evO ih) o s=some (a,s')→s'.n=s.n) :
  ∀ (l:List Oper) (k:R) (tm:Tm) (dfr:List AD) (h:H),opsY (cgL n ops l) ⟨c,orc⟩ ih x k tm dfr h=outK (opsF c orc x.rd (evO ih) ops l ⟨n,tm,dfr,h⟩) x k:=by
 intro l
 induction l with
 | nil=>intro k tm dfr h; rfl
 | cons o l ihl =>
  intro k tm dfr h
  show coY (cgO n ops o) ⟨c,orc⟩ ih x (opsY (cgL n ops l) ⟨c,orc⟩ ih x k) tm dfr h=_
  rw [cgY_eq]
  simp only [opsF]
  cases wantedB ops tm o with
  | true =>
   simp only [cond_true]
   cases hs:stepOp c orc x.rd (evO ih) o ⟨n,tm,dfr,h⟩ with
   | none=>rfl
   | some p =>
    obtain ⟨a,s'⟩:=p
    have hsn:=hn _ _ _ _ hs
    obtain ⟨n',tm',dfr',h'⟩:=s'
    simp only at hsn
    subst hsn
    cases a with
    | normal=>exact ihl k tm' dfr' h'
    | _=>rfl
  | false =>
   simp only [cond_false]
   cases hp:putD ⟨n,tm,dfr,h⟩ o.dst undefV h with
   | none=>rfl
   | some s' =>
    obtain ⟨_,e⟩:=putD_some hp
    subst e
    exact ihl k _ _ _
theorem stepOp_n {rd:Bool} {ih:Bool→Code→St→Option Out} {o:Oper} {s s':St} {a:AX} (e:stepOp c orc rd ih o s=some (a,s')):s'.n=s.n:=by
 have put:∀ (s0:St) (v:V) (h:H),s0.n=s.n→(match putD s0 o.dst v h with | some s'=>some (AX.normal,s') | none=>none)=some (a,s')→s'.n=s.n:=by
  intro s0 v h h0 hp
  split at hp
  ·rename_i s2 h2
   simp only [Option.some.injEq,Prod.mk.injEq] at hp
   obtain ⟨_,rfl⟩:=hp
   obtain ⟨_,e⟩:=putD_some h2
   rw [e]; exact h0
  ·cases hp
 unfold stepOp at e
 split at e
 ·cases e
 ·exact put _ _ _ rfl e
 ·exact put _ _ _ rfl e
 ·split at e
  ·exact put _ _ _ rfl e
  ·simp only [Option.some.injEq,Prod.mk.injEq] at e; obtain ⟨_,rfl⟩:=e; rfl
  ·cases e
 ·split at e
  ·exact put _ _ _ rfl e
  ·cases e
 ·cases hr:rd with
  | true=>simp [hr] at e
  | false=>simp only [hr,cond_false] at e; revert e; intro e; refine put _ _ _ ?_ e; rfl
 ·simp only [Option.some.injEq,Prod.mk.injEq] at e; obtain ⟨_,rfl⟩:=e; rfl
 ·cases e
theorem opsF_n {rd:Bool} {ih:Bool→Code→St→Option Out} {ops:List Oper}:∀ (l:List Oper) {s s':St} {a:AX},opsF c orc rd ih ops l s=some (.done a s')→s'.n=s.n:=by
 intro l
 induction l with
 | nil=>intro s s' a e; simp only [opsF,Option.some.injEq,Out.done.injEq] at e; rw [← e.2]
 | cons o l ihl =>
  intro s s' a e
  simp only [opsF] at e
  cases hw:wantedB ops s.tm o with
  | true =>
   simp only [hw,cond_true] at e
   split at e
   ·rename_i s1 h1; exact (ihl e).trans (stepOp_n c orc h1)
   ·rename_i x s1 _ h1
    simp only [Option.some.injEq,Out.done.injEq] at e
    obtain ⟨_,rfl⟩:=e
    exact stepOp_n c orc h1
   ·cases e
  | false =>
   simp only [hw,cond_false] at e
   split at e
   ·rename_i s1 h1
    obtain ⟨_,e1⟩:=putD_some h1
    rw [ihl e,e1]
   ·cases e
theorem drawF_n {rd:Bool} {ih:Bool→Code→St→Option Out} {ops:List Oper} {bs:List Nat} {m:Nat}:∀ (l:List Oper) (r k:Nat) {s s':St} {a:AX},drawF c orc rd ih ops bs m r k l s=some (.done a s')→s'.n=s.n:=by
 intro l
 induction l with
 | nil=>intro r k s s' a e; cases r <;> (simp only [drawF,Option.some.injEq,Out.done.injEq] at e; rw [← e.2])
 | cons o l ihl =>
  intro r k s s' a e
  cases r with
  | zero=>simp only [drawF] at e; exact opsF_n c orc _ e
  | succ r =>
   simp only [drawF] at e
   cases hw:wantedB ops s.tm o with
   | true =>
    simp only [hw,cond_true] at e
    split at e
    ·rename_i s1 h1
     cases h2:(Nat.ble s.heap.next s1.heap.low || storeOk ops bs m k s.tm o) with
     | false=>simp [h2] at e
     | true =>
      simp only [h2,cond_true] at e
      cases h3:sameLen s.dfr s1.dfr with
      | false=>simp [h3] at e
      | true =>
       simp only [h3,cond_true] at e
       have h4:=stepOp_n c orc h1
       have h5:=ihl _ _ e
       exact h5.trans h4
    ·cases e
   | false =>
    simp only [hw,cond_false] at e
    split at e
    ·rename_i s1 h1
     obtain ⟨_,e1⟩:=putD_some h1
     rw [ihl _ _ e,e1]
    ·cases e
theorem rangeEnd_n {d l:Nat} {s s':St} {h3:H} {a:AX} (e:rangeEnd d l s h3=some (.done a s')):s'.n=s.n:=by
 unfold rangeEnd at e
 split at e
 ·split at e
  ·cases e
  ·split at e <;> first
    | (cases e; done)
    | (simp only [Option.some.injEq,Out.done.injEq] at e; rw [← e.2])
 ·cases e
theorem rangeF_n {rd:Bool} {ih:Bool→Code→St→Option Out} {f:Operand} {ps:Array Tmp} {asg body:Code} {s s':St} {a:AX} (e:rangeF c orc ih rd f ps asg body s=some (.done a s')):s'.n=s.n:=by
 unfold rangeF at e
 split at e
 ·cases hc:(rd || !(Nat.blt (s.heap.next+1) T.top)) with
  | true=>simp [hc] at e
  | false =>
   simp only [hc,cond_false] at e
   split at e
   ·exact rangeEnd_n e
   ·cases e
 ·cases e
theorem ev_n:∀ (f:Nat) {rd:Bool} {code:Code} {s s':St} {a:AX},Sim.ev c orc f rd code s=some (.done a s')→s'.n=s.n:=by
 intro f
 induction f with
 | zero=>intro rd code s s' a e; cases e
 | succ f ih =>
  intro rd code s s' a e
  have e:stepC c orc (Sim.ev c orc f) rd code s=some (.done a s'):=e
  cases code with
  | region id ops draw =>
   simp only [stepC] at e
   cases draw with
   | true =>
    simp only [cond_true] at e
    split at e
    ·exact drawF_n c orc _ _ _ e
    ·cases e
   | false=>simp only [cond_false] at e; exact opsF_n c orc _ e
  | seq x y =>
   simp only [stepC] at e
   split at e
   ·rename_i s1 h1; exact (ih e).trans (ih h1)
   ·exact ih e
  | cond x p q =>
   simp only [stepC] at e
   split at e
   ·rename_i t _; cases t <;> exact ih e
   ·cases e
  | block id b =>
   simp only [stepC] at e
   split at e
   ·rename_i i s1 h1
    cases hb:Nat.beq i id with
    | true=>simp only [hb,cond_true,Option.some.injEq,Out.done.injEq] at e; rw [← e.2]; exact ih h1
    | false=>simp only [hb,cond_false,Option.some.injEq,Out.done.injEq] at e; rw [← e.2]; exact ih h1
   ·exact ih e
  | loop b =>
   simp only [stepC] at e
   split at e
   ·rename_i s1 h1; exact (ih e).trans (ih h1)
   ·exact ih e
  | scope b=>exact ih e
  | rangeFunc g ps asg body=>simp only [stepC] at e; exact rangeF_n c orc e
  | skip | label | exit | ret=>simp only [stepC,Option.some.injEq,Out.done.injEq] at e; rw [← e.2]
  | goto | refuse=>simp [stepC] at e
theorem withLow_eq (h:H) (l:Nat):withLow h l = { h with low:=l }:=by cases h; rfl
theorem lowMin_eq (h h':H):lowMin h h' = { h' with low:=cond (Nat.ble h.low h'.low) h.low h'.low }:=by cases h; cases h'; rfl
theorem drawX_eq (ih:IH) (n:Nat) (x:En) (ops:List Oper) (bs:List Nat) (m:Nat):∀ (l:List Oper) (r i:Nat) (k:R) (tm:Tm) (dfr:List AD) (h:H),
  drawX ops bs m n l r i ⟨c,orc⟩ ih x k tm dfr h=outK (drawF c orc x.rd (evO ih) ops bs m r i l ⟨n,tm,dfr,h⟩) x k:=by
 intro l
 induction l with
 | nil=>intro r i k tm dfr h; cases r <;> (simp only [drawF]; rfl)
 | cons o l ihl =>
  intro r i k tm dfr h
  cases r with
  | zero =>
   simp only [drawF]
   exact opsY_eq c orc ih n x ops (fun o s a s' e=>stepOp_n c orc e) (o :: l) k tm dfr h
  | succ r =>
   show bsel (wantY ops tm o) (coY (coO n o) ⟨c,orc⟩ ih ⟨x.rd,noX⟩ (drawK ops bs m i o tm dfr h (drawX ops bs m n l r (i+1) ⟨c,orc⟩ ih x k)) tm dfr (withLow h T.top))
    (putS (dstO n o.dst) (drawX ops bs m n l r (i+1) ⟨c,orc⟩ ih x k) tm undefV dfr h)=_
   simp only [drawF]
   rw [bsel_eq,wantY_eq,coY_eq,putS_eq n o.dst _ tm undefV dfr h h,withLow_eq]
   cases wantedB ops tm o with
   | true =>
    simp only [cond_true]
    cases hs:stepOp c orc x.rd (evO ih) o ⟨n,tm,dfr,{ h with low:=T.top }⟩ with
    | none=>rfl
    | some q =>
     obtain ⟨a,s'⟩:=q
     have hn:s'.n=n:=stepOp_n c orc hs
     obtain ⟨n',tm',dfr',h'⟩:=s'
     simp only at hn
     subst hn
     cases a with
     | normal =>
      show drawK ops bs m i o tm dfr h (drawX ops bs m n' l r (i+1) ⟨c,orc⟩ ih x k) tm' dfr' h'=_
      unfold drawK
      rw [bsel_eq,bsel_eq,ihl,lowMin_eq]
      dsimp only
      cases (Nat.ble h.next h'.low || storeOk ops bs m i tm o) with
      | false=>rfl
      | true =>
       simp only [cond_true]
       cases sameLen dfr dfr' <;> rfl
     | _=>rfl
   | false =>
    simp only [cond_false]
    cases hp:putD ⟨n,tm,dfr,h⟩ o.dst undefV h with
    | none=>rfl
    | some s' =>
     obtain ⟨_,e⟩:=putD_some hp
     subst e
     exact ihl r (i+1) k _ _ _
theorem outK_id {r:Option Out} {n:Nat} {rd:Bool} (h:∀ a s',r=some (.done a s')→s'.n=n) :
  outK r ⟨rd,fun a tm dfr h=>some (.done a ⟨n,tm,dfr,h⟩)⟩ (fun tm dfr h=>some (.done .normal ⟨n,tm,dfr,h⟩))=r:=by
 cases r with
 | none=>rfl
 | some o =>
  obtain ⟨a,s⟩:=o
  have:=h a s rfl
  obtain ⟨n',tm,dfr,h'⟩:=s
  simp only at this
  subst this
  cases a <;> rfl
theorem exY_eq:∀ (f n:Nat) (x:En) (code:Code) (k:R) (tm:Tm) (dfr:List AD) (h:H),
  exY ⟨c,orc⟩ f n x code k tm dfr h=outK (Sim.ev c orc f x.rd code ⟨n,tm,dfr,h⟩) x k:=by
 intro f
 induction f with
 | zero=>intro n x code k tm dfr h; rfl
 | succ f ih =>
  have hO:evO (exY ⟨c,orc⟩ f)=Sim.ev c orc f:=by
   funext rd code s
   obtain ⟨n,tm,dfr,h⟩:=s
   show exY ⟨c,orc⟩ f n _ code _ tm dfr h=_
   rw [ih]
   exact outK_id fun a s' e=>ev_n c orc f e
  intro n x code k tm dfr h
  show exY ⟨c,orc⟩ (f+1) n x code k tm dfr h=outK (stepC c orc (Sim.ev c orc f) x.rd code ⟨n,tm,dfr,h⟩) x k
  cases code with
  | region id ops draw =>
   cases draw with
   | true =>
    show drawY ⟨c,orc⟩ (exY ⟨c,orc⟩ f) n x ops.toList k tm dfr h=_
    unfold drawY
    simp only [stepC,cond_true]
    cases hd:drawOk ops.toList with
    | none=>rfl
    | some m =>
     dsimp only
     rw [drawX_eq c orc (exY ⟨c,orc⟩ f) n x ops.toList (befores ops.toList []) m,hO]
   | false =>
    show opsY (cgL n ops.toList ops.toList) ⟨c,orc⟩ (exY ⟨c,orc⟩ f) x k tm dfr h=_
    rw [opsY_eq c orc (exY ⟨c,orc⟩ f) n x ops.toList (fun o s a s' e=>stepOp_n c orc e),hO]
    rfl
  | seq a b =>
   show exY ⟨c,orc⟩ f n x a (exY ⟨c,orc⟩ f n x b k) tm dfr h=_
   rw [ih]
   simp only [stepC]
   cases hr:Sim.ev c orc f x.rd a ⟨n,tm,dfr,h⟩ with
   | none=>rfl
   | some o =>
    obtain ⟨y,s⟩:=o
    have hn:=ev_n c orc f hr
    obtain ⟨n',tm',dfr',h'⟩:=s
    simp only at hn
    subst hn
    cases y with
    | normal=>exact ih _ _ _ _ _ _ _
    | _=>rfl
  | cond y a b =>
   rw [exY_succ]
   unfold view
   dsimp only
   simp only [stepC]
   cases hs:srcO y with
   | none =>
    rw [srcO_none hs]
    rfl
   | some s =>
    rw [srcO_some hs]
    dsimp only
    rw [cvCnd_eq]
    show boolA (rdS s tm) (exY ⟨c,orc⟩ f n x a k tm dfr h) (exY ⟨c,orc⟩ f n x b k tm dfr h)=_
    by_cases hb:∃ t,rdS s tm = .bool t
    ·obtain ⟨t,hb⟩:=hb
     rw [hb,boolA_bool,ih,ih]
     cases t <;> rfl
    ·rw [boolA_other (fun t e=>hb ⟨t,e⟩)]
     split
     ·rename_i t e; simp only [Option.some.injEq] at e; exact absurd ⟨t,e⟩ hb
     ·rfl
  | block id b =>
   show exY ⟨c,orc⟩ f n ⟨x.rd,kBlock id k x.kx⟩ b k tm dfr h=_
   rw [ih]
   simp only [stepC]
   cases Sim.ev c orc f x.rd b ⟨n,tm,dfr,h⟩ with
   | none=>rfl
   | some o =>
    obtain ⟨y,s⟩:=o
    cases y with
    | exit i =>
     show bsel (Nat.beq i id) k (x.kx (.exit i)) s.tm s.dfr s.heap=_
     rw [bsel_eq]
     dsimp only
     cases Nat.beq i id <;> rfl
    | _=>rfl
  | loop b =>
   show exY ⟨c,orc⟩ f n x b (exY ⟨c,orc⟩ f n x (.loop b) k) tm dfr h=_
   rw [ih]
   simp only [stepC]
   cases hr:Sim.ev c orc f x.rd b ⟨n,tm,dfr,h⟩ with
   | none=>rfl
   | some o =>
    obtain ⟨y,s⟩:=o
    have hn:=ev_n c orc f hr
    obtain ⟨n',tm',dfr',h'⟩:=s
    simp only at hn
    subst hn
    cases y with
    | normal=>exact ih _ _ _ _ _ _ _
    | _=>rfl
  | scope b=>exact ih _ _ _ _ _ _ _
  | rangeFunc g ps asg body =>
   show outK (rangeF c orc (evO (exY ⟨c,orc⟩ f)) x.rd g ps asg body ⟨n,tm,dfr,h⟩) x k=_
   rw [hO]
   rfl
  | _=>rfl
theorem evO_eq (f:Nat):evO (exY ⟨c,orc⟩ f)=Sim.ev c orc f:=by
 funext rd code s
 obtain ⟨n,tm,dfr,h⟩:=s
 show exY ⟨c,orc⟩ f n _ code _ tm dfr h=_
 rw [exY_eq]
 exact outK_id fun a s' e=>ev_n c orc f e
theorem run_eq (n f:Nat) (args:List V) (h:H):run c orc n f args h=Sim.run c orc n f args h:=by
 unfold run Sim.run
 rw [evO_eq]
end
theorem sound {P:Program} {c:Ctx} {orc:Nat→List V→H→Option (V×H)} (ok:CtxOK P c) (hor:OrcOk P c orc) {n f:Nat} {args:List V} {h:H} {out:CallOut} (e:run c orc n f args h=some out):SimF P f args h out :=
 run_sound ok hor (by rw [← run_eq]; exact e)
end X
end Go.Sim
