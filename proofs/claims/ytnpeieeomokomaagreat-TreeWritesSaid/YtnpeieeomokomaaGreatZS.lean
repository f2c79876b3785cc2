/- S. No condition. -/
import Derived.Test.YtnpeieeomokomaaGreatZR
import Derived.Test.YtnpeieeomokomaaGreatZQ
noncomputable section
namespace Go.Sim
section
variable {P:Program}{c:Ctx}{orc:Nat->List V->H->Option (V×H)}
def Claim (P:Program) (rd:Option Nat) (code:Code) (s:St) (x:AX) (s':St):Prop :=
 match code with
 | .loop b=>SimL P rd b s x s'
 | code=>SimC P rd code s x s'
theorem Claim.sim {rd:Option Nat}{code:Code}{s s':St}{x:AX}(h:Claim P rd code s x s'):SimC P rd code s x s':=by
 cases code<;>first|exact h|exact SimL.loop h
def IH2 (P:Program) (ih:Bool->Code->St->Option Out):Prop:=∀rd code s x s',ih (Option.isSome rd) code s=some (.done x s')->Claim P rd code s x s'
theorem IH2.ok {ih:Bool->Code->St->Option Out}(h:IH2 P ih):ju P ih:=λrd code s x s' e=>(h rd code s x s' e).sim
theorem zMf (ok:CtxOK P c) (hor:yg P c orc) {ih:Bool->Code->St->Option Out}(hih:ju P ih) {id:Nat}{ops:Array Oper}{rd:Option Nat}{s s':St}{x:AX}
  (e:xk c orc rd.isSome ih ops.toList ops.toList s=some (.done x s')):SimC P rd (.region id ops false) s x s':=by
 intro ρ D w a k hl;refine wpIn_region (zGX ok hor hih _ _ (OB ops) e k.hr.lt hl (Mv.refl _ _ _ _) (by rw[zk];exact k))
theorem zAq (ok:CtxOK P c) (hor:yg P c orc) {ih:Bool->Code->St->Option Out}(hih:ju P ih) {id:Nat}{ops:Array Oper}{rd:Option Nat}{s s':St}{x:AX}{m:Nat}(hm:xD ops.toList=some m)
  (e:yJ c orc rd.isSome ih ops.toList (zp ops.toList []) m m 0 ops.toList s=some (.done x s')):SimC P rd (.region id ops true) s x s' :=
 zD8 ok hor hih hm e
theorem zHJ {F:Fence}{n:Nat}{Q:Exit->Act->World->Prop}{a:Act}{w:World}{x:Code}(h:x.wpIn F n P (λe a w=>(∀l,e≠.goto l)/\Q e a w) a w):(Code.scope x).wpIn F n P Q a w:=by
 intro b k cs hro hb hr;have h0:(lone (b.atR a (.code (.scope x)::k)) cs w).fenced P F:=fenced_calm hb hr rfl;have s0:step P (lone (b.atR a (.code (.scope x)::k)) cs w) = .next (lone (b.atR a (.code x :: .inScope x::k)) cs w):=step_lone_go (by simp[stepG,stepG.exec,Frame.atR]);have s1:∀a w,step P (lone (b.atR a (.inScope x::k)) cs w) = .next (lone (b.atR a k) cs w):=λa w=>step_lone_go (by simp[stepG,stepG.exec,Frame.atR])
 obtain⟨e,a1,w1,⟨hg,hq⟩,harr⟩:=h b (.inScope x::k) cs hro hb hr;have hx:∀id,exitTo id (.inScope x::k)=exitTo id k:=λid=>by simp[exitTo]
 cases e with
 | normal=>exact⟨.normal,a1,w1,hq,.head h0 s0 (StepsIn.trans harr (.one (fenced_calm hb hr rfl) (s1 _ _)))⟩
 | exit id=>exact⟨.exit id,a1,w1,hq,λk' hk=>.head h0 s0 (harr.1 k' (by rw[hx];exact hk)),λhr' hk=>let ⟨k1,g1,g2⟩:=harr.2 hr' (by rw[hx];exact hk);⟨k1,g1,.head h0 s0 g2⟩⟩
 | goto l=>exact absurd rfl (hg l)
 | ret=>exact⟨_,a1,w1,hq,.of_steps (.one h0 s0) harr⟩
 | panic ch=>exact⟨_,a1,w1,hq,.of_steps (.one h0 s0) harr⟩
 | outgrown=>exact⟨_,a1,w1,hq,.of_steps (.one h0 s0) harr⟩
theorem SimC.scope {rd:Option Nat}{x:Code}{s s1:St}{e:AX}(h:SimC P rd x s e s1):SimC P rd (.scope x) s e s1:=by
 intro ρ D w a k hl;refine zHJ (wpIn_mono (h ρ D w a k hl) ?_);rintro e1 a1 w1 ⟨ρ1,m1,k1,rfl,hx⟩;exact⟨λl he=>by cases e<;>simp[AX.toExit]at he,ρ1,m1,k1,rfl,hx⟩
theorem SimC.label {rd:Option Nat}(l:Nat) (s:St):SimC P rd (.label l) s .normal s:=λ_ _ _ _ k _=>wpIn_label (Ends.refl k (λ_ h=>by cases h))
theorem zEj (ok:CtxOK P c) (hor:yg P c orc) {ih:Bool->Code->St->Option Out}(h2:IH2 P ih):IH2 P (λrd code s=>yw c orc ih rd code s):=by
 intro rd code s x s' e;have hih:=h2.ok;cases code with
 | skip =>
  simp only[yw,oA,Out.done.injEq]at e;obtain⟨rfl,rfl⟩:=e;exact SimC.skip s
 | region id ops draw =>
  show SimC P rd (.region id ops draw) s x s';simp only[yw]at e;cases draw with
  | false =>
   simp only[oL]at e;exact zMf ok hor hih e
  | true =>
   simp only[oK]at e;split at e
   ·rename_i m hm
    exact zAq ok hor hih hm e
   ·cases e
 | seq a b =>
  show SimC P rd (.seq a b) s x s';simp only[yw]at e;split at e
  ·rename_i s1 h1
   exact SimC.seq (hih rd _ _ _ _ h1) (hih rd _ _ _ _ e)
  ·rename_i r hr
   refine SimC.seq_out (hih rd _ _ _ _ e) ?_;rintro rfl;exact hr s' e
 | cond o a b =>
  show SimC P rd (.cond o a b) s x s';simp only[yw]at e;split at e
  ·rename_i t ho
   exact SimC.cond ho (hih rd _ _ _ _ e)
  ·cases e
 | block id b =>
  show SimC P rd (.block id b) s x s';simp only[yw]at e;split at e
  ·rename_i i s1 h1
   have h:=SimC.block (id:=id) (hih rd _ _ _ _ h1);by_cases hi:i=id
   ·subst hi
    simp only[Nat.beq_refl,oK,oA,Out.done.injEq]at e;obtain⟨rfl,rfl⟩:=e;simpa using h
   ·have:Nat.beq i id=false:=by
     cases hb:Nat.beq i id with
     | false=>rfl
     | true=>exact absurd (oF hb) hi
    simp only[this,oL,oA,Out.done.injEq]at e;obtain⟨rfl,rfl⟩:=e;simpa [hi]using h
  ·rename_i r hr
   have h:=SimC.block (id:=id) (hih rd _ _ _ _ e);cases x with
   | exit i=>exact absurd e (hr i s')
   | _=>exact h
 | loop b =>
  show SimL P rd b s x s';simp only[yw]at e;split at e
  ·rename_i s1 h1
   exact SimL.next (hih rd _ _ _ _ h1) (h2 rd _ _ _ _ e)
  ·rename_i r hr
   refine SimL.last (hih rd _ _ _ _ e) ?_;rintro rfl;exact hr s' e
 | scope b =>
  simp only[yw]at e;exact SimC.scope (hih rd _ _ _ _ e)
 | label l =>
  simp only[yw,oA,Out.done.injEq]at e;obtain⟨rfl,rfl⟩:=e;exact SimC.label l s
 | exit id =>
  simp only[yw,oA,Out.done.injEq]at e;obtain⟨rfl,rfl⟩:=e;exact SimC.exit id s
 | ret =>
  simp only[yw,oA,Out.done.injEq]at e;obtain⟨rfl,rfl⟩:=e;exact SimC.ret s
 | rangeFunc f params assign body =>
  simp only[yw]at e;exact XO ok hor hih e
 | _=>simp[yw]at e
theorem zLH (ok:CtxOK P c) (hor:yg P c orc):∀n,IH2 P (ev c orc n):=by
 intro n
 induction n with
 | zero=>intro rd code s x s' e;exact absurd e (by simp[ev])
 | succ n ih=>exact zEj ok hor ih
theorem zJj (ok:CtxOK P c) (hor:yg P c orc) {n f:Nat}{args:List V}{h:H}{out:CallOut}(e:run c orc n f args h=some out):SimF P f args h out :=
 kQ ok hor (zLH ok hor n).ok e
end
end Go.Sim
namespace Go.Sim
namespace X
def YC (b:Bool) {β:Type}(x y:β):β:=Bool.rec (motive:=λ_=>β) y x b
theorem qK {β:Type}(b:Bool) (x y:β):YC b x y=cond b x y:=by cases b<;>rfl
section
variable {α β:Type}
def zHq (d:D8) (k:(N8 α->α)->β):β :=
 D8.rec (motive:=λ_=>((N8 α->α)->β)->β) (λk=>k λt=>N8.rec (motive:=λ_=>α) (λa0 _ _ _ _ _ _ _=>a0) t) (λk=>k λt=>N8.rec (motive:=λ_=>α) (λ_ a1 _ _ _ _ _ _=>a1) t) (λk=>k λt=>N8.rec (motive:=λ_=>α) (λ_ _ a2 _ _ _ _ _=>a2) t) (λk=>k λt=>N8.rec (motive:=λ_=>α) (λ_ _ _ a3 _ _ _ _=>a3) t) (λk=>k λt=>N8.rec (motive:=λ_=>α) (λ_ _ _ _ a4 _ _ _=>a4) t) (λk=>k λt=>N8.rec (motive:=λ_=>α) (λ_ _ _ _ _ a5 _ _=>a5) t) (λk=>k λt=>N8.rec (motive:=λ_=>α) (λ_ _ _ _ _ _ a6 _=>a6) t) (λk=>k λt=>N8.rec (motive:=λ_=>α) (λ_ _ _ _ _ _ _ a7=>a7) t) d k
theorem zMk (d:D8) (k:(N8 α->α)->β):zHq d k=k (N8.get d):=by cases d<;>rfl
def zHr (d:D8) (k:((α->α)->N8 α->N8 α)->β):β :=
 D8.rec (motive:=λ_=>(((α->α)->N8 α->N8 α)->β)->β)
  (λk=>k λf t=>N8.rec (motive:=λ_=>N8 α) (λa0 a1 a2 a3 a4 a5 a6 a7=>N8.mk (f a0) a1 a2 a3 a4 a5 a6 a7) t)
  (λk=>k λf t=>N8.rec (motive:=λ_=>N8 α) (λa0 a1 a2 a3 a4 a5 a6 a7=>N8.mk a0 (f a1) a2 a3 a4 a5 a6 a7) t)
  (λk=>k λf t=>N8.rec (motive:=λ_=>N8 α) (λa0 a1 a2 a3 a4 a5 a6 a7=>N8.mk a0 a1 (f a2) a3 a4 a5 a6 a7) t)
  (λk=>k λf t=>N8.rec (motive:=λ_=>N8 α) (λa0 a1 a2 a3 a4 a5 a6 a7=>N8.mk a0 a1 a2 (f a3) a4 a5 a6 a7) t)
  (λk=>k λf t=>N8.rec (motive:=λ_=>N8 α) (λa0 a1 a2 a3 a4 a5 a6 a7=>N8.mk a0 a1 a2 a3 (f a4) a5 a6 a7) t)
  (λk=>k λf t=>N8.rec (motive:=λ_=>N8 α) (λa0 a1 a2 a3 a4 a5 a6 a7=>N8.mk a0 a1 a2 a3 a4 (f a5) a6 a7) t)
  (λk=>k λf t=>N8.rec (motive:=λ_=>N8 α) (λa0 a1 a2 a3 a4 a5 a6 a7=>N8.mk a0 a1 a2 a3 a4 a5 (f a6) a7) t)
  (λk=>k λf t=>N8.rec (motive:=λ_=>N8 α) (λa0 a1 a2 a3 a4 a5 a6 a7=>N8.mk a0 a1 a2 a3 a4 a5 a6 (f a7)) t) d k
theorem zMl (d:D8) (k:((α->α)->N8 α->N8 α)->β):zHr d k=k (N8.mod d):=by cases d<;>rfl
end
abbrev M1:Type:=N8 V
abbrev M2:Type:=N8 M1
abbrev M3:Type:=N8 M2
inductive Src where
 | mk (a:Tm->V)
def rdS (s:Src):Tm->V:=Src.rec (motive:=λ_=>Tm->V) (λa=>a) s
def z5J (g2:M3->M2) (g1:M2->M1) (g0:M1->V):Src:=.mk λtm=>g0 (g1 (g2 tm))
def zGw (t:Nat):Src:=cond (Nat.ble t 511) (zHq (D8.of (t/64)) λg2=>zHq (D8.of (t/8)) λg1=>zHq (D8.of t) λg0=>z5J g2 g1 g0) (.mk λ_=>zC)
theorem O6 (t:Nat) (tm:Tm):rdS (zGw t) tm=yB tm t:=by
 unfold zGw yB Tb.get;cases Nat.ble t 511 with
 | false=>rfl
 | true=>simp only[oK,zMk];rfl
def Jy (x:Operand):Option Src :=
 match x with
 | .tmp t=>some (zGw t)
 | .const v=>(match ofV v with|some x=>some (.mk λ_=>x)|none=>none)
 | .func f=>some (.mk λ_=>.func (.func f) [] [])
 | .global _=>none
def evY (tm:Tm) (x:Operand):Option V:=Option.rec (motive:=λ_=>Option V) none (λs=>some (rdS s tm)) (Jy x)
theorem zFw (tm:Tm):evY tm=yQ tm:=by
 funext x
 cases x with
 | tmp t=>show some (rdS (zGw t) tm)=_;rw[O6];rfl
 | const v =>
  unfold evY Jy yQ;dsimp only;cases ofV v<;>rfl
 | func f=>rfl
 | global g=>rfl
theorem Z7 {x:Operand}{s:Src}(h:Jy x=some s) (tm:Tm):yQ tm x=some (rdS s tm):=by
 rw[<-zFw];unfold evY;rw[h]
theorem zJr {x:Operand}(h:Jy x=none) (tm:Tm):yQ tm x=none:=by
 rw[<-zFw];unfold evY;rw[h]
abbrev R:Type:=Tm->List AD->H->Option Out
abbrev DK:Type:=R->Tm->V->List AD->H->Option Out
inductive Dst where
 | mk (d:DK)
def qU (d:Dst):DK:=Dst.rec (motive:=λ_=>DK) (λd=>d) d
def z4V (m2:(M2->M2)->M3->M3) (m1:(M1->M1)->M2->M2) (m0:(V->V)->M1->M1):Dst:=.mk λk tm v=>k (m2 (m1 (m0 λ_=>v)) tm)
def j1 (n:Nat) (d:Option Tmp):Dst :=
 match d with
 | none=>.mk λk tm _=>k tm
 | some t=>cond (Nat.blt t n) (zHr (D8.of (t/64)) λm2=>zHr (D8.of (t/8)) λm1=>zHr (D8.of t) λm0=>z4V m2 m1 m0) (.mk λ_ _ _ _ _=>none)
def zWa (r:Option St) (k:R):Option Out :=
 match r with
 | some s=>k s.tm s.dfr s.heap
 | none=>none
theorem jU (n:Nat) (d:Option Tmp) (k:R) (tm:Tm) (v:V) (dfr:List AD) (h h0:H):qU (j1 n d) k tm v dfr h=zWa (yF ⟨n,tm,dfr,h0⟩ d v h) k:=by
 cases d with
 | none=>rfl
 | some t =>
  unfold j1 yF;dsimp only;cases Nat.blt t n with
  | false=>rfl
  | true =>
   simp only[oK,zMl];rfl
def zDV (a:V):Option Out->Option Out->Option Out :=
 V.rec (motive_1:=λ_=>Option Out->Option Out->Option Out) (motive_2:=λ_=>Unit)
  (λb p q=>Bool.rec (motive:=λ_=>Option Out) q p b) (λ_ _ _ _=>none) (λ_ _ _=>none) (λ_ _ _ _=>none) (λ_ _=>none) (λ_ _ _ _ _ _=>none) (λ_ _=>none) (λ_ _ _=>none) (λ_ _=>none)
  (λ_ _ _ _ _ _ _=>none) (λ_ _ _=>none) (λ_ _=>none) (λ_ _ _ _ _=>none) (λ_ _=>none) (λ_ _ _ _=>none) (λ_ _ _ _=>none) () (λ_ _ _ _=>()) a
theorem zFj (b:Bool) (p q:Option Out):zDV (.bool b) p q=cond b p q:=by cases b<;>rfl
theorem zDW {a:V}(h:∀b,a≠.bool b) (p q:Option Out):zDV a p q=none:=by
 cases a<;>first|rfl|exact absurd rfl (h _)
def kq (k1 k2:IntKind) (r:Option Out):Option Out :=
 IntKind.rec (motive:=λ_=>IntKind->Option Out->Option Out)
  (λk2 r=>IntKind.rec (motive:=λ_=>Option Out->Option Out) (λr=>r) (λ_=>none) (λ_=>none) (λ_=>none) (λ_=>none) (λ_=>none) (λ_=>none) (λ_=>none) k2 r)
  (λk2 r=>IntKind.rec (motive:=λ_=>Option Out->Option Out) (λ_=>none) (λr=>r) (λ_=>none) (λ_=>none) (λ_=>none) (λ_=>none) (λ_=>none) (λ_=>none) k2 r)
  (λk2 r=>IntKind.rec (motive:=λ_=>Option Out->Option Out) (λ_=>none) (λ_=>none) (λr=>r) (λ_=>none) (λ_=>none) (λ_=>none) (λ_=>none) (λ_=>none) k2 r)
  (λk2 r=>IntKind.rec (motive:=λ_=>Option Out->Option Out) (λ_=>none) (λ_=>none) (λ_=>none) (λr=>r) (λ_=>none) (λ_=>none) (λ_=>none) (λ_=>none) k2 r)
  (λk2 r=>IntKind.rec (motive:=λ_=>Option Out->Option Out) (λ_=>none) (λ_=>none) (λ_=>none) (λ_=>none) (λr=>r) (λ_=>none) (λ_=>none) (λ_=>none) k2 r)
  (λk2 r=>IntKind.rec (motive:=λ_=>Option Out->Option Out) (λ_=>none) (λ_=>none) (λ_=>none) (λ_=>none) (λ_=>none) (λr=>r) (λ_=>none) (λ_=>none) k2 r)
  (λk2 r=>IntKind.rec (motive:=λ_=>Option Out->Option Out) (λ_=>none) (λ_=>none) (λ_=>none) (λ_=>none) (λ_=>none) (λ_=>none) (λr=>r) (λ_=>none) k2 r)
  (λk2 r=>IntKind.rec (motive:=λ_=>Option Out->Option Out) (λ_=>none) (λ_=>none) (λ_=>none) (λ_=>none) (λ_=>none) (λ_=>none) (λ_=>none) (λr=>r) k2 r)
  k1 k2 r
theorem z0F (k1 k2:IntKind) (r:Option Out):kq k1 k2 r=cond (xE k1 k2) r none:=by cases k1<;>cases k2<;>rfl
def z4P (b:V):IntKind->Int->(IntKind->Int->Int->V)->DK->R->Tm->List AD->H->Option Out->Option Out :=
 V.rec (motive_1:=λ_=>IntKind->Int->(IntKind->Int->Int->V)->DK->R->Tm->List AD->H->Option Out->Option Out) (motive_2:=λ_=>Unit) (λ_ _ _ _ _ _ _ _ _ fb=>fb) (λk2 n k1 m f d k tm dfr h _=>kq k1 k2 (d k tm (f k1 m n) dfr h)) (λ_ _ _ _ _ _ _ _ _ fb=>fb) (λ_ _ _ _ _ _ _ _ _ _ fb=>fb) (λ_ _ _ _ _ _ _ _ fb=>fb) (λ_ _ _ _ _ _ _ _ _ _ _ _ fb=>fb) (λ_ _ _ _ _ _ _ _ fb=>fb) (λ_ _ _ _ _ _ _ _ _ fb=>fb) (λ_ _ _ _ _ _ _ _ fb=>fb) (λ_ _ _ _ _ _ _ _ _ _ _ _ _ fb=>fb) (λ_ _ _ _ _ _ _ _ _ fb=>fb) (λ_ _ _ _ _ _ _ _ fb=>fb) (λ_ _ _ _ _ _ _ _ _ _ _ fb=>fb) (λ_ _ _ _ _ _ _ _ fb=>fb) (λ_ _ _ _ _ _ _ _ _ _ fb=>fb) (λ_ _ _ _ _ _ _ _ _ _ fb=>fb) () (λ_ _ _ _=>()) b
def zIp (a:V):V->(IntKind->Int->Int->V)->DK->R->Tm->List AD->H->Option Out->Option Out :=
 V.rec (motive_1:=λ_=>V->(IntKind->Int->Int->V)->DK->R->Tm->List AD->H->Option Out->Option Out) (motive_2:=λ_=>Unit) (λ_ _ _ _ _ _ _ _ fb=>fb) (λk1 m b f d k tm dfr h fb=>z4P b k1 m f d k tm dfr h fb) (λ_ _ _ _ _ _ _ _ fb=>fb) (λ_ _ _ _ _ _ _ _ _ fb=>fb) (λ_ _ _ _ _ _ _ fb=>fb) (λ_ _ _ _ _ _ _ _ _ _ _ fb=>fb) (λ_ _ _ _ _ _ _ fb=>fb) (λ_ _ _ _ _ _ _ _ fb=>fb) (λ_ _ _ _ _ _ _ fb=>fb) (λ_ _ _ _ _ _ _ _ _ _ _ _ fb=>fb) (λ_ _ _ _ _ _ _ _ fb=>fb) (λ_ _ _ _ _ _ _ fb=>fb) (λ_ _ _ _ _ _ _ _ _ _ fb=>fb) (λ_ _ _ _ _ _ _ fb=>fb) (λ_ _ _ _ _ _ _ _ _ fb=>fb) (λ_ _ _ _ _ _ _ _ _ fb=>fb) () (λ_ _ _ _=>()) a
theorem zKi (k1 k2:IntKind) (m n:Int) (f:IntKind->Int->Int->V) (d:DK) (k:R) (tm:Tm) (dfr:List AD) (h:H) (fb:Option Out) :
  zIp (.int k1 m) (.int k2 n) f d k tm dfr h fb=cond (xE k1 k2) (d k tm (f k1 m n) dfr h) none:=z0F _ _ _
theorem zWF {a:V}(b:V) (h0:∀k n,a≠.int k n) (f:IntKind->Int->Int->V) (d:DK) (k:R) (tm:Tm) (dfr:List AD) (h:H) (fb:Option Out) :
  zIp a b f d k tm dfr h fb=fb:=by cases a<;>first|rfl|exact absurd rfl (h0 _ _)
theorem zWG {b:V}(k1:IntKind) (m:Int) (h0:∀k n,b≠.int k n) (f:IntKind->Int->Int->V) (d:DK) (k:R) (tm:Tm) (dfr:List AD) (h:H) (fb:Option Out) :
  zIp (.int k1 m) b f d k tm dfr h fb=fb:=by cases b<;>first|rfl|exact absurd rfl (h0 _ _)
def isB (w:Bool) (a:V):Bool:=match a with | .bool b=>b == w|_=>false
def zI0 (k:IntKind):Int->V :=
 IntKind.rec (motive:=λ_=>Int->V) (λn=>.int .i8 (zN .i8 n)) (λn=>.int .i16 (zN .i16 n)) (λn=>.int .i32 (zN .i32 n))
  (λn=>Int.rec (motive:=λ_=>V) (λm=>YC (Nat.ble (Nat.succ m) 9223372036854775808) (.int .i64 (.ofNat m)) (.int .i64 (IntKind.wrap .i64 (.ofNat m))))
   (λm=>YC (Nat.ble (Nat.succ m) 9223372036854775808) (.int .i64 (.negSucc m)) (.int .i64 (IntKind.wrap .i64 (.negSucc m)))) n)
  (λn=>.int .u8 (zN .u8 n)) (λn=>.int .u16 (zN .u16 n)) (λn=>.int .u32 (zN .u32 n))
  (λn=>.int .u64 (zN .u64 n)) k
theorem zKl (a b:Nat):Nat.ble (Nat.succ a) b=Nat.blt a b:=rfl
theorem zAH (m N:Nat) (x y:Int):YC (Nat.ble (Nat.succ m) N) (V.int .i64 x) (V.int .i64 y) = .int .i64 (cond (Nat.blt m N) x y):=by
 rw[qK,zKl];cases Nat.blt m N<;>rfl
theorem zOu (k:IntKind) (n:Int):zI0 k n = .int k (zN k n):=by
 cases k
 case i64 =>
  cases n with
  | ofNat m=>exact zAH m 9223372036854775808 _ _
  | negSucc m=>exact zAH m 9223372036854775808 _ _
 all_goals rfl
def zYA (k:IntKind) (m n:Int):V:=zI0 k (zAU m n)
def z0X (k:IntKind) (m n:Int):V:=zI0 k (zO3 m n)
def z0L (k:IntKind) (m n:Int):V:=zI0 k (zQC m n)
def zYL (_:IntKind) (m n:Int):V:=.bool (eqF m n)
def z0M (_:IntKind) (m n:Int):V:=.bool (!eqF m n)
def z0J (_:IntKind) (m n:Int):V:=.bool (Xz m n)
def z0H (_:IntKind) (m n:Int):V:=.bool (!Xz n m)
def z0A (_:IntKind) (m n:Int):V:=.bool (Xz n m)
def zZz (_:IntKind) (m n:Int):V:=.bool (!Xz m n)
def opY (op:BinOp):Option (IntKind->Int->Int->V) :=
 match op with
 | .add=>some zYA
 | .sub=>some z0X
 | .mul=>some z0L
 | .eql=>some zYL
 | .neq=>some z0M
 | .lss=>some z0J
 | .leq=>some z0H
 | .gtr=>some z0A
 | .geq=>some zZz
 | _=>none
theorem zW4 {op:BinOp}{f:IntKind->Int->Int->V}(h:opY op=some f) (k:IntKind) (m n:Int):zj op k m n=some (f k m n)/\xq op=false:=by
 cases op<;>simp only[opY,oA,reduceCtorEq]at h<;>subst h<;>simp[zj,xq,zYA,z0X,z0L,zYL,z0M,z0J,z0H,z0A,zZz,zOu]
abbrev G:Type:=Ctx->(Operand->Option V)->H->Option AN
def ldC (cs:Cs) (o:Nat) (ag:Bool) (sz:Nat):Option V :=
 Bool.rec (motive:=λ_=>Option V) (cs.get? o) (match cs.range o sz with|some x=>some (.agg x)|none=>none) ag
def ldO (q:Option O):Nat->Bool->Nat->Option V :=
 Option.rec (motive:=λ_=>Nat->Bool->Nat->Option V) (λ_ _ _=>none)
  (λq=>O.rec (motive:=λ_=>Nat->Bool->Nat->Option V) (λcs _ _ _ o ag sz=>ldC cs o ag sz) (λ_ _ _ _ _=>none) (λ_ _ _ _ _ _ _ _ _ _ _=>none) (λ_ _ _ _=>none) (λ_ _ _ _ _=>none) (λ_ _ _ _ _ _ _=>none) q) q
def ldV (v:V):H->TI->Option V :=
 V.rec (motive_1:=λ_=>H->TI->Option V) (motive_2:=λ_=>Unit) (λ_ _ _=>none) (λ_ _ _ _=>none) (λ_ _ _=>none)
  (λb o h ti=>ldO (H.get h b) o (xi (TI.desc ti)) (TI.size ti)) (λ_ _=>none) (λ_ _ _ _ _ _=>none) (λ_ _=>none) (λ_ _ _=>none) (λ_ _=>none)
  (λ_ _ _ _ _ _ _=>none) (λ_ _ _=>none) (λ_ _=>none) (λ_ _ _ _ _=>none) (λ_ _=>none) (λ_ _ _ _=>none) (λ_ _ _ _=>none) () (λ_ _ _ _=>()) v
def ldT (r:Option TI) (v:V) (h:H):Option V:=Option.rec (motive:=λ_=>Option V) none (λti=>ldV v h ti) r
def zTh (t:TypeId) (a:Operand):G:=λc e h=>Option.rec (motive:=λ_=>Option AN) none (λv=>AN.ofV (ldT (T.get (Ctx.ty c) t) v h) h) (e a)
def zWS (t:TypeId) (a x:Operand):G:=λc e h=>match e a,e x with|some p,some v=>(match yA c t h p v with|some h'=>some (.skip h')|none=>none)|_,_=>none
def z4x (op:BinOp) (t:TypeId) (x y:Operand):G:=λc e h=>match e x,e y with|some a,some b=>AN.ofV (yn c op t x y a b) h|_,_=>none
def gUn (op:UnOp) (x:Operand):G:=λ_ e h=>match e x with|some v=>AN.ofV (aun op v) h|none=>none
def zZx (s d:TypeId) (x:Operand):G:=λc e h=>match e x with|some v=>AN.ofVH (yt c s d h v)|none=>none
def zWP (t:TypeId) (x:Operand) (f:Nat):G:=λc e h=>match e x with|some v=>AN.ofV (zK2 c t v f) h|none=>none
def zZy (t:TypeId) (x ix:Operand):G:=λc e h=>match e x,e ix with|some a,some b=>AN.ofV (zV c t a b) h|_,_=>none
def z4y (t:TypeId) (x ix:Operand):G:=λc e h=>match e x,e ix with|some a,some b=>AN.ofV (jw c t a b) h|_,_=>none
def zLT (x:Operand) (i:Nat):G:=λ_ e h=>match e x with|some (.tuple l)=>AN.ofV l[i]? h|_=>none
def zZw (cl:Call):G:=λc e h=>yr c cl e h
def zGC (f:Operand) (args:List Operand):G:=λc e h =>
 match qe e args with
 | none=>none
 | some args =>
  match e f with
  | some (.func (.func g) first captured)=>qH c h g first args captured
  | some (.yield l)=>some (.round l args)
  | _=>none
def zWR (t:TypeId) (x:Operand) (lo hi mx:Option Operand):G:=λc e h=>match e x,evO e lo,evO e hi,evO e mx with
  | some v,some a,some b,some m=>AN.ofV (yP c t h v a b m) h
  | _,_,_,_=>none
def zPt (t:TypeId) (x:Operand) (f:Nat):G:=λc e h=>match c.ty.get t,e x with
  | some ti,some (.ptr b o)=>match ti.desc with | .struct fs=>(match fs[f]? with|some fd=>afa c fd b o h|none=>none)|_=>none
  | _,_=>none
def z4w (o:Oper):G:=λc e h=>yD c o e h
def gK {β:Type}(o:Oper) (k:G->β):β :=
 match o.op with
 | .load t a=>k (zTh t a)
 | .store t a x=>k (zWS t a x)
 | .binOp op t x y _=>k (z4x op t x y)
 | .unOp op _ x=>k (gUn op x)
 | .convert s d x=>k (zZx s d x)
 | .field t x f=>k (zWP t x f)
 | .indexAddr t x ix=>k (zZy t x ix)
 | .index t x ix=>k (z4y t x ix)
 | .extract x i=>k (zLT x i)
 | .call cl=>(match cl.callee with | .value f=>k (zGC f cl.args.toList)|_=>k (zZw cl))
 | .slice t x lo hi mx=>k (zWR t x lo hi mx)
 | .fieldAddr t x f=>k (zPt t x f)
 | _=>k (z4w o)
def gOf (o:Oper):G:=gK o λg=>g
theorem zLU {β:Type}(o:Oper) (k:G->β):gK o k=k (gOf o):=by
 unfold gOf gK;cases ho:o.op<;>dsimp only
 case call cl=>cases cl.callee<;>rfl
theorem zWX (c:Ctx) (t:TypeId) (h:H) (v:V):ldT (c.ty.get t) v h=zO c t h v:=by
 unfold ldT zO;cases v with
 | ptr b o =>
  show _=(match h.get b with|some (.cells l _ _ _)=>_|_=>none)
  cases hg:h.get b with
  | none=>cases c.ty.get t with
   | none=>rfl
   | some ti=>show ldO (h.get b) _ _ _=_;rw[hg];rfl
  | some q =>
   cases c.ty.get t with
   | none=>cases q<;>rfl
   | some ti =>
    show ldO (h.get b) _ _ _=_;rw[hg];cases q with
    | cells cs k w op =>
     show ldC cs o (xi ti.desc) ti.size=cond (xi ti.desc) _ _;unfold ldC;cases xi ti.desc<;>rfl
    | _=>rfl
 | _=>cases c.ty.get t<;>rfl
theorem zWQ (o:Oper) (c:Ctx) (e:Operand->Option V) (h:H):gOf o c e h=yD c o e h:=by
 unfold gOf gK;cases ho:o.op<;>dsimp only<;>first
  | rfl
  | (unfold yD;rw[ho];rfl)
  | skip
 case load t a =>
  unfold yD zTh;rw[ho];dsimp only;cases e a with
  | none=>rfl
  | some v=>show AN.ofV (ldT (c.ty.get t) v h) h=_;rw[zWX]
 case call cl =>
  have h0:yD c o e h=yr c cl e h:=by unfold yD;rw[ho]
  rw[h0];cases hc:cl.callee with
  | value f =>
   show zGC f cl.args.toList c e h=_;unfold zGC yr;rw[hc];cases qe e cl.args.toList<;>rfl
  | _=>rfl
inductive CO where
 | mv (a:Tm->V) (d:DK)
 | bin (f:IntKind->Int->Int->V) (a b:Tm->V) (g:G) (d:DK)
 | gen (g:G) (d:DK)
 | gd (a:Tm->V) (w:Bool) (g:G) (d:DK)
 | off (d:DK)
def Ko (o:Oper) (d:Dst):CO:=Dst.rec (motive:=λ_=>CO) (λd=>gK o λg=>.gen g d) d
def zKr (f:IntKind->Int->Int->V) (a b:Src) (o:Oper) (d:Dst):CO :=
 Src.rec (motive:=λ_=>CO) (λa=>Src.rec (motive:=λ_=>CO) (λb=>Dst.rec (motive:=λ_=>CO) (λd=>gK o λg=>.bin f a b g d) d) b) a
def zT8 (f:IntKind->Int->Int->V) (x y:Operand) (o:Oper) (d:Dst):CO :=
 match Jy x with
 | none=>Ko o d
 | some a=>match Jy y with
  | none=>Ko o d
  | some b=>zKr f a b o d
def zT9 (a:Src) (d:Dst):CO:=Src.rec (motive:=λ_=>CO) (λa=>Dst.rec (motive:=λ_=>CO) (λd=>.mv a d) d) a
def zPg (x:Operand) (o:Oper) (d:Dst):CO :=
 match Jy x with
 | some a=>zT9 a d
 | none=>Ko o d
def coO (n:Nat) (o:Oper):CO :=
 match o.op with
 | .move x=>zPg x o (j1 n o.dst)
 | .assign x=>zPg x o (j1 n o.dst)
 | .binOp op _ x y _=>(match opY op with|some f=>zT8 f x y o (j1 n o.dst)|none=>Ko o (j1 n o.dst))
 | _=>Ko o (j1 n o.dst)
def zH4 (d:Dst):CO:=Dst.rec (motive:=λ_=>CO) (λd=>.off d) d
def zYG (a:Src) (w:Bool) (o:Oper) (d:Dst):CO:=Src.rec (motive:=λ_=>CO) (λa=>Dst.rec (motive:=λ_=>CO) (λd=>gK o λg=>.gd a w g d) d) a
def cgO (n:Nat) (ops:List Oper) (o:Oper):CO :=
 match o.guard with
 | none=>coO n o
 | some (j,w) =>
  match ops[j]? with
  | some o'=>match o'.dst with
   | some d=>zYG (zGw d) w o (j1 n o.dst)
   | none=>zH4 (j1 n o.dst)
  | none=>zH4 (j1 n o.dst)
def cgL (n:Nat) (ops l:List Oper):List CO:=List.rec (motive:=λ_=>List CO) [] (λo _ r=>cgO n ops o::r) l
structure En where
 rd:Bool
 kx:AX->R
abbrev IH:Type:=Nat->En->Code->R->R
def zEN (r:Option Out) (x:En) (k:R):Option Out :=
 match r with
 | some (.done .normal s)=>k s.tm s.dfr s.heap
 | some (.done a s)=>x.kx a s.tm s.dfr s.heap
 | none=>none
def evO (ih:IH) (rd:Bool) (code:Code) (s:St):Option Out :=
 St.rec (motive:=λ_=>Option Out) (λn tm dfr h=>ih n ⟨rd,λa tm dfr h=>some (.done a ⟨n,tm,dfr,h⟩)⟩ code (λtm dfr h=>some (.done .normal ⟨n,tm,dfr,h⟩)) tm dfr h) s
structure Pa where
 c:Ctx
 orc:Nat->List V->H->Option (V×H)
def zT7 (r:Option CallOut) (d:DK) (x:En) (k:R) (tm:Tm) (dfr:List AD):Option Out :=
 match r with
 | some (.ret v h)=>d k tm v dfr h
 | some (.panic v h)=>x.kx (.panic v) tm dfr h
 | none=>none
def zOP (r:Option CallOut) (d:DK) (k:R) (tm:Tm) (dfr:List AD):Option Out :=
 match r with
 | some (.ret v h)=>d k tm v dfr h
 | _=>none
abbrev AK:Type:=Pa->IH->En->DK->R->Tm->List AD->H->Option Out
def anA (an:AN):AK :=
 AN.rec (motive:=λ_=>AK) (λv h _ _ _ d k tm dfr _=>d k tm v dfr h) (λh _ _ _ d k tm dfr _=>d k tm zC dfr h)
  (λf args p ih x d k tm dfr h0=>zT7 (xe (Pa.c p) (Pa.orc p) (evO ih) f args h0) d x k tm dfr) (λl args _ ih _ d k tm dfr h0=>zOP (kb (evO ih) l args h0) d k tm dfr)
  (λdd _ _ x d k tm dfr h0=>YC (En.rd x) none (d k tm zC (dd::dfr) h0)) (λ_ _ _ _ _ _ _ _=>none) (λv h _ _ x _ _ tm dfr _=>En.kx x (.panic v) tm dfr h) an
def anK (r:Option AN):AK :=
 Option.rec (motive:=λ_=>AK) (λ_ _ _ _ _ _ _ _=>none) (λan=>anA an) r
def zA8 (p:Pa) (ih:IH) (x:En) (g:G) (d:DK) (k:R) (tm:Tm) (dfr:List AD) (h:H):Option Out:=anK (g (Pa.c p) (evY tm) h) p ih x d k tm dfr h
def coY (co:CO):Pa->IH->En->R->R :=
 CO.rec (motive:=λ_=>Pa->IH->En->R->R) (λa d _ _ _ k tm=>d k tm (a tm))
  (λf a b g d p ih x k tm dfr h=>zIp (a tm) (b tm) f d k tm dfr h (zA8 p ih x g d k tm dfr h))
  (λg d p ih x k tm dfr h=>zA8 p ih x g d k tm dfr h)
  (λa w g d p ih x k tm dfr h=>YC (isB w (a tm)) (zA8 p ih x g d k tm dfr h) (d k tm zC dfr h))
  (λd _ _ _ k tm=>d k tm zC) co
def zJZ (l:List CO):Pa->IH->En->R->R :=
 List.rec (motive:=λ_=>Pa->IH->En->R->R) (λ_ _ _ k=>k) (λg _ r p ih x k =>
  CO.rec (motive:=λ_=>Pa->IH->En->R->R) (λa d _ _ _ k tm=>d k tm (a tm))
  (λf a b g d p ih x k tm dfr h=>zIp (a tm) (b tm) f d k tm dfr h (zA8 p ih x g d k tm dfr h))
  (λg d p ih x k tm dfr h=>zA8 p ih x g d k tm dfr h)
  (λa w g d p ih x k tm dfr h=>YC (isB w (a tm)) (zA8 p ih x g d k tm dfr h) (d k tm zC dfr h))
  (λd _ _ _ k tm=>d k tm zC) g p ih x (r p ih x k)) l
inductive CV where
 | skip
 | region (l:List CO)
 | draw (ops:Array Oper)
 | seq (a b:Code)
 | cnd (s:Tm->V) (a b:Code)
 | block (id:Nat) (b:Code)
 | loop (b:Code)
 | scope (b:Code)
 | exit (id:Nat)
 | ret
 | range (f:Operand) (ps:Array Tmp) (asg body:Code)
 | bad
def zTb (s:Src) (a b:Code):CV:=Src.rec (motive:=λ_=>CV) (λs=>.cnd s a b) s
def zWp (n:Nat) (code:Code):CV :=
 match code with
 | .skip=>.skip
 | .region _ ops draw=>(match draw with|true=>.draw ops|false=>.region (cgL n ops.toList ops.toList))
 | .seq a b=>.seq a b
 | .cond x a b=>(match Jy x with|some s=>zTb s a b|none=>.bad)
 | .block id b=>.block id b
 | .loop b=>.loop b
 | .scope b=>.scope b
 | .label _=>.skip
 | .exit id=>.exit id
 | .ret=>.ret
 | .rangeFunc f ps asg body=>.range f ps asg body
 | _=>.bad
def zGJ (i:Nat) (k:R) (kx:AX->R) (a:AX):R :=
 AX.rec (motive:=λ_=>R) (kx .normal) (λid=>YC (Nat.beq id i) k (kx (.exit id))) (kx .ret) (λv=>kx (.panic v)) a
def zCn (h:H) (l:Nat):H:=H.rec (motive:=λ_=>H) (λt n _=>⟨t,n,l⟩) h
def zM5 (h h':H):H:=H.rec (motive:=λ_=>H) (λ_ _ l=>H.rec (motive:=λ_=>H) (λt' n' l'=>⟨t',n',cond (Nat.ble l l') l l'⟩) h') h
def noX (_:AX):R:=λ_ _ _=>none
def zH7 (ops:List Oper) (bs:List Nat) (m k:Nat) (o:Oper) (tm:Tm) (dfr:List AD) (h:H) (next:R):R:=λtm' dfr' h' =>
 YC (Nat.ble (H.next h) (H.low h') || wA ops bs m k tm o) (YC (yl dfr dfr') (next tm' dfr' (zM5 h h')) none) none
def zIV (ops:List Oper) (tm:Tm) (o:Oper):Bool :=
 match o.guard with
 | none=>true
 | some (j,w) =>
  match ops[j]? with
  | some o'=>match o'.dst with
   | some d=>isB w (rdS (zGw d) tm)
   | none=>false
  | none=>false
theorem zOj (ops:List Oper) (tm:Tm) (o:Oper):zIV ops tm o=zZ ops tm o:=by
 unfold zIV zZ;cases o.guard with
 | none=>rfl
 | some g =>
  obtain⟨j,w⟩:=g;dsimp only;cases ops[j]? with
  | none=>rfl
  | some o' =>
   dsimp only;cases o'.dst with
   | none=>rfl
   | some d=>dsimp only;rw[O6];rfl
def zDa (ops:List Oper) (bs:List Nat) (m n:Nat) (l:List Oper):Nat->Nat->Pa->IH->En->R->R :=
 List.rec (motive:=λ_=>Nat->Nat->Pa->IH->En->R->R) (λ_ _ _ _ _ k=>k)
  (λo l rec r i p ih x k tm dfr h =>
   Nat.rec (motive:=λ_=>Option Out) (zJZ (cgL n ops (o::l)) p ih x k tm dfr h)
    (λr' _=>YC (zIV ops tm o)
     (coY (coO n o) p ih ⟨En.rd x,noX⟩ (zH7 ops bs m i o tm dfr h (rec r' (i+1) p ih x k)) tm dfr (zCn h T.top))
     (qU (j1 n o.dst) (rec r' (i+1) p ih x k) tm zC dfr h)) r) l
def zH8 (p:Pa) (ih:IH) (n:Nat) (x:En) (ops:List Oper) (k:R):R :=
 match xD ops with|some m=>zDa ops (zp ops []) m n ops m 0 p ih x k|none=>λ_ _ _=>none
def exY (p:Pa) (f:Nat):IH:=Nat.rec (motive:=λ_=>IH) (λ_ _ _ _ _ _ _=>none) (λ_ ih n x code k =>
 CV.rec (motive:=λ_=>Pa->IH->Nat->En->R->R) (λ_ _ _ _ k=>k)
  (λl p ih _ x k=>zJZ l p ih x k)
  (λops p ih n x k=>zH8 p ih n x ops.toList k)
  (λa b _ ih n x k=>ih n x a (ih n x b k))
  (λs a b _ ih n x k tm dfr h=>zDV (s tm) (ih n x a k tm dfr h) (ih n x b k tm dfr h))
  (λid b _ ih n x k=>ih n ⟨En.rd x,zGJ id k (En.kx x)⟩ b k)
  (λb _ ih n x k=>ih n x b (ih n x (.loop b) k))
  (λb _ ih n x k=>ih n x b k)
  (λid _ _ _ x _=>En.kx x (.exit id))
  (λ_ _ _ x _=>En.kx x .ret)
  (λf ps asg body p ih n x k tm dfr h=>zEN (qW (Pa.c p) (Pa.orc p) (evO ih) (En.rd x) f ps asg body ⟨n,tm,dfr,h⟩) x k)
  (λ_ _ _ _ _ _ _ _=>none) (zWp n code) p ih n x k) f
def cvY (v:CV):Pa->IH->Nat->En->R->R :=
 CV.rec (motive:=λ_=>Pa->IH->Nat->En->R->R) (λ_ _ _ _ k=>k)
  (λl p ih _ x k=>zJZ l p ih x k)
  (λops p ih n x k=>zH8 p ih n x ops.toList k)
  (λa b _ ih n x k=>ih n x a (ih n x b k))
  (λs a b _ ih n x k tm dfr h=>zDV (s tm) (ih n x a k tm dfr h) (ih n x b k tm dfr h))
  (λid b _ ih n x k=>ih n ⟨En.rd x,zGJ id k (En.kx x)⟩ b k)
  (λb _ ih n x k=>ih n x b (ih n x (.loop b) k))
  (λb _ ih n x k=>ih n x b k)
  (λid _ _ _ x _=>En.kx x (.exit id))
  (λ_ _ _ x _=>En.kx x .ret)
  (λf ps asg body p ih n x k tm dfr h=>zEN (qW (Pa.c p) (Pa.orc p) (evO ih) (En.rd x) f ps asg body ⟨n,tm,dfr,h⟩) x k)
  (λ_ _ _ _ _ _ _ _=>none) v
theorem zLI (p:Pa) (f n:Nat) (x:En) (code:Code) (k:R):exY p (f+1) n x code k=cvY (zWp n code) p (exY p f) n x k:=rfl
section
variable (c:Ctx) (orc:Nat->List V->H->Option (V×H))
def run (n:Nat) (f:Nat) (args:List V) (h:H):Option CallOut:=xe c orc (evO (exY ⟨c,orc⟩ n)) f args h
theorem zBz (ih:IH) (n:Nat) (x:En) (o:Oper) (k:R) (tm:Tm) (dfr:List AD) (h:H) :
    zA8 ⟨c,orc⟩ ih x (gOf o) (qU (j1 n o.dst)) k tm dfr h =
      (match z6 c orc x.rd (evO ih) o ⟨n,tm,dfr,h⟩with
       | some (.normal,s')=>k s'.tm s'.dfr s'.heap
       | some (a,s')=>x.kx a s'.tm s'.dfr s'.heap
       | none=>none):=by
  unfold zA8 z6;rw[zFw,zWQ];dsimp only;cases yD c o (yQ tm) h with
  | none=>rfl
  | some an =>
    cases an with
    | val v h' =>
      show qU (j1 n o.dst) k tm v dfr h'=_;rw[jU n o.dst k tm v dfr h' h];dsimp only;cases yF ⟨n,tm,dfr,h⟩ o.dst v h'<;>rfl
    | skip h' =>
      show qU (j1 n o.dst) k tm zC dfr h'=_;rw[jU n o.dst k tm zC dfr h' h];dsimp only;cases yF ⟨n,tm,dfr,h⟩ o.dst zC h'<;>rfl
    | call f args =>
      show zT7 (xe c orc (evO ih) f args h) _ x k tm dfr=_;dsimp only;cases xe c orc (evO ih) f args h with
      | none=>rfl
      | some r =>
        cases r with
        | ret v h' =>
          show qU (j1 n o.dst) k tm v dfr h'=_;rw[jU n o.dst k tm v dfr h' h];dsimp only;cases yF ⟨n,tm,dfr,h⟩ o.dst v h'<;>rfl
        | panic v h'=>rfl
    | round l args =>
      show zOP (kb (evO ih) l args h) _ k tm dfr=_;dsimp only;cases kb (evO ih) l args h with
      | none=>rfl
      | some r =>
        cases r with
        | ret v h' =>
          show qU (j1 n o.dst) k tm v dfr h'=_;rw[jU n o.dst k tm v dfr h' h];dsimp only;cases yF ⟨n,tm,dfr,h⟩ o.dst v h'<;>rfl
        | panic v h'=>rfl
    | dfr d =>
      show YC x.rd none (qU (j1 n o.dst) k tm zC (d::dfr) h)=_;rw[qK,jU n o.dst k tm zC (d::dfr) h h];dsimp only;cases x.rd with
      | true=>rfl
      | false =>
        simp only[oL];cases yF ⟨n,tm,d::dfr,h⟩ o.dst zC h<;>rfl
    | recover=>rfl
    | pan v h'=>rfl
theorem zKs (o:Oper) (d:Dst):Ko o d = .gen (gOf o) (qU d):=by
 obtain⟨d⟩:=d;exact zLU o λg=>CO.gen g d
theorem zKt (a:Src) (d:Dst):zT9 a d = .mv (rdS a) (qU d):=by cases a;cases d;rfl
theorem zIu (f:IntKind->Int->Int->V) (a b:Src) (o:Oper) (d:Dst):zKr f a b o d = .bin f (rdS a) (rdS b) (gOf o) (qU d):=by
 obtain⟨a⟩:=a;obtain⟨b⟩:=b;obtain⟨d⟩:=d;exact zLU o λg=>CO.bin f a b g d
theorem zPf (a:Src) (w:Bool) (o:Oper) (d:Dst):zYG a w o d = .gd (rdS a) w (gOf o) (qU d):=by
 obtain⟨a⟩:=a;obtain⟨d⟩:=d;exact zLU o λg=>CO.gd a w g d
theorem zKu (d:Dst):zH4 d = .off (qU d):=by cases d;rfl
theorem zKz (s:Src) (a b:Code):zTb s a b = .cnd (rdS s) a b:=by cases s;rfl
theorem zKv (ih : IH) (n : Nat) (x : En) (o : Oper) (k : R) (tm : Tm) (dfr : List AD) (h : H) :
    coY (coO n o) ⟨c, orc⟩ ih x k tm dfr h =
      (match z6 c orc x.rd (evO ih) o ⟨n, tm, dfr, h⟩with
       | some (.normal, s') => k s'.tm s'.dfr s'.heap
       | some (a, s') => x.kx a s'.tm s'.dfr s'.heap
       | none => none) := by
  have gen : coY (Ko o (j1 n o.dst)) ⟨c, orc⟩ ih x k tm dfr h =
      (match z6 c orc x.rd (evO ih) o ⟨n, tm, dfr, h⟩with
       | some (.normal, s') => k s'.tm s'.dfr s'.heap
       | some (a, s') => x.kx a s'.tm s'.dfr s'.heap
       | none => none) := by
    rw[zKs];exact zBz c orc ih n x o k tm dfr h
  have mv : ∀y, yD c o (yQ tm) h = AN.ofV (yQ tm y) h -> coY (zPg y o (j1 n o.dst)) ⟨c, orc⟩ ih x k tm dfr h =
      (match z6 c orc x.rd (evO ih) o ⟨n, tm, dfr, h⟩with
       | some (.normal, s') => k s'.tm s'.dfr s'.heap
       | some (a, s') => x.kx a s'.tm s'.dfr s'.heap
       | none => none) := by
    intro y hy;unfold zPg;cases hs : Jy y with
    | none => exact gen
    | some s =>
      dsimp only;rw[zKt];show qU (j1 n o.dst) k tm (rdS s tm) dfr h = _;rw[jU n o.dst k tm (rdS s tm) dfr h h];unfold z6;dsimp only;rw[hy, Z7 hs];dsimp only [AN.ofV];cases yF ⟨n, tm, dfr, h⟩ o.dst (rdS s tm) h<;>rfl
  unfold coO;split
  · rename_i y ho
    exact mv y (by unfold yD;rw[ho])
  · rename_i y ho
    exact mv y (by unfold yD;rw[ho])
  · rename_i op t y z t2 ho
    split
    · rename_i f hf
      unfold zT8;cases hy : Jy y with
      | none => exact gen
      | some a =>
        cases hz : Jy z with
        | none => exact gen
        | some b =>
          have hrest := zBz c orc ih n x o k tm dfr h;dsimp only;rw[zIu];show zIp (rdS a tm) (rdS b tm) f (qU (j1 n o.dst)) k tm dfr h (zA8 ⟨c, orc⟩ ih x (gOf o) (qU (j1 n o.dst)) k tm dfr h) = _;have e1 := Z7 hy tm;have e2 := Z7 hz tm;by_cases h1 : ∃k1 m, rdS a tm = .int k1 m
          · obtain⟨k1, m, h1⟩ := h1
            rw[h1];by_cases h2 : ∃k2 n', rdS b tm = .int k2 n'
            · obtain⟨k2, n', h2⟩ := h2
              rw[h2, zKi, jU n o.dst k tm (f k1 m n') dfr h h];rw[h1]at e1;rw[h2]at e2;obtain⟨q1, q2⟩ := zW4 hf k1 m n';have ha : yD c o (yQ tm) h = AN.ofV (cond (xE k1 k2) (some (f k1 m n')) none) h := by
                unfold yD;rw[ho];simp only[e1, e2, yn, q2, oL, q1]
              unfold z6;dsimp only;rw[ha];cases xE k1 k2 with
              | false => rfl
              | true =>
                simp only[oK, AN.ofV];cases yF ⟨n, tm, dfr, h⟩ o.dst (f k1 m n') h<;>rfl
            · rw[zWG _ _ (λk2 n' e => h2 ⟨k2, n', e⟩)];exact hrest
          · rw[zWF _ (λk1 m e => h1 ⟨k1, m, e⟩)];exact hrest
    · exact gen
  · exact gen
theorem zWI (ih : IH) (n : Nat) (x : En) (ops : List Oper) (o : Oper) (k : R) (tm : Tm) (dfr : List AD) (h : H) :
    coY (cgO n ops o) ⟨c, orc⟩ ih x k tm dfr h =
      cond (zZ ops tm o)
        (match z6 c orc x.rd (evO ih) o ⟨n, tm, dfr, h⟩with
         | some (.normal, s') => k s'.tm s'.dfr s'.heap
         | some (a, s') => x.kx a s'.tm s'.dfr s'.heap
         | none => none)
        (zWa (yF ⟨n, tm, dfr, h⟩ o.dst zC h) k) := by
  have off : coY (zH4 (j1 n o.dst)) ⟨c, orc⟩ ih x k tm dfr h = zWa (yF ⟨n, tm, dfr, h⟩ o.dst zC h) k := by rw[zKu];exact jU _ _ _ _ _ _ _ _
  unfold cgO zZ;cases o.guard with
  | none => exact zKv c orc ih n x o k tm dfr h
  | some g =>
    obtain⟨j, w⟩ := g;dsimp only;cases ops[j]? with
    | none => exact off
    | some o' =>
      dsimp only;cases o'.dst with
      | none => exact off
      | some d =>
        dsimp only;rw[zPf];show YC (isB w (rdS (zGw d) tm)) (zA8 ⟨c, orc⟩ ih x (gOf o) (qU (j1 n o.dst)) k tm dfr h) (qU (j1 n o.dst) k tm zC dfr h) = _;rw[qK, O6, zBz, jU n o.dst k tm zC dfr h h];rfl
theorem zHo (ih:IH) (n:Nat) (x:En) (ops:List Oper)
  (hn:∀o s a s',z6 c orc x.rd (evO ih) o s=some (a,s')->s'.n=s.n) :
  ∀(l:List Oper) (k:R) (tm:Tm) (dfr:List AD) (h:H),zJZ (cgL n ops l) ⟨c,orc⟩ ih x k tm dfr h=zEN (xk c orc x.rd (evO ih) ops l ⟨n,tm,dfr,h⟩) x k:=by
 intro l
 induction l with
 | nil=>intro k tm dfr h;rfl
 | cons o l ihl =>
  intro k tm dfr h;show coY (cgO n ops o) ⟨c,orc⟩ ih x (zJZ (cgL n ops l) ⟨c,orc⟩ ih x k) tm dfr h=_;rw[zWI];simp only[xk];cases zZ ops tm o with
  | true =>
   simp only[oK];cases hs:z6 c orc x.rd (evO ih) o ⟨n,tm,dfr,h⟩with
   | none=>rfl
   | some p =>
    obtain⟨a,s'⟩:=p;have hsn:=hn _ _ _ _ hs;obtain⟨n',tm',dfr',h'⟩:=s';simp only at hsn;subst hsn;cases a with
    | normal=>exact ihl k tm' dfr' h'
    | _=>rfl
  | false =>
   simp only[oL];cases hp:yF ⟨n,tm,dfr,h⟩ o.dst zC h with
   | none=>rfl
   | some s' =>
    obtain⟨_,e⟩:=yW hp;subst e;exact ihl k _ _ _
theorem qE {rd:Bool}{ih:Bool->Code->St->Option Out}{o:Oper}{s s':St}{a:AX}(e:z6 c orc rd ih o s=some (a,s')):s'.n=s.n:=by
 have put:∀(s0:St) (v:V) (h:H),s0.n=s.n->(match yF s0 o.dst v h with|some s'=>some (AX.normal,s')|none=>none)=some (a,s')->s'.n=s.n:=by
  intro s0 v h h0 hp;split at hp
  ·rename_i s2 h2
   simp only[oA,oB]at hp;obtain⟨_,rfl⟩:=hp;obtain⟨_,e⟩:=yW h2;rw[e];exact h0
  ·cases hp
 unfold z6 at e;split at e
 ·cases e
 ·exact put _ _ _ rfl e
 ·exact put _ _ _ rfl e
 ·split at e
  ·exact put _ _ _ rfl e
  ·simp only[oA,oB]at e;obtain⟨_,rfl⟩:=e;rfl
  ·cases e
 ·split at e
  ·exact put _ _ _ rfl e
  ·cases e
 ·cases hr:rd with
  | true=>simp[hr]at e
  | false=>simp only[hr,oL]at e;revert e;intro e;refine put _ _ _ ?_ e;rfl
 ·simp only[oA,oB]at e;obtain⟨_,rfl⟩:=e;rfl
 ·cases e
theorem zMe {rd:Bool}{ih:Bool->Code->St->Option Out}{ops:List Oper}:∀(l:List Oper) {s s':St}{a:AX},xk c orc rd ih ops l s=some (.done a s')->s'.n=s.n:=by
 intro l
 induction l with
 | nil=>intro s s' a e;simp only[xk,oA,Out.done.injEq]at e;rw[<-e.2]
 | cons o l ihl =>
  intro s s' a e;simp only[xk]at e;cases hw:zZ ops s.tm o with
  | true =>
   simp only[hw,oK]at e;split at e
   ·rename_i s1 h1;exact(ihl e).trans (qE c orc h1)
   ·rename_i x s1 _ h1
    simp only[oA,Out.done.injEq]at e;obtain⟨_,rfl⟩:=e;exact qE c orc h1
   ·cases e
  | false =>
   simp only[hw,oL]at e;split at e
   ·rename_i s1 h1
    obtain⟨_,e1⟩:=yW h1;rw[ihl e,e1]
   ·cases e
theorem zPn {rd:Bool}{ih:Bool->Code->St->Option Out}{ops:List Oper}{bs:List Nat}{m:Nat}:∀(l:List Oper) (r k:Nat) {s s':St}{a:AX},yJ c orc rd ih ops bs m r k l s=some (.done a s')->s'.n=s.n:=by
 intro l
 induction l with
 | nil=>intro r k s s' a e;cases r<;>(simp only[yJ,oA,Out.done.injEq]at e;rw[<-e.2])
 | cons o l ihl =>
  intro r k s s' a e;cases r with
  | zero=>simp only[yJ]at e;exact zMe c orc _ e
  | succ r =>
   simp only[yJ]at e;cases hw:zZ ops s.tm o with
   | true =>
    simp only[hw,oK]at e;split at e
    ·rename_i s1 h1
     cases h2:(Nat.ble s.heap.next s1.heap.low || wA ops bs m k s.tm o)with
     | false=>simp[h2]at e
     | true =>
      simp only[h2,oK]at e;cases h3:yl s.dfr s1.dfr with
      | false=>simp[h3]at e
      | true =>
       simp only[h3,oK]at e;have h4:=qE c orc h1;have h5:=ihl _ _ e;exact h5.trans h4
    ·cases e
   | false =>
    simp only[hw,oL]at e;split at e
    ·rename_i s1 h1
     obtain⟨_,e1⟩:=yW h1;rw[ihl _ _ e,e1]
    ·cases e
theorem zGn {d l:Nat}{s s':St}{h3:H}{a:AX}(e:j2 d l s h3=some (.done a s')):s'.n=s.n:=by
 unfold j2 at e;split at e
 ·split at e
  ·cases e
  ·split at e<;>first
    | (cases e;done)
    | (simp only[oA,Out.done.injEq]at e;rw[<-e.2])
 ·cases e
theorem zOK {rd:Bool}{ih:Bool->Code->St->Option Out}{f:Operand}{ps:Array Tmp}{asg body:Code}{s s':St}{a:AX}(e:qW c orc ih rd f ps asg body s=some (.done a s')):s'.n=s.n:=by
 unfold qW at e;split at e
 ·cases hc:(rd || !(Nat.blt (s.heap.next+1) T.top))with
  | true=>simp[hc]at e
  | false =>
   simp only[hc,oL]at e;split at e
   ·exact zGn e
   ·cases e
 ·cases e
theorem zPp:∀(f:Nat) {rd:Bool}{code:Code}{s s':St}{a:AX},Sim.ev c orc f rd code s=some (.done a s')->s'.n=s.n:=by
 intro f
 induction f with
 | zero=>intro rd code s s' a e;cases e
 | succ f ih =>
  intro rd code s s' a e;have e:yw c orc (Sim.ev c orc f) rd code s=some (.done a s'):=e;cases code with
  | region id ops draw =>
   simp only[yw]at e;cases draw with
   | true =>
    simp only[oK]at e;split at e
    ·exact zPn c orc _ _ _ e
    ·cases e
   | false=>simp only[oL]at e;exact zMe c orc _ e
  | seq x y =>
   simp only[yw]at e;split at e
   ·rename_i s1 h1;exact(ih e).trans (ih h1)
   ·exact ih e
  | cond x p q =>
   simp only[yw]at e;split at e
   ·rename_i t _;cases t<;>exact ih e
   ·cases e
  | block id b =>
   simp only[yw]at e;split at e
   ·rename_i i s1 h1
    cases hb:Nat.beq i id with
    | true=>simp only[hb,oK,oA,Out.done.injEq]at e;rw[<-e.2];exact ih h1
    | false=>simp only[hb,oL,oA,Out.done.injEq]at e;rw[<-e.2];exact ih h1
   ·exact ih e
  | loop b =>
   simp only[yw]at e;split at e
   ·rename_i s1 h1;exact(ih e).trans (ih h1)
   ·exact ih e
  | scope b=>exact ih e
  | rangeFunc g ps asg body=>simp only[yw]at e;exact zOK c orc e
  | skip|label|exit|ret=>simp only[yw,oA,Out.done.injEq]at e;rw[<-e.2]
  | goto|refuse=>simp[yw]at e
theorem zHE (h:H) (l:Nat):zCn h l = { h with low:=l }:=by cases h;rfl
theorem zJQ (h h':H):zM5 h h' = { h' with low:=cond (Nat.ble h.low h'.low) h.low h'.low }:=by cases h;cases h';rfl
theorem zLC (ih:IH) (n:Nat) (x:En) (ops:List Oper) (bs:List Nat) (m:Nat):∀(l:List Oper) (r i:Nat) (k:R) (tm:Tm) (dfr:List AD) (h:H),
  zDa ops bs m n l r i ⟨c,orc⟩ ih x k tm dfr h=zEN (yJ c orc x.rd (evO ih) ops bs m r i l ⟨n,tm,dfr,h⟩) x k:=by
 intro l
 induction l with
 | nil=>intro r i k tm dfr h;cases r<;>(simp only[yJ];rfl)
 | cons o l ihl =>
  intro r i k tm dfr h;cases r with
  | zero =>
   simp only[yJ];exact zHo c orc ih n x ops (λo s a s' e=>qE c orc e) (o::l) k tm dfr h
  | succ r =>
   show YC (zIV ops tm o) (coY (coO n o) ⟨c,orc⟩ ih ⟨x.rd,noX⟩ (zH7 ops bs m i o tm dfr h (zDa ops bs m n l r (i+1) ⟨c,orc⟩ ih x k)) tm dfr (zCn h T.top))
    (qU (j1 n o.dst) (zDa ops bs m n l r (i+1) ⟨c,orc⟩ ih x k) tm zC dfr h)=_
   simp only[yJ];rw[qK,zOj,zKv,jU n o.dst _ tm zC dfr h h,zHE];cases zZ ops tm o with
   | true =>
    simp only[oK];cases hs:z6 c orc x.rd (evO ih) o ⟨n,tm,dfr,{ h with low:=T.top }⟩with
    | none=>rfl
    | some q =>
     obtain⟨a,s'⟩:=q;have hn:s'.n=n:=qE c orc hs;obtain⟨n',tm',dfr',h'⟩:=s';simp only at hn;subst hn;cases a with
     | normal =>
      show zH7 ops bs m i o tm dfr h (zDa ops bs m n' l r (i+1) ⟨c,orc⟩ ih x k) tm' dfr' h'=_;unfold zH7;rw[qK,qK,ihl,zJQ];dsimp only;cases (Nat.ble h.next h'.low || wA ops bs m i tm o)with
      | false=>rfl
      | true =>
       simp only[oK];cases yl dfr dfr'<;>rfl
     | _=>rfl
   | false =>
    simp only[oL];cases hp:yF ⟨n,tm,dfr,h⟩ o.dst zC h with
    | none=>rfl
    | some s' =>
     obtain⟨_,e⟩:=yW hp;subst e;exact ihl r (i+1) k _ _ _
theorem zHp {r:Option Out}{n:Nat}{rd:Bool}(h:∀a s',r=some (.done a s')->s'.n=n) :
  zEN r ⟨rd,λa tm dfr h=>some (.done a ⟨n,tm,dfr,h⟩)⟩ (λtm dfr h=>some (.done .normal ⟨n,tm,dfr,h⟩))=r:=by
 cases r with
 | none=>rfl
 | some o =>
  obtain⟨a,s⟩:=o;have:=h a s rfl;obtain⟨n',tm,dfr,h'⟩:=s;simp only at this;subst this;cases a<;>rfl
theorem zWO:∀(f n:Nat) (x:En) (code:Code) (k:R) (tm:Tm) (dfr:List AD) (h:H),
  exY ⟨c,orc⟩ f n x code k tm dfr h=zEN (Sim.ev c orc f x.rd code ⟨n,tm,dfr,h⟩) x k:=by
 intro f
 induction f with
 | zero=>intro n x code k tm dfr h;rfl
 | succ f ih =>
  have hO:evO (exY ⟨c,orc⟩ f)=Sim.ev c orc f:=by
   funext rd code s
   obtain⟨n,tm,dfr,h⟩:=s;show exY ⟨c,orc⟩ f n _ code _ tm dfr h=_;rw[ih];exact zHp λa s' e=>zPp c orc f e
  intro n x code k tm dfr h;show exY ⟨c,orc⟩ (f+1) n x code k tm dfr h=zEN (yw c orc (Sim.ev c orc f) x.rd code ⟨n,tm,dfr,h⟩) x k;cases code with
  | region id ops draw =>
   cases draw with
   | true =>
    show zH8 ⟨c,orc⟩ (exY ⟨c,orc⟩ f) n x ops.toList k tm dfr h=_;unfold zH8;simp only[yw,oK];cases hd:xD ops.toList with
    | none=>rfl
    | some m =>
     dsimp only;rw[zLC c orc (exY ⟨c,orc⟩ f) n x ops.toList (zp ops.toList []) m,hO]
   | false =>
    show zJZ (cgL n ops.toList ops.toList) ⟨c,orc⟩ (exY ⟨c,orc⟩ f) x k tm dfr h=_;rw[zHo c orc (exY ⟨c,orc⟩ f) n x ops.toList (λo s a s' e=>qE c orc e),hO];rfl
  | seq a b =>
   show exY ⟨c,orc⟩ f n x a (exY ⟨c,orc⟩ f n x b k) tm dfr h=_;rw[ih];simp only[yw];cases hr:Sim.ev c orc f x.rd a ⟨n,tm,dfr,h⟩with
   | none=>rfl
   | some o =>
    obtain⟨y,s⟩:=o;have hn:=zPp c orc f hr;obtain⟨n',tm',dfr',h'⟩:=s;simp only at hn;subst hn;cases y with
    | normal=>exact ih _ _ _ _ _ _ _
    | _=>rfl
  | cond y a b =>
   rw[zLI];unfold zWp;dsimp only;simp only[yw];cases hs:Jy y with
   | none =>
    rw[zJr hs];rfl
   | some s =>
    rw[Z7 hs];dsimp only;rw[zKz];show zDV (rdS s tm) (exY ⟨c,orc⟩ f n x a k tm dfr h) (exY ⟨c,orc⟩ f n x b k tm dfr h)=_;by_cases hb:∃t,rdS s tm = .bool t
    ·obtain⟨t,hb⟩:=hb
     rw[hb,zFj,ih,ih];cases t<;>rfl
    ·rw[zDW (λt e=>hb ⟨t,e⟩)]
     split
     ·rename_i t e;simp only[oA]at e;exact absurd ⟨t,e⟩ hb
     ·rfl
  | block id b =>
   show exY ⟨c,orc⟩ f n ⟨x.rd,zGJ id k x.kx⟩ b k tm dfr h=_;rw[ih];simp only[yw];cases Sim.ev c orc f x.rd b ⟨n,tm,dfr,h⟩with
   | none=>rfl
   | some o =>
    obtain⟨y,s⟩:=o;cases y with
    | exit i =>
     show YC (Nat.beq i id) k (x.kx (.exit i)) s.tm s.dfr s.heap=_;rw[qK];dsimp only;cases Nat.beq i id<;>rfl
    | _=>rfl
  | loop b =>
   show exY ⟨c,orc⟩ f n x b (exY ⟨c,orc⟩ f n x (.loop b) k) tm dfr h=_;rw[ih];simp only[yw];cases hr:Sim.ev c orc f x.rd b ⟨n,tm,dfr,h⟩with
   | none=>rfl
   | some o =>
    obtain⟨y,s⟩:=o;have hn:=zPp c orc f hr;obtain⟨n',tm',dfr',h'⟩:=s;simp only at hn;subst hn;cases y with
    | normal=>exact ih _ _ _ _ _ _ _
    | _=>rfl
  | scope b=>exact ih _ _ _ _ _ _ _
  | rangeFunc g ps asg body =>
   show zEN (qW c orc (evO (exY ⟨c,orc⟩ f)) x.rd g ps asg body ⟨n,tm,dfr,h⟩) x k=_;rw[hO];rfl
  | _=>rfl
theorem zWN (f:Nat):evO (exY ⟨c,orc⟩ f)=Sim.ev c orc f:=by
 funext rd code s
 obtain⟨n,tm,dfr,h⟩:=s;show exY ⟨c,orc⟩ f n _ code _ tm dfr h=_;rw[zWO];exact zHp λa s' e=>zPp c orc f e
theorem zWi (n f:Nat) (args:List V) (h:H):run c orc n f args h=Sim.run c orc n f args h:=by
 unfold run Sim.run;rw[zWN]
end
theorem sound {P:Program}{c:Ctx}{orc:Nat->List V->H->Option (V×H)}(ok:CtxOK P c) (hor:yg P c orc) {n f:Nat}{args:List V}{h:H}{out:CallOut}(e:run c orc n f args h=some out):SimF P f args h out :=
 zJj ok hor (by rw[<-zWi];exact e)
end X
end Go.Sim
