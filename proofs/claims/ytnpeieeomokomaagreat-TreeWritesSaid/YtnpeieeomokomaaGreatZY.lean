/- Y. No condition. -/
import Derived.Test.YtnpeieeomokomaaGreatZV
import Derived.Test.YtnpeieeomokomaaGreatZW
namespace Go.Sim
variable (P:Program) (c:Ctx)
variable {P c}
end Go.Sim
namespace Go.Sim
theorem zP {n:Nat}(h:n<18446744073709551616):zN .u64 (n:Int)=(n:Int):=by
 rw[xI];simp only[IntKind.wrap,IntKind.bits,IntKind.signed];simp;omega
theorem yf {n:Nat}:zN .u8 (n:Int)=((n % 256:Nat):Int):=by
 rw[xI];simp only[IntKind.wrap,IntKind.bits,IntKind.signed];simp
theorem zBZ {n:Nat}(h:n<18446744073709551616):IntKind.u64.wrap (n:Int)=(n:Int):=by
 rw[<-xI];exact zP h
theorem zBY {n:Nat}(h:n<9223372036854775808):IntKind.i64.wrap (n:Int)=(n:Int):=by
 rw[<-xI];exact zH (Int.le_trans (by decide) (Int.natCast_nonneg _)) (Int.ofNat_lt.2 h)
theorem ZN {a n:Nat}(hn:n<=64) (h:a*2^n<18446744073709551616):zj .shl .u64 (a:Int) (n:Int)=some (.int .u64 ((a*2^n:Nat):Int)):=by
 show cond (Xz (n:Int) 0) none (some (V.int .u64 (zN .u64 (zJn (a:Int) (cond (Nat.ble n 64) n 64)))))=_;rw[oC hn,oK,yo,KU];have h3:decide ((n:Int)<0)=false:=by simp
 rw[h3,oL];have e:(a:Int)*2^n=((a*2^n:Nat):Int):=by rw[Int.natCast_mul,Int.natCast_pow];rfl
 rw[e,zP h]
theorem zb {a n:Nat}(hn:n<=64) (h:a*2^n<9223372036854775808):zj .shl .i64 (a:Int) (n:Int)=some (.int .i64 ((a*2^n:Nat):Int)):=by
 show cond (Xz (n:Int) 0) none (some (V.int .i64 (zN .i64 (zJn (a:Int) (cond (Nat.ble n 64) n 64)))))=_;rw[oC hn,oK,yo,KU];have h3:decide ((n:Int)<0)=false:=by simp
 rw[h3,oL];have e:(a:Int)*2^n=((a*2^n:Nat):Int):=by rw[Int.natCast_mul,Int.natCast_pow];rfl
 rw[e];exact congrArg _ (congrArg _ (zH (Int.le_trans (by decide) (Int.natCast_nonneg _)) (Int.ofNat_lt.2 h)))
theorem XU {a n:Nat}(h:n<=64):zj .shr .u64 (a:Int) (n:Int)=some (.int .u64 ((a/2^n:Nat):Int)):=by
 show cond (Xz (n:Int) 0) none (some (V.int .u64 (zCi (a:Int) (cond (Nat.ble n 64) n 64))))=_;rw[oC h,oK,yo];have h3:decide ((n:Int)<0)=false:=by simp
 rw[h3,oL]
 congr 2
 show Int.ofNat (Nat.shiftRight a n)=_;rw[show Nat.shiftRight a n=a >>> n from rfl,Nat.shiftRight_eq_div_pow];rfl
theorem j4 {a n:Nat}(h:n<=64):zj .shr .i64 (a:Int) (n:Int)=some (.int .i64 ((a/2^n:Nat):Int)):=by
 show cond (Xz (n:Int) 0) none (some (V.int .i64 (zCi (a:Int) (cond (Nat.ble n 64) n 64))))=_;rw[oC h,oK,yo];have h3:decide ((n:Int)<0)=false:=by simp
 rw[h3,oL]
 congr 2
 show Int.ofNat (Nat.shiftRight a n)=_;rw[show Nat.shiftRight a n=a >>> n from rfl,Nat.shiftRight_eq_div_pow];rfl
theorem xX {w n:Nat}(h:n<2^w):(BitVec.ofInt w (n:Int)).toNat=n:=by
 rw[BitVec.ofInt_natCast,BitVec.toNat_ofNat,oZ h]
theorem zQH {a b:Nat}(ha:a<18446744073709551616) (hb:b<18446744073709551616):zj .or .u64 (a:Int) (b:Int)=some (.int .u64 ((a ||| b:Nat):Int)):=by
 show some (V.int .u64 (IntKind.u64.wrap (((BitVec.ofInt 64 (a:Int) ||| BitVec.ofInt 64 (b:Int)).toNat:Nat):Int)))=_;rw[BitVec.toNat_or,xX (show a<2^64 from ha),xX (show b<2^64 from hb)];rw[zBZ (show a ||| b<2^64 from Nat.or_lt_two_pow ha hb)]
theorem zDP {a b:Nat}(ha:a<18446744073709551616) (hb:b<18446744073709551616):zj .and .u64 (a:Int) (b:Int)=some (.int .u64 ((a &&& b:Nat):Int)):=by
 show some (V.int .u64 (IntKind.u64.wrap (((BitVec.ofInt 64 (a:Int) &&& BitVec.ofInt 64 (b:Int)).toNat:Nat):Int)))=_;rw[BitVec.toNat_and,xX (show a<2^64 from ha),xX (show b<2^64 from hb)];rw[zBZ (Nat.lt_of_le_of_lt Nat.and_le_left ha)]
theorem jx {a b:Nat}(ha:a<9223372036854775808) (hb:b<9223372036854775808):zj .and .i64 (a:Int) (b:Int)=some (.int .i64 ((a &&& b:Nat):Int)):=by
 show some (V.int .i64 (IntKind.i64.wrap (((BitVec.ofInt 64 (a:Int) &&& BitVec.ofInt 64 (b:Int)).toNat:Nat):Int)))=_;rw[BitVec.toNat_and,xX (show a<2^64 by omega),xX (show b<2^64 by omega)];rw[zBY (Nat.lt_of_le_of_lt Nat.and_le_left ha)]
theorem jy (a n:Nat):a &&& (2^n-1)=a % 2^n:=Nat.and_two_pow_sub_one_eq_mod a n
theorem zG0 {a b i:Nat}(h:a<2^i):a ||| b*2^i=a+b*2^i:=by
 rw[Nat.mul_comm,Nat.or_comm,<-Nat.two_pow_add_eq_or_of_lt h];omega
variable (P:Program) (c:Ctx)
variable {P c}
end Go.Sim
namespace Go.Sim
open Go (Code Oper Op)
def nEx (i:Nat):Code->Nat
 | .seq a b=>nEx i a+nEx i b
 | .cond _ a b=>nEx i a+nEx i b
 | .block _ b=>nEx i b
 | .scope b=>nEx i b
 | .exit j=>cond (Nat.beq i j) 1 0
 | _=>0
def zMm:List Oper->Nat
 | []=>1
 | o::l=>match o.op with
  | .pick ..=>2*zMm l
  | _=>zMm l
def OE:Code->Nat
 | .region _ ops _=>zMm ops.toList
 | .seq a b=>OE a*OE b
 | .cond _ a b=>OE a+OE b
 | .block i b=>OE b+nEx i b
 | .scope b=>OE b
 | .exit _=>0
 | .ret=>0
 | _=>1
def z0G {α:Type}:List α->Nat
 | []=>0
 | _::l=>z0G l+1
def zEG:Code->Nat
 | .region _ ops _=>z0G ops.toList
 | .seq a b=>zEG a+zEG b
 | .cond _ a b=>zEG a+zEG b
 | .block _ b=>zEG b
 | .scope b=>zEG b
 | .loop b=>zEG b
 | _=>0
def zMa (jn:Nat) (a b:Code):Bool:=cond (Nat.ble 2 (OE a)) (Nat.ble jn (zEG b)) false
def sealK (live:List Nat) (k:St->Prop):St->Prop:=λs=>∀tm',Ob s.tm tm' live (k ⟨s.n,tm',s.dfr,s.heap⟩)
theorem JM {live:List Nat}{k:St->Prop}{s:St}(h:sealK live k s):k s:=zBO (h s.tm)
theorem zGr {tm tm':Tm}{q q':Prop}(hq:q->q'):∀{l:List Nat},Ob tm tm' l q->Ob tm tm' l q':=by
 intro l
 induction l with
 | nil=>exact hq
 | cons t l ih=>exact λh e=>ih (h e)
theorem YV {live:List Nat}{k k':St->Prop}(hk:∀s,k s->k' s) {s:St}(h:sealK live k s):sealK live k' s:=λtm'=>zGr (hk _) (h tm')
variable (P:Program) (c:Ctx)
def wpS (live:List Nat) (jn:Nat) (b:Bool):Code->St->(AX->St->Prop)->Prop
 | .seq x y,s,Q=>wpS live jn b x s (thenC (cond (zMa jn x y) (sealK live λs1=>wpS live jn b y s1 Q) (λs1=>wpS live jn b y s1 Q)) Q)
 | .cond o x y,s,Q=>match yQ s.tm o with
  | some v=>wG v λt=>match t with|true=>wpS live jn b x s Q|false=>wpS live jn b y s Q
  | none=>False
 | .block id x,s,Q=>wpS live jn b x s (λe s1=>Q (zK id e) s1)
 | .scope x,s,Q=>wpS live jn b x s Q
 | .loop x,s,Q=>sealK live (λs1=>wpC P c b (.loop x) s1 Q) s
 | .rangeFunc f ps asg body,s,Q=>sealK live (λs1=>RC P b (.rangeFunc f ps asg body) s1 Q) s
 | x,s,Q=>wpC P c b x s Q
variable {P c}
theorem Oq {k k':St->Prop}{Q Q':AX->St->Prop}(h1:∀s,k s->k' s) (h2:∀x s,Q x s->Q' x s):∀x s,thenC k Q x s->thenC k' Q' x s:=by
 intro x s h;cases x<;>first|exact h1 _ h|exact h2 _ _ h
theorem zOr {live:List Nat}{jn:Nat}{b:Bool}:∀(code:Code) {s:St}{Q Q':AX->St->Prop},(∀x s',Q x s'->Q' x s')->wpS P c live jn b code s Q->wpS P c live jn b code s Q':=by
 intro code
 induction code with
 | seq x y ihx ihy =>
  intro s Q Q' hq h;refine ihx (Oq (λs1 h1=>?_) hq) h;revert h1;cases zMa jn x y with
  | true=>exact λh1=>YV (k:=λs1=>wpS P c live jn b y s1 Q) (λ_ h=>ihy hq h) h1
  | false=>exact λh1=>ihy hq h1
 | cond o x y ihx ihy =>
  intro s Q Q' hq h;simp only[wpS]at h ⊢;cases ho:yQ s.tm o with
  | none=>rw[ho]at h;exact h
  | some v =>
   rw[ho]at h;refine kY (λt ht=>?_) h;cases t with
   | true=>exact ihx hq ht
   | false=>exact ihy hq ht
 | block id x ih=>intro s Q Q' hq h;exact ih (λe s1=>hq _ _) h
 | scope x ih=>intro s Q Q' hq h;exact ih hq h
 | loop x ih=>intro s Q Q' hq h;exact YV (λ_ h=>ZR _ hq h) h
 | rangeFunc f ps asg body=>intro s Q Q' hq h;exact YV (λ_ h=>RC.mono h hq) h
 | _=>intro s Q Q' hq h;exact ZR _ hq h
theorem zCq {live:List Nat}{jn:Nat}{b:Bool}:∀(code:Code) {s:St}{Q:AX->St->Prop},wpS P c live jn b code s Q->wpC P c b code s Q:=by
 intro code
 induction code with
 | seq x y ihx ihy =>
  intro s Q h;refine ZR x (Oq (λs1 h1=>?_) λ_ _ h=>h) (ihx h)
  revert h1;cases zMa jn x y with
  | true=>exact λh1=>ihy (JM (k:=λs1=>wpS P c live jn b y s1 Q) h1)
  | false=>exact λh1=>ihy h1
 | cond o x y ihx ihy =>
  intro s Q h;simp only[wpS,wpC]at h ⊢;cases ho:yQ s.tm o with
  | none=>rw[ho]at h;exact h
  | some v =>
   rw[ho]at h;refine kY (λt ht=>?_) h;cases t with
   | true=>exact ihx ht
   | false=>exact ihy ht
 | block id x ih=>intro s Q h;exact ih h
 | scope x ih=>intro s Q h;exact ih h
 | loop x ih=>intro s Q h;exact JM h
 | rangeFunc f ps asg body=>intro s Q h;exact JM h
 | _=>intro s Q h;exact h
theorem wpS.slt {live:List Nat}{jn:Nat}{b:Bool}{code:Code}{s:St}{Q:AX->St->Prop}{w:Prop}(e:wpS P c live jn b code s (zD live Q)=w) (h:w):wpS P c live jn b code s Q:=zOr _ (λ_ _=>zJk) (e ▸ h)
theorem wpC.sealS {live:List Nat}{jn:Nat}{b:Bool}{code:Code}{s:St}{Q:AX->St->Prop}{w:Prop}(e:wpS P c live jn b code s (zD live Q)=w) (h:w):wpC P c b code s Q:=zCq _ (wpS.slt e h)
theorem RF.enterS (ok:CtxOK P c) {live:List Nat}{jn:Nat}{f:Nat}{fi:FI}{args:List V}{h:H}{Q:V->H->Prop}{w:Prop}(hf:(c.fn.get f).map zR=some fi) (ha:args.length<=fi.n) (hn:fi.n<=511)
  (e:wpS P c live jn false fi.body ⟨fi.n,zF args 0 (Tb.leaf zC),[],h⟩ (endW c fi Q)=w) (hw:w):RF P c f args h Q:=RF.enter ok hf ha hn (zCq _ (e ▸ hw))
end Go.Sim
namespace Go.Sim
abbrev Kn:=List (Nat×V)
def lk:Kn->Nat->Option V
 | [],_=>none
 | p::l,t=>cond (Nat.beq p.1 t) (some p.2) (lk l t)
def Has (tm:Tm):Kn->Prop
 | []=>True
 | p::l=>yB tm p.1=p.2/\Has tm l
theorem Has.nil {tm:Tm}:Has tm []:=trivial
theorem Has.get {tm:Tm}:∀{l:Kn}{t:Nat}{v:V},Has tm l->lk l t=some v->yB tm t=v
 | p::l,t,v,h,e=>by
  unfold lk at e;cases hb:Nat.beq p.1 t with
  | true=>rw[hb,oK]at e;rw[<-oF hb,h.1];exact Option.some.inj e
  | false=>rw[hb,oL]at e;exact Has.get h.2 e
def zE:Tm->Kn->Tm
 | tm,[]=>tm
 | tm,p::l=>zE (Tb.set tm p.1 p.2) l
theorem ZC:∀{l:Kn}{tm:Tm},Has tm l->(l.all λp=>Nat.blt p.1 511)=true->zE tm l=tm
 | [],_,_,_=>rfl
 | p::l,tm,h,hk=>by
  rw[List.all_cons,oG]at hk;show zE (Tb.set tm p.1 p.2) l=tm;rw[zWm ((z8 _ _).1 hk.1) h.1];exact ZC h.2 hk.2
theorem Has.sub {tm:Tm}{l:Kn}(h:Has tm l):∀{l':Kn},(l'.map λp=>lk l p.1)=(l'.map λp=>some p.2)->Has tm l'
 | [],_=>trivial
 | p::l',e=>by
  rw[List.map_cons,List.map_cons]at e;exact⟨h.get (List.cons.inj e).1,h.sub (List.cons.inj e).2⟩
abbrev kk (t:Nat):Nat×Option V:=(t,none)
abbrev ss (t:Nat) (v:V):Nat×Option V:=(t,some v)
def zB (tm tm':Tm):List (Nat×Option V)->Prop->Prop
 | [],q=>q
 | (t,some v)::l,q=>yB tm' t=v->zB tm tm' l q
 | (t,none)::l,q=>yB tm' t=yB tm t->zB tm tm' l q
def upd (l:Kn):List (Nat×Option V)->Kn
 | []=>[]
 | (t,some v)::r=>(t,v)::upd l r
 | (t,none)::r=>match lk l t with
  | some v=>(t,v)::upd l r
  | none=>upd l r
theorem Kv {tm tm':Tm}{l:Kn}(hs:Has tm l):∀{r:List (Nat×Option V)}{q:Prop},(Has tm' (upd l r)->q)->zB tm tm' r q
 | [],_,h=>h trivial
 | (_,some _)::_,_,h=>λe=>Kv hs λhs'=>h ⟨e,hs'⟩
 | (t,none)::r,_,h=>λe=>Kv hs λhs'=>h (by
   show Has tm' (match lk l t with|some v=>(t,v)::upd l r|none=>upd l r)
   cases hl:lk l t with
   | some v=>exact⟨e.trans (hs.get hl),hs'⟩
   | none=>exact hs')
theorem Has.on {tm:Tm}{l:Kn}{r:List (Nat×Option V)}{q:Tm->Prop}(hs:Has tm l) (h:∀tm',Has tm' (upd l r)->q tm'):∀tm',zB tm tm' r (q tm'):=λtm'=>Kv hs (h tm')
theorem Oc {tm tm':Tm}{l:Kn}(hs:Has tm l):∀{live:List Nat}{q:Prop},(Has tm' (upd l (live.map kk))->q)->Ob tm tm' live q
 | [],_,h=>h trivial
 | t::live,_,h=>λe=>Oc hs λhs'=>h (by
   show Has tm' (match lk l t with|some v=>(t,v)::upd l (live.map kk)|none=>upd l (live.map kk))
   cases hl:lk l t with
   | some v=>exact⟨e.trans (hs.get hl),hs'⟩
   | none=>exact hs')
theorem Has.slt {tm:Tm}{l:Kn}{live:List Nat}{Q:AX->St->Prop}{x:AX}{n:Nat}{d:List AD}{hp:H}(hs:Has tm l) (h:∀tm',Has tm' (upd l (live.map kk))->Q x ⟨n,tm',d,hp⟩):zD live Q x ⟨n,tm,d,hp⟩:=λtm'=>Oc hs (h tm')
theorem Has.sealK {tm:Tm}{l:Kn}{live:List Nat}{K:St->Prop}{n:Nat}{d:List AD}{hp:H}(hs:Has tm l) (h:∀tm',Has tm' (upd l (live.map kk))->K ⟨n,tm',d,hp⟩):sealK live K ⟨n,tm,d,hp⟩:=λtm'=>Oc hs (h tm')
variable {P:Program}{c:Ctx}
theorem wpS.at {live:List Nat}{jn:Nat}{b:Bool}{code:Code}{n:Nat}{tm:Tm}{d:List AD}{h:H}{Q:AX->St->Prop}{l l':Kn}{w:Prop}(hs:Has tm l)
  (e:wpS P c live jn b code ⟨n,zE tm l',d,h⟩ (zD live Q)=w) (hsub:(l'.map λp=>lk l p.1)=(l'.map λp=>some p.2)) (hk:(l'.all λp=>Nat.blt p.1 511)=true) (hw:w):wpS P c live jn b code ⟨n,tm,d,h⟩ Q:=by
 rw[ZC (hs.sub hsub) hk]at e;exact wpS.slt e hw
theorem wpC.at {live:List Nat}{jn:Nat}{b:Bool}{code:Code}{n:Nat}{tm:Tm}{d:List AD}{h:H}{Q:AX->St->Prop}{l l':Kn}{w:Prop}(hs:Has tm l)
  (e:wpS P c live jn b code ⟨n,zE tm l',d,h⟩ (zD live Q)=w) (hsub:(l'.map λp=>lk l p.1)=(l'.map λp=>some p.2)) (hk:(l'.all λp=>Nat.blt p.1 511)=true) (hw:w):wpC P c b code ⟨n,tm,d,h⟩ Q :=
 zCq _ (wpS.at hs e hsub hk hw)
theorem wpC.round {b:Bool}{x:Code}{n:Nat}{tm:Tm}{d:List AD}{h:H}{Q:AX->St->Prop}(I:Nat->Tm->H->Prop) (k:Nat) (h0:I k tm h)
  (hI:∀k tm h,I k tm h->wpC P c b x ⟨n,tm,d,h⟩ (thenC (λs1=>s1.n=n/\s1.dfr=d/\∃j,j<k/\I j s1.tm s1.heap) Q)):wpC P c b (.loop x) ⟨n,tm,d,h⟩ Q:=⟨I,⟨k,h0⟩,hI⟩
theorem xf (i:Nat):zK i (.exit i) = .normal:=by simp[zK]
theorem thenC.left {i:Nat}{K I:St->Prop}{R:AX->St->Prop}{s:St}(h:K s):thenC I (λe s1=>thenC K R (zK i e) s1) (.exit i) s:=by
 show thenC K R (zK i (.exit i)) s;rw[xf];exact h
section
variable {n m a1 a2 a3 a4:Nat}{tm:Tm}{h:H}{Q:V->H->Prop}{v1 v2 v3 v4:V}{body:Code}
theorem endW.r1 (h1:yB tm a1=v1) (hq:Q v1 h):endW c ⟨n,[.tmp a1],body⟩ Q .ret ⟨m,tm,[],h⟩:=by
 subst h1;exact hq
theorem endW.r2 (h1:yB tm a1=v1) (h2:yB tm a2=v2) (hq:Q (.tuple [v1,v2]) h):endW c ⟨n,[.tmp a1,.tmp a2],body⟩ Q .ret ⟨m,tm,[],h⟩:=by
 subst h1 h2;exact hq
theorem endW.r3 (h1:yB tm a1=v1) (h2:yB tm a2=v2) (h3:yB tm a3=v3) (hq:Q (.tuple [v1,v2,v3]) h):endW c ⟨n,[.tmp a1,.tmp a2,.tmp a3],body⟩ Q .ret ⟨m,tm,[],h⟩:=by
 subst h1 h2 h3;exact hq
end
theorem leave.tmp {rs l:List ResultVar}{tm:Tm}{h:H}{t:Nat}{v:V}{acc:List V}{r:Option (List V)}(ht:yB tm t=v) (hr:leave c rs tm h l (v::acc)=r):leave c rs tm h (.tmp t::l) acc=r:=by
 subst ht;exact hr
theorem leave.cell {rs l:List ResultVar}{tm:Tm}{h:H}{a t:Nat}{p v:V}{acc:List V}{r:Option (List V)}(hp:yB tm a=p) (ha:zO c t h p=some v) (hr:leave c rs tm h l (v::acc)=r):leave c rs tm h (.cell a t::l) acc=r:=by
 subst hp;show(match zO c t h (yB tm a)with|some v=>leave c rs tm h l (v::acc)|none=>none)=_
 rw[ha];exact hr
theorem endW.ok {n m:Nat}{rs:List ResultVar}{body:Code}{tm:Tm}{h:H}{vs:List V}{Q:V->H->Prop}(e:leave c rs tm h rs []=some vs) (hq:Q (yj vs) h):endW c ⟨n,rs,body⟩ Q .ret ⟨m,tm,[],h⟩:=by
 show(match leave c rs tm h rs []with|some vs=>Q (yj vs) h|none=>False)
 rw[e];exact hq
def leaveL (c:Ctx) (h:H):List (ResultVar×V)->List V->Option (List V)
 | [],acc=>some acc.reverse
 | (.tmp _,v)::l,acc=>leaveL c h l (v::acc)
 | (.cell _ t,p)::l,acc=>match zO c t h p with
  | some v=>leaveL c h l (v::acc)
  | none=>none
def endL (c:Ctx) (h:H) (l:List (ResultVar×V)) (Q:V->H->Prop):Prop:=match leaveL c h l []with
 | some vs=>Q (yj vs) h
 | none=>False
theorem leaveL.cell {h:H}{a t:Nat}{p v:V}{l:List (ResultVar×V)}{acc r:List V}(ha:zO c t h p=some v) (hr:leaveL c h l (v::acc)=r):leaveL c h ((.cell a t,p)::l) acc=r:=by
 show(match zO c t h p with|some v=>leaveL c h l (v::acc)|none=>none)=_
 rw[ha];exact hr
theorem endL.ok {h:H}{l:List (ResultVar×V)}{vs:List V}{Q:V->H->Prop}(e:leaveL c h l []=some vs) (hq:Q (yj vs) h):endL c h l Q:=by
 unfold endL;rw[e];exact hq
theorem ExtX.andThen {S S2:Nat->Prop}{h0 h h':H}{m n:Nat}(a:ExtX S h0 h m) (b:ExtX S2 h h' n) (hS:∀b,S2 b->S b\/h0.next<=b):ExtX S h0 h' (m+n) :=
 ⟨oP a.le b.le,by have:=a.top;have:=b.top;omega,λi hi hn=>(b.get i (oI hi a.le) λq=>(hS i q).elim hn λg=>by omega).trans (a.get i hi hn),oP b.low a.low,λk h1 h2 h3=>b.lo k (a.lo k h1 h2 h3) (oP h2 a.le) λi hi=>(hS i hi).elim (h3 i) λg=>oP h2 g⟩
theorem ExtX.append {h h':H}{v:V}(h1:h.next<=h'.next) (h2:h'.next<=h.next+1) (h3:∀b,b<h.next->ym v≠some b->h'.get b=h.get b) (h4:h'.low<=h.low) (h5:∀m,m<=h.low->(∀b,ym v=some b->m<=b)->m<=h'.low):ExtX (λb=>ym v=some b) h h' 1 :=
 ⟨h1,h2,h3,h4,λm m1 _ m3=>h5 m m1 m3⟩
theorem zM6 {h h':H}{o:O}(e:h'=h.new o) (hn:h.next<T.top):h'.next=h.next+1/\Ext h h' 1/\h'.get h.next=some o:=by
 subst e;exact⟨zI _ _,Ext.new _ hn,zw _ hn⟩
end Go.Sim
