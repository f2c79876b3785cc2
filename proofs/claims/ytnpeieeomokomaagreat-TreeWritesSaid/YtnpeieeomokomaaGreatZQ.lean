/- Q. No condition. -/
import Derived.Test.YtnpeieeomokomaaGreatZP
import Derived.Test.YtnpeieeomokomaaGreatZD
namespace Go.Sim
def xa (tm:Tm) (d:Option Tmp) (v:V):Tm:=match d with|none=>tm|some t=>tm.set t v
theorem yW {s s':St}{d:Option Tmp}{v:V}{h:H}(e:yF s d v h=some s'):(∀t,d=some t->t<s.n)/\s' = { s with tm:=xa s.tm d v,heap:=h }:=by
 cases d with
 | none =>
  simp only[yF,oA]at e;exact⟨(λ_ h=>by cases h),e.symm⟩
 | some t =>
  unfold yF at e;cases hb:Nat.blt t s.n with
  | false=>simp[hb]at e
  | true =>
   simp only[hb,oK,oA]at e;refine⟨λt' h=>?_,e.symm⟩
   cases h;exact(z8 _ _).1 hb
theorem qT {s:St}{d:Option Tmp}{v:V}{h:H}(hd:∀t,d=some t->t<s.n):yF s d v h=some { s with tm:=xa s.tm d v,heap:=h }:=by
 cases d with
 | none=>rfl
 | some t =>
  have h1:Nat.blt t s.n=true:=(z8 _ _).2 (hd t rfl);simp only[yF,h1,oK,xa]
section
variable {P:Program}{c:Ctx}{orc:Nat->List V->H->Option (V×H)}{rd:Option Nat}{ih:Bool->Code->St->Option Out}
theorem zBP {r:Bool}{o:Oper}{s s':St}(e:z6 c orc r ih o s=some (.normal,s')) :
  ∃v,(∀t,o.dst=some t->t<s.n)/\s' = { n:=s.n,tm:=xa s.tm o.dst v,dfr:=s'.dfr,heap:=s'.heap } /\
   ∀tm2,(∀x∈o.op.operands,yQ tm2 x=yQ s.tm x)->z6 c orc r ih o { s with tm:=tm2 } = some (.normal,{ s' with tm:=xa tm2 o.dst v }):=by
 unfold z6 at e ⊢;have hc:∀tm2,(∀x∈o.op.operands,yQ tm2 x=yQ s.tm x)->yD c o (yQ tm2) s.heap=yD c o (yQ s.tm) s.heap:=λtm2 h=>zIe c h
 have fin:∀(s0:St) (v:V) (h:H),s0.n=s.n->s0.tm=s.tm->(match yF s0 o.dst v h with|some s'=>some (AX.normal,s')|none=>none)=some (AX.normal,s') ->
   (∀t,o.dst=some t->t<s.n)/\s' = { n:=s.n,tm:=xa s.tm o.dst v,dfr:=s'.dfr,heap:=s'.heap }/\s'.dfr=s0.dfr/\s'.heap=h:=by
  intro s0 v h h1 h2 e;split at e
  ·rename_i s2 hp
   simp only[oA,oB,true_and]at e;subst e;obtain⟨g1,rfl⟩:=yW hp;exact⟨λt ht=>by rw[<-h1];exact g1 t ht,by rw[<-h1,<-h2],rfl,rfl⟩
  ·cases e
 cases ha:yD c o (yQ s.tm) s.heap with
 | none=>simp[ha]at e
 | some an =>
  simp only[ha]at e;cases an with
  | val v h =>
   obtain⟨g1,g2,g3,g4⟩:=fin s v h rfl rfl e;refine⟨v,g1,g2,λtm2 h2=>?_⟩
   simp only[hc tm2 h2,ha];rw[qT (s:={ s with tm:=tm2 }) g1];simp only[oA,oB,true_and];rw[g2];simp only[g3,g4]
  | skip h =>
   obtain⟨g1,g2,g3,g4⟩:=fin s zC h rfl rfl e;refine⟨zC,g1,g2,λtm2 h2=>?_⟩
   simp only[hc tm2 h2,ha];rw[qT (s:={ s with tm:=tm2 }) g1];simp only[oA,oB,true_and];rw[g2];simp only[g3,g4]
  | call f args =>
   simp only at e;cases hcall:xe c orc ih f args s.heap with
   | none=>simp[hcall]at e
   | some out =>
    simp only[hcall]at e;cases out with
    | ret v h =>
     obtain⟨g1,g2,g3,g4⟩:=fin s v h rfl rfl e;refine⟨v,g1,g2,λtm2 h2=>?_⟩
     simp only[hc tm2 h2,ha,hcall];rw[qT (s:={ s with tm:=tm2 }) g1];simp only[oA,oB,true_and];rw[g2];simp only[g3,g4]
    | panic v h=>simp at e
  | round l args =>
   simp only at e;cases hround:kb ih l args s.heap with
   | none=>simp[hround]at e
   | some out =>
    simp only[hround]at e;cases out with
    | ret v h =>
     obtain⟨g1,g2,g3,g4⟩:=fin s v h rfl rfl e;refine⟨v,g1,g2,λtm2 h2=>?_⟩
     simp only[hc tm2 h2,ha,hround];rw[qT (s:={ s with tm:=tm2 }) g1];simp only[oA,oB,true_and];rw[g2];simp only[g3,g4]
    | panic v h=>simp at e
  | dfr d =>
   cases r with
   | true=>simp at e
   | false =>
    simp only[oL]at e;obtain⟨g1,g2,g3,g4⟩:=fin { s with dfr:=d::s.dfr } zC s.heap rfl rfl e;refine⟨zC,g1,g2,λtm2 h2=>?_⟩
    simp only[hc tm2 h2,ha,oL];rw[qT (s:={ s with tm:=tm2,dfr:=d::s.dfr }) g1];simp only[oA,oB,true_and];rw[g2];simp only[g3,g4]
  | recover=>simp at e
  | pan v h=>simp at e
def low0 (h:H):H:={ h with low:=T.top }
def z0S (s s':St):St:={ s' with heap:={ s'.heap with low:=cond (Nat.ble s.heap.low s'.heap.low) s.heap.low s'.heap.low } }
def zCy (c:Ctx) (orc:Nat->List V->H->Option (V×H)) (r:Bool) (ih:Bool->Code->St->Option Out) (ops:List Oper) (bs:List Nat) (m k:Nat) (o:Oper) (s s1:St):Prop :=
 (zZ ops s.tm o=false/\yF s o.dst zC s.heap=some s1) \/
 (zZ ops s.tm o=true/\∃s',z6 c orc r ih o { s with heap:=low0 s.heap } = some (.normal,s')/\(s.heap.next<=s'.heap.low\/wA ops bs m k s.tm o=true)/\s'.dfr=s.dfr/\s1=z0S s s')
theorem zEa:∀{l l':List AD},yl l l'=true->l.length=l'.length:=by
 intro l
 induction l with
 | nil=>intro l' h;cases l'<;>first|rfl|(simp[yl]at h)
 | cons a l ih=>intro l' h;cases l' with
  | nil=>simp[yl]at h
  | cons b l'=>simp only[oS,ih h]
theorem zGx {r:Bool}{o:Oper}{s s':St}(e:z6 c orc r ih o s=some (.normal,s')):s'.dfr=s.dfr\/∃d,s'.dfr=d::s.dfr:=by
 unfold z6 at e;have fin:∀(s0:St) (v:V) (h:H),(match yF s0 o.dst v h with|some s'=>some (AX.normal,s')|none=>none)=some (AX.normal,s')->s'.dfr=s0.dfr:=by
  intro s0 v h e;split at e
  ·rename_i s2 hp
   simp only[oA,oB,true_and]at e;subst e;obtain⟨_,rfl⟩:=yW hp;rfl
  ·cases e
 split at e
 ·cases e
 ·exact .inl (fin _ _ _ e)
 ·exact .inl (fin _ _ _ e)
 ·split at e
  ·exact .inl (fin _ _ _ e)
  ·simp at e
  ·cases e
 ·split at e
  ·exact .inl (fin _ _ _ e)
  ·cases e
 ·cases r with
  | true=>simp at e
  | false=>exact .inr ⟨_,fin _ _ _ e⟩
 ·simp at e
 ·cases e
theorem zFr {r:Bool}{ops:List Oper}{bs:List Nat}{m n k:Nat}{o:Oper}{l:List Oper}{s sf:St}{x:AX}(e:yJ c orc r ih ops bs m (n+1) k (o::l) s=some (.done x sf)) :
  ∃s1,zCy c orc r ih ops bs m k o s s1/\yJ c orc r ih ops bs m n (k+1) l s1=some (.done x sf):=by
 simp only[yJ]at e;cases hw:zZ ops s.tm o with
 | false =>
  simp only[hw,oL]at e;split at e
  ·rename_i s1 hp;exact⟨s1,.inl ⟨hw,hp⟩,e⟩
  ·cases e
 | true =>
  simp only[hw,oK]at e;split at e
  ·rename_i s' hs
   cases hc:(Nat.ble s.heap.next s'.heap.low || wA ops bs m k s.tm o)with
   | false=>simp only[hc,oL]at e;cases e
   | true =>
    simp only[hc,oK]at e;cases hd:yl s.dfr s'.dfr with
    | false=>simp only[hd,oL]at e;cases e
    | true =>
     simp only[hd,oK]at e;simp only[Bool.or_eq_true]at hc;refine⟨_,.inr ⟨hw,s',hs,hc.imp oE id,?_,rfl⟩,e⟩;have h1:=zEa hd;rcases zGx hs with h|⟨d,h⟩
     ·exact h
     ·rw[h]at h1;simp at h1
  ·cases e
def qf (s s1:St):Prop:=∀id,id<s.heap.next->s1.heap.get id=s.heap.get id
structure AF (ops:List Oper) (bs:List Nat) (m k:Nat) (o:Oper) (s s1:St):Prop where
 n:s1.n=s.n
 cap:s1.heap.next<=T.top
 inn:∀t,(yB s.tm t).In λid=>id<s.heap.next
 dfr:s1.dfr=s.dfr
 tm:∃v,(∀t,o.dst=some t->t<s.n)/\s1.tm=xa s.tm o.dst v
 next:s.heap.next<=s1.heap.next
 low:s1.heap.low<=s.heap.low
 old:∀id o',id<s.heap.next->s1.heap.get id=some o'->∃o,s.heap.get id=some o/\o'.wr=o.wr
 kept:∀id,id<s.heap.next->id<s1.heap.low->s1.heap.get id=s.heap.get id
 wr:∀id o',s.heap.next<=id->id<s1.heap.next->s1.heap.get id=some o'->o'.wr=true
 eff:qf s s1\/(s1.heap.next=s.heap.next/\∃b,(∀id,id≠b->s1.heap.get id=s.heap.get id) /\
  (∀i oi,i<k->ops[i]? = some oi->Nat.testBit (bs.getD k 0) i=true\/(wQ s.tm b oi=true/\∀j oj t,i<=j->j<k->ops[j]? = some oj->oj.dst=some t->t∉xb ops oi)) /\
  (∀i,k<i->i<m->Nat.testBit (bs.getD i 0) k=true)) \/
  ((∀i oi,i<k->ops[i]? = some oi->Nat.testBit (bs.getD k 0) i=true\/(Yj oi=true/\∀j oj t,i<=j->j<k->ops[j]? = some oj->oj.dst=some t->t∉xb ops oi)) /\
  (∀i,k<i->i<m->Nat.testBit (bs.getD i 0) k=true))
theorem HR.low0 {ρ:Env}{D:Nat->Prop}{h:H}{w:World}(r:HR ρ D h w):HR ρ D (low0 h) w:=⟨r.cap,r.lt,r.rel,r.inj⟩
theorem zKJ {F:Fence}{ops:Array Oper}{Q:Exit->Act->World->Prop}{is:List Nat}{a:Act}{w:World}(hroom:∀n,F.room n) (hfn:∀f,F.fn f) (h:wpOpsIn F 0 P ops Q is a w):∃e a' w',Q e a' w':=by
 obtain⟨e,a',w',q,_⟩:=wp_opsIn is a w h { (default:Frame)with roundOf:=F.round } [] [] rfl (hfn _) (hroom _);exact⟨e,a',w',q⟩
theorem zJt {r:Bool}{o:Oper}{s s':St}{t:TypeId}{a x:Operand}{b o':Nat}(e:z6 c orc r ih o s=some (.normal,s')) (ho:o.op = .store t a x) (ha:yQ s.tm a=some (.ptr b o')) (hb:b<T.top) :
  s'.heap.next=s.heap.next/\∀id,id≠b->s'.heap.get id=s.heap.get id:=by
 unfold z6 at e;cases hx:yQ s.tm x with
 | none=>simp[yD,ho,ha,hx]at e
 | some v =>
  cases hs:yA c t s.heap (.ptr b o') v with
  | none=>simp[yD,ho,ha,hx,hs]at e
  | some h' =>
   simp only[yD,ho,ha,hx,hs]at e;have hh:s'.heap=h':=by
    split at e
    ·rename_i s2 hp
     simp only[oA,oB,true_and]at e;subst e;obtain⟨_,rfl⟩:=yW hp;rfl
    ·cases e
   rw[hh];unfold yA at hs;simp only at hs;split at hs
   ·split at hs
    ·rename_i ti _
     cases h1:wL v.cells ti.size with
     | false=>simp[h1]at hs
     | true =>
      rename_i esz _ _ _ _;cases h2:cond (Nat.ble esz.fz o') (zU v.cells) false with
      | false=>rw[h1,oK,h2]at hs;cases hs
      | true =>
       rw[h1,oK,h2,oK]at hs;split at hs
       ·simp only[oA]at hs;subst hs
        exact⟨rfl,λid hid=>by rw[H.get_upd _ _ _ _ hb,if_neg hid]⟩
       ·cases hs
    ·cases hs
   ·cases hs
theorem zQZ {r:Bool}{o:Oper}{s s':St}{t:TypeId}{a x y:Operand}{b:Nat}(e:z6 c orc r ih o s=some (.normal,s')) (ho:o.op = .mapUpdate t a x y) (ha:yQ s.tm a=some (.map b)) (hb:b<T.top) :
  s'.heap.next=s.heap.next/\∀id,id≠b->s'.heap.get id=s.heap.get id:=by
 unfold z6 at e;cases hx:yQ s.tm x with
 | none=>simp[yD,ho,ha,hx]at e
 | some u =>
 cases hy:yQ s.tm y with
 | none=>simp[yD,ho,ha,hx,hy]at e
 | some v =>
  cases hs:zAY c t s.heap (.map b) u v with
  | none=>simp[yD,ho,ha,hx,hy,hs]at e
  | some h' =>
   simp only[yD,ho,ha,hx,hy,hs]at e;have hh:s'.heap=h':=by
    split at e
    ·rename_i s2 hp
     simp only[oA,oB,true_and]at e;subst e;obtain⟨_,rfl⟩:=yW hp;rfl
    ·cases e
   rw[hh];have key:∀o1,h'=s.heap.upd b o1->h'.next=s.heap.next/\∀id,id≠b->h'.get id=s.heap.get id:=by
    intro o1 e1;subst e1;exact⟨rfl,λid hid=>by rw[H.get_upd _ _ _ _ hb,if_neg hid]⟩
   unfold zAY at hs;split at hs
   ·rename_i ti _
    cases hd:ti.desc<;>simp only[hd]at hs<;>first|(cases hs;done)|skip
    ·rename_i kt _
     split at hs
     ·cases hk:Jq c kt u with
      | false=>rw[hk,oL]at hs;cases hs
      | true =>
       rw[hk,oK]at hs;split at hs
       ·rename_i i en _
        cases h2:Jc en.key u with
        | false=>rw[h2,oL]at hs;cases hs
        | true=>rw[h2,oK]at hs;simp only[oA]at hs;exact key _ hs.symm
       ·simp only[oA]at hs;exact key _ hs.symm
       ·cases hs
     ·cases hs
   ·cases hs
theorem zEk (ok:CtxOK P c) (hor:yg P c orc) (hih:ju P ih) {ops:Array Oper}{bs:List Nat}{m k:Nat}{o:Oper}{s s1:St}(ho:ops[k]? = some o)
  (hs:zCy c orc rd.isSome ih ops.toList bs m k o s s1) {ρ:Env}{D:Nat->Prop}{a:Act}{w:World}(kk:StR ρ D s a w) (_:∀l,rd=some l->D l) :
  AF ops.toList bs m k o s s1/\∃ρ' a' w',StR ρ' (Dx D s.heap s1.heap) s1 a' w':=by
 rcases hs with⟨hw,hp⟩|⟨hw,s',he,hlow,hd,rfl⟩
 ·obtain⟨g1,rfl⟩:=yW hp
  obtain⟨k2,hh⟩:=StR.put kk (xY _) hp;refine⟨⟨rfl,kk.hr.cap,λt=>V.In_mono kk.hr.lt _ (kk.tm.inn t),rfl,⟨zC,g1,rfl⟩,oO _,oO _,λid o' _ h=>⟨o',h,rfl⟩,λ_ _ _=>rfl,λid o' h1 h2=>by have:id<s.heap.next:=h2;omega,.inl λ_ _=>rfl⟩,ρ,a.put o.dst (V.conc ρ zC),w,?_⟩
  have:Dx D s.heap ({ s with tm:=xa s.tm o.dst zC,heap:=s.heap }:St).heap=D:=zk;rw[this];exact k2
 ·have k0:StR ρ D { s with heap:=low0 s.heap } a w:=⟨kk.tm,kk.dfr,kk.dfrIn,kk.hr.low0⟩
  have hwp:wpOpsIn (Fx (rd.map ρ.blk)) 0 P ops (λ_ a' w'=>∃ρ',Mv ρ D (low0 s.heap) w ρ' s'.heap w'/\StR ρ' (Dx D s.heap s'.heap) s' a' w') [k] a w:=by
   simp only[wpOpsIn,ho];rw[if_pos (by rw[xR kk];exact hw)];refine xz ok hor hih he k0 (λ_ ρ' a' w' m' _ k'=>⟨ρ',m',k'⟩) (λv hv=>by cases hv)
  obtain⟨_,a',w',ρ',mv,k'⟩:=zKJ (zHP _) (λ_=>trivial) hwp;obtain⟨v,g1,g2,_⟩:=zBP he;have hn:s.heap.next<=s'.heap.next:=mv.next;refine⟨⟨by rw[g2];rfl,k'.hr.cap,λt=>V.In_mono kk.hr.lt _ (kk.tm.inn t),hd,⟨v,g1,by rw[g2];rfl⟩,hn,?_,mv.old,?_,?_,?_⟩,ρ',a',w',?_⟩
  ·show cond (Nat.ble s.heap.low s'.heap.low) s.heap.low s'.heap.low<=s.heap.low
   cases hb:Nat.ble s.heap.low s'.heap.low with
   | true=>exact oO _
   | false =>
    rw[oL];rcases Nat.le_total s.heap.low s'.heap.low with g|g
    ·rw[oC g]at hb;cases hb
    ·exact g
  ·intro id h1 h2
   refine mv.kept id h1 ?_;have h2:id<cond (Nat.ble s.heap.low s'.heap.low) s.heap.low s'.heap.low:=h2;cases hb:Nat.ble s.heap.low s'.heap.low with
   | true=>rw[hb,oK]at h2;exact oI h2 (oE hb)
   | false=>rw[hb,oL]at h2;exact h2
  ·intro id o' h1 h2 h3
   exact(mv.img id o' h1 h2 h3).1
  ·rcases hlow with hlow|hst
   ·exact .inl λid hid=>mv.kept id hid (oI hid hlow)
   ·have hst2:XV ops.toList bs m k s.tm o=true\/Y0 ops.toList bs m k=true:=by simpa [wA]using hst
    rcases hst2 with hst|hst
    case inr =>
     obtain⟨h1,h2⟩:=zEo hst;exact .inr (.inr ⟨h1,h2⟩)
    obtain⟨b,h12,h3,h4⟩:=zAd hst;have hbD:D b:=by
     rcases h12 with⟨_,_,_,_,_,h2⟩|⟨_,_,_,_,_,h2⟩
     all_goals
      have:=(wU kk _ _ h2).2;simpa [V.In]using this
    have hbt:b<T.top:=oI (kk.hr.lt b hbD) kk.hr.cap;obtain⟨e1,e2⟩:s'.heap.next=(low0 s.heap).next/\∀id,id≠b->s'.heap.get id=(low0 s.heap).get id:=by
     rcases h12 with⟨_,_,_,_,h1,h2⟩|⟨_,_,_,_,h1,h2⟩
     ·exact zJt (s:={ s with heap:=low0 s.heap }) he h1 h2 hbt
     ·exact zQZ (s:={ s with heap:=low0 s.heap }) he h1 h2 hbt
    exact .inr (.inl ⟨e1,b,e2,h3,h4⟩)
  ·exact⟨k'.tm,k'.dfr,k'.dfrIn,⟨k'.hr.cap,k'.hr.lt,k'.hr.rel,k'.hr.inj⟩⟩
theorem z00 (ok:CtxOK P c) (hor:yg P c orc) (hih:ju P ih) {ops:Array Oper}{bs:List Nat}{m:Nat}{x:AX}{sf:St}:∀(n k:Nat) (l:List Oper) (s:St),yJ c orc rd.isSome ih ops.toList bs m n k l s=some (.done x sf) ->
  l=ops.toList.drop k->n<=l.length->∀{ρ:Env}{D:Nat->Prop}{a:Act}{w:World},StR ρ D s a w->(∀l,rd=some l->D l) ->
  ∃st:Nat->St,st 0=s/\(∀i,i<n->∃o,ops[k+i]? = some o/\zCy c orc rd.isSome ih ops.toList bs m (k+i) o (st i) (st (i+1))/\AF ops.toList bs m (k+i) o (st i) (st (i+1))) /\
   (∀i,i<n->∃ρ' a' w',StR ρ' (Dx D s.heap (st i).heap) (st i) a' w') /\
   xk c orc rd.isSome ih ops.toList (ops.toList.drop (k+n)) (st n)=some (.done x sf):=by
 intro n
 induction n with
 | zero =>
  intro k l s e hl _ ρ D a w _ _;refine⟨λ_=>s,rfl,λi hi=>by omega,λi hi=>by omega,?_⟩
  rw[Nat.add_zero,<-hl];cases l with
  | nil=>simpa [yJ,xk]using e
  | cons o l=>simpa [yJ]using e
 | succ n ihn =>
  intro k l s e hl hn ρ D a w kk hr;cases l with
  | nil=>simp at hn
  | cons o l =>
   obtain⟨s1,hs,e1⟩:=zFr e;have ho:ops[k]? = some o:=by
    have:(ops.toList.drop k)[0]? = some o:=by rw[<-hl];rfl
    simpa using this
   have hl1:l=ops.toList.drop (k+1):=by
    have:=congrArg (List.drop 1) hl;simpa [List.drop_drop,Nat.add_comm]using this
   obtain⟨af,ρ',a',w',k'⟩:=zEk ok hor hih ho hs kk hr;obtain⟨st,h0,h1,h3,h2⟩:=ihn (k+1) l s1 e1 hl1 (by simpa using hn) k' (λl hl=>.inl (hr l hl))
   have hmono:∀i,i<=n->s1.heap.next<=(st i).heap.next:=by
    intro i
    induction i with
    | zero=>intro _;rw[h0];exact oO _
    | succ i ihi =>
     intro hi;obtain⟨_,_,_,af2⟩:=h1 i (by omega);exact oP (ihi (by omega)) af2.next
   refine⟨λi=>match i with|0=>s|i+1=>st i,rfl,?_,?_,?_⟩
   ·intro i hi
    cases i with
    | zero =>
     refine⟨o,ho,?_,?_⟩
     ·show zCy _ _ _ _ _ _ _ _ _ s (st 0)
      rw[h0];exact hs
     ·show AF _ _ _ _ _ s (st 0)
      rw[h0];exact af
    | succ i =>
     have:=h1 i (by omega);rw[show k+1+i=k+(i+1)from by omega]at this;exact this
   ·intro i hi
    cases i with
    | zero=>exact⟨ρ,a,w,by rw[zk];exact kk⟩
    | succ i =>
     obtain⟨ρ2,a2,w2,k2⟩:=h3 i (by omega);refine⟨ρ2,a2,w2,?_⟩;rw[xS af.next (hmono i (by omega))]at k2;exact k2
   ·rw[show k+(n+1)=k+1+n from by omega];exact h2
end
end Go.Sim
namespace Go.Sim
section
variable {P:Program}{c:Ctx}{orc:Nat->List V->H->Option (V×H)}{rd:Option Nat}{ih:Bool->Code->St->Option Out}
theorem YZ (ok:CtxOK P c) (hor:yg P c orc) (hih:ju P ih) {o:Oper}{s s':St}
  (e:z6 c orc rd.isSome ih o s=some (.normal,s')) (hd:s'.dfr=s.dfr) {ρ:Env}{D:Nat->Prop}{w:World}{a:Act}(hop:∀x∈o.op.operands,∀v,yQ s.tm x=some v->a.eval x=v.conc ρ/\v.In D)
  (hr:HR ρ D s.heap w) {next:Act->World->Prop}{Q:Exit->Act->World->Prop}
  (hn:∀ρ' v w',Mv ρ D s.heap w ρ' s'.heap w'->HR ρ' (Dx D s.heap s'.heap) s'.heap w'->v.In (Dx D s.heap s'.heap)->s'.tm=xa s.tm o.dst v->next (a.put o.dst (v.conc ρ')) w') :
  o.wpIn (Fx (rd.map ρ.blk)) 0 P a w next Q:=by
 refine⟨λ_ _=>trivial,?_⟩
 unfold z6 at e;cases hop':yD c o (yQ s.tm) s.heap with
 | none=>simp[hop']at e
 | some an =>
  have hsem:=JO (rd:=rd) hop';have hs:=Xc (P:=P) (a:=a.eval) ok hop' hr hop;simp only[hop']at e;have fin:∀(v:V) (h:H),(match yF s o.dst v h with|some s'=>some (AX.normal,s')|none=>none)=some (AX.normal,s')->s'.tm=xa s.tm o.dst v/\s'.heap=h:=by
   intro v h e;split at e
   ·rename_i s2 hp
    simp only[oA,oB,true_and]at e;subst e;obtain⟨g1,rfl⟩:=yW hp;exact⟨rfl,rfl⟩
   ·cases e
  cases an with
  | val v h' =>
   rw[show(Fx (rd.map ρ.blk)).round=rd.map ρ.blk from rfl,hsem (λ_ _ h=>by cases h)];obtain⟨ρ',w',hr,m,r,hv⟩:=hs;obtain⟨g1,rfl⟩:=fin v h' e;rw[hr];exact hn _ _ _ m r hv g1
  | skip h' =>
   rw[show(Fx (rd.map ρ.blk)).round=rd.map ρ.blk from rfl,hsem (λ_ _ h=>by cases h)];obtain⟨w',hr,m,r⟩:=hs;obtain⟨g1,rfl⟩:=fin zC h' e;rw[hr];have:=hn _ _ _ m r (xY _) g1;rw[xO]at this;exact this
  | call f args =>
   rw[show(Fx (rd.map ρ.blk)).round=rd.map ρ.blk from rfl,hsem (λ_ _ h=>by cases h)];obtain⟨hin,hr2⟩:=hs;simp only at e;cases hcall:xe c orc ih f args s.heap with
   | none=>simp[hcall]at e
   | some out =>
    obtain⟨fi,hfi⟩:=Kh hor hcall;rw[hr2,jz ok hfi];refine⟨λh=>by simp[Fx]at h,Ki none _ (CallsIn.mono (kQ ok hor hih hcall ρ D w hr hin) ?_)⟩
    simp only[hcall]at e;cases out with
    | ret v h' =>
     obtain⟨g1,rfl⟩:=fin v h' e;rintro en w' ⟨ρ',rfl,m,r,hv⟩;exact hn _ _ _ m r hv g1
    | panic v h'=>simp at e
  | round l args =>
   rw[show(Fx (rd.map ρ.blk)).round=rd.map ρ.blk from rfl,hsem (λ_ _ h=>by cases h)];obtain⟨hl,hin,hr2⟩:=hs;simp only at e;cases hround:kb ih l args s.heap with
   | none=>simp[hround]at e
   | some out =>
    simp only[hround]at e;obtain⟨fn,tmps,y,z,hy,hR⟩:=qY hih hround ρ D w hr hl hin;rw[hr2,hy];refine⟨λh=>by simp[Fx]at h,YU none _ (RoundIn.mono hR ?_)⟩
    cases out with
    | ret v h' =>
     obtain⟨g1,rfl⟩:=fin v h' e;rintro en w' ⟨ρ',rfl,m,r,hv⟩;exact hn _ _ _ m r hv g1
    | panic v h'=>simp at e
  | dfr d =>
   exfalso
   cases hrd:rd.isSome with
   | true=>simp[hrd]at e
   | false =>
    simp only[hrd,oL]at e;split at e
    ·rename_i s2 hp
     simp only[oA,oB,true_and]at e;subst e;obtain⟨g1,rfl⟩:=yW hp;have:=congrArg List.length hd;simp at this
    ·cases e
  | recover=>simp at e
  | pan v h'=>simp at e
def Env.mix (n : Nat) (ρ' ρ : Env) : Env :=
  { blk := λid => if id < n then ρ'.blk id else ρ.blk id
    off := λid => if id < n then ρ'.off id else ρ.off id
    cap := λid => if id < n then ρ'.cap id else ρ.cap id }
def DS (D0:Nat->Prop) (st:Nat->St) (S:Nat->Prop):Nat->Prop:=λid=>D0 id\/∃j,S j/\(st j).heap.next<=id/\id<(st (j+1)).heap.next
structure Base (P:Program) (c:Ctx) (orc:Nat->List V->H->Option (V×H)) (rd:Option Nat) (ih:Bool->Code->St->Option Out) (ops:Array Oper) (m:Nat) (st:Nat->St) (ρ0:Env) (D0:Nat->Prop) (a0:Act) (w0:World):Prop where
 ok:CtxOK P c
 hor:yg P c orc
 hih:ju P ih
 hm:xD ops.toList=some m
 hs:∀i,i<m->∃o,ops[i]? = some o/\zCy c orc rd.isSome ih ops.toList (zp ops.toList []) m i o (st i) (st (i+1))/\AF ops.toList (zp ops.toList []) m i o (st i) (st (i+1))
 k0:StR ρ0 D0 (st 0) a0 w0
 kt:∀i,i<m->∃ρ' a' w',StR ρ' (Dx D0 (st 0).heap (st i).heap) (st i) a' w'
 hl:∀l,rd=some l->D0 l
def zPF (ops:Array Oper) (st:Nat->St) (S:Nat->Prop) (tm:Tm):Prop :=
 ∀t,(∃j o,S j/\ops[j]? = some o/\o.dst=some t/\(∀j' o',S j'->ops[j']? = some o'->o'.dst=some t->j'<=j)/\yB tm t=yB (st (j+1)).tm t) \/
  ((∀j o,S j->ops[j]? = some o->o.dst≠some t)/\yB tm t=yB (st 0).tm t)
variable {ops:Array Oper}{m:Nat}{st:Nat->St}{ρ0:Env}{D0:Nat->Prop}{a0:Act}{w0:World}
namespace Base
variable (B:Base P c orc rd ih ops m st ρ0 D0 a0 w0)
include B
theorem next_mono:∀{p q:Nat},p<=q->q<=m->(st p).heap.next<=(st q).heap.next:=by
 intro p q hpq
 induction hpq with
 | refl=>intro _;exact oO _
 | step h ih =>
  intro hq;obtain⟨o,_,_,af⟩:=B.hs _ hq;exact oP (ih (by omega)) af.next
theorem low_mono:∀{q:Nat},q<=m->(st q).heap.low<=(st 0).heap.low:=by
 intro q
 induction q with
 | zero=>intro _;exact oO _
 | succ q ih =>
  intro hq;obtain⟨o,_,_,af⟩:=B.hs _ hq;exact oP af.low (ih (by omega))
theorem n_eq:∀{q:Nat},q<=m->(st q).n=(st 0).n:=by
 intro q
 induction q with
 | zero=>intro _;rfl
 | succ q ih =>
  intro hq;obtain⟨o,_,_,af⟩:=B.hs _ hq;exact af.n.trans (ih (by omega))
theorem dfr_eq:∀{q:Nat},q<=m->(st q).dfr=(st 0).dfr:=by
 intro q
 induction q with
 | zero=>intro _;rfl
 | succ q ih =>
  intro hq;obtain⟨o,_,_,af⟩:=B.hs _ hq;exact af.dfr.trans (ih (by omega))
theorem cap:∀{q:Nat},q<=m->(st q).heap.next<=T.top:=by
 intro q hq;cases q with
 | zero=>exact B.k0.hr.cap
 | succ q =>
  obtain⟨o,_,_,af⟩:=B.hs _ hq;exact af.cap
theorem same_range {id:Nat}:∀{p q:Nat},p<=q->q<=m->id<(st p).heap.next->(∀i,p<=i->i<q->id<(st i).heap.next->(st (i+1)).heap.get id=(st i).heap.get id)->(st q).heap.get id=(st p).heap.get id:=by
 intro p q hpq
 induction hpq with
 | refl=>intro _ _ _;rfl
 | @step q h ih =>
  intro hq hid hst;have hp:p<=q:=h;rw[hst q hp (by omega) (oI hid (B.next_mono hp (by omega)))];exact ih (by omega) hid λi h1 h2 h3=>hst i h1 (by omega) h3
theorem quiet_range {p q:Nat}(hpq:p<=q) (hq:q<=m) (hst:∀i,p<=i->i<q->qf (st i) (st (i+1))) {id:Nat}(hid:id<(st p).heap.next):(st q).heap.get id=(st p).heap.get id :=
 B.same_range hpq hq hid λi h1 h2 h3=>hst i h1 h2 id h3
theorem old_range {id:Nat}{o':O}:∀{p q:Nat},p<=q->q<=m->id<(st p).heap.next->(st q).heap.get id=some o'->∃o,(st p).heap.get id=some o/\o'.wr=o.wr:=by
 intro p q hpq
 induction hpq generalizing o' with
 | refl=>intro _ _ h;exact⟨o',h,rfl⟩
 | @step q h ih =>
  intro hq hid hg;have hp:p<=q:=h;obtain⟨o,_,_,af⟩:=B.hs _ hq;obtain⟨o1,h1,h2⟩:=af.old id o' (oI hid (B.next_mono hp (by omega))) hg;obtain⟨o2,h3,h4⟩:=ih (by omega) hid h1;exact⟨o2,h3,h2.trans h4⟩
theorem kept_range {id:Nat}:∀{q:Nat},q<=m->id<(st 0).heap.next->id<(st q).heap.low->(st q).heap.get id=(st 0).heap.get id:=by
 intro q
 induction q with
 | zero=>intro _ _ _;rfl
 | succ q ih =>
  intro hq h1 h2;obtain⟨o,_,_,af⟩:=B.hs _ hq;rw[af.kept id (oI h1 (B.next_mono (oJ _) (by omega))) h2];exact ih (by omega) h1 (oI h2 af.low)
omit B in
theorem born {id:Nat}:∀{q:Nat},(st 0).heap.next<=id->id<(st q).heap.next->∃j,j<q/\(st j).heap.next<=id/\id<(st (j+1)).heap.next:=by
 intro q
 induction q with
 | zero=>intro h1 h2;omega
 | succ q ih =>
  intro h1 h2;rcases Nat.lt_or_ge id (st q).heap.next with g|g
  ·obtain⟨j,h3,h4⟩:=ih h1 g
   exact⟨j,by omega,h4⟩
  ·exact⟨q,by omega,g,h2⟩
theorem rows:qZ ops.toList (zp ops.toList []) 0 ops.toList=true:=by
 have hk:=B.hm;unfold xD at hk;cases hc:qZ ops.toList (zp ops.toList []) 0 ops.toList with
 | true=>rfl
 | false=>simp[hc]at hk
theorem hmeq:m=j6 (zp ops.toList []) ops.toList.length:=by
 have hk:=B.hm;unfold xD at hk;cases hc:(qZ ops.toList (zp ops.toList []) 0 ops.toList && (!(Region.departs ops.toList.toArray) || (Ox ops.toList (Region.linearise .gc ops.toList.toArray 0) [] && YH (Region.linearise .gc ops.toList.toArray 0) ops.toList.length)))with
 | false=>simp only[hc,oL]at hk;cases hk
 | true=>simp only[hc,oK,oA]at hk;exact hk.symm
theorem m_le:m<=ops.size:=by
 have:=Jj (zp ops.toList []) ops.toList.length;rw[<-B.hmeq]at this;simpa using this
theorem apart {i j:Nat}{oi oj:Oper}(hij:i<j) (hi:ops[i]? = some oi) (hj:ops[j]? = some oj):Nat.testBit ((zp ops.toList []).getD j 0) i=true \/
  (∀d,oi.dst=some d->d∉xb ops.toList oj/\oj.dst≠some d)/\∀d,oj.dst=some d->d∉xb ops.toList oi:=by
 have h1:=(Jb _ 0 B.rows j oj (by simpa using hj)).1;rw[Nat.zero_add]at h1;have h2:=zGq _ 0 h1 i oi (by omega) (by simpa using hi);rw[Nat.zero_add]at h2;refine h2.imp id λh3=>?_
 simp only[zH3,Bool.or_eq_false_iff]at h3;refine⟨λd hd=>?_,λd hd=>?_⟩
 ·rw[hd]at h3
  simp only[Bool.or_eq_false_iff]at h3;refine⟨λhm=>?_,λhd'=>?_⟩
  ·rw[(kJ _ _).2 hm]at h3;simp at h3
  ·rw[hd']at h3;simp at h3
 ·have h4:=h3.2
  simp only[hd]at h4;intro hm;rw[(kJ _ _).2 hm]at h4;simp at h4
theorem tm_range {t:Nat}:∀{p q:Nat},p<=q->q<=m->(∀i o,p<=i->i<q->ops[i]? = some o->o.dst≠some t)->yB (st q).tm t=yB (st p).tm t:=by
 intro p q hpq
 induction hpq with
 | refl=>intro _ _;rfl
 | @step q h ih =>
  intro hq hw;obtain⟨o,ho,_,af⟩:=B.hs _ hq;obtain⟨v,hv,he⟩:=af.tm;rw[he,<-ih (by omega) λi o h1 h2=>hw i o h1 (by omega)]
  cases hd:o.dst with
  | none=>rfl
  | some d =>
   have hne:t≠d:=λe=>hw q o h (by omega) ho (by rw[hd,e])
   have hlt:d<Tb.top:=by
    have:=hv d hd;rw[B.n_eq (by omega)]at this;exact oI this B.k0.tm.cap
   simp only[xa];rw[xg _ _ _ _ hlt,if_neg hne]
end Base
end
end Go.Sim
