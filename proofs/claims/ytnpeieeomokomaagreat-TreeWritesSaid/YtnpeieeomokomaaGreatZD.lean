/- D. No condition. -/
import Derived.Test.YtnpeieeomokomaaGreatZC
import Derived.OrdersIn
namespace Go.Sim
theorem ZX {e e':Operand->Option V}:∀{l:List Operand},(∀x∈l,e x=e' x)->qe e l=qe e' l:=by
 intro l
 induction l with
 | nil=>intro _;rfl
 | cons x l ih =>
  intro h;simp only[qe,h x (List.mem_cons_self ..),ih λy hy=>h y (oH _ hy)]
theorem zAu {e e':Operand->Option V}:∀{l:List (Nat×Operand)},(∀x∈l.map (·.2),e x=e' x)->evP e l=evP e' l:=by
 intro l
 induction l with
 | nil=>intro _;rfl
 | cons x l ih =>
  intro h;obtain⟨i,x⟩:=x;have h1:e x=e' x:=h x (by simp);have h2:=ih λy hy=>h y (by rw[List.map_cons];exact oH _ hy)
  simp only[evP,h1,h2]
theorem Xq {e e':Operand->Option V}{o:Option Operand}(h:∀x∈o.toArray,e x=e' x):evO e o=evO e' o:=by
 cases o with
 | none=>rfl
 | some x=>simp only[evO,h x (by simp)]
theorem zDD (c:Ctx) {e e':Operand->Option V}{cl:Call}{h:H}(hx:∀x∈cl.operands,e x=e' x):yr c cl e h=yr c cl e' h:=by
 have h1:qe e cl.args.toList=qe e' cl.args.toList:=ZX λx hm=>hx x (by simp[Call.operands];exact .inr (by simpa using hm))
 unfold yr;rw[h1];cases hc:cl.callee with
 | value f =>
  have:e f=e' f:=hx f (by simp[Call.operands,hc]);simp only[this]
 | builtin b=>rfl
 | invoke x m =>
  have:e x=e' x:=hx x (by simp[Call.operands,hc]);simp only[this]
theorem zIe (c:Ctx) {e e':Operand->Option V}{o:Oper}{h:H}(hx:∀x∈o.op.operands,e x=e' x):yD c o e h=yD c o e' h:=by
 unfold yD;cases ho:o.op<;>rw[ho]at hx<;>try rfl
 case makeFunc f first captured =>
  cases f with
  | func g =>
   have h1:qe e first.toList=qe e' first.toList:=ZX λx hm=>hx x (by simp[Op.operands];exact .inl (by simpa using hm))
   have h2:qe e captured.toList=qe e' captured.toList:=ZX λx hm=>hx x (by simp[Op.operands];exact .inr (by simpa using hm))
   simp only[h1,h2]
  | _=>rfl
 case build t ps =>
  have h1:evP e ps.toList=evP e' ps.toList:=zAu λx hm=>hx x (by simpa [Op.operands]using hm)
  simp only[h1]
 case buildSlice t n ps =>
  have h1:evP e ps.toList=evP e' ps.toList:=zAu λx hm=>hx x (by simpa [Op.operands]using hm)
  simp only[h1]
 case slice t x lo hi mx =>
  have h0:e x=e' x:=hx x (by simp[Op.operands]);have h1:evO e lo=evO e' lo:=Xq λy hm=>hx y (by simp[Op.operands];exact .inr (.inl (by simpa using hm)))
  have h2:evO e hi=evO e' hi:=Xq λy hm=>hx y (by simp[Op.operands];exact .inr (.inr (.inl (by simpa using hm))))
  have h3:evO e mx=evO e' mx:=Xq λy hm=>hx y (by simp[Op.operands];exact .inr (.inr (.inr (by simpa using hm))))
  simp only[h0,h1,h2,h3]
 case call cl=>exact zDD c hx
 case makeMap t r=>cases r<;>rfl
 case defer cl =>
  have h1:qe e cl.args.toList=qe e' cl.args.toList:=ZX λx hm=>hx x (by simp[Op.operands,Call.operands];exact .inr (by simpa using hm))
  simp only[h1];cases qe e' cl.args.toList with
  | none=>rfl
  | some args =>
   cases hc:cl.callee with
   | value f =>
    have:e f=e' f:=hx f (by simp[Op.operands,Call.operands,hc]);simp only[this]
   | _=>rfl
 all_goals first
  | (have h0:=hx _ (by simp[Op.operands];first|exact .inl rfl|rfl);have h1:=hx _ (by simp[Op.operands];first|exact .inr (.inl rfl)|exact .inr rfl);have h2:=hx _ (by simp[Op.operands];exact .inr (.inr rfl));simp only[h0,h1,h2])
  | (have h0:=hx _ (by simp[Op.operands];exact .inl rfl);have h1:=hx _ (by simp[Op.operands];exact .inr rfl);simp only[h0,h1])
  | (have h0:=hx _ (by simp[Op.operands];rfl);simp only[h0])
theorem zK4 {c:Ctx}{o:Oper}{tm:Tm}{h:H}{an:AN}{b:Nat}(hf:wQ tm b o=true) (e:yD c o (yQ tm) h=some an) :
  ∃v,an = .val v h/\∀h2:H,(∀t a b' o',o.op = .load t a->yQ tm a=some (.ptr b' o')->h2.get b'=h.get b')->yD c o (yQ tm) h2=some (.val v h2):=by
 unfold wQ at hf;unfold yD at e ⊢;have ofV:∀{r:Option V}{an:AN}{P:H->Prop},AN.ofV r h=some an->∃v,an = .val v h/\∀h2:H,P h2->AN.ofV r h2=some (.val v h2):=by
  intro r an P e;cases r with
  | none=>simp[AN.ofV]at e
  | some v=>simp only[AN.ofV,oA]at e;exact⟨v,e.symm,λ_ _=>rfl⟩
 cases ho:o.op<;>simp only[ho]at hf e ⊢<;>first|(cases hf;done)|skip
 case load t a =>
  cases ha:yQ tm a with
  | none=>simp[ha]at hf
  | some p =>
   cases p<;>simp only[ha]at hf e ⊢<;>first|(cases hf;done)|skip
   rename_i b' o';obtain⟨v,h1,h2⟩:=ofV (P:=λh2=>h2.get b'=h.get b') e;refine⟨v,h1,λh3 hh=>?_⟩
   have hg:h3.get b'=h.get b':=hh _ _ b' o' rfl ha;have:zO c t h3 (.ptr b' o')=zO c t h (.ptr b' o'):=by unfold zO;simp only[hg]
   rw[this];cases hl:zO c t h (.ptr b' o')with
   | none=>simp[hl,AN.ofV]at e
   | some u=>simp only[hl,AN.ofV,oA]at e ⊢;rw[h1]at e;simp at e;simp[e]
 case slice t x lo hi mx =>
  cases ha:yQ tm x with
  | none=>simp[ha]at hf
  | some p =>
   have hall:∀(h3:H) (a b d:Option V),yP c t h3 p a b d=yP c t h p a b d:=by
    intro h3 a b d;unfold yP;cases c.ty.get t with
    | none=>rfl
    | some ti =>
     dsimp only;cases p<;>simp only[ha]at hf<;>first|(cases hf;done)|skip
     ·cases ti.desc<;>rfl
     ·rename_i cp
      cases cp<;>simp only at hf<;>first|(cases hf;done)|skip
      cases ti.desc<;>rfl
   simp only[ha]at e ⊢;cases h0:Sim.evO (yQ tm) lo with
   | none=>simp[h0]at e
   | some v0 =>
   cases h1:Sim.evO (yQ tm) hi with
   | none=>simp[h0,h1]at e
   | some v1 =>
   cases h2:Sim.evO (yQ tm) mx with
   | none=>simp[h0,h1,h2]at e
   | some v2 =>
   simp only[h0,h1,h2]at e ⊢;obtain⟨v,h4,h5⟩:=ofV (P:=λ_=>True) e;refine⟨v,h4,λh3 _=>?_⟩
   rw[hall h3];exact h5 h3 trivial
 case convert s d x =>
  cases ha:yQ tm x with
  | none=>simp[ha]at hf
  | some p =>
   cases p<;>simp only[ha]at hf e ⊢<;>first|(cases hf;done)|skip
   rename_i k n;have hall:∀h3:H,yt c s d h3 (.int k n)=(match yt c s d h (.int k n)with|some (v,_)=>some (v,h3)|none=>none):=by
    intro h3;unfold yt;cases c.ty.get s with
    | none=>rfl
    | some ts =>
     cases c.ty.get d with
     | none=>rfl
     | some td =>
      dsimp only;cases ts.desc<;>first|rfl|(cases td.desc<;>rfl)
   cases hc:yt c s d h (.int k n)with
   | none=>rw[hc]at e;cases e
   | some q =>
    obtain⟨v,h4⟩:=q;have h5:=hall h;rw[hc]at h5;simp only[oA,oB,true_and]at h5;subst h5;rw[hc]at e;simp only[AN.ofVH,oA]at e;refine⟨v,e.symm,λh2 _=>?_⟩
    rw[hall h2,hc];rfl
 case move x=>exact ofV e
 case assign x=>exact ofV e
 case pick x a b' =>
  cases h0:yQ tm x with
  | none=>simp[h0]at e
  | some v=>cases v<;>simp only[h0]at e ⊢<;>first|(cases e;done)|exact ofV e
 case build t ps =>
  cases h0:evP (yQ tm) ps.toList with
  | none=>simp[h0]at e
  | some v=>simp only[h0]at e ⊢;exact ofV e
 case binOp op t x y t2 =>
  cases h0:yQ tm x with
  | none=>simp[h0]at e
  | some v =>
   cases h1:yQ tm y with
   | none=>simp[h0,h1]at e
   | some v=>simp only[h0,h1]at e ⊢;exact ofV e
 case unOp op t x =>
  cases h0:yQ tm x with
  | none=>simp[h0]at e
  | some v=>simp only[h0]at e ⊢;exact ofV e
 case field t x f =>
  cases h0:yQ tm x with
  | none=>simp[h0]at e
  | some v=>simp only[h0]at e ⊢;exact ofV e
 case index t x y =>
  cases h0:yQ tm x with
  | none=>simp[h0]at e
  | some v =>
   cases h1:yQ tm y with
   | none=>simp[h0,h1]at e
   | some v=>simp only[h0,h1]at e ⊢;exact ofV e
 case indexAddr t x y =>
  cases h0:yQ tm x with
  | none=>simp[h0]at e
  | some v =>
   cases h1:yQ tm y with
   | none=>simp[h0,h1]at e
   | some v=>simp only[h0,h1]at e ⊢;exact ofV e
 case extract x i =>
  cases h0:yQ tm x with
  | none=>simp[h0]at e
  | some v=>cases v<;>simp only[h0]at e ⊢<;>first|(cases e;done)|exact ofV e
 case makeFunc f first captured =>
  cases f with
  | func g =>
   cases h0:qe (yQ tm) first.toList with
   | none=>simp[h0]at e
   | some v =>
    cases h1:qe (yQ tm) captured.toList with
    | none=>simp[h0,h1]at e
    | some v=>simp only[h0,h1,oA]at e ⊢;exact⟨_,e.symm,λ_ _=>rfl⟩
  | _=>cases e
 case makeInterface t x =>
  cases h0:c.ty.get t with
  | none=>simp[h0]at e
  | some ti =>
   cases h1:yQ tm x with
   | none=>simp[h0,h1]at e
   | some v =>
    simp only[h0,h1]at e ⊢;cases hd:ti.desc<;>simp only[hd,oA]at e ⊢<;>first|(cases e;done)|exact⟨_,e.symm,λ_ _=>rfl⟩
 case nilCheck x =>
  cases h0:yQ tm x with
  | none=>simp[h0]at e
  | some v =>
   cases v<;>simp only[h0,oA]at e ⊢<;>first|(cases e;done)|exact⟨_,e.symm,λ_ _=>rfl⟩|skip
   rename_i f a b';cases f<;>simp only[oA]at e ⊢<;>first|(cases e;done)|exact⟨_,e.symm,λ_ _=>rfl⟩
 case fieldAddr t x f =>
  cases h0:c.ty.get t with
  | none=>simp[h0]at e
  | some ti =>
   cases h1:yQ tm x with
   | none=>simp[h0,h1]at e
   | some v =>
    cases v<;>simp only[h0,h1]at e ⊢<;>first|(cases e;done)|skip
    rename_i b' o';cases hd:ti.desc<;>simp only[hd]at e ⊢<;>first|(cases e;done)|skip
    rename_i fs;cases h2:fs[f]? with
    | none=>simp[h2]at e
    | some fd =>
     simp only[h2]at e ⊢;unfold afa at e ⊢;cases h3:c.ty.get fd.type with
     | none=>simp[h3]at e
     | some tf =>
      simp only[h3]at e ⊢;cases h4:Nat.blt 0 tf.size with
      | false=>simp[h4]at e
      | true=>simp only[h4,oK,oA]at e ⊢;exact⟨_,e.symm,λ_ _=>rfl⟩
theorem kJ (n:Nat):∀l,zA9 n l=true↔n∈l:=by
 intro l
 induction l with
 | nil=>simp[zA9]
 | cons m l ih =>
  simp only[zA9,oY];cases h:Nat.beq n m with
  | true=>simp[oF h]
  | false =>
   have:n≠m:=λe=>by subst e;simp at h
   simp[ih,this]
def OC (acc:List Nat) (o:Oper):Nat:=o.after.toList.foldl (λs e=>cond (wm e) (s ||| 2^e.on ||| acc.getD e.on 0) s) 0
theorem zM9 {acc:List Nat}{i:Nat}:∀(l:List Edge) (s:Nat),Nat.testBit (l.foldl (λs e=>cond (wm e) (s ||| 2^e.on ||| acc.getD e.on 0) s) s) i=true ->
  Nat.testBit s i=true\/∃e∈l,wm e=true/\(e.on=i\/Nat.testBit (acc.getD e.on 0) i=true):=by
 intro l
 induction l with
 | nil=>intro s h;exact .inl h
 | cons e l ih =>
  intro s h;rcases ih _ h with h1|⟨e',m,h2⟩
  ·dsimp only at h1
   cases he:wm e with
   | false=>rw[he,oL]at h1;exact .inl h1
   | true =>
    rw[he,oK,Nat.testBit_or,Nat.testBit_or,Bool.or_eq_true,Bool.or_eq_true]at h1;rcases h1 with(h1|h1)|h1
    ·exact .inl h1
    ·rw[Nat.testBit_two_pow]at h1
     exact .inr ⟨e,List.mem_cons_self ..,he,.inl (by simpa using h1)⟩
    ·exact .inr ⟨e,List.mem_cons_self ..,he,.inr h1⟩
  ·exact .inr ⟨e',oH _ m,h2⟩
theorem zGN {acc:List Nat}{o:Oper}{i:Nat}(h:Nat.testBit (OC acc o) i=true):∃e∈o.after,wm e=true/\(e.on=i\/Nat.testBit (acc.getD e.on 0) i=true):=by
 rcases zM9 _ _ h with h1|⟨e,m,h2⟩
 ·simp at h1
 ·exact⟨e,by simpa using m,h2⟩
theorem Ye:∀(l:List Oper) (acc:List Nat),(∃r,zp l acc=acc++r/\r.length=l.length) /\
  ∀i o,l[i]? = some o->(zp l acc).getD (acc.length+i) 0=OC ((zp l acc).take (acc.length+i)) o:=by
 intro l
 induction l with
 | nil=>intro acc;exact⟨⟨[],by simp[zp]⟩,λi o h=>by simp at h⟩
 | cons a l ih =>
  intro acc;obtain⟨⟨r,h1,h2⟩,h3⟩:=ih (acc++[OC acc a]);have he:zp (a::l) acc=zp l (acc++[OC acc a]):=rfl;rw[he];refine⟨⟨OC acc a::r,by rw[h1];simp,by simp[h2]⟩,λi o h=>?_⟩
  cases i with
  | zero =>
   simp only[List.getElem?_cons_zero,oA]at h;subst h;rw[h1];simp
  | succ i =>
   have:=h3 i o (by simpa using h);simp only[oR,oS,List.length_nil,Nat.zero_add]at this;rw[show acc.length+(i+1)=acc.length+1+i from by omega];exact this
def Closed (ops:List Oper) (S:Nat->Prop):Prop:=∀j o,S j->ops[j]? = some o->∀e∈o.after,wm e=true->S e.on
theorem ko {ops:List Oper}{S:Nat->Prop}(hc:Closed ops S):∀(j:Nat) (o:Oper),ops[j]? = some o->(∀e∈o.after,wm e=true->S e.on) ->
  ∀i,Nat.testBit ((zp ops []).getD j 0) i=true->S i:=by
 intro j
 induction j using Nat.strongRecOn with
 | _ j ih =>
  intro o ho he i hb;obtain⟨⟨r,h1,h2⟩,h3⟩:=Ye ops [];have h4:=h3 j o ho;simp only[List.length_nil,Nat.zero_add]at h4;rw[h4]at hb;obtain⟨e,hm,hk,hh⟩:=zGN hb;rcases hh with rfl|hh
  ·exact he e hm hk
  ·have hlt:e.on<j:=by
    rcases Nat.lt_or_ge e.on j with g|g
    ·exact g
    ·rw[List.getD_eq_getElem?_getD,oa (by rw[List.length_take];omega)]at hh
     simp at hh
   have hS:=he e hm hk;have hjl:j<ops.length:=by
    rcases Nat.lt_or_ge j ops.length with g|g
    ·exact g
    ·rw[oa g]at ho;cases ho
   have ho':ops[e.on]? = some (ops[e.on]'(by omega)):=oM (by omega);refine ih e.on hlt _ ho' (hc e.on _ hS ho') i ?_;rw[List.getD_eq_getElem?_getD,List.getElem?_take_of_lt hlt,<-List.getD_eq_getElem?_getD]at hh;exact hh
theorem Closed.bit {ops:List Oper}{S:Nat->Prop}(hc:Closed ops S) {j i:Nat}(hj:S j) (hb:Nat.testBit ((zp ops []).getD j 0) i=true):S i:=by
 cases ho:ops[j]? with
 | some o=>exact ko hc j o ho (hc j o hj ho) i hb
 | none =>
  obtain⟨⟨r,h1,h2⟩,h3⟩:=Ye ops [];rw[List.getD_eq_getElem?_getD,h1,oa (by
   have:=List.getElem?_eq_none_iff.1 ho;simp;omega)]at hb
  simp at hb
theorem zGq {ops:List Oper}{j:Nat}{oj:Oper}{bj:Nat}:∀(l:List Oper) (n:Nat),zE9 ops j oj bj n l=true->∀d oi,n+d<j->l[d]? = some oi->Nat.testBit bj (n+d)=true\/zH3 ops oi oj=false:=by
 intro l
 induction l with
 | nil=>intro n _ d oi _ h;simp at h
 | cons a l ih =>
  intro n h d oi hd hl;simp only[zE9]at h;rw[show Nat.blt n j=true from(z8 _ _).2 (by omega),oK]at h;cases hc:(Nat.testBit bj n || !(zH3 ops a oj))with
  | false=>simp[hc]at h
  | true =>
   rw[hc,oK]at h;cases d with
   | zero =>
    simp only[List.getElem?_cons_zero,oA]at hl;subst hl;simpa using hc
   | succ d =>
    have:=ih (n+1) h d oi (by omega) (by simpa using hl)
    rwa [show n+1+d=n+(d+1)from by omega]at this
theorem Jb {ops:List Oper}{bs:List Nat}:∀(l:List Oper) (n:Nat),qZ ops bs n l=true->∀d o,l[d]? = some o ->
  zE9 ops (n+d) o (bs.getD (n+d) 0) 0 ops=true/\zH9 (n+d) o=true/\zHd o (bs.getD (n+d) 0)=true:=by
 intro l
 induction l with
 | nil=>intro n _ d o h;simp at h
 | cons a l ih =>
  intro n h d o hl;simp only[qZ,oG]at h;cases d with
  | zero =>
   simp only[List.getElem?_cons_zero,oA]at hl;subst hl;exact⟨h.1.1.1,h.1.1.2,h.1.2⟩
  | succ d =>
   have:=ih (n+1) h.2 d o (by simpa using hl)
   rwa [show n+1+d=n+(d+1)from by omega]at this
theorem Jj (bs:List Nat):∀n,j6 bs n<=n:=by
 intro n
 induction n with
 | zero=>simp[j6]
 | succ n ih =>
  simp only[j6];cases Nat.beq (bs.getD n 0 % 2^n) (2^n-1)with
  | true=>rw[oK];omega
  | false=>rw[oL];omega
theorem Zq (bs:List Nat):∀n j,j6 bs n<=j->j<n->∀i,i<j->Nat.testBit (bs.getD j 0) i=true:=by
 intro n
 induction n with
 | zero=>intro j _ h;omega
 | succ n ih =>
  intro j h1 h2 i hi;simp only[j6]at h1;cases hb:Nat.beq (bs.getD n 0 % 2^n) (2^n-1)with
  | false=>rw[hb,oL]at h1;omega
  | true =>
   rw[hb,oK]at h1;rcases Nat.lt_or_ge j n with g|g
   ·exact ih j h1 g i hi
   ·have:j=n:=by omega
    subst this;have he:=oF hb;have h3:=Nat.testBit_mod_two_pow (bs.getD j 0) j i;rw[he,Nat.testBit_two_pow_sub_one]at h3;simp only[hi,decide_true,Bool.true_and]at h3;exact h3.symm
theorem k8 {bs:List Nat}{k:Nat}:∀(n j:Nat),kh bs k j n=true->∀i,j<=i->i<j+n->Nat.testBit (bs.getD i 0) k=true:=by
 intro n
 induction n with
 | zero=>intro j _ i h1 h2;omega
 | succ n ih =>
  intro j h i h1 h2;simp only[kh]at h;cases hb:Nat.testBit (bs.getD j 0) k with
  | false=>rw[hb,oL]at h;cases h
  | true =>
   rw[hb,oK]at h;rcases Nat.eq_or_lt_of_le h1 with rfl|g
   ·exact hb
   ·exact ih (j+1) h i g (by omega)
theorem Om {ts:List Nat}:∀(n:Nat) (l:List Oper),Ol ts n l=true->∀d o t,d<n->l[d]? = some o->o.dst=some t->t∉ts:=by
 intro n
 induction n with
 | zero=>intro l _ d o t h;omega
 | succ n ih =>
  intro l h d o t hd hl ht;cases l with
  | nil=>simp at hl
  | cons a l =>
   simp only[Ol,oG]at h;cases d with
   | zero =>
    simp only[List.getElem?_cons_zero,oA]at hl;subst hl;simp only[ht]at h;intro hm;rw[(kJ _ _).2 hm]at h;simp at h
   | succ d=>exact ih l h.2 d o t (by omega) (by simpa using hl) ht
theorem Ym {ops:List Oper}{tm:Tm}{b bk:Nat}:∀(n i:Nat) (l:List Oper),Yk ops tm b bk i n l=true->∀d o,d<n->l[d]? = some o ->
  Nat.testBit bk (i+d)=true\/(wQ tm b o=true/\∀d' o' t,d<=d'->d'<n->l[d']? = some o'->o'.dst=some t->t∉xb ops o):=by
 intro n
 induction n with
 | zero=>intro i l _ d o h;omega
 | succ n ih =>
  intro i l h d o hd hl;cases l with
  | nil=>simp at hl
  | cons a l =>
   simp only[Yk]at h;cases hc:(Nat.testBit bk i || (wQ tm b a && Ol (xb ops a) (n+1) (a::l)))with
   | false=>rw[hc,oL]at h;cases h
   | true =>
    rw[hc,oK]at h;cases d with
    | zero =>
     simp only[List.getElem?_cons_zero,oA]at hl;subst hl;simp only[Bool.or_eq_true,oG]at hc;refine hc.imp id λg=>⟨g.1,λd' o' t h1 h2 h3 h4=>?_⟩
     exact Om (n+1) (a::l) g.2 d' o' t h2 h3 h4
    | succ d =>
     have:=ih (i+1) l h d o (by omega) (by simpa using hl);rw[show i+1+d=i+(d+1)from by omega]at this;refine this.imp id λg=>⟨g.1,λd' o' t h1 h2 h3 h4=>?_⟩
     cases d' with
     | zero=>omega
     | succ d'=>exact g.2 d' o' t (by omega) (by omega) (by simpa using h3) h4
theorem zAd {ops:List Oper}{bs:List Nat}{m k:Nat}{tm:Tm}{o:Oper}(h:XV ops bs m k tm o=true) :
  ∃b,((∃t a x o',o.op = .store t a x/\yQ tm a=some (.ptr b o'))\/∃t a x y,o.op = .mapUpdate t a x y/\yQ tm a=some (.map b)) /\
   (∀i oi,i<k->ops[i]? = some oi->Nat.testBit (bs.getD k 0) i=true\/(wQ tm b oi=true/\∀j oj t,i<=j->j<k->ops[j]? = some oj->oj.dst=some t->t∉xb ops oi)) /\
   (∀i,k<i->i<m->Nat.testBit (bs.getD i 0) k=true):=by
 unfold XV at h;split at h
 ·rename_i t a x ho
  split at h
  ·rename_i b o' ha
   simp only[oG]at h;refine⟨b,.inl ⟨t,a,x,o',ho,ha⟩,λi oi hi hoi=>?_,λi h1 h2=>k8 _ _ h.2 i (by omega) (by omega)⟩
   have:=Ym k 0 ops h.1 i oi hi hoi
   rwa [Nat.zero_add]at this
  ·cases h
 ·rename_i t a x y ho
  split at h
  ·rename_i b ha
   simp only[oG]at h;refine⟨b,.inr ⟨t,a,x,y,ho,ha⟩,λi oi hi hoi=>?_,λi h1 h2=>k8 _ _ h.2 i (by omega) (by omega)⟩
   have:=Ym k 0 ops h.1 i oi hi hoi
   rwa [Nat.zero_add]at this
  ·cases h
 ·cases h
theorem zLO {o:Oper}(h:Yj o=true) (tm:Tm) (b:Nat):wQ tm b o=true:=by
 unfold Yj at h;unfold wQ;cases ho:o.op<;>simp only[ho]at h ⊢<;>cases h
theorem zA7 {ops:List Oper}{bk:Nat}:∀(n i:Nat) (l:List Oper),Yl ops bk i n l=true->∀d o,d<n->l[d]? = some o ->
  Nat.testBit bk (i+d)=true\/(Yj o=true/\∀d' o' t,d<=d'->d'<n->l[d']? = some o'->o'.dst=some t->t∉xb ops o):=by
 intro n
 induction n with
 | zero=>intro i l _ d o h;omega
 | succ n ih =>
  intro i l h d o hd hl;cases l with
  | nil=>simp at hl
  | cons a l =>
   simp only[Yl]at h;cases hc:(Nat.testBit bk i || (Yj a && Ol (xb ops a) (n+1) (a::l)))with
   | false=>rw[hc,oL]at h;cases h
   | true =>
    rw[hc,oK]at h;cases d with
    | zero =>
     simp only[List.getElem?_cons_zero,oA]at hl;subst hl;simp only[Bool.or_eq_true,oG]at hc;refine hc.imp id λg=>⟨g.1,λd' o' t h1 h2 h3 h4=>?_⟩
     exact Om (n+1) (a::l) g.2 d' o' t h2 h3 h4
    | succ d =>
     have:=ih (i+1) l h d o (by omega) (by simpa using hl);rw[show i+1+d=i+(d+1)from by omega]at this;refine this.imp id λg=>⟨g.1,λd' o' t h1 h2 h3 h4=>?_⟩
     cases d' with
     | zero=>omega
     | succ d'=>exact g.2 d' o' t (by omega) (by omega) (by simpa using h3) h4
theorem zEo {ops:List Oper}{bs:List Nat}{m k:Nat}(h:Y0 ops bs m k=true) :
  (∀i oi,i<k->ops[i]? = some oi->Nat.testBit (bs.getD k 0) i=true\/(Yj oi=true/\∀j oj t,i<=j->j<k->ops[j]? = some oj->oj.dst=some t->t∉xb ops oi)) /\
   (∀i,k<i->i<m->Nat.testBit (bs.getD i 0) k=true):=by
 unfold Y0 at h;simp only[oG]at h;refine⟨λi oi hi hoi=>?_,λi h1 h2=>k8 _ _ h.2 i (by omega) (by omega)⟩
 have:=zA7 k 0 ops h.1 i oi hi hoi
 rwa [Nat.zero_add]at this
theorem zIX {md:Region.Mode}{ops:Array Oper}{listed:Array Bool}(hr:Region.ready md ops listed=[]) (hsz:listed.size=ops.size) :
  ∀(l seen:List Nat),(∀i∈seen,listed.getD i false=true) ->
   (∀p i q,l=p++i::q->∃o,ops[i]? = some o/\∀e∈o.after,Region.binds md e=true->e.on∈p\/e.on∈seen)->∀i∈l,listed.getD i false=true:=by
 intro l
 induction l with
 | nil=>intro seen _ _ i h;simp at h
 | cons a l ih =>
  intro seen hs hw i hi;have ha:listed.getD a false=true:=by
   obtain⟨o,ho,he⟩:=hw [] a l rfl;have hlt:a<ops.size:=by
    rcases Nat.lt_or_ge a ops.size with g|g
    ·exact g
    ·rw[Array.getElem?_eq_none g]at ho;cases ho
   cases hb:listed.getD a false with
   | true=>rfl
   | false =>
    have:a∈Region.ready md ops listed:=by
     refine mem_ready.2 ⟨?_,o,ho,λe hm hbd=>?_⟩
     ·rw[Array.getD_eq_getD_getElem?,Array.getElem?_eq_getElem (by omega)]at hb ⊢
      simpa using hb
     ·rcases he e hm hbd with g|g
      ·simp at g
      ·exact hs _ g
    rw[hr]at this;simp at this
  rcases oY.1 hi with rfl|hi
  ·exact ha
  ·refine ih (a::seen) (λj hj=>by rcases oY.1 hj with rfl|g<;>first|exact ha|exact hs _ g) (λp i q e=>?_) i hi
   obtain⟨o,ho,he⟩:=hw (a::p) i q (by rw[e];rfl);refine⟨o,ho,λe hm hbd=>?_⟩
   rcases he e hm hbd with g|g
   ·rcases oY.1 g with g|g
    ·exact .inr (by rw[g];exact List.mem_cons_self ..)
    ·exact .inl g
   ·exact .inr (oH _ g)
theorem zHD {ops:List Oper}:∀(l seen:List Nat),Ox ops l seen=true->∀p i q,l=p++i::q->∃o,ops[i]? = some o/\∀e∈o.after,KN e=true->e.on∈p\/e.on∈seen:=by
 intro l
 induction l with
 | nil=>intro seen _ p i q h;simp at h
 | cons a l ih =>
  intro seen h p i q hl;simp only[Ox,oG]at h;cases p with
  | nil =>
   simp only[List.nil_append,List.cons.injEq]at hl;obtain⟨rfl,rfl⟩:=hl;cases ho:ops[a]? with
   | none=>rw[ho]at h;simp at h
   | some o =>
    rw[ho]at h;refine⟨o,rfl,λe hm hb=>?_⟩
    have:=List.all_eq_true.1 h.1 e (by simpa using hm);rw[hb]at this;exact .inr ((kJ _ _).1 (by simpa using this))
  | cons b p =>
   simp only[List.cons_append,List.cons.injEq]at hl;obtain⟨rfl,rfl⟩:=hl;obtain⟨o,ho,he⟩:=ih _ h.2 p i q rfl;refine⟨o,ho,λe hm hb=>?_⟩
   rcases he e hm hb with g|g
   ·exact .inl (oH _ g)
   ·rcases oY.1 g with g|g
    ·exact .inl (by rw[g];exact List.mem_cons_self ..)
    ·exact .inr g
theorem zDq {l:List Nat}:∀n,YH l n=true->∀i,i<n->i∈l:=by
 intro n
 induction n with
 | zero=>intro _ i h;omega
 | succ n ih =>
  intro h i hi;simp only[YH,oG]at h;rcases Nat.lt_or_ge i n with g|g
  ·exact ih h.2 i g
  ·rw[show i=n from by omega];exact(kJ _ _).1 h.1
theorem zKj (e:Edge):Region.binds .gc e=KN e:=by
 unfold Region.binds KN;cases e.ground<;>rfl
theorem zKk {md:Region.Mode}{e:Edge}(h:wm e=true):Region.binds md e=true:=by
 obtain⟨on,g⟩:=e;cases g<;>first|rfl|(simp[wm]at h)
def zHO (md:Region.Mode) (ops:Array Oper):Prop:=md = .gc->Region.departs ops=true
theorem Oa (mixed:Bool) (ops:Array Oper) (t:Nat) (p:List Nat->Prop) (h:∀md,zHO md ops->∀t,p (Region.linearise md ops t)):p (Region.schedule mixed ops t):=by
 unfold Region.schedule;split
 ·exact h .any (λe=>by cases e) t
 ·rename_i hd
  simp only[Bool.or_eq_true,not_or,Bool.not_eq_true,Bool.not_eq_false']at hd;split
  ·exact h .text (λe=>by cases e) _
  ·exact h .gc (λ_=>hd.2) _
theorem zBN {md:Region.Mode}{ops:Array Oper}{m:Nat}(hk:xD ops.toList=some m) (hm:zHO md ops) {listed:Array Bool}(hr:Region.ready md ops listed=[]) (hsz:listed.size=ops.size) :
  ∀i,i<ops.size->listed.getD i false=true:=by
 unfold xD at hk;cases hc:(qZ ops.toList (zp ops.toList []) 0 ops.toList && (!(Region.departs ops.toList.toArray) || (Ox ops.toList (Region.linearise .gc ops.toList.toArray 0) [] && YH (Region.linearise .gc ops.toList.toArray 0) ops.toList.length)))with
 | false=>simp only[hc,oL]at hk;cases hk
 | true =>
  simp only[oG]at hc;by_cases hgc:md = .gc
  ·subst hgc
   have hd:=hm rfl;have hc2:=hc.2;rw[show ops.toList.toArray=ops from by simp,hd]at hc2;simp only[Bool.not_true,Bool.false_or,oG]at hc2;intro i hi;refine zIX hr hsz _ [] (λ_ h=>by simp at h) (λp i q e=>?_) i (zDq _ hc2.2 i (by simpa using hi));obtain⟨o,ho,he⟩:=zHD _ _ hc2.1 p i q e;exact⟨o,by simpa using ho,λe hm hb=>he e hm (by rw[<-zKj];exact hb)⟩
  ·intro i hi
   refine zIX hr hsz (List.range ops.size) [] (λ_ h=>by simp at h) (λp i q e=>?_) i (List.mem_range.2 hi);have hp:p=List.range p.length/\i=p.length:=by
    have h1:(List.range ops.size)[p.length]? = some i:=by rw[e];simp
    have h2:(List.range ops.size).take p.length=p:=by rw[e];simp
    have hlt:p.length<ops.size:=by
     have:=congrArg List.length e;simp at this;omega
    rw[List.take_range,Nat.min_eq_left (by omega)]at h2;rw[List.getElem?_range hlt]at h1;exact⟨h2.symm,by simpa using h1.symm⟩
   obtain⟨hp,rfl⟩:=hp;have hlt:p.length<ops.size:=by
    have:=congrArg List.length e;simp at this;omega
   refine⟨ops[p.length],Array.getElem?_eq_getElem hlt,λe hm hb=>.inl ?_⟩
   have hs:=(Jb ops.toList 0 hc.1 p.length ops[p.length] (by simp[hlt])).2.1;have:=List.all_eq_true.1 hs e (by simpa using hm);rw[Nat.zero_add]at this;rw[hp,List.mem_range];simp only[Bool.or_eq_true]at this;rcases this with g|g
   ·exact(z8 _ _).1 g
   ·exfalso
    unfold Region.binds at hb;cases hg:e.ground<;>rw[hg]at g hb<;>simp at g hb;exact hgc hb
end Go.Sim
