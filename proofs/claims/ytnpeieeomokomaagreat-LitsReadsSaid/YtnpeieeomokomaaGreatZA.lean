/- A. No condition. -/
import Derived.KernelRfl
import Derived.RangeFuncLeaves
import Derived.RangeFuncRecord
import Derived.Laws.World
import Derived.Laws.Sem
noncomputable section
namespace Go.Sim
theorem oy{p:Prop}(h:p:=by omega):p:=h
theorem da{p:Prop}(h:p:=by kernel_rfl):p:=h
theorem db{p:Prop}(h:p:=by decide):p:=h
abbrev Ua:=List UInt8
abbrev Ub:=List Int
abbrev Uf:=List Nat
universe u v
theorem oA{α:Type u}(a b:α):(some a=some b)=(a=b):=Option.some.injEq a b
theorem oB{α:Type u}{e:Type v}(a:α)(b:e)(c:α)(d:e):((a,b)=(c,d))=(a=c/\b=d):=Prod.mk.injEq a b c d
theorem oG{n m:Nat}(h:n<=m:=by omega):Nat.ble n m=true:=Nat.ble_eq_true_of_le h
theorem oH{n m:Nat}(h:Nat.ble n m=true):n<=m:=Nat.le_of_ble_eq_true h
theorem oL{n m:Nat}(h:Nat.beq n m=true):n=m:=Nat.eq_of_beq_eq_true h
theorem oM(a b:Bool):((a&&b)=true)=(a=true/\b=true):=Bool.and_eq_true a b
theorem oN{α:Type u}(y:α){a:α}{l:List α}(h:a∈l):a∈y::l:=List.mem_cons_of_mem y h
theorem oO{n m k:Nat}(h:n<m)(g:m<=k):n<k:=Nat.lt_of_lt_of_le h g
theorem oQ(n:Nat):0<=n:=Nat.zero_le n
theorem oS{α:Sort u}(a b:α):cond true a b=a:=cond_true a b
theorem oT{α:Sort u}(a b:α):cond false a b=b:=cond_false a b
theorem oU{α:Type u}{l:List α}{i:Nat}(h:i<l.length):l[i]?=some l[i]:=List.getElem?_eq_getElem h
theorem oV(n:Nat):n<=n:=Nat.le_refl n
theorem oW{n m k:Nat}(h:n<=m)(g:m<=k):n<=k:=Nat.le_trans h g
theorem od{α:Type u}{l:List α}{n:Nat}(h:n<l.length):l[n]∈l:=List.getElem_mem h
theorem oe{α:Type u}{l r:List α}:(l++r).length=l.length+r.length:=List.length_append
theorem og{α:Type u}{a:α}{l:List α}:(a::l).length=l.length+1:=List.length_cons
theorem oh{α:Type u}{a:Type v}{f:α->a}{l:List α}{i:Nat}:(l.map f)[i]?=l[i]?.map f:=List.getElem?_map
theorem ol(n:Nat):(n:Int).toNat=n:=Int.toNat_natCast n
theorem om{α:Type u}{l:List α}{i j:Nat}{a:α}(h:i≠j:=by omega):(l.set i a)[j]?=l[j]?:=List.getElem?_set_ne h
theorem oo{α:Type u}{b:Type v}(a:α)(f:α->b):(some a).map f=some (f a):=Option.map_some a f
theorem oq{α:Type u}{b:α}{l:List α}{a:α}:a∈b::l↔a=b\/a∈l:=List.mem_cons
theorem ou{a b:Nat}(h:a<b:=by omega):a%b=a:=Nat.mod_eq_of_lt h
theorem ov{α:Type u}{l:List α}{i:Nat}(h:l.length<=i:=by omega):l[i]?=none:=List.getElem?_eq_none h
theorem ox{α:Type u}{a:Type v}{l:List α}(f:α->a):(l.map f).length=l.length:=List.length_map f
structure N8 (α:Type) where
 a0:α
 a1:α
 a2:α
 a3:α
 a4:α
 a5:α
 a6:α
 a7:α
inductive D8 where
 | d0
 | d1
 | d2
 | d3
 | d4
 | d5
 | d6
 | d7
def D8.ofR(n:Nat):D8 :=
 match n with
 | 0=>.d0
 | 1=>.d1
 | 2=>.d2
 | 3=>.d3
 | 4=>.d4
 | 5=>.d5
 | 6=>.d6
 | _=>.d7
def D8.of(n:Nat):D8:=D8.ofR (n % 8)
namespace N8
variable {α:Type}
def get(d:D8):N8 α->α :=
 D8.casesOn (motive:=λ_=>N8 α->α) d (λt=>t.a0) (λt=>t.a1) (λt=>t.a2) (λt=>t.a3) (λt=>t.a4) (λt=>t.a5) (λt=>t.a6) (λt=>t.a7)
def mod(d:D8):(α->α)->N8 α->N8 α :=
 D8.casesOn (motive:=λ_=>(α->α)->N8 α->N8 α) d
  (λf t=>N8.casesOn (motive:=λ_=>N8 α) t λa0 a1 a2 a3 a4 a5 a6 a7=>N8.mk (f a0) a1 a2 a3 a4 a5 a6 a7)
  (λf t=>N8.casesOn (motive:=λ_=>N8 α) t λa0 a1 a2 a3 a4 a5 a6 a7=>N8.mk a0 (f a1) a2 a3 a4 a5 a6 a7)
  (λf t=>N8.casesOn (motive:=λ_=>N8 α) t λa0 a1 a2 a3 a4 a5 a6 a7=>N8.mk a0 a1 (f a2) a3 a4 a5 a6 a7)
  (λf t=>N8.casesOn (motive:=λ_=>N8 α) t λa0 a1 a2 a3 a4 a5 a6 a7=>N8.mk a0 a1 a2 (f a3) a4 a5 a6 a7)
  (λf t=>N8.casesOn (motive:=λ_=>N8 α) t λa0 a1 a2 a3 a4 a5 a6 a7=>N8.mk a0 a1 a2 a3 (f a4) a5 a6 a7)
  (λf t=>N8.casesOn (motive:=λ_=>N8 α) t λa0 a1 a2 a3 a4 a5 a6 a7=>N8.mk a0 a1 a2 a3 a4 (f a5) a6 a7)
  (λf t=>N8.casesOn (motive:=λ_=>N8 α) t λa0 a1 a2 a3 a4 a5 a6 a7=>N8.mk a0 a1 a2 a3 a4 a5 (f a6) a7)
  (λf t=>N8.casesOn (motive:=λ_=>N8 α) t λa0 a1 a2 a3 a4 a5 a6 a7=>N8.mk a0 a1 a2 a3 a4 a5 a6 (f a7))
def all(x:α):N8 α:=⟨x,x,x,x,x,x,x,x⟩
theorem get_mod_same(d:D8)(f:α->α)(t:N8 α):(mod d f t).get d=f (t.get d):=by obtain⟨a0,a1,a2,a3,a4,a5,a6,a7⟩:=t;cases d<;>rfl
theorem get_mod_ne{d e:D8}(h:e≠d)(f:α->α)(t:N8 α):(mod d f t).get e=t.get e:=by obtain⟨a0,a1,a2,a3,a4,a5,a6,a7⟩:=t;cases d<;>cases e<;>first|rfl|exact absurd rfl h
theorem get_all(d:D8)(x:α):(all x).get d=x:=by cases d<;>rfl
end N8
theorem D8.of_inj{n m:Nat}(h:D8.of n=D8.of m):n % 8=m % 8:=by
 unfold D8.of at h;have c:n % 8<8:=Nat.mod_lt _ db;have hm:m % 8<8:=Nat.mod_lt _ db;generalize n % 8=a at *;generalize m % 8=b at *
 match a,b,c,hm with
 | 0,b,_,hm|1,b,_,hm|2,b,_,hm|3,b,_,hm|4,b,_,hm|5,b,_,hm|6,b,_,hm|7,b,_,hm =>
  match b,hm with
  | 0,_|1,_|2,_|3,_|4,_|5,_|6,_|7,_=>first|rfl|(simp only[D8.ofR]at h;cases h)
abbrev T(α:Type):Type:=N8 (N8 (N8 (N8 (N8 (N8 (Option α))))))
namespace T
variable {α:Type}
def leaf:T α:=N8.all (N8.all (N8.all (N8.all (N8.all (N8.all none)))))
def top:Nat:=262143
def getF(t:N8 (N8 (N8 (N8 (N8 (N8 (Option α)))))))(n:Nat):Option α :=
 N8.get (D8.of n) (N8.get (D8.of (n/8)) (N8.get (D8.of (n/64)) (N8.get (D8.of (n/512)) (N8.get (D8.of (n/4096)) (N8.get (D8.of (n/32768)) t)))))
def get(t:T α)(n:Nat):Option α:=cond (Nat.ble n 262143) (getF t n) none
def set(t:T α)(n:Nat)(x:Option α):T α :=
 N8.mod (D8.of (n/32768)) (N8.mod (D8.of (n/4096)) (N8.mod (D8.of (n/512)) (N8.mod (D8.of (n/64)) (N8.mod (D8.of (n/8)) (N8.mod (D8.of n) λ_=>x))))) t
@[simp] theorem get_leaf (n:Nat):(leaf:T α).get n=none:=by unfold get leaf getF;simp only[N8.get_all];cases Nat.ble n 262143<;>rfl
theorem get_set(t:T α)(n m:Nat)(x:Option α)(h:n<top):(t.set n x).get m=if m=n then x else t.get m:=by
 have k:n<262143:=h;unfold get;cases hm:Nat.ble m 262143 with
 | false =>
  have:¬m<=262143:=λi=>by rw[oG i]at hm;cases hm
  simp only[oT];rw[if_neg oy]
 | true =>
  have j:=oH hm;simp only[oS];unfold getF set;by_cases a:D8.of (m/32768)=D8.of (n/32768)
  .rw[a,N8.get_mod_same];by_cases b:D8.of (m/4096)=D8.of (n/4096)
   .rw[b,N8.get_mod_same];by_cases c:D8.of (m/512)=D8.of (n/512)
    .rw[c,N8.get_mod_same];by_cases d:D8.of (m/64)=D8.of (n/64)
     .rw[d,N8.get_mod_same];by_cases f:D8.of (m/8)=D8.of (n/8)
      .rw[f,N8.get_mod_same];by_cases g:D8.of m=D8.of n
       .rw[g,N8.get_mod_same];have l:=D8.of_inj g;have h1:=D8.of_inj f;have o:=D8.of_inj d;have p:=D8.of_inj c;have q:=D8.of_inj b;have r:=D8.of_inj a;rw[if_pos oy]
       rw[N8.get_mod_ne g,if_neg (λe=>g (by rw[e]))]
      rw[N8.get_mod_ne f,if_neg (λe=>f (by rw[e]))]
     rw[N8.get_mod_ne d,if_neg (λe=>d (by rw[e]))]
    rw[N8.get_mod_ne c,if_neg (λe=>c (by rw[e]))]
   rw[N8.get_mod_ne b,if_neg (λe=>b (by rw[e]))]
  rw[N8.get_mod_ne a,if_neg (λe=>a (by rw[e]))]
end T
abbrev Tb(α:Type):Type:=N8 (N8 (N8 α))
namespace Tb
variable {α:Type}
def top:Nat:=511
def leaf(x:α):Tb α:=N8.all (N8.all (N8.all x))
def getF(t:N8 (N8 (N8 α)))(n:Nat):α:=N8.get (D8.of n) (N8.get (D8.of (n/8)) (N8.get (D8.of (n/64)) t))
def get(d:α)(t:Tb α)(n:Nat):α:=cond (Nat.ble n 511) (getF t n) d
def set(t:Tb α)(n:Nat)(x:α):Tb α:=N8.mod (D8.of (n/64)) (N8.mod (D8.of (n/8)) (N8.mod (D8.of n) λ_=>x)) t
theorem get_leaf(d:α)(n:Nat):(leaf d).get d n=d:=by unfold get leaf getF;simp only[N8.get_all];cases Nat.ble n 511<;>rfl
theorem get_set(d:α)(t:Tb α)(n m:Nat)(x:α)(h:n<top):(t.set n x).get d m=if m=n then x else t.get d m:=by
 have i:n<511:=h;unfold get;cases hm:Nat.ble m 511 with
 | false =>
  have:¬m<=511:=λf=>by rw[oG f]at hm;cases hm
  simp only[oT];rw[if_neg oy]
 | true =>
  have g:=oH hm;simp only[oS];unfold getF set;by_cases a:D8.of (m/64)=D8.of (n/64)
  .rw[a,N8.get_mod_same];by_cases b:D8.of (m/8)=D8.of (n/8)
   .rw[b,N8.get_mod_same];by_cases c:D8.of m=D8.of n
    .rw[c,N8.get_mod_same];have j:=D8.of_inj c;have h1:=D8.of_inj b;have k:=D8.of_inj a;rw[if_pos oy]
    rw[N8.get_mod_ne c,if_neg (λe=>c (by rw[e]))]
   rw[N8.get_mod_ne b,if_neg (λe=>b (by rw[e]))]
  rw[N8.get_mod_ne a,if_neg (λe=>a (by rw[e]))]
end Tb
end Go.Sim
namespace Go.Sim
inductive Cap where
 | exact(n:Nat)
 | skip (n:Nat)
inductive V where
 | bool (b:Bool)
 | int (k:IntKind) (n:Int)
 | str (l:Ua)
 | ptr (b off:Nat)
 | nilptr
 | slice (b off len:Nat) (cap:Cap)
 | nilslice
 | map (r:Nat)
 | nilmap
 | func (fn:Fn) (first captured:List V)
 | yield (l:Nat)
 | nilFunc
 | iface (t:TypeId) (v:V)
 | nilIface
 | agg (l:List V)
 | tuple (l:List V)
abbrev Ug:=List V
abbrev Uh:=Operand->Option V
abbrev Ui:=Option V
structure Env where
 blk:Nat->Nat
 off:Nat->Nat
 cap:Nat->Nat
def Cap.val(ρ:Env)(b:Nat):Cap->Nat
 | .exact n=>n
 | .skip n=>ρ.cap b-n
mutual
def V.conc(ρ:Env):V->Value
 | .bool b=>.bool b
 | .int k n=>.int k n
 | .str l=>.string ⟨l.toArray⟩
 | .ptr b o=>.pointer (some ⟨ρ.blk b,ρ.off b+o,none⟩)
 | .nilptr=>.pointer none
 | .slice b o len c=>.slice (some ⟨ρ.blk b,ρ.off b+o,none⟩) len (c.val ρ b)
 | .nilslice=>.slice none 0 0
 | .map r=>.map (some (ρ.blk r))
 | .nilmap=>.map none
 | .func f x y=>.func f (V.concL ρ x).toArray (V.concL ρ y).toArray
 | .yield l=>.func (.yield (ρ.blk l)) #[] #[]
 | .nilFunc=>.nilFunc
 | .iface t v=>.iface t (v.conc ρ)
 | .nilIface=>.nilIface
 | .agg l=>.agg (V.concL ρ l).toArray
 | .tuple l=>.tuple (V.concL ρ l).toArray
def V.concL(ρ:Env):Ug->List Value
 | []=>[]
 | v::l=>v.conc ρ::V.concL ρ l
end
mutual
def V.In(D:Nat->Prop):V->Prop
 | .ptr b _=>D b
 | .slice b _ _ _=>D b
 | .map r=>D r
 | .func f x y=>(∀l,f≠.yield l)/\V.InL D x/\V.InL D y
 | .yield l=>D l
 | .iface _ v=>v.In D
 | .agg l=>V.InL D l
 | .tuple l=>V.InL D l
 | _=>True
def V.InL(D:Nat->Prop):Ug->Prop
 | []=>True
 | v::l=>v.In D/\V.InL D l
end
theorem V.concL_eq(ρ:Env)(l:Ug):V.concL ρ l=l.map (V.conc ρ):=by
 induction l with
 | nil=>simp[V.concL]
 | cons v l ih=>simp[V.concL,ih]
theorem V.InL_iff{D:Nat->Prop}{l:Ug}:V.InL D l↔∀v∈l,v.In D:=by
 induction l with
 | nil=>simp[V.InL]
 | cons v l ih=>simp[V.InL,ih]
def Agree(D:Nat->Prop)(ρ ρ':Env):Prop:=∀id,D id->ρ'.blk id=ρ.blk id/\ρ'.off id=ρ.off id/\ρ'.cap id=ρ.cap id
theorem Agree.refl(D:Nat->Prop)(ρ:Env):Agree D ρ ρ:=λ_ _=>⟨rfl,rfl,rfl⟩
mutual
theorem V.conc_agree{D:Nat->Prop}{ρ ρ':Env}(h:Agree D ρ ρ'):∀v:V,v.In D->v.conc ρ'=v.conc ρ
 | .bool _,_ | .int _ _,_ | .str _,_ | .nilptr,_ | .nilslice,_ | .nilmap,_ | .nilFunc,_ | .nilIface,_=>by simp[V.conc]
 | .ptr b o,a=>by simp only[V.In]at a;obtain⟨h1,d,_⟩:=h b a;simp[V.conc,h1,d]
 | .slice b o n c,a=>by simp only[V.In]at a;obtain⟨h1,d,e⟩:=h b a;cases c<;>simp[V.conc,Cap.val,h1,d,e]
 | .map r,a=>by simp only[V.In]at a;obtain⟨h1,_,_⟩:=h r a;simp[V.conc,h1]
 | .yield l,a=>by simp only[V.In]at a;obtain⟨h1,_,_⟩:=h l a;simp[V.conc,h1]
 | .func f x y,a=>by simp only[V.In]at a;simp[V.conc,V.concL_agree h x a.2.1,V.concL_agree h y a.2.2]
 | .iface t v,a=>by simp only[V.In]at a;simp[V.conc,V.conc_agree h v a]
 | .agg l,a=>by simp only[V.In]at a;simp[V.conc,V.concL_agree h l a]
 | .tuple l,a=>by simp only[V.In]at a;simp[V.conc,V.concL_agree h l a]
theorem V.concL_agree{D:Nat->Prop}{ρ ρ':Env}(h:Agree D ρ ρ'):∀l:Ug,V.InL D l->V.concL ρ' l=V.concL ρ l
 | [],_=>by simp[V.concL]
 | v::l,a=>by simp only[V.InL]at a;simp[V.concL,V.conc_agree h v a.1,V.concL_agree h l a.2]
end
mutual
theorem V.In_mono{D E:Nat->Prop}(h:∀id,D id->E id):∀v:V,v.In D->v.In E
 | .bool _,_ | .int _ _,_ | .str _,_ | .nilptr,_ | .nilslice,_ | .nilmap,_ | .nilFunc,_ | .nilIface,_=>by simp[V.In]
 | .ptr b o,a=>by simp only[V.In]at *;exact h _ a
 | .slice b o n c,a=>by simp only[V.In]at *;exact h _ a
 | .map r,a=>by simp only[V.In]at *;exact h _ a
 | .yield l,a=>by simp only[V.In]at *;exact h _ a
 | .func f x y,a=>by simp only[V.In]at *;exact⟨a.1,V.InL_mono h x a.2.1,V.InL_mono h y a.2.2⟩
 | .iface t v,a=>by simp only[V.In]at *;exact V.In_mono h v a
 | .agg l,a=>by simp only[V.In]at *;exact V.InL_mono h l a
 | .tuple l,a=>by simp only[V.In]at *;exact V.InL_mono h l a
theorem V.InL_mono{D E:Nat->Prop}(h:∀id,D id->E id):∀l:Ug,V.InL D l->V.InL E l
 | [],_=>by simp[V.InL]
 | v::l,a=>by simp only[V.InL]at *;exact⟨V.In_mono h v a.1,V.InL_mono h l a.2⟩
end
mutual
theorem V.In_and{D E:Nat->Prop}:∀v:V,v.In D->v.In E->v.In (λid=>D id/\E id)
 | .bool _,_,_ | .int _ _,_,_ | .str _,_,_ | .nilptr,_,_ | .nilslice,_,_ | .nilmap,_,_ | .nilFunc,_,_ | .nilIface,_,_=>by simp[V.In]
 | .ptr b o,h1,a=>by simp only[V.In]at *;exact⟨h1,a⟩
 | .slice b o n c,h1,a=>by simp only[V.In]at *;exact⟨h1,a⟩
 | .map r,h1,a=>by simp only[V.In]at *;exact⟨h1,a⟩
 | .yield l,h1,a=>by simp only[V.In]at *;exact⟨h1,a⟩
 | .func f x y,h1,a=>by simp only[V.In]at *;exact⟨h1.1,V.InL_and x h1.2.1 a.2.1,V.InL_and y h1.2.2 a.2.2⟩
 | .iface t v,h1,a=>by simp only[V.In]at *;exact V.In_and v h1 a
 | .agg l,h1,a=>by simp only[V.In]at *;exact V.InL_and l h1 a
 | .tuple l,h1,a=>by simp only[V.In]at *;exact V.InL_and l h1 a
theorem V.InL_and{D E:Nat->Prop}:∀l:Ug,V.InL D l->V.InL E l->V.InL (λid=>D id/\E id) l
 | [],_,_=>by simp[V.InL]
 | v::l,h1,a=>by simp only[V.InL]at *;exact⟨V.In_and v h1.1 a.1,V.InL_and l h1.2 a.2⟩
end
def qb:Nat->Ug->Option Ug
 | 0,_=>some []
 | _+1,[]=>none
 | n+1,v::l=>match qb n l with|some r=>some (v::r)|none=>none
def Yo:Nat->Ug->Option Ug
 | 0,l=>some l
 | _+1,[]=>none
 | n+1,_::l=>Yo n l
def zB4:Ug->Ug->Option Ug
 | [],l=>some l
 | _::_,[]=>none
 | v::vs,_::l=>match zB4 vs l with|some r=>some (v::r)|none=>none
def kd:Nat->Ug->Ug->Option Ug
 | 0,vs,l=>zB4 vs l
 | _+1,_,[]=>none
 | n+1,vs,x::l=>match kd n vs l with|some r=>some (x::r)|none=>none
def wM:Ug->Nat->Nat
 | [],n=>n
 | _::l,n=>wM l (n+1)
theorem zEg:∀{n:Nat}{l r:Ug},Yo n l=some r->n<=l.length/\r=l.drop n:=by
 intro n;induction n with
 | zero=>intro l r h;simp only[Yo,oA]at h;subst h;simp
 | succ n ih =>
  intro l r h;rcases l with _|⟨x,l⟩
  .simp[Yo]at h
  simp only[Yo]at h;obtain⟨a,b⟩:=ih h;simp[b];omega
theorem YN:∀{n:Nat}{l r:Ug},qb n l=some r->n<=l.length/\r=l.take n:=by
 intro n;induction n with
 | zero=>intro l r h;simp only[qb,oA]at h;subst h;simp
 | succ n ih =>
  intro l r h;rcases l with _|⟨x,l⟩
  .simp[qb]at h
  simp only[qb]at h;rcases c:qb n l with _|q
  .simp[c]at h
  simp only[c,oA]at h;obtain⟨a,b⟩:=ih c;subst h;simp[b];omega
theorem yB:∀(l:Ug) (n:Nat),wM l n=l.length+n:=by
 intro l;induction l with
 | nil=>intro n;simp[wM]
 | cons x l ih=>intro n;simp only[wM,ih,og];omega
theorem zRH:∀{vs l r:Ug},zB4 vs l=some r->vs.length<=l.length/\r.length=l.length/\∀i,r[i]? = if i<vs.length then vs[i]? else l[i]?:=by
 intro vs;induction vs with
 | nil=>intro l r h;simp only[zB4,oA]at h;subst h;simp
 | cons v vs ih =>
  intro l r h;rcases l with _|⟨x,l⟩
  .simp[zB4]at h
  simp only[zB4]at h;rcases d:zB4 vs l with _|q
  .simp[d]at h
  simp only[d,oA]at h;obtain⟨a,b,c⟩:=ih d;subst h;refine⟨by simpa using a,by simpa using b,λi=>?_⟩;rcases i with _|i
  .simp
  simp[c i]
theorem ZL:∀{n:Nat}{vs l r:Ug},kd n vs l=some r->n+vs.length<=l.length/\r.length=l.length/\∀i,r[i]? = if n<=i/\i<n+vs.length then vs[i-n]? else l[i]?:=by
 intro n;induction n with
 | zero =>
  intro vs l r h;have h':zB4 vs l=some r:=by cases l<;>simpa [kd]using h
  obtain⟨a,b,c⟩:=zRH h';exact⟨oy,b,λi=>by simp[c i]⟩
 | succ n ih =>
  intro vs l r h;rcases l with _|⟨x,l⟩
  .simp[kd]at h
  simp only[kd]at h;rcases d:kd n vs l with _|q
  .simp[d]at h
  simp only[d,oA]at h;obtain⟨a,b,c⟩:=ih d;subst h;refine⟨by simp;omega,by simpa using b,λi=>?_⟩;rcases i with _|i
  .simp
  simp only[List.getElem?_cons_succ,c i];by_cases hc:n<=i/\i<n+vs.length
  .rw[if_pos hc,if_pos oy,Nat.add_sub_add_right]
  rw[if_neg hc,if_neg oy]
theorem zHV{n:Nat}{vs l r:Ug}(h:kd n vs l=some r):∀v∈r,v∈vs\/v∈l:=by
 obtain⟨_,_,c⟩:=ZL h;intro v a;obtain⟨i,hi⟩:=List.mem_iff_getElem?.1 a;rw[c i]at hi;split at hi
 .exact .inl (List.mem_of_getElem? hi)
 exact .inr (List.mem_of_getElem? hi)
inductive Cs where
 | ls (l:Ug)
 | tb (t:Tb V) (n:Nat)
 | big (d:V) (t:T V) (n:Nat)
namespace Cs
def len:Cs->Nat
 | .ls l=>wM l 0
 | .tb _ n=>n
 | .big _ _ n=>n
def getL:Ug->Nat->Ui
 | [],_=>none
 | v::l,n=>match n with|0=>some v|n+1=>getL l n
def zEr(d:V)(t:T V)(i:Nat):V:=match t.get i with|some v=>v|none=>d
def get?:Cs->Nat->Ui
 | .ls l,i=>getL l i
 | .tb t n,i=>cond (Nat.blt i n) (some (Tb.get .nilptr t i)) none
 | .big d t n,i=>cond (Nat.blt i n) (some (zEr d t i)) none
def Yr(t:Tb V):Nat->Nat->Ug
 | 0,_=>[]
 | k+1,o=>Tb.get .nilptr t o::Yr t k (o+1)
def Ka(d:V)(t:T V):Nat->Nat->Ug
 | 0,_=>[]
 | k+1,o=>zEr d t o::Ka d t k (o+1)
def zHm(l:Ug)(o k:Nat):Option Ug:=match Yo o l with|some r=>qb k r|none=>none
def range:Cs->Nat->Nat->Option Ug
 | .ls l,o,k=>zHm l o k
 | .tb t n,o,k=>cond (Nat.ble (o+k) n) (some (Yr t k o)) none
 | .big d t n,o,k=>cond (Nat.ble (o+k) n) (some (Ka d t k o)) none
def Z8:Ug->Nat->Tb V->Tb V
 | [],_,t=>t
 | v::vs,o,t=>Z8 vs (o+1) (t.set o v)
def jc:Ug->Nat->T V->T V
 | [],_,t=>t
 | v::vs,o,t=>jc vs (o+1) (t.set o (some v))
def zW7(l:Ug)(o:Nat)(vs:Ug):Option Cs:=match kd o vs l with|some r=>some (.ls r)|none=>none
def put:Cs->Nat->Ug->Option Cs
 | .ls l,o,vs=>zW7 l o vs
 | .tb t n,o,vs=>cond (Nat.ble (wM vs o) n && Nat.ble n 511) (some (.tb (Z8 vs o t) n)) none
 | .big d t n,o,vs=>cond (Nat.ble (wM vs o) n && Nat.ble n 262143) (some (.big d (jc vs o t) n)) none
def zFP(l:Ug)(m:Nat):Option Cs :=
 cond (Nat.ble m 511) (some (.tb (Z8 l 0 (Tb.leaf .nilptr)) m)) (cond (Nat.ble m 262143) (some (.big .nilptr (jc l 0 .leaf) m)) none)
def zJz(l vs:Ug)(m:Nat):Option Cs:=cond (Nat.ble m 16) (some (.ls (l++vs))) (zFP (l++vs) m)
def zQZ(t:Tb V)(n:Nat)(vs:Ug)(m:Nat):Option Cs :=
 cond (Nat.ble m 511) (some (.tb (Z8 vs n t) m)) (cond (Nat.ble m 262143) (some (.big .nilptr (jc vs n (jc (Yr t n 0) 0 .leaf)) m)) none)
def app:Cs->Ug->Option Cs
 | .ls l,vs=>zJz l vs (wM l (wM vs 0))
 | .tb t n,vs=>zQZ t n vs (wM vs n)
 | .big d t n,vs=>cond (Nat.ble (wM vs n) 262143) (some (.big d (jc vs n t) (wM vs n))) none
def ofL(l:Ug):Option Cs:=zJz [] l (wM l 0)
def rep(v:V)(n:Nat):Option Cs :=
 cond (Nat.ble n 511) (some (.tb (Tb.leaf v) n)) (cond (Nat.ble n 262143) (some (.big v .leaf n)) none)
theorem getL_eq:∀(l:Ug) (i:Nat),getL l i=l[i]?:=by
 intro l;induction l with
 | nil=>intro i;simp[getL]
 | cons v l ih=>intro i;cases i with
  | zero=>simp[getL]
  | succ i=>simp[getL,ih]
theorem zFu(t:Tb V):∀(k o:Nat),(Yr t k o).length=k/\∀j,(Yr t k o)[j]? = if j<k then some (Tb.get .nilptr t (o+j)) else none:=by
 intro k;induction k with
 | zero=>intro o;exact⟨rfl,λj=>by simp[Yr]⟩
 | succ k ih =>
  intro o;obtain⟨a,b⟩:=ih (o+1);refine⟨by simp[Yr,a],λj=>?_⟩;rcases j with _|j
  .simp[Yr]
  simp only[Yr,List.getElem?_cons_succ,b,show o+1+j=o+(j+1)from oy];by_cases h:j<k
  .rw[if_pos h,if_pos oy]
  rw[if_neg h,if_neg oy]
theorem zPZ(d:V)(t:T V):∀(k o:Nat),(Ka d t k o).length=k/\∀j,(Ka d t k o)[j]? = if j<k then some (zEr d t (o+j)) else none:=by
 intro k;induction k with
 | zero=>intro o;exact⟨rfl,λj=>by simp[Ka]⟩
 | succ k ih =>
  intro o;obtain⟨a,b⟩:=ih (o+1);refine⟨by simp[Ka,a],λj=>?_⟩;rcases j with _|j
  .simp[Ka]
  simp only[Ka,List.getElem?_cons_succ,b,show o+1+j=o+(j+1)from oy];by_cases h:j<k
  .rw[if_pos h,if_pos oy]
  rw[if_neg h,if_neg oy]
theorem KS:∀(vs:Ug) (o:Nat) (t:Tb V) (i:Nat),o+vs.length<=511 ->
  Tb.get .nilptr (Z8 vs o t) i=if o<=i/\i<o+vs.length then (vs[i-o]?).getD .nilptr else Tb.get .nilptr t i:=by
 intro vs;induction vs with
 | nil=>intro o t i _;simp only[Z8,List.length_nil];rw[if_neg oy]
 | cons v vs ih =>
  intro o t i h;simp only[og]at h ⊢;rw[Z8,ih _ _ _ oy,Tb.get_set _ _ _ _ _ (by unfold Tb.top;omega)];by_cases h1:i=o
  .subst h1;rw[if_neg oy,if_pos rfl,if_pos oy];simp
  by_cases h2:o+1<=i/\i<o+1+vs.length
  .rw[if_pos h2,if_pos oy];obtain⟨k,a⟩:∃k,i-o=k+1:=⟨i-o-1,oy⟩;rw[a,List.getElem?_cons_succ,show i-(o+1)=k from oy]
  rw[if_neg h2,if_neg h1,if_neg oy]
theorem ZO:∀(vs:Ug) (o:Nat) (t:T V) (i:Nat),o+vs.length<=262143 ->
  (jc vs o t).get i=if o<=i/\i<o+vs.length then vs[i-o]? else t.get i:=by
 intro vs;induction vs with
 | nil=>intro o t i _;simp only[jc,List.length_nil];rw[if_neg oy]
 | cons v vs ih =>
  intro o t i h;simp only[og]at h ⊢;rw[jc,ih _ _ _ oy,T.get_set _ _ _ _ (by unfold T.top;omega)];by_cases h1:i=o
  .subst h1;rw[if_neg oy,if_pos rfl,if_pos oy];simp
  by_cases h2:o+1<=i/\i<o+1+vs.length
  .rw[if_pos h2,if_pos oy];obtain⟨k,a⟩:∃k,i-o=k+1:=⟨i-o-1,oy⟩;rw[a,List.getElem?_cons_succ,show i-(o+1)=k from oy]
  rw[if_neg h2,if_neg h1,if_neg oy]
theorem zDB{a b:Nat}(h:Nat.blt a b=true):a<b:=oH h
theorem get_lt{c:Cs}{i:Nat}{v:V}(h:c.get? i=some v):i<c.len:=by
 cases c with
 | ls l=>simp only[get?,getL_eq]at h;simp only[len,yB];have:=(List.getElem?_eq_some_iff.1 h).1;omega
 | tb t n =>
  simp only[get?]at h;cases hb:Nat.blt i n with
  | true=>exact zDB hb
  | false=>simp[hb]at h
 | big d t n =>
  simp only[get?]at h;cases hb:Nat.blt i n with
  | true=>exact zDB hb
  | false=>simp[hb]at h
theorem range_eq{c:Cs}{o k:Nat}{x:Ug}(h:c.range o k=some x):x.length=k/\o+k<=c.len/\∀j,j<k->x[j]? = c.get? (o+j):=by
 cases c with
 | ls l =>
  simp only[range,zHm]at h;split at h
  .rename_i r hr;obtain⟨a1,rfl⟩:=zEg hr;obtain⟨a2,rfl⟩:=YN h;simp only[List.length_drop]at a2;refine⟨by simp;omega,by simp only[len,yB];omega,λj f=>?_⟩;rw[List.getElem?_take,if_pos f,List.getElem?_drop];simp only[get?,getL_eq]
  cases h
 | tb t n =>
  simp only[range]at h;rcases hb:Nat.ble (o+k) n with _|_
  .simp[hb]at h
  simp only[hb,oS,oA]at h;subst h;have e:=oH hb;obtain⟨a,b⟩:=zFu t k o;refine⟨a,e,λj f=>?_⟩;have h1:Nat.blt (o+j) n=true:=oG;rw[b,if_pos f];simp only[get?,h1,oS]
 | big d t n =>
  simp only[range]at h;rcases hb:Nat.ble (o+k) n with _|_
  .simp[hb]at h
  simp only[hb,oS,oA]at h;subst h;have e:=oH hb;obtain⟨a,b⟩:=zPZ d t k o;refine⟨a,e,λj f=>?_⟩;have h1:Nat.blt (o+j) n=true:=oG;rw[b,if_pos f];simp only[get?,h1,oS]
theorem range_mem{c:Cs}{o k:Nat}{x:Ug}(h:c.range o k=some x){v:V}(f:v∈x):∃i,c.get? i=some v:=by
 obtain⟨a,_,b⟩:=range_eq h;obtain⟨j,e⟩:=List.mem_iff_getElem?.1 f;have d:j<k:=by rw[<-a];exact(List.getElem?_eq_some_iff.1 e).1
 exact⟨o+j,by rw[<-b j d];exact e⟩
theorem range_some{c:Cs}{o k:Nat}(h:o+k<=c.len):∃x,c.range o k=some x:=by
 cases c with
 | ls l =>
  simp only[len,yB,Nat.add_zero]at h;have a:∀(n:Nat) (l:Ug),n<=l.length->Yo n l=some (l.drop n):=by
   intro n;induction n with
   | zero=>intro l _;simp[Yo]
   | succ n ih=>intro l hl;cases l with
    | nil=>simp at hl
    | cons x l=>simp only[Yo,ih l (by simpa using hl),List.drop_succ_cons]
  have b:∀(n:Nat) (l:Ug),n<=l.length->qb n l=some (l.take n):=by
   intro n;induction n with
   | zero=>intro l _;simp[qb]
   | succ n ih=>intro l hl;cases l with
    | nil=>simp at hl
    | cons x l=>simp only[qb,ih l (by simpa using hl),List.take_succ_cons]
  exact⟨_,by simp only[range,zHm,a o l oy];exact b _ _ (by simp;omega)⟩
 | tb t n=>have hb:Nat.ble (o+k) n=true:=oG h;exact⟨_,by simp only[range,hb,oS];rfl⟩
 | big d t n=>have hb:Nat.ble (o+k) n=true:=oG h;exact⟨_,by simp only[range,hb,oS];rfl⟩
theorem put_eq{c c':Cs}{o:Nat}{vs:Ug}(h:c.put o vs=some c'):
  o+vs.length<=c.len/\c'.len=c.len/\∀i,c'.get? i=if o<=i/\i<o+vs.length then vs[i-o]? else c.get? i:=by
 cases c with
 | ls l =>
  simp only[put,zW7]at h;split at h
  .rename_i r hr;simp only[oA]at h;subst h;obtain⟨s1,f,b⟩:=ZL hr;exact⟨by simp only[len,yB];omega,by simp only[len,yB];omega,λi=>by simp only[get?,getL_eq];exact b i⟩
  cases h
 | tb t n =>
  simp only[put]at h;rcases hb:(Nat.ble (wM vs o) n && Nat.ble n 511) with _|_
  .simp[hb]at h
  simp only[hb,oS,oA]at h;subst h;simp only[oM]at hb;have h1:=oH hb.1;have e:=oH hb.2;rw[yB]at h1;refine⟨by simp only[len];omega,rfl,λi=>?_⟩;simp only[get?];rw[KS _ _ _ _ oy];by_cases hi:o<=i/\i<o+vs.length
  .have a:Nat.blt i n=true:=oG;rw[if_pos hi,if_pos hi,a,oS,oU oy];rfl
  rw[if_neg hi,if_neg hi]
 | big d t n =>
  simp only[put]at h;rcases hb:(Nat.ble (wM vs o) n && Nat.ble n 262143) with _|_
  .simp[hb]at h
  simp only[hb,oS,oA]at h;subst h;simp only[oM]at hb;have h1:=oH hb.1;have e:=oH hb.2;rw[yB]at h1;refine⟨by simp only[len];omega,rfl,λi=>?_⟩;simp only[get?,zEr];rw[ZO _ _ _ _ oy];by_cases hi:o<=i/\i<o+vs.length
  .have a:Nat.blt i n=true:=oG;rw[if_pos hi,if_pos hi,a,oS,oU oy]
  rw[if_neg hi,if_neg hi]
theorem zNm{l:Ug}{m:Nat}{c:Cs}(hm:m=l.length)(h:zFP l m=some c):c.len=m/\∀i,c.get? i=l[i]?:=by
 unfold zFP at h;cases hb:Nat.ble m 511 with
 | true =>
  simp only[hb,oS,oA]at h;subst h;have h1:=oH hb;refine⟨rfl,λi=>?_⟩;simp only[get?];rw[KS _ _ _ _ oy];by_cases hi:i<m
  .have a:Nat.blt i m=true:=oG hi;rw[a,oS,if_pos oy,Nat.sub_zero,oU oy];rfl
  have a:Nat.blt i m=false:=by
   rcases d:Nat.blt i m with _|_
   .rfl
   exact absurd (zDB d) hi
  rw[a,oT,ov]
 | false =>
  simp only[hb,oT]at h;rcases b:Nat.ble m 262143 with _|_
  .simp[b]at h
  simp only[b,oS,oA]at h;subst h;have h1:=oH b;refine⟨rfl,λi=>?_⟩;simp only[get?,zEr];rw[ZO _ _ _ _ oy];by_cases hi:i<m
  .have a:Nat.blt i m=true:=oG hi;rw[a,oS,if_pos oy,Nat.sub_zero,oU oy]
  have a:Nat.blt i m=false:=by
   rcases d:Nat.blt i m with _|_
   .rfl
   exact absurd (zDB d) hi
  rw[a,oT,ov]
theorem zI3{l vs:Ug}{m:Nat}{c:Cs}(hm:m=l.length+vs.length)(h:zJz l vs m=some c):c.len=m/\∀i,c.get? i=(l++vs)[i]?:=by
 unfold zJz at h;cases hb:Nat.ble m 16 with
 | true=>simp only[hb,oS,oA]at h;subst h;exact⟨by simp only[len,yB,oe];omega,λi=>by simp only[get?,getL_eq]⟩
 | false=>simp only[hb,oT]at h;exact zNm (by rw[oe];exact hm) h
theorem ofL_eq{l:Ug}{c:Cs}(h:ofL l=some c):c.len=l.length/\∀i,c.get? i=l[i]?:=by have:=zI3 (by simp[yB]) h;simpa [yB]using this
theorem app_eq{c c':Cs}{vs:Ug}(h:c.app vs=some c'):c'.len=c.len+vs.length/\∀i,c'.get? i=if i<c.len then c.get? i else vs[i-c.len]?:=by
 cases c with
 | ls l =>
  simp only[app]at h;obtain⟨a,b⟩:=zI3 (by simp only[yB];omega) h;refine⟨by rw[a];simp only[len,yB];omega,λi=>?_⟩;rw[b];simp only[len,yB,Nat.add_zero,get?,getL_eq];by_cases hi:i<l.length
  .rw[if_pos hi,List.getElem?_append_left hi]
  rw[if_neg hi,List.getElem?_append_right oy]
 | tb t n =>
  simp only[app,zQZ]at h;cases hb:Nat.ble (wM vs n) 511 with
  | true =>
   simp only[hb,oS,oA]at h;subst h;have h1:=oH hb;rw[yB]at h1;refine⟨by simp only[len,yB];omega,λi=>?_⟩;show Cs.get? (.tb (Z8 vs n t) (wM vs n)) i=if i<n then Cs.get? (.tb t n) i else vs[i-n]?
   simp only[get?];rw[KS _ _ _ _ oy,yB];by_cases hi:i<n
   .have e:Nat.blt i (vs.length+n)=true:=oG;have g:Nat.blt i n=true:=oG hi;rw[if_pos hi,e,g,if_neg oy]
   rw[if_neg hi];by_cases hj:i<vs.length+n
   .have e:Nat.blt i (vs.length+n)=true:=oG hj;rw[e,oS,if_pos oy,oU oy];rfl
   have e:Nat.blt i (vs.length+n)=false:=by
    rcases j:Nat.blt i (vs.length+n) with _|_
    .rfl
    exact absurd (zDB j) hj
   rw[e,oT,ov]
  | false =>
   simp only[hb,oT]at h;rcases f:Nat.ble (wM vs n) 262143 with _|_
   .simp[f]at h
   simp only[f,oS,oA]at h;subst h;have h1:=oH f;rw[yB]at h1;obtain⟨r1,r2⟩:=zFu t n 0;refine⟨by simp only[len,yB];omega,λi=>?_⟩;show Cs.get? (.big .nilptr (jc vs n (jc (Yr t n 0) 0 .leaf)) (wM vs n)) i=if i<n then Cs.get? (.tb t n) i else vs[i-n]?
   simp only[get?,zEr];rw[ZO _ _ _ _ oy,ZO _ _ _ _ (by rw[r1];omega),yB];by_cases hi:i<n
   .have e:Nat.blt i (vs.length+n)=true:=oG;have g:Nat.blt i n=true:=oG hi;rw[if_pos hi,e,g,if_neg oy,if_pos (by rw[r1];omega),r2,if_pos oy,Nat.sub_zero,Nat.zero_add]
   rw[if_neg hi];by_cases hj:i<vs.length+n
   .have e:Nat.blt i (vs.length+n)=true:=oG hj;rw[e,oS,if_pos oy,oU oy]
   have e:Nat.blt i (vs.length+n)=false:=by
    rcases j:Nat.blt i (vs.length+n) with _|_
    .rfl
    exact absurd (zDB j) hj
   rw[e,oT,ov]
 | big d t n =>
  simp only[app]at h;rcases hb:Nat.ble (wM vs n) 262143 with _|_
  .simp[hb]at h
  simp only[hb,oS,oA]at h;subst h;have h1:=oH hb;rw[yB]at h1;refine⟨by simp only[len,yB];omega,λi=>?_⟩;show Cs.get? (.big d (jc vs n t) (wM vs n)) i=if i<n then Cs.get? (.big d t n) i else vs[i-n]?
  simp only[get?,zEr];rw[ZO _ _ _ _ oy,yB];by_cases hi:i<n
  .have e:Nat.blt i (vs.length+n)=true:=oG;have g:Nat.blt i n=true:=oG hi;rw[if_pos hi,e,g,if_neg oy]
  rw[if_neg hi];by_cases hj:i<vs.length+n
  .have e:Nat.blt i (vs.length+n)=true:=oG hj;rw[e,oS,if_pos oy,oU oy]
  have e:Nat.blt i (vs.length+n)=false:=by
   rcases j:Nat.blt i (vs.length+n) with _|_
   .rfl
   exact absurd (zDB j) hj
  rw[e,oT,ov]
theorem rep_eq{v:V}{n:Nat}{c:Cs}(h:rep v n=some c):c.len=n/\∀i,c.get? i=if i<n then some v else none:=by
 unfold rep at h;have key:∀i,(cond (Nat.blt i n) (some v) none:Ui)=if i<n then some v else none:=λi=>by
  by_cases hi:i<n
  .have b:Nat.blt i n=true:=oG hi;rw[b,if_pos hi];rfl
  have b:Nat.blt i n=false:=by
   rcases d:Nat.blt i n with _|_
   .rfl
   exact absurd (zDB d) hi
  rw[b,if_neg hi];rfl
 cases hb:Nat.ble n 511 with
 | true =>
  simp only[hb,oS,oA]at h;subst h;have h1:=oH hb;refine⟨rfl,λi=>?_⟩;rw[<-key];simp only[get?];rcases hi:Nat.blt i n with _|_
  .rfl
  have:=zDB hi;simp only[oS];unfold Tb.get Tb.leaf Tb.getF;simp only[N8.get_all];rw[oG];rfl
 | false =>
  simp only[hb,oT]at h;rcases a:Nat.ble n 262143 with _|_
  .simp[a]at h
  simp only[a,oS,oA]at h;subst h;refine⟨rfl,λi=>?_⟩;rw[<-key];simp only[get?,zEr,T.get_leaf]
end Cs
def V.one:V->Bool
 | .agg _=>false
 | .tuple _=>false
 | _=>true
def zC:V:=.tuple []
abbrev Tm:Type:=Tb V
def zI(tm:Tm)(t:Nat):V:=Tb.get zC tm t
theorem xo(ρ:Env):zC.conc ρ=undef:=by simp[zC,V.conc,V.concL,undef]
theorem wL(D:Nat->Prop):zC.In D:=by simp[zC,V.In,V.InL]
structure TmR (ρ:Env) (D:Nat->Prop) (n:Nat) (tm:Tm) (a:Array Value):Prop where
 size:a.size=n
 cap:n<=Tb.top
 val:∀t,a.getD t undef=(zI tm t).conc ρ
 inn:∀t,(zI tm t).In D
structure Ent where
 key:V
 val:V
 born:Nat
def Ent.conc(ρ:Env)(e:Ent):MapEntry:={ key:=e.key.conc ρ,val:=e.val.conc ρ,born:=e.born }
structure Rk where
 n:Nat
 ty:Nat
 fz:Nat
inductive O where
 | cells (l:Cs) (esz:Rk) (wr op:Bool)
 | map (es:List Ent) (clock:Nat)
 | loop (st:LoopState) (pending:Option Code) (n:Nat) (tm:Tm) (params:Array Tmp) (assign body:Code) (dfr:Nat)
 | deferred (there:Bool)
 | strIter (l:Ua) (pos:Nat)
 | mapIter (m:Option Nat) (since:Nat) (seen:Uf) (stepped:Nat)
def O.wr:O->Bool
 | .cells _ _ w _=>w
 | _=>true
structure H where
 tbl:T O
 nx:Nat
 low:Nat
def H.get(h:H)(id:Nat):Option O:=h.tbl.get id
def ORel(ρ:Env)(D:Nat->Prop)(b:Nat):O->Option Obj->Prop
 | .cells l esz wr op,x=>∃c e fz,x=some (.cells c e fz)/\(∀i v,l.get? i=some v->c[ρ.off b+i]? = some (v.conc ρ))/\(∀i v,l.get? i=some v->v.In D) /\
   (wr=true->ρ.off b=0/\(∀i,i<c.size->esz.fz<=i->¬(fz.1<=i/\i<fz.2))/\l.len<=c.size/\c.size=(if op then ρ.cap b*esz.n else l.len) /\
    ∀t,esz.ty=t+1->e=t/\(fz.1=fz.2\/(fz.1=0/\fz.2<=esz.fz)))
 | .map es clock,x=>x=some (.map (es.map (Ent.conc ρ)).toArray clock)/\∀e∈es,e.key.In D/\e.val.In D
 | .loop st pending n tm params assign body dfr,x=>∃fn tmps,x=some (.loop { state:=st,pending,fn,tmps,params,assign,body,defers:=ρ.blk dfr })/\TmR ρ D n tm tmps/\D dfr
 | .deferred there,x=>x=some (.deferred (if there then some [] else none))
 | .strIter l pos,x=>x=some (.stringIter ⟨l.toArray⟩ pos)
 | .mapIter m since seen stepped,x=>x=some (.mapIter (m.map ρ.blk) since seen.toArray stepped)/\∀r,m=some r->D r
structure HR (ρ:Env) (D:Nat->Prop) (h:H) (w:World):Prop where
 cap:h.nx<=T.top
 lt:∀id,D id->id<h.nx
 rel:∀id o,D id->h.get id=some o->ORel ρ D id o w.heap[ρ.blk id]?
 inj:∀i j oi oj,D i->D j->h.get i=some oi->h.get j=some oj->oi.wr=true->ρ.blk i=ρ.blk j->i=j
def Dx(D:Nat->Prop)(h h':H):Nat->Prop:=λid=>D id\/(h.nx<=id/\id<h'.nx)
structure Mv (ρ:Env) (D:Nat->Prop) (h:H) (w:World) (ρ':Env) (h':H) (w':World):Prop where
 nx:h.nx<=h'.nx
 size:w.heap.size<=w'.heap.size
 os:w'.os=w.os
 tape:w'.tape=w.tape/\w.drawn<=w'.drawn
 output:w'.output=w.output
 agree:Agree D ρ ρ'
 old:∀id o',id<h.nx->h'.get id=some o'->∃o,h.get id=some o/\o'.wr=o.wr
 img:∀id o',h.nx<=id->id<h'.nx->h'.get id=some o'->o'.wr=true /\
  (w.heap.size<=ρ'.blk id\/∃j o,D j/\h.get j=some o/\o.wr=true/\ρ.blk j=ρ'.blk id/\h'.get j=none)
 frame:∀r,r<w.heap.size->(∀j o,D j->h.get j=some o->o.wr=true->ρ.blk j≠r)->w'.heap[r]? = w.heap[r]?
 low:h'.low<=h.low
 kept:∀id,id<h.nx->id<h'.low->h'.get id=h.get id
theorem wq{D:Nat->Prop}{h h':H}:∀id,D id->Dx D h h' id:=λ_=>.inl
theorem zr{D:Nat->Prop}{h:H}:Dx D h h=D:=by
 funext id;simp only[Dx,eq_iff_iff];constructor
 .rintro(h1|h1)
  .exact h1
  omega
 exact .inl
theorem jT{D:Nat->Prop}{h h':H}(e:h'.nx=h.nx):Dx D h h'=D:=by
 funext id;simp only[Dx,eq_iff_iff];constructor
 .rintro(h1|h1)
  .exact h1
  omega
 exact .inl
theorem xy{D:Nat->Prop}{h h1 d:H}(a:h.nx<=h1.nx)(b:h1.nx<=d.nx):Dx (Dx D h h1) h1 d=Dx D h d:=by
 funext id;simp only[Dx,eq_iff_iff];constructor
 .rintro((c|c)|c)
  .exact .inl c
  .exact .inr oy
  exact .inr oy
 rintro(c|c)
 .exact .inl (.inl c)
 by_cases e:id<h1.nx
 .exact .inl (.inr oy)
 exact .inr oy
theorem Mv.refl(ρ:Env)(D:Nat->Prop)(h:H)(w:World):Mv ρ D h w ρ h w :=
 ⟨oV _,oV _,rfl,⟨rfl,oV _⟩,rfl,Agree.refl _ _,λ_ o' _ e=>⟨o',e,rfl⟩,λ_ _ a b=>oy,λ_ _ _=>rfl,oV _,λ_ _ _=>rfl⟩
theorem Mv.trans{ρ ρ1 ρ2:Env}{D:Nat->Prop}{h h1 h2:H}{w w1 w2:World}(hD:∀id,D id->id<h.nx)(a:Mv ρ D h w ρ1 h1 w1)(b:Mv ρ1 (Dx D h h1) h1 w1 ρ2 h2 w2):Mv ρ D h w ρ2 h2 w2 where
 nx:=oW a.nx b.nx
 size:=oW a.size b.size
 os:=b.os.trans a.os
 tape:=⟨b.tape.1.trans a.tape.1,oW a.tape.2 b.tape.2⟩
 output:=b.output.trans a.output
 agree:=λid hid=>by obtain⟨x1,x2,x3⟩:=a.agree id hid;obtain⟨y1,y2,y3⟩:=b.agree id (.inl hid);exact⟨y1.trans x1,y2.trans x2,y3.trans x3⟩
 old:=λid o' hlt he=>by obtain⟨o1,he1,e1⟩:=b.old id o' (oO hlt a.nx) he;obtain⟨o,he2,e2⟩:=a.old id o1 hlt he1;exact⟨o,he2,e1.trans e2⟩
 img:=λid o' h0 h2' he=>by
  have dead:∀k,k<h.nx->h1.get k=none->h2.get k=none:=λk hk hn=>by
   rcases hc:h2.get k with _|o
   .rfl
   obtain⟨o1,he1,_⟩:=b.old k o (oO hk a.nx) hc;rw[hn]at he1;cases he1
  by_cases hid:id<h1.nx
  .obtain⟨o1,he1,e1⟩:=b.old id o' hid he;obtain⟨hw,hi⟩:=a.img id o1 h0 hid he1;have hag:=(b.agree id (.inr ⟨h0,hid⟩)).1;refine⟨e1.trans hw,?_⟩;rcases hi with hi|⟨j,o,d1,d2,d3,d4,d5⟩
   .exact .inl (by rw[hag];exact hi)
   exact .inr ⟨j,o,d1,d2,d3,by rw[hag];exact d4,dead j (hD j d1) d5⟩
  obtain⟨hw,hi⟩:=b.img id o' oy h2' he;refine⟨hw,?_⟩;rcases hi with hi|⟨j,o,d1,d2,d3,d4,d5⟩
  .exact .inl (oW a.size hi)
  rcases d1 with d1|d1
  .obtain⟨o0,g1,g2⟩:=a.old j o (hD j d1) d2;exact .inr ⟨j,o0,d1,g1,g2.symm.trans d3,by rw[<-d4];exact(a.agree j d1).1.symm,d5⟩
  obtain⟨_,hj⟩:=a.img j o d1.1 d1.2 d2;rcases hj with hj|⟨k,ok,k1,k2,k3,k4,k5⟩
  .exact .inl (by rw[<-d4];exact hj)
  exact .inr ⟨k,ok,k1,k2,k3,k4.trans d4,dead k (hD k k1) k5⟩
 frame:=λr hr hno=>by
  rw[b.frame r (oO hr a.size) ?_,a.frame r hr hno];intro j o d1 d2 d3;rcases d1 with d1|d1
  .obtain⟨o0,g1,g2⟩:=a.old j o (hD j d1) d2;rw[(a.agree j d1).1];exact hno j o0 d1 g1 (g2.symm.trans d3)
  obtain⟨_,hj⟩:=a.img j o d1.1 d1.2 d2;rcases hj with hj|⟨k,ok,k1,k2,k3,k4,_⟩
  .omega
  rw[<-k4];exact hno k ok k1 k2 k3
 low:=oW b.low a.low
 kept:=λid h0 hl=>(b.kept id (oO h0 a.nx) hl).trans (a.kept id h0 (oO hl b.low))
theorem HR.of_heap{ρ:Env}{D:Nat->Prop}{h:H}{w w':World}(r:HR ρ D h w)(e:w'.heap=w.heap):HR ρ D h w' :=
 ⟨r.cap,r.lt,by rw[e];exact r.rel,r.inj⟩
theorem Mv.of_heap{ρ:Env}{D:Nat->Prop}{h:H}{w w':World}(e:w'.heap=w.heap)(c:w'.os=w.os)(d:w'.tape=w.tape/\w.drawn<=w'.drawn)(f:w'.output=w.output):Mv ρ D h w ρ h w' :=
 ⟨oV _,by rw[e];exact oV _,c,d,f,Agree.refl _ _,λ_ o' _ e=>⟨o',e,rfl⟩,λ_ _ a b=>oy,λr _ _=>by rw[e],oV _,λ_ _ _=>rfl⟩
def H.upd(h:H)(id:Nat)(o:Option O):H :=
 match h with
 | ⟨t,n,l⟩=>⟨t.set id o,n,cond (Nat.ble l id) l id⟩
def H.new(h:H)(o:O):H :=
 match h with
 | ⟨t,n,l⟩=>⟨t.set n (some o),n+1,l⟩
theorem H.upd_eq(h:H)(id:Nat)(o:Option O):h.upd id o = { tbl:=h.tbl.set id o,nx:=h.nx,low:=cond (Nat.ble h.low id) h.low id }:=rfl
theorem H.new_eq(h:H)(o:O):h.new o = { tbl:=h.tbl.set h.nx (some o),nx:=h.nx+1,low:=h.low }:=rfl
def Env.at(ρ : Env)(id blk cap : Nat): Env :=
  { blk := λi => if i = id then blk else ρ.blk i
    off := λi => if i = id then 0 else ρ.off i
    cap := λi => if i = id then cap else ρ.cap i }
@[simp] theorem Env.at_blk (ρ:Env) (id b c:Nat):(ρ.at id b c).blk id=b:=by simp[Env.at]
@[simp] theorem Env.at_off (ρ:Env) (id b c:Nat):(ρ.at id b c).off id=0:=by simp[Env.at]
@[simp] theorem Env.at_cap (ρ:Env) (id b c:Nat):(ρ.at id b c).cap id=c:=by simp[Env.at]
theorem Env.at_agree{ρ:Env}{D:Nat->Prop}{id b c:Nat}(h:¬D id):Agree D ρ (ρ.at id b c):=λi hi=>by
 have:i≠id:=λe=>h (e ▸ hi)
 simp[Env.at,this]
theorem H.low_upd(h:H)(id:Nat)(o:Option O):(h.upd id o).low=min h.low id:=by
 rw[H.upd_eq];cases hb:Nat.ble h.low id
 .have:¬h.low<=id:=λe=>by rw[oG e]at hb;cases hb
  simp only[oT];omega
 have:=oH hb;simp only[oS];omega
theorem H.get_upd(h:H)(id j:Nat)(o:Option O)(hl:id<T.top):(h.upd id o).get j=if j=id then o else h.get j:=by simp[H.upd_eq,H.get,T.get_set _ _ _ _ hl]
theorem H.get_new(h:H)(j:Nat)(o:O)(hl:h.nx<T.top):(h.new o).get j=if j=h.nx then some o else h.get j:=by simp[H.new_eq,H.get,T.get_set _ _ _ _ hl]
theorem TmR.agree{ρ ρ':Env}{D D':Nat->Prop}{n:Nat}{tm:Tm}{a:Array Value}(h:TmR ρ D n tm a)(hs:∀id,D id->D' id)(b:Agree D ρ ρ'):TmR ρ' D' n tm a :=
 ⟨h.size,h.cap,λt=>by rw[V.conc_agree b _ (h.inn t)];exact h.val t,λt=>V.In_mono hs _ (h.inn t)⟩
theorem ORel.agree{ρ ρ':Env}{D D':Nat->Prop}{b:Nat}{o:O}{x:Option Obj}(h:ORel ρ D b o x)(hb:D b)(hs:∀id,D id->D' id)(d:Agree D ρ ρ'):ORel ρ' D' b o x:=by
 cases o with
 | cells l esz wr op =>
  obtain⟨c,e,fz,rfl,h1,a,g⟩:=h;obtain⟨_,a2,a3⟩:=d b hb;refine⟨c,e,fz,rfl,λi v j=>?_,λi v j=>V.In_mono hs _ (a i v j),?_⟩
  .rw[a2,V.conc_agree d v (a i v j)];exact h1 i v j
  rw[a2,a3];exact g
 | map es clock=>obtain⟨h1,a⟩:=h;refine⟨?_,λe f=>⟨V.In_mono hs _ (a e f).1,V.In_mono hs _ (a e f).2⟩⟩;rw[h1];congr 2;congr 1;apply List.map_congr_left;intro e f;simp[Ent.conc,V.conc_agree d _ (a e f).1,V.conc_agree d _ (a e f).2]
 | loop st pending n tm params assign body dfr=>obtain⟨fn,tmps,h1,a,g⟩:=h;refine⟨fn,tmps,?_,a.agree hs d,hs _ g⟩;rw[h1,(d dfr g).1]
 | deferred there=>exact h
 | strIter l pos=>exact h
 | mapIter m since seen stepped =>
  obtain⟨h1,a⟩:=h;refine⟨?_,λr hr=>hs _ (a r hr)⟩;rcases m with _|r
  .exact h1
  simp only[oo]at *;rw[(d r (a r rfl)).1];exact h1
theorem ORel.some{ρ:Env}{D:Nat->Prop}{b:Nat}{o:O}{x:Option Obj}(h:ORel ρ D b o x):∃y,x=some y:=by
 cases o with
 | cells l esz wr op=>obtain⟨c,e,fz,rfl,_⟩:=h;exact⟨_,rfl⟩
 | map es clock=>exact⟨_,h.1⟩
 | loop st pending n tm params assign body dfr=>obtain⟨fn,tmps,h1,_⟩:=h;exact⟨_,h1⟩
 | deferred there=>exact⟨_,h⟩
 | strIter l pos=>exact⟨_,h⟩
 | mapIter m since seen stepped=>exact⟨_,h.1⟩
theorem HR.lt_size{ρ:Env}{D:Nat->Prop}{h:H}{w:World}(r:HR ρ D h w){id:Nat}{o:O}(b:D id)(c:h.get id=some o):ρ.blk id<w.heap.size:=by
 obtain⟨y,a⟩:=(r.rel id o b c).some;rcases Nat.lt_or_ge (ρ.blk id) w.heap.size with g|g
 .exact g
 rw[Array.getElem?_eq_none g]at a;cases a
theorem HR.upd{ρ:Env}{D:Nat->Prop}{h:H}{w:World}(r:HR ρ D h w){b:Nat}{o o':O}{x:Obj}(hd:D b)(hg:h.get b=some o)(hw:o.wr=true)(_:o'.wr=true)(hx:ORel ρ D b o' (some x)):HR ρ D (h.upd b (some o')) (w.putObj (ρ.blk b) x) where
 cap:=r.cap
 lt:=r.lt
 rel:=λid o1 d1 g1=>by
  have hb:b<T.top:=oO (r.lt b hd) r.cap;rw[H.get_upd _ _ _ _ hb]at g1;by_cases e:id=b
  .subst e;rw[if_pos rfl]at g1;cases g1;rw[World.putObj_heap_same (r.lt_size hd hg)];exact hx
  rw[if_neg e]at g1;have hne:ρ.blk id≠ρ.blk b:=λhc=>e (r.inj b id o o1 hd d1 hg g1 hw hc.symm).symm
  rw[World.putObj_heap_other hne];exact r.rel id o1 d1 g1
 inj:=λi j oi oj di dj gi gj wi hij=>by
  have hb:b<T.top:=oO (r.lt b hd) r.cap;rw[H.get_upd _ _ _ _ hb]at gi gj;by_cases ei:i=b
  .by_cases ej:j=b
   .rw[ei,ej]
   rw[if_neg ej]at gj;subst ei;exact r.inj i j o oj hd dj hg gj hw hij
  rw[if_neg ei]at gi;by_cases ej:j=b
  .subst ej;exact r.inj i j oi o di dj gi hg wi hij
  rw[if_neg ej]at gj;exact r.inj i j oi oj di dj gi gj wi hij
theorem Mv.upd{ρ:Env}{D:Nat->Prop}{h:H}{w:World}(r:HR ρ D h w){b:Nat}{o o':O}{x:Obj}(hd:D b)(hg:h.get b=some o)(hw:o.wr=true)(hw':o'.wr=true):
  Mv ρ D h w ρ (h.upd b (some o')) (w.putObj (ρ.blk b) x) where
 nx:=oV _
 size:=by simp
 os:=rfl
 tape:=⟨rfl,oV _⟩
 output:=rfl
 agree:=Agree.refl _ _
 old:=λid o1 _ g1=>by
  have hb:b<T.top:=oO (r.lt b hd) r.cap;rw[H.get_upd _ _ _ _ hb]at g1;by_cases e:id=b
  .subst e;rw[if_pos rfl]at g1;cases g1;exact⟨o,hg,hw'.trans hw.symm⟩
  rw[if_neg e]at g1;exact⟨o1,g1,rfl⟩
 img:=λid _ a b _=>by simp only[H.upd_eq]at b;omega
 frame:=λk _ hk=>World.putObj_heap_other (λe=>hk b o hd hg hw e.symm)
 low:=by rw[H.low_upd];omega
 kept:=λid _ hl=>by have hb:b<T.top:=oO (r.lt b hd) r.cap;rw[H.low_upd]at hl;rw[H.get_upd _ _ _ _ hb,if_neg oy]
theorem HR.new{ρ:Env}{D:Nat->Prop}{h:H}{w:World}(r:HR ρ D h w){o:O}{x:Obj}(c:Nat)(t:h.nx<T.top)(u:ORel (ρ.at h.nx w.heap.size c) (Dx D h (h.new o)) h.nx o (some x)):HR (ρ.at h.nx w.heap.size c) (Dx D h (h.new o)) (h.new o) (w.alloc x):=by
 have m:¬D h.nx:=λv=>by have:=r.lt _ v;omega
 have b:Agree D ρ (ρ.at h.nx w.heap.size c):=Env.at_agree m;have a:∀id,Dx D h (h.new o) id->id=h.nx\/(D id/\id≠h.nx):=by
  rintro id (d|d)
  .exact .inr ⟨d,λe=>m (e ▸ d)⟩
  simp only[H.new_eq]at d;exact .inl oy
 refine⟨by simp only[H.new_eq];omega,?_,?_,?_⟩
 .rintro id d;rcases a id d with e|⟨d,_⟩
  .simp only[H.new_eq];omega
  have:=r.lt id d;simp only[H.new_eq];omega
 .rintro id y d g;rw[H.get_new _ _ _ t]at g;rcases a id d with e|⟨d1,e⟩
  .subst e;rw[if_pos rfl]at g;cases g;rw[Env.at_blk,World.alloc_heap_new];exact u
  rw[if_neg e]at g;have hr:=r.rel id y d1 g;have z:=r.lt_size d1 g;rw[(b id d1).1,show(w.alloc x).heap[ρ.blk id]? = w.heap[ρ.blk id]? from by
   show(w.heap.push x)[ρ.blk id]? = _;rw[Array.getElem?_push,if_neg oy]]
  exact hr.agree d1 wq b
 rintro i j oi oj k l n p A f;rw[H.get_new _ _ _ t]at n p;rcases a i k with q|⟨k,q⟩<;>rcases a j l with s|⟨l,s⟩
 .rw[q,s]
 .rw[if_neg s]at p;have:=r.lt_size l p;subst q;rw[Env.at_blk,(b j l).1]at f;omega
 .rw[if_neg q]at n;have:=r.lt_size k n;subst s;rw[Env.at_blk,(b i k).1]at f;omega
 rw[if_neg q]at n;rw[if_neg s]at p;rw[(b i k).1,(b j l).1]at f;exact r.inj i j oi oj k l n p A f
theorem Mv.new{ρ:Env}{D:Nat->Prop}{h:H}{w:World}(r:HR ρ D h w){o:O}{x:Obj}(c:Nat)(b:h.nx<T.top)(f:o.wr=true):
  Mv ρ D h w (ρ.at h.nx w.heap.size c) (h.new o) (w.alloc x):=by
 have d:¬D h.nx:=λg=>by have:=r.lt _ g;omega
 refine⟨by simp[H.new_eq],by simp,rfl,⟨rfl,oV _⟩,rfl,Env.at_agree d,?_,?_,?_,oV _,?_⟩
 .intro id e i a;rw[H.get_new _ _ _ b,if_neg oy]at a;exact⟨e,a,rfl⟩
 .intro id e j h1 a;simp only[H.new_eq]at h1;obtain rfl:id=h.nx:=oy
  rw[H.get_new _ _ _ b,if_pos rfl]at a;cases a;exact⟨f,.inl (by rw[Env.at_blk];exact oV _)⟩
 .intro k l _;show(w.heap.push x)[k]? = _;rw[Array.getElem?_push,if_neg oy]
 intro id j _;rw[H.get_new _ _ _ b,if_neg oy]
structure TI where
 id:Nat
 desc:TypeDesc
 size:Nat
 bytes:Nat
 zero:Ui
 cmp:Bool
 held:Bool
 guard:Bool
 meth:List Method
structure FI where
 n:Nat
 results:List ResultVar
 body:Code
structure Ctx where
 ty:T TI
 fn:T FI
 noesc:Option Nat
 mnz:Option (Nat×Nat)
 lies:Nat->Nat->Nat->Bool
inductive AD where
 | coll (id:Nat)
 | fn (f:Nat) (captured args:Ug)
def zKb:Value->Ui
 | .bool b=>some (.bool b)
 | .int k n=>some (.int k n)
 | .string s=>some (.str s.data.toList)
 | .pointer none=>some .nilptr
 | .slice none 0 0=>some .nilslice
 | .map none=>some .nilmap
 | .func (.func f) ⟨[]⟩ ⟨[]⟩=>some (.func (.func f) [] [])
 | .nilFunc=>some .nilFunc
 | .nilIface=>some .nilIface
 | _=>none
def zKc:List Value->Option Ug
 | []=>some []
 | v::l =>
  match zKb v with
  | none=>none
  | some x =>
   match zKc l with
   | none=>none
   | some y=>some (x::y)
def ofV:Value->Ui
 | .agg ⟨l⟩=>match zKc l with|some x=>some (.agg x)|none=>none
 | .iface t v=>match zKb v with|some x=>some (.iface t x)|none=>none
 | v=>zKb v
def zx(tm:Tm):Operand->Ui
 | .tmp t=>some (zI tm t)
 | .const v=>ofV v
 | .func f=>some (.func (.func f) [] [])
 | .global _=>none
def ZT(e:Uh):List Operand->Option Ug
 | []=>some []
 | x::l =>
  match e x with
  | none=>none
  | some v =>
   match ZT e l with
   | none=>none
   | some r=>some (v::r)
def jk:TypeDesc->Bool
 | .struct _=>true
 | .array _ _=>true
 | _=>false
def za:Ug->Bool
 | []=>true
 | v::l=>cond v.one (za l) false
def V.cells:V->Ug
 | .agg l=>l
 | v=>[v]
def jO:Ua->Nat->Nat
 | [],n=>n
 | _::l,n=>jO l (n+1)
def wn:Ug->Nat->Bool
 | [],0=>true
 | _::l,n+1=>wn l n
 | _,_=>false
def zo(c:Ctx)(t:TypeId)(h:H):V->Ui
 | .ptr b o =>
  match h.get b with
  | some (.cells l _ _ _) =>
   match c.ty.get t with
   | some ti =>
    cond (jk ti.desc) (match l.range o ti.size with|some x=>some (.agg x)|none=>none) (l.get? o)
   | none=>none
  | _=>none
 | _=>none
def zZ(c : Ctx)(t : TypeId)(h : H)(a v : V): Option H :=
  match a with
  | .ptr b o =>
    match h.get b with
    | some (.cells l esz true op) =>
      match c.ty.get t with
      | some ti =>
        cond (wn v.cells ti.size)
          (cond (cond (Nat.ble esz.fz o) (za v.cells) false)
            (match l.put o v.cells with
            | some l' => some (h.upd b (some (.cells l' esz true op)))
            | none => none) none) none
      | none => none
    | _ => none
  | _ => none
def qG(h:H)(r:Option Cs)(esz:Rk)(op:Bool):Option (Nat×H) :=
 cond (Nat.blt h.nx T.top) (match r with|some cs=>some (h.nx,h.new (.cells cs esz true op))|none=>none) none
def qu(h:H)(l:Ug)(esz:Rk)(op:Bool):Option (Nat×H):=cond (za l) (qG h (Cs.ofL l) esz op) none
def zU(k:IntKind)(n:Int):Int :=
 match k with
 | .i64=>match n with
  | .ofNat m=>cond (Nat.blt m 9223372036854775808) (.ofNat m) (k.wrap (.ofNat m))
  | .negSucc m=>cond (Nat.blt m 9223372036854775808) (.negSucc m) (k.wrap (.negSucc m))
 | .u64=>match n with
  | .ofNat m=>cond (Nat.blt m 18446744073709551616) (.ofNat m) (.ofNat (m % 18446744073709551616))
  | .negSucc m=>k.wrap (.negSucc m)
 | .u8=>match n with
  | .ofNat m=>.ofNat (m % 256)
  | .negSucc m=>k.wrap (.negSucc m)
 | k=>k.wrap n
def ltF:Int->Int->Bool
 | .ofNat a,.ofNat b=>Nat.blt a b
 | .ofNat _,.negSucc _=>false
 | .negSucc _,.ofNat _=>true
 | .negSucc a,.negSucc b=>Nat.blt b a
def Oj:Int->Int->Bool
 | .ofNat a,.ofNat b=>Nat.beq a b
 | .negSucc a,.negSucc b=>Nat.beq a b
 | _,_=>false
def zJu:Int->Int->Int
 | .ofNat a,.ofNat b=>.ofNat (a+b)
 | a,b=>a+b
def zR4:Int->Int->Int
 | .ofNat a,.ofNat b=>cond (Nat.ble b a) (.ofNat (a-b)) (.negSucc (b-a-1))
 | a,b=>a-b
def zWV:Int->Int->Int
 | .ofNat a,.ofNat b=>.ofNat (a*b)
 | a,b=>a*b
def zHv(x:Int)(n:Nat):Int :=
 match x with
 | .ofNat a=>.ofNat (Nat.shiftRight a n)
 | x=>x.fdiv (2^n)
def zP9(x:Int)(n:Nat):Int :=
 match x with
 | .ofNat a=>.ofNat (Nat.shiftLeft a n)
 | x=>x*2^n
def zYm:Int->Int->Int
 | .ofNat a,.ofNat b=>.ofNat (a/b)
 | a,b=>a.tdiv b
def zZb:Int->Int->Int
 | .ofNat a,.ofNat b=>.ofNat (a % b)
 | a,b=>a.tmod b
def wv:IntKind->IntKind->Bool
 | .i8,.i8 | .i16,.i16 | .i32,.i32 | .i64,.i64 | .u8,.u8 | .u16,.u16 | .u32,.u32 | .u64,.u64=>true
 | _,_=>false
def OX(op:BinOp)(k:IntKind)(x y:Int):Ui :=
 let a:=BitVec.ofInt k.bits x
 let b:=BitVec.ofInt k.bits y
 match op with
 | .and=>some (.int k (k.wrap (a &&& b).toNat))
 | .or=>some (.int k (k.wrap (a ||| b).toNat))
 | .xor=>some (.int k (k.wrap (a ^^^ b).toNat))
 | .andNot=>some (.int k (k.wrap (a &&& ~~~b).toNat))
 | _=>none
def zj(op:BinOp)(k:IntKind)(x y:Int):Ui :=
 match op with
 | .add=>some (.int k (zU k (zJu x y)))
 | .sub=>some (.int k (zU k (zR4 x y)))
 | .mul=>some (.int k (zU k (zWV x y)))
 | .quo=>cond (Oj y 0) none (some (.int k (zU k (zYm x y))))
 | .rem=>cond (Oj y 0) none (some (.int k (zZb x y)))
 | .eql=>some (.bool (Oj x y))
 | .neq=>some (.bool (!Oj x y))
 | .lss=>some (.bool (ltF x y))
 | .leq=>some (.bool (!ltF y x))
 | .gtr=>some (.bool (ltF y x))
 | .geq=>some (.bool (!ltF x y))
 | .shl=>cond (ltF y 0) none (some (.int k (zU k (zP9 x (cond (Nat.ble y.toNat k.bits) y.toNat k.bits)))))
 | .shr=>cond (ltF y 0) none (some (.int k (zHv x (cond (Nat.ble y.toNat k.bits) y.toNat k.bits))))
 | op=>OX op k x y
def km:BinOp->Bool
 | .shl | .shr=>true
 | _=>false
def eqB:Ua->Ua->Bool
 | [],[]=>true
 | a::x,b::y=>cond (Nat.beq a.toNat b.toNat) (eqB x y) false
 | _,_=>false
def zID(op:BinOp)(x y:Ua):Ui :=
 match op with
 | .add=>cond (Nat.ble (jO x (jO y 0)) 4611686018427387904) (some (.str (x++y))) none
 | .eql=>some (.bool (eqB x y))
 | .neq=>some (.bool (!eqB x y))
 | .lss=>some (.bool (Op.bytesLess x y))
 | .geq=>some (.bool (!Op.bytesLess x y))
 | _=>none
def eq1(d:TypeDesc)(x y:V):Option Bool :=
 match d,x,y with
 | .bool,.bool a,.bool b=>some (a == b)
 | .int _,.int j a,.int k b=>cond (wv j k) (some (Oj a b)) none
 | .string,.str a,.str b=>some (eqB a b)
 | .pointer _,.nilptr,.nilptr=>some true
 | .pointer _,.nilptr,.ptr _ _=>some false
 | .pointer _,.ptr _ _,.nilptr=>some false
 | .interface _,.nilIface,.nilIface=>some true
 | .interface _,.nilIface,.iface _ _=>some false
 | .interface _,.iface _ _,.nilIface=>some false
 | .slice _,.nilslice,.nilslice=>some true
 | .slice _,.nilslice,.slice _ _ _ _=>some false
 | .slice _,.slice _ _ _ _,.nilslice=>some false
 | .map _ _,.nilmap,.nilmap=>some true
 | .map _ _,.nilmap,.map _=>some false
 | .map _ _,.map _,.nilmap=>some false
 | .func _ _ _,.nilFunc,.nilFunc=>some true
 | .func _ _ _,.nilFunc,.func _ _ _=>some false
 | .func _ _ _,.nilFunc,.yield _=>some false
 | .func _ _ _,.func _ _ _,.nilFunc=>some false
 | .func _ _ _,.yield _,.nilFunc=>some false
 | _,_,_=>none
def apart(ti:TI)(l:Ug)(off:Nat):Ui :=
 match Yo off l with
 | none=>none
 | some r=>cond (jk ti.desc) (match qb ti.size r with|some x=>some (.agg x)|none=>none) (match r with|v::_=>some v | []=>none)
def zLx(c : Ctx)(rec_ : TypeId -> V -> V -> Option Bool): List Field -> Ug -> Ug -> Option Bool
  | [], _, _ => some true
  | f::fs, xs, ys =>
    cond (f.name == "_") none
      (match c.ty.get f.type with
      | none => none
      | some ti =>
        match apart ti xs f.offset, apart ti ys f.offset with
        | some x, some y =>
          match rec_ f.type x y with
          | some true => zLx c rec_ fs xs ys
          | r => r
        | _, _ => none)
def zLw(ti:TI)(a:V->V->Option Bool):Nat->Nat->Ug->Ug->Option Bool
 | 0,_,_,_=>some true
 | k+1,i,xs,b =>
  match apart ti xs (i*ti.size),apart ti b (i*ti.size)with
  | some x,some y =>
   match a x y with
   | some true=>zLw ti a k (i+1) xs b
   | r=>r
  | _,_=>none
def J5(c:Ctx):Nat->TypeId->V->V->Option Bool
 | 0,_,_,_=>none
 | d+1,t,x,y =>
  match c.ty.get t with
  | none=>none
  | some ti =>
   match ti.desc,x,y with
   | .struct g,.agg xs,.agg f=>cond ti.held none (zLx c (J5 c d) g.toList xs f)
   | .array n e,.agg xs,.agg f=>match c.ty.get e with|none=>none|some a=>zLw a (J5 c d e) n 0 xs f
   | .interface _,.iface tx h,.iface ty i =>
    cond (Nat.beq tx ty) (match c.ty.get tx with|none=>none|some ti=>cond ti.cmp (J5 c d tx h i) none) (some false)
   | .pointer a,.ptr b o,.ptr j o'=>match c.ty.get a with|none=>none|some a=>cond (Nat.beq b j && Nat.blt 0 a.size) (some (Nat.beq o o')) none
   | d,x,y=>eq1 d x y
def Xo:Operand->Bool
 | .const _=>true
 | _=>false
def Jl(c:Ctx)(t:TypeId)(x y:Operand)(a b:V):Bool :=
 match a,b with
 | .nilIface,.nilIface=>Xo x || Xo y
 | .agg _,.agg _=>match c.ty.get t with|some ti=>!ti.guard|none=>false
 | _,_=>true
def ZQ(c:Ctx)(op:BinOp)(t:TypeId)(x y:Operand)(a b:V):Ui :=
 match a,b with
 | .int k m,.int d n=>cond (km op) (zj op k m n) (cond (wv k d) (zj op k m n) none)
 | .str m,.str n=>zID op m n
 | a,b =>
  match op with
  | .eql=>cond (Jl c t x y a b) (match J5 c 30 t a b with|some r=>some (.bool r)|none=>none) none
  | .neq=>cond (Jl c t x y a b) (match J5 c 30 t a b with|some r=>some (.bool (!r))|none=>none) none
  | _=>none
def aun:UnOp->V->Ui
 | .neg,.int k n=>some (.int k (zU k (zR4 0 n)))
 | .xor,.int k n=>OX .xor k (if k.signed then -1 else k.max) n
 | .not,.bool b=>some (.bool (!b))
 | _,_=>none
def xq:Ug->Option Ua
 | []=>some []
 | .int .u8 n::l=>match xq l with|some r=>some (UInt8.ofNat n.toNat::r)|none=>none
 | _::_=>none
def yZ:Ua->Ug
 | []=>[]
 | b::l=>.int .u8 (.ofNat b.toNat)::yZ l
def xD(z:Ug):Nat->Ug
 | 0=>[]
 | n+1=>z++xD z n
def yj:Int->Option Nat
 | .ofNat n=>some n
 | .negSucc _=>none
def xz(c:Ctx)(s d:TypeId)(h:H)(v:V):Option (V×H) :=
 match c.ty.get s,c.ty.get d with
 | some f,some g =>
  match f.desc,g.desc,v with
  | .int _,.int k,.int _ n=>some (.int k (zU k n),h)
  | .string,.string,.str l=>some (.str l,h)
  | .string,.slice e,.str l =>
   match c.ty.get e with
   | some a =>
    match a.desc with
    | .int .u8=>match qu h (yZ l) ⟨1,0,0⟩ true with|some (b,h')=>some (.slice b 0 (jO l 0) (.skip 0),h')|none=>none
    | _=>none
   | none=>none
  | .slice e,.string,.nilslice =>
   match c.ty.get e with
   | some a=>match a.desc with | .int .u8=>some (.str [],h)|_=>none
   | none=>none
  | .pointer t,.unsafePointer,.ptr b o =>
   match c.ty.get t,h.get b with
   | some i,some (.cells l _ _ _)=>cond (Nat.blt 0 i.size) (match l.get? o with|some _=>some (.ptr b o,h)|none=>none) none
   | _,_=>none
  | .unsafePointer,.pointer u,.ptr b o =>
   match c.ty.get u,h.get b with
   | some _,some (.cells l esz true false) =>
    match esz.ty with
    | e+1=>match c.ty.get e with
     | some a=>cond (Nat.blt 0 a.size && Nat.beq l.len a.size && c.lies e u o) (some (.ptr b o,h)) none
     | none=>none
    | 0=>none
   | _,_=>none
  | .slice e,.string,.slice b o len _ =>
   match c.ty.get e with
   | some a =>
    match a.desc with
    | .int .u8 =>
     match h.get b with
     | some (.cells l _ _ _) =>
      match l.range o len with
      | some x=>(match xq x with|some y=>some (.str y,h)|none=>none)
      | none=>none
     | _=>none
    | _=>none
   | none=>none
  | .slice _,.slice e,.slice b o len j =>
   cond (Nat.beq s d) (match c.ty.get e with
   | some a =>
    match a.desc with
    | .int .u8 =>
     match h.get b with
     | some (.cells l esz true op)=>cond (Nat.beq esz.fz 0 && Nat.blt 0 esz.ty) (some (.slice b o len j,h.upd b (some (.cells l ⟨esz.n,0,0⟩ true op)))) none
     | _=>none
    | _=>none
   | none=>none) none
  | _,_,_=>none
 | _,_=>none
def bnd:Ui->Nat->Nat->Option Nat
 | none,d,_=>some d
 | some (.int _ n),_,top=>match yj n with|some m=>cond (Nat.ble m top) (some m) none|none=>none
 | some _,_,_=>none
def zH(l:Ua)(lo hi:Nat):Ua:=(l.drop lo).take (hi-lo)
def zI9(b o k:Nat)(mx hi lo:Ui):Ui :=
 match mx,hi,lo with
 | none,some (.int _ (.ofNat 0)),none=>some (.slice b o 0 (.skip k))
 | _,_,_=>none
def zy(c : Ctx)(t : TypeId)(h : H)(x : V)(lo hi mx : Ui): Ui :=
  match c.ty.get t with
  | none => none
  | some ti =>
    match ti.desc, x with
    | .string, .str l =>
      match mx with
      | some _ => none
      | none =>
        let n := jO l 0
        match bnd hi n n with
        | none => none
        | some hh => match bnd lo 0 hh with|none => none|some ll => some (.str (zH l ll hh))
    | .array n e, .ptr b o =>
      match c.ty.get e with
      | none => none
      | some te =>
        match bnd mx n n with
        | none => none
        | some m =>
          match bnd hi n m with
          | none => none
          | some hh =>
            cond (mx.isSome && hi.isNone) none
            (match bnd lo 0 hh with
            | none => none
            | some ll => some (.slice b (cond (Nat.beq m ll) o (o + ll * te.size)) (hh - ll) (.exact (m - ll))))
    | .slice e, .nilslice =>
      match c.ty.get e with
      | none => none
      | some _ =>
        match bnd mx 0 0 with
        | none => none
        | some m =>
          match bnd hi 0 m with
          | none => none
          | some hh => cond (mx.isSome && hi.isNone) none (match bnd lo 0 hh with|none => none|some _ => some .nilslice)
    | .slice e, .slice b o len (.exact cp) =>
      match c.ty.get e with
      | none => none
      | some te =>
        match bnd mx cp cp with
        | none => none
        | some m =>
          match bnd hi len m with
          | none => none
          | some hh =>
            cond (mx.isSome && hi.isNone) none
            (match bnd lo 0 hh with
            | none => none
            | some ll => some (.slice b (cond (Nat.beq m ll) o (o + ll * te.size)) (hh - ll) (.exact (m - ll))))
    | .slice e, .slice b o len (.skip k) =>
      match c.ty.get e, h.get b with
      | some te, some (.cells l esz true true) =>
        cond (Nat.beq esz.n te.size && Nat.blt 0 esz.n && Nat.beq o (k * esz.n))
        (cond (Nat.ble (o + len * esz.n) l.len)
          (match mx with
          | some _ =>
            cond hi.isNone none
            (match bnd mx 0 len with
            | none => none
            | some m =>
              match bnd hi len m with
              | none => none
              | some hh =>
                match bnd lo 0 hh with
                | none => none
                | some ll => some (.slice b (cond (Nat.beq m ll) o (o + ll * te.size)) (hh - ll) (.exact (m - ll))))
          | none =>
            match bnd hi len len with
            | none => none
            | some hh =>
              match bnd lo 0 hh with
              | none => none
              | some ll =>
                cond (Nat.beq ll 0) (some (.slice b o hh (.skip k)))
                (cond (Nat.blt ll len) (some (.slice b (o + ll * te.size) (hh - ll) (.skip (k + ll)))) none)) (zI9 b o k mx hi lo)) none
      | _, _ => none
    | _, _ => none
def yo(c:Ctx)(t:TypeId)(x d:V):Ui :=
 match d with
 | .int _ n =>
  match yj n,c.ty.get t with
  | some i,some ti =>
   match ti.desc,x with
   | .array len e,.ptr b o=>cond (Nat.blt i len) (match c.ty.get e with|some a=>some (.ptr b (o+i*a.size))|none=>none) none
   | .slice e,.slice b o len _=>cond (Nat.blt i len) (match c.ty.get e with|some a=>some (.ptr b (o+i*a.size))|none=>none) none
   | _,_=>none
  | _,_=>none
 | _=>none
def XB:Ua->Nat->Option UInt8
 | [],_=>none
 | b::_,0=>some b
 | _::l,n+1=>XB l n
def yC(c:Ctx)(t:TypeId)(x d:V):Ui :=
 match d with
 | .int _ n =>
  match yj n,c.ty.get t with
  | some i,some ti =>
   match ti.desc,x with
   | .array len e,.agg cs=>cond (Nat.blt i len) (match c.ty.get e with|some a=>apart a cs (i*a.size)|none=>none) none
   | .string,.str l=>match XB l i with|some b=>some (.int .u8 (.ofNat b.toNat))|none=>none
   | _,_=>none
  | _,_=>none
 | _=>none
def zQV(c:Ctx)(t:TypeId)(x:V)(f:Nat):Ui :=
 match c.ty.get t with
 | some ti =>
  match ti.desc,x with
  | .struct b,.agg cs =>
   match b[f]? with
   | some a=>match c.ty.get a.type with|some d=>apart d cs a.offset|none=>none
   | none=>none
  | _,_=>none
 | none=>none
def Yl(c:Ctx)(place:Nat->Option (Nat×Nat)):Ug->List (Nat×V)->Option Ug
 | cells,[]=>some cells
 | cells,(i,v)::a =>
  match place i with
  | none=>none
  | some (off,size) =>
   cond (wn v.cells size) (match kd off v.cells cells with|some r=>Yl c place r a|none=>none) none
def Zs(c:Ctx)(fs:Array Field)(i:Nat):Option (Nat×Nat) :=
 match fs[i]? with
 | some f=>match c.ty.get f.type with|some ti=>some (f.offset,ti.size)|none=>none
 | none=>none
def zGX(c:Ctx):List Field->Bool
 | []=>true
 | f::l=>match c.ty.get f.type with|some _=>zGX c l|none=>false
def je(c:Ctx)(t:TypeId)(parts:List (Nat×V)):Ui :=
 match c.ty.get t with
 | some ti =>
  match ti.zero with
  | some z =>
   match ti.desc with
   | .struct a=>cond (zGX c a.toList) (match Yl c (Zs c a) z.cells parts with|some r=>some (.agg r)|none=>none) none
   | .array _ e =>
    match c.ty.get e with
    | some b=>match Yl c (λi=>some (i*b.size,b.size)) z.cells parts with|some r=>some (.agg r)|none=>none
    | none=>none
   | _=>none
  | none=>none
 | none=>none
def zBJ(z:Ug)(k:Nat):Option Cs :=
 match z with
 | [v]=>Cs.rep v k
 | _=>Cs.ofL (xD z k)
def zJ(c:Ctx)(t:TypeId)(len:Nat)(parts:List (Nat×V))(h:H):Option (V×H) :=
 match c.ty.get t with
 | some ti =>
  match ti.desc with
  | .slice e =>
   match c.ty.get e with
   | some a =>
    match a.zero with
    | some z =>
     cond (Nat.ble (len*a.size) 1048576)
     (cond (wn z.cells a.size)
      (match Yl c (λi=>some (i*a.size,a.size)) (xD z.cells len) parts with
      | some r=>match qu h r ⟨0,e+1,0⟩ false with|some (b,h')=>some (.slice b 0 len (.exact len),h')|none=>none
      | none=>none) none) none
    | none=>none
   | none=>none
  | _=>none
 | none=>none
def jJ(c:Ctx)(t:TypeId)(len cp:V)(h:H):Option (V×H) :=
 match len,cp with
 | .int _ ln,.int _ cn =>
  match yj ln,yj cn with
  | some l,some k =>
   match c.ty.get t with
   | some ti =>
    match ti.desc with
    | .slice e =>
     match c.ty.get e with
     | some te =>
      match te.zero with
      | some z =>
       cond (Nat.ble l k && Nat.ble k 4294967296 && Nat.ble (te.bytes*k) 1099511627776 && wn z.cells te.size)
        (match qG h (zBJ z.cells k) ⟨0,0,0⟩ false with|some (b,h')=>some (.slice b 0 l (.exact k),h')|none=>none) none
      | none=>none
     | none=>none
    | _=>none
   | none=>none
  | _,_=>none
 | _,_=>none
def yr(esz:Nat)(h:H):V->Option (Nat×Ug)
 | .nilslice=>some (0,[])
 | .str l=>cond (Nat.beq esz 1) (some (jO l 0,yZ l)) none
 | .slice b o len _ =>
  match h.get b with
  | some (.cells l _ _ _) =>
   match l.range o (len*esz)with|some x=>some (len,x)|none=>none
  | _=>none
 | _=>none
def Xq(h:H)(b:Nat):H:=h.upd b none
def js(k:Rk)(te:TI)(h:H)(r:Option Cs)(a:Nat):Option (V×H) :=
 cond (Nat.ble (a*te.bytes) 1099511627776)
  (match qG h r k true with|some (b,h')=>some (.slice b 0 a (.skip 0),h')|none=>none) none
def KU(h:H)(b o len:Nat)(cp:Cap)(esz c:Nat)(l:Cs)(a:Rk)(op:Bool)(new:Ug):Option (V×H) :=
 match l.put (o+len*esz) new with
 | some d=>cond (Nat.ble a.fz (o+len*esz)) (some (.slice b o c cp,h.upd b (some (.cells d a true op)))) none
 | none=>none
def zGo(te:TI)(h:H)(b o len k c:Nat)(l:Cs)(a:Rk)(new:Ug):Option (V×H) :=
 cond (Nat.beq k 0 && Nat.beq l.len (o+len*te.size) && Nat.ble a.fz (o+len*te.size) && (Nat.beq a.ty 0 || Nat.beq a.ty (te.id+1))) (js a te (Xq h b) (l.app new) c) none
def OC(te:TI)(h:H)(b o len k n:Nat)(l:Cs)(a:Rk)(wr op:Bool)(new:Ug):Option (V×H) :=
 cond (wr && op && Nat.beq te.size a.n && Nat.beq o (k*te.size) && za new && Nat.ble (o+len*te.size) l.len)
  (cond (Nat.beq n 0) (some (.slice b o len (.skip k),h))
   (match KU h b o len (.skip k) te.size (len+n) l a op new with
   | some r=>some r
   | none=>zGo te h b o len k (len+n) l a new)) none
def jC(te:TI):Rk:=⟨te.size,te.id+1,0⟩
def zCx(l:Cs)(o m:Nat)(new:Ug):Option Cs :=
 match l.range o m with
 | some old=>cond (za new) (Cs.ofL (old++new)) none
 | none=>none
def qv(te:TI)(h:H)(b o len k n:Nat)(l:Cs)(a:Rk)(wr op:Bool)(new:Ug):Option (V×H) :=
 cond (Nat.ble (len+n) k)
  (cond (wr && za new) (KU h b o len (.exact k) te.size (len+n) l a op new) none)
  (js (jC te) te h (zCx l o (len*te.size) new) (len+n))
def appTo(te:TI)(h:H)(n:Nat)(new:Ug):V->Option (V×H)
 | .nilslice=>cond (Nat.beq n 0) (some (.nilslice,h)) (js (jC te) te h (cond (za new) (Cs.ofL new) none) n)
 | .slice b o len c =>
  match h.get b with
  | some (.cells l a wr op) =>
   match c with
   | .exact k=>qv te h b o len k n l a wr op new
   | .skip k=>OC te h b o len k n l a wr op new
  | _=>none
 | _=>none
def qn(te:TI):Bool :=
 Nat.blt 0 te.size && Nat.blt 0 te.bytes && (match te.zero with|some z=>wn z.cells te.size|none=>false)
def zn(c:Ctx)(t:TypeId)(h:H)(s x:V):Option (V×H) :=
 match c.ty.get t with
 | some ti =>
  match ti.desc with
  | .slice e =>
   match c.ty.get e with
   | some a=>cond (qn a) (match yr a.size h x with|none=>none|some (n,new)=>appTo a h n new s) none
   | none=>none
  | _=>none
 | none=>none
def X5(c:Ctx)(t:TypeId)(h:H)(s x:V):Option (V×H) :=
 match c.ty.get t with
 | some ti =>
  match ti.desc with
  | .slice e =>
   match c.ty.get e with
   | some a=>cond (qn a && Nat.beq a.size 1)
    (match x,a.zero with
    | .int .i64 (.ofNat k),some z=>cond (Nat.ble (k*a.bytes) 1099511627776)
     (match z.cells with
     | [u]=>appTo a h k (List.replicate k u) s
     | _=>none) none
    | _,_=>none) none
   | none=>none
  | _=>none
 | none=>none
def OA(c:Ctx)(tx t:TypeId)(h:H)(s x:V):Option (V×H) :=
 match c.ty.get tx with
 | some ti =>
  match ti.desc with
  | .string=>zn c t h s x
  | .slice _=>zn c t h s x
  | .int _=>X5 c t h s x
  | _=>none
 | none=>none
def zIY(c : Ctx)(t : TypeId)(h : H)(d x : V): Option (V × H) :=
  match c.ty.get t with
  | some ti =>
    match ti.desc with
    | .slice e =>
      match c.ty.get e with
      | some te =>
        match yr te.size h x with
        | none => none
        | some (n, new) =>
          match d with
          | .nilslice => some (.int .i64 0, h)
          | .slice b o len _ =>
            match h.get b with
            | some (.cells l esz true op) =>
              let m := cond (Nat.ble n len) n len
              match qb (m * te.size) new with
              | some cs =>
                cond (cond (Nat.ble esz.fz o) (za cs) false) (match l.put o cs with
                | some l' => some (.int .i64 (.ofNat m), h.upd b (some (.cells l' esz true op)))
                | none => none) none
              | none => none
            | _ => none
          | _ => none
      | none => none
    | _ => none
  | none => none
def Yf(c:Ctx)(t:TypeId)(h:H)(x:V):Ui :=
 match c.ty.get t with
 | none=>none
 | some ti =>
  match ti.desc,x with
  | .string,.str l=>some (.int .i64 (.ofNat (jO l 0)))
  | .array n _,_=>some (.int .i64 (.ofNat n))
  | .slice _,.slice _ _ n _=>some (.int .i64 (.ofNat n))
  | .slice _,.nilslice=>some (.int .i64 0)
  | .map _ _,.nilmap=>some (.int .i64 0)
  | .map _ _,.map r=>match h.get r with|some (.map es _)=>some (.int .i64 (.ofNat es.length))|_=>none
  | _,_=>none
def zVb(c:Ctx)(t:TypeId)(x:V):Ui :=
 match c.ty.get t with
 | none=>none
 | some ti =>
  match ti.desc,x with
  | .array n _,_=>some (.int .i64 (.ofNat n))
  | .slice _,.slice _ _ _ (.exact n)=>some (.int .i64 (.ofNat n))
  | .slice _,.nilslice=>some (.int .i64 0)
  | _,_=>none
def ZV(mx:Bool):V->Ug->Ui
 | v,[]=>some v
 | .int k a,.int _ b::l=>ZV mx (.int k (cond (cond mx (ltF a b) (ltF b a)) b a)) l
 | _,_=>none
def ON:TypeDesc->Bool
 | .int _=>true
 | .string=>true
 | .bool=>true
 | _=>false
def zIp(c:Ctx)(xs:Ug):List Field->Bool
 | []=>true
 | f::fs=>(match c.ty.get f.type with
   | some a=>ON a.desc && (match apart a xs f.offset with|some _=>true|none=>false)
   | none=>false) && zIp c xs fs
def zIo(te:TI)(xs:Ug):Nat->Nat->Bool
 | 0,_=>true
 | n+1,i=>(match apart te xs (i*te.size)with|some _=>true|none=>false) && zIo te xs n (i+1)
def Ye(c:Ctx)(t:TypeId)(v:V):Bool :=
 match c.ty.get t with
 | none=>false
 | some ti =>
  match ti.desc,v with
  | .int _,.int _ _=>true
  | .string,.str _=>true
  | .bool,.bool _=>true
  | .struct b,.agg xs=>zIp c xs b.toList
  | .array n e,.agg xs=>match c.ty.get e with|some a=>ON a.desc && zIo a xs n 0|none=>false
  | _,_=>false
def xe(c:Ctx)(t:TypeId)(k:V):List Ent->Nat->Option (Option (Nat×Ent))
 | [],_=>some none
 | e::es,i=>match J5 c 30 t k e.key with
  | some true=>some (some (i,e))
  | some false=>xe c t k es (i+1)
  | none=>none
def zJB(h:H):V->Option (List Ent)
 | .nilmap=>some []
 | .map r=>match h.get r with|some (.map es _)=>some es|_=>none
 | _=>none
def qC(ok:Bool)(v:V)(b:Bool):V:=cond ok (.tuple [v,.bool b]) v
def X7(c:Ctx)(kt a:TypeId)(es:List Ent)(k:V)(ok:Bool):Ui :=
 cond (Ye c kt k)
  (match xe c kt k es 0 with
  | some (some (_,e))=>some (qC ok e.val true)
  | some none=>(match c.ty.get a with
   | some b=>(match b.zero with|some z=>some (qC ok z false)|none=>none)
   | none=>none)
  | none=>none) none
def ke(c:Ctx)(t:TypeId)(h:H)(m k:V)(ok:Bool):Ui :=
 match c.ty.get t with
 | some ti =>
  match ti.desc with
  | .map kt a=>match zJB h m with|some es=>X7 c kt a es k ok|none=>none
  | _=>none
 | none=>none
def Yj:List Ent->Nat->V->V->List Ent
 | [],_,_,_=>[]
 | e::es,0,k,v=>⟨k,v,e.born⟩::es
 | e::es,n+1,k,v=>e::Yj es n k v
def KI:V->V->Bool
 | .bool a,.bool b=>a == b
 | .int j a,.int k b=>wv j k && Oj a b
 | .str a,.str b=>eqB a b
 | _,_=>false
def KJ:Ug->Ug->Bool
 | [],[]=>true
 | a::l,b::m=>KI a b && KJ l m
 | _,_=>false
def Zb:V->V->Bool
 | .agg a,.agg b=>KJ a b
 | a,b=>KI a b
def Yg(c : Ctx)(t : TypeId)(h : H)(m k v : V): Option H :=
  match c.ty.get t with
  | some ti =>
    match ti.desc, m with
    | .map kt _, .map r =>
      match h.get r with
      | some (.map es clock) =>
        cond (Ye c kt k)
          (match xe c kt k es 0 with
          | some (some (i, e)) => cond (Zb e.key k) (some (h.upd r (some (.map (Yj es i k v) clock)))) none
          | some none => some (h.upd r (some (.map (es ++ [⟨k, v, clock⟩]) (clock + 1))))
          | none => none) none
      | _ => none
    | _, _ => none
  | none => none
def OB(h:H):Option (V×H):=cond (Nat.blt h.nx T.top) (some (.map h.nx,h.new (.map [] 0))) none
def zMB(c:Ctx)(t:TypeId)(x:V)(ok:Bool):Ui :=
 match c.ty.get t with
 | none=>none
 | some ti =>
  match ti.desc,x with
  | .interface _,_=>none
  | _,.iface d v =>
   cond (Nat.beq d t) (some (qC ok v true))
    (cond ok (match ti.zero with|some z=>some (qC true z false)|none=>none) none)
  | _,.nilIface=>cond ok (match ti.zero with|some z=>some (qC true z false)|none=>none) none
  | _,_=>none
def zRO:TypeDesc->Bool
 | .pointer _=>true
 | _=>false
def zIk(name:String):List Method->Option Method
 | []=>none
 | m::l=>cond (m.name == name) (some m) (zIk name l)
def zUD:TypeDesc->Option Nat
 | .pointer e=>some e
 | _=>none
def YR(c:Ctx)(t:TypeId)(name:String):Option (Nat×Option Nat) :=
 match c.ty.get t with
 | none=>none
 | some ti =>
  match zIk name ti.meth with
  | none=>none
  | some m =>
   match m.path.toList,m.func with
   | [],some (f,a)=>cond (zRO ti.desc == a) (some (f,none)) (match zUD ti.desc,a with|some e,false=>some (f,some e)|_,_=>none)
   | _,_=>none
inductive AN where
 | val (v:V) (h:H)
 | skip (h:H)
 | call (f:Nat) (args:Ug)
 | round (l:Nat) (args:Ug)
 | dfr (d:AD)
 | recover
 | pan (v:V) (h:H)
def AN.ofV:Ui->H->Option AN
 | some v,h=>some (.val v h)
 | none,_=>none
def AN.ofVH:Option (V×H)->Option AN
 | some (v,h)=>some (.val v h)
 | none=>none
def evO(e:Uh):Option Operand->Option Ui
 | none=>some none
 | some x=>match e x with|some v=>some (some v)|none=>none
def evP(e:Uh):List (Nat×Operand)->Option (List (Nat×V))
 | []=>some []
 | (i,x)::l =>
  match e x with
  | none=>none
  | some v=>match evP e l with|none=>none|some r=>some ((i,v)::r)
def Yz(h:H):V->Ui
 | .nilslice=>some .nilptr
 | .slice b o _ (.exact (_+1))=>some (.ptr b o)
 | .slice b o _ (.skip 0)=>match h.get b with
  | some (.cells l _ true true)=>cond (Nat.blt 0 l.len) (some (.ptr b o)) none
  | _=>none
 | _=>none
def XA(c:Ctx)(pt:TypeId)(h:H)(p n:V):Option (V×H) :=
 match p,n with
 | .nilptr,.int _ (.ofNat 0)=>some (.str [],h)
 | .ptr _ _,.int _ (.ofNat 0)=>some (.str [],h)
 | .ptr b 0,.int _ (.ofNat n) =>
  match c.ty.get pt,h.get b with
  | some tp,some (.cells l esz true op) =>
   match tp.desc with
   | .pointer u =>
    match c.ty.get u with
    | some tu =>
     cond (Nat.beq tu.size 1 && Nat.beq esz.ty (u+1) && Nat.ble n 4611686018427387904)
      (match l.range 0 n with
      | some x=>(match xq x with
       | some y=>some (.str y,h.upd b (some (.cells l ⟨esz.n,esz.ty,cond (Nat.ble esz.fz n) n esz.fz⟩ true op)))
       | none=>none)
      | none=>none) none
    | none=>none
   | _=>none
  | _,_=>none
 | _,_=>none
def Xp(c:Ctx)(g:Nat):Bool:=match c.noesc with|some k=>Nat.beq g k|none=>false
def zUJ(c:Ctx)(g:Nat):Option Nat:=match c.mnz with|some (k,el)=>cond (Nat.beq g k) (some el) none|none=>none
def zVe(el:Nat)(h:H)(first args captured:Ug):Option (V×H) :=
 match first,args,captured with
 | [],[.int .i64 (.ofNat n)],[]=>cond (Nat.ble n 4294967296) (match qG h (some (.ls [])) ⟨1,el+1,0⟩ true with|some (b,h')=>some (.slice b 0 n (.skip 0),h')|none=>none) none
 | _,_,_=>none
def Zj(c:Ctx)(h:H)(g:Nat)(first args captured:Ug):Option AN :=
 cond (Xp c g) (match first,args,captured with | [],[x],[]=>some (.val x h)|_,_,_=>none)
  (match zUJ c g with
  | some el=>AN.ofVH (zVe el h first args captured)
  | none=>some (.call g (first++(args++captured))))
def xc(c:Ctx)(a:Call)(e:Uh)(h:H):Option AN :=
 match ZT e a.args.toList with
 | none=>none
 | some args =>
  match a.callee with
  | .value f =>
   match e f with
   | some (.func (.func g) first captured)=>Zj c h g first args captured
   | some (.yield l)=>some (.round l args)
   | _=>none
  | .builtin b =>
   match b,args,a.argTypes.toList with
   | .len,[x],[t]=>AN.ofV (Yf c t h x) h
   | .cap,[x],[t]=>AN.ofV (zVb c t x) h
   | .append,[s,x],[t,tx]=>AN.ofVH (OA c tx t h s x)
   | .copy,[d,x],[t,_]=>AN.ofVH (zIY c t h d x)
   | .min,x::l,_=>AN.ofV (ZV false x l) h
   | .max,x::l,_=>AN.ofV (ZV true x l) h
   | .recover,[],_=>some .recover
   | .unsafeSliceData,[x],_=>AN.ofV (Yz h x) h
   | .unsafeString,[p,n],pt::_=>AN.ofVH (XA c pt h p n)
   | _,_,_=>none
  | .invoke r name=>match e r with
   | some (.iface t v) =>
    (match YR c t name with
    | some (f,none)=>some (.call f (v::args))
    | some (f,some el)=>(match zo c el h v with|some u=>some (.call f (u::args))|none=>none)
    | none=>none)
   | _=>none
def afa(c:Ctx)(a:Field)(b o:Nat)(h:H):Option AN :=
 match c.ty.get a.type with
 | some d=>cond (Nat.blt 0 d.size) (some (.val (.ptr b (o+a.offset)) h)) none
 | none=>none
def yD(c:Ctx)(o:Oper)(e:Uh)(h:H):Option AN :=
 match o.op with
 | .move x=>AN.ofV (e x) h
 | .assign x=>AN.ofV (e x) h
 | .pick r a b=>match e r with|some (.bool t)=>AN.ofV (cond t (e a) (e b)) h|_=>none
 | .alloc t=>match c.ty.get t with
  | some ti=>match ti.zero with
   | some z=>match qu h z.cells ⟨0,t+1,0⟩ false with|some (b,h')=>some (.val (.ptr b 0) h')|none=>none
   | none=>none
  | none=>none
 | .box t x=>match e x with
  | some v=>match qu h v.cells ⟨0,t+1,0⟩ false with|some (b,h')=>some (.val (.ptr b 0) h')|none=>none
  | none=>none
 | .build t ps=>match evP e ps.toList with|some l=>AN.ofV (je c t l) h|none=>none
 | .buildSlice t n ps=>match evP e ps.toList with|some l=>AN.ofVH (zJ c t n l h)|none=>none
 | .load t a=>match e a with|some v=>AN.ofV (zo c t h v) h|none=>none
 | .store t a x=>match e a,e x with|some p,some v=>(match zZ c t h p v with|some h'=>some (.skip h')|none=>none)|_,_=>none
 | .nilCheck x=>match e x with
  | some (.ptr b o)=>some (.val (.ptr b o) h)
  | some (.iface t v)=>some (.val (.iface t v) h)
  | some (.func (.func g) a b)=>some (.val (.func (.func g) a b) h)
  | some (.yield l)=>some (.val (.yield l) h)
  | _=>none
 | .binOp op t x y _=>match e x,e y with|some a,some b=>AN.ofV (ZQ c op t x y a b) h|_,_=>none
 | .unOp op _ x=>match e x with|some v=>AN.ofV (aun op v) h|none=>none
 | .convert s d x=>match e x with|some v=>AN.ofVH (xz c s d h v)|none=>none
 | .sliceToArrayPointer t x=>match c.ty.get t,e x with
  | some ti,some (.slice b o len _)=>match ti.desc with | .array n _=>cond (Nat.ble n len) (some (.val (.ptr b o) h)) none|_=>none
  | _,_=>none
 | .makeInterface t x=>match c.ty.get t,e x with
  | some ti,some v=>match ti.desc with | .interface _=>none|_=>some (.val (.iface t v) h)
  | _,_=>none
 | .makeFunc (.func g) first captured=>match ZT e first.toList,ZT e captured.toList with
  | some a,some b=>some (.val (.func (.func g) a b) h)
  | _,_=>none
 | .makeSlice t l k=>match e l,e k with|some a,some b=>AN.ofVH (jJ c t a b h)|_,_=>none
 | .slice t x lo hi u=>match e x,evO e lo,evO e hi,evO e u with
  | some v,some a,some b,some m=>AN.ofV (zy c t h v a b m) h
  | _,_,_,_=>none
 | .fieldAddr t x f=>match c.ty.get t,e x with
  | some ti,some (.ptr b o)=>match ti.desc with | .struct w=>(match w[f]? with|some A=>afa c A b o h|none=>none)|_=>none
  | _,_=>none
 | .field t x f=>match e x with|some v=>AN.ofV (zQV c t v f) h|none=>none
 | .indexAddr t x q=>match e x,e q with|some a,some b=>AN.ofV (yo c t a b) h|_,_=>none
 | .index t x q=>match e x,e q with|some a,some b=>AN.ofV (yC c t a b) h|_,_=>none
 | .extract x i=>match e x with|some (.tuple l)=>AN.ofV l[i]? h|_=>none
 | .call j=>xc c j e h
 | .panic x=>match e x with|some (.iface t v)=>some (.pan (.iface t v) h)|_=>none
 | .defer j=>match ZT e j.args.toList,j.callee with
  | some args,.value f=>match e f with|some (.func (.func g) first captured)=>some (.dfr (.fn g captured (first++args)))|_=>none
  | _,_=>none
 | .makeMap _ none=>AN.ofVH (OB h)
 | .typeAssert x _ t ok=>match e x with|some v=>AN.ofV (zMB c t v ok) h|none=>none
 | .lookup t x k ok=>match e x,e k with|some a,some b=>AN.ofV (ke c t h a b ok) h|_,_=>none
 | .mapUpdate t m k v=>match e m,e k,e v with|some a,some b,some d=>(match Yg c t h a b d with|some h'=>some (.skip h')|none=>none)|_,_,_=>none
 | _=>none
inductive AX where
 | normal
 | exit (id:Nat)
 | ret
 | panic (v:V)
structure St where
 n:Nat
 tm:Tm
 dfr:List AD
 heap:H
inductive Out where
 | done (x:AX) (s:St)
abbrev Uc:=V->H->Prop
abbrev Ud:=AX->St->Prop
abbrev Ue:=Bool->Code->St->Option Out
inductive CallOut where
 | ret (v:V) (h:H)
 | panic (v:V) (h:H)
def yk(s:St)(d:Option Tmp)(v:V)(h:H):Option St :=
 match d with
 | none=>some { s with heap:=h }
 | some t=>cond (Nat.blt t s.n) (some { s with tm:=s.tm.set t v,heap:=h }) none
def zh(ops:List Oper)(tm:Tm)(o:Oper):Bool :=
 match o.guard with
 | none=>true
 | some (j,w) =>
  match ops[j]? with
  | some o'=>match o'.dst with
   | some d=>match zI tm d with | .bool b=>b == w|_=>false
   | none=>false
  | none=>false
def j1:Edge->Bool
 | ⟨_,.textOnly _⟩=>false
 | ⟨_,.gcOnly _⟩=>false
 | _=>true
def Xs:Nat->Uf->Bool
 | _,[]=>false
 | n,m::l=>cond (Nat.beq n m) true (Xs n l)
def zi:List Oper->Uf->Uf
 | [],acc=>acc
 | o::l,acc=>zi l (acc++[o.after.toList.foldl (λs e=>cond (j1 e) (s ||| 2^e.on ||| acc.getD e.on 0) s) 0])
def wN(ops:List Oper)(o:Oper):Uf :=
  (match o.guard with
   | some (g,_)=>(match ops[g]? with|some o'=>(match o'.dst with|some d=>[d]|none=>[])|none=>[])
   | none=>[])++o.op.operands.toList.filterMap λ| .tmp t=>some t|_=>none
def zId(ops:List Oper)(a b:Oper):Bool :=
 (match a.dst with|some d=>Xs d (wN ops b) || (match b.dst with|some c=>Nat.beq d c|none=>false)|none=>false) ||
 (match b.dst with|some d=>Xs d (wN ops a)|none=>false)
def zGA(ops:List Oper)(j:Nat)(oj:Oper)(a:Nat):Nat->List Oper->Bool
 | _,[]=>true
 | i,oi::l=>cond (Nat.blt i j) (cond (Nat.testBit a i || !(zId ops oi oj)) (zGA ops j oj a (i+1) l) false) true
def zIj(j:Nat)(o:Oper):Bool :=
 o.after.toList.all λe=>Nat.blt e.on j || (match e.ground with | .gcOnly _=>true|_=>false)
def OF(e:Edge):Bool:=match e.ground with | .textOnly _=>false|_=>true
def zAx(ops:List Oper):Uf->Uf->Bool
 | [],_=>true
 | i::l,seen=>(match ops[i]? with|some o=>o.after.toList.all λe=>!(OF e) || Xs e.on seen|none=>false) && zAx ops l (i::seen)
def XI(l:Uf):Nat->Bool
 | 0=>true
 | n+1=>Xs n l && XI l n
def zIl(o:Oper)(a:Nat):Bool :=
 match o.guard with
 | none=>true
 | some (g,_)=>Nat.testBit a g
def Z4(ops:List Oper)(bs:Uf):Nat->List Oper->Bool
 | _,[]=>true
 | j,o::l=>zGA ops j o (bs.getD j 0) 0 ops && zIj j o && zIl o (bs.getD j 0) && Z4 ops bs (j+1) l
def kM(bs:Uf):Nat->Nat
 | 0=>0
 | j+1=>cond (Nat.beq (bs.getD j 0 % 2^j) (2^j-1)) (kM bs j) (j+1)
def ya(ops:List Oper):Option Nat :=
 let bs:=zi ops []
 cond (Z4 ops bs 0 ops && (!(Region.departs ops.toArray) || (zAx ops (Region.linearise .gc ops.toArray 0) [] && XI (Region.linearise .gc ops.toArray 0) ops.length))) (some (kM bs ops.length)) none
section
variable (c:Ctx) (orc:Nat->Ug->H->Option (V×H))
def leave(results:List ResultVar)(tm:Tm)(h:H):List ResultVar->Ug->Option Ug
 | [],acc=>some acc.reverse
 | .tmp t::l,acc=>leave results tm h l (zI tm t::acc)
 | .cell a t::l,acc=>match zo c t h (zI tm a)with|some v=>leave results tm h l (v::acc)|none=>none
def yP:Ug->V
 | [v]=>v
 | l=>.tuple l
def ze:Ug->Nat->Tm->Tm
 | [],_,t=>t
 | v::l,i,t=>ze l (i+1) (t.set i v)
def xi(call:Nat->Ug->H->Option CallOut):List AD->H->Option H
 | [],h=>some h
 | .coll id::l,h =>
  match h.get id with
  | some (.deferred true)=>xi call l (h.upd id (some (.deferred false)))
  | _=>none
 | .fn f cap args::l,h =>
  match call f (args++cap) h with
  | some (.ret _ h')=>xi call l h'
  | _=>none
def ka(ih:Ue)(fi:FI)(args:Ug)(h:H):Option Out :=
 cond (Nat.ble (wM args 0) fi.n && Nat.ble fi.n 511) (ih false fi.body { n:=fi.n,tm:=ze args 0 (Tb.leaf zC),dfr:=[],heap:=h }) none
def endD(fi:FI)(s:St):Option CallOut :=
 match s.dfr with
 | []=>match leave c fi.results s.tm s.heap fi.results []with|some vs=>some (.ret (yP vs) s.heap)|none=>none
 | _=>none
def Zl(ih:Ue)(f:Nat)(args:Ug)(h:H):Option CallOut :=
 match c.fn.get f with
 | none=>none
 | some fi =>
  match ka ih fi args h with
  | some (.done .normal s)=>endD c fi s
  | some (.done .ret s)=>endD c fi s
  | _=>none
def zEh(ih:Ue)(fi:FI)(s:St):Option CallOut :=
 match xi (Zl c ih) s.dfr s.heap with
 | some h'=>match leave c fi.results s.tm h' fi.results []with|some vs=>some (.ret (yP vs) h')|none=>none
 | none=>none
def zBk(ih:Ue)(f:Nat)(args:Ug)(h:H):Option CallOut :=
 match c.fn.get f with
 | none=>none
 | some fi =>
  match ka ih fi args h with
  | some (.done .normal s)=>zEh c ih fi s
  | some (.done .ret s)=>zEh c ih fi s
  | some (.done (.panic v) s)=>match s.dfr with | []=>some (.panic v s.heap)|_=>none
  | _=>none
def jY(ih:Ue)(f:Nat)(args:Ug)(h:H):Option CallOut :=
 match orc f args h with
 | some (v,h')=>some (.ret v h')
 | none=>zBk c ih f args h
def wj:List Tmp->Ug->Nat->Tm->Option (Tm)
 | [],[],_,t=>some t
 | p::ps,v::vs,n,t=>cond (Nat.blt p n) (wj ps vs n (t.set p v)) none
 | _,_,_,_=>none
def wG(l:Nat)(x:AX)(s:St):Option CallOut :=
 match s.dfr,s.heap.get l with
 | [],some (.loop _ _ n tm ps a b df) =>
  match x with
  | .normal=>some (.ret (.bool true) (s.heap.upd l (some (.loop .ready none n tm ps a b df))))
  | .ret=>some (.ret (.bool false) (s.heap.upd l (some (.loop .done (some .ret) n tm ps a b df))))
  | .exit id=>some (.ret (.bool false) (s.heap.upd l (some (.loop .done (some (.exit id)) n tm ps a b df))))
  | .panic _=>none
 | _,_=>none
def KG(ih:Ue)(l:Nat)(body:Code)(s:St):Option CallOut :=
 match s.heap.get l with
 | some (.loop .ready a n tm ps b d df) =>
  match ih true body { n:=s.n,tm:=s.tm,dfr:=s.dfr,heap:=s.heap.upd l (some (.loop .busy a n tm ps b d df)) }with
  | some (.done x e)=>wG l x e
  | none=>none
 | _=>none
def XT(ih:Ue)(l:Nat)(args:Ug)(h:H):Option CallOut :=
 match h.get l with
 | some (.loop _ _ n tm params assign body _) =>
  match wj params.toList args n tm with
  | none=>none
  | some a =>
   match ih true assign { n:=n,tm:=a,dfr:=[],heap:=h }with
   | some (.done .normal s)=>KG ih l body s
   | _=>none
 | _=>none
def zc(rd:Bool)(ih:Ue)(o:Oper)(s:St):Option (AX×St) :=
 match yD c o (zx s.tm) s.heap with
 | none=>none
 | some (.val v h)=>match yk s o.dst v h with|some a=>some (.normal,a)|none=>none
 | some (.skip h)=>match yk s o.dst zC h with|some a=>some (.normal,a)|none=>none
 | some (.call f args) =>
  match jY c orc ih f args s.heap with
  | some (.ret v h)=>match yk s o.dst v h with|some a=>some (.normal,a)|none=>none
  | some (.panic v h)=>some (.panic v,{ s with heap:=h })
  | none=>none
 | some (.round l args) =>
  match XT ih l args s.heap with
  | some (.ret v h)=>match yk s o.dst v h with|some a=>some (.normal,a)|none=>none
  | _=>none
 | some (.dfr d)=>cond rd none (match yk { s with dfr:=d::s.dfr } o.dst zC s.heap with|some a=>some (.normal,a)|none=>none)
 | some (.pan v h)=>some (.panic v,{ s with heap:=h })
 | some .recover=>none
def wX(rd:Bool)(ih:Ue)(ops:List Oper):List Oper->St->Option Out
 | [],s=>some (.done .normal s)
 | o::l,s =>
  cond (zh ops s.tm o)
   (match zc c orc rd ih o s with
   | some (.normal,a)=>wX rd ih ops l a
   | some (x,a)=>some (.done x a)
   | none=>none)
   (match yk s o.dst zC s.heap with|some a=>wX rd ih ops l a|none=>none)
def zAC(tm:Tm)(a:Call):Bool :=
 match a.callee,ZT (zx tm) a.args.toList,a.argTypes.toList with
 | .builtin .len,some [.str _],[_]=>true
 | _,_,_=>false
def jG(tm:Tm)(b:Nat)(o:Oper):Bool :=
 match o.op with
 | .move _ | .assign _ | .pick .. | .build .. | .binOp .. | .unOp .. | .field .. | .fieldAddr .. | .index .. | .indexAddr .. | .extract .. | .makeFunc .. | .makeInterface .. | .nilCheck _=>true
 | .load _ a=>match zx tm a with|some (.ptr d _)=>!(Nat.beq b d)|_=>false
 | .convert _ _ x=>match zx tm x with|some (.int _ _)=>true|_=>false
 | .slice _ x _ _ _=>match zx tm x with|some (.str _)=>true|some (.slice _ _ _ (.exact _))=>true|_=>false
 | .call e=>zAC tm e
 | _=>false
def zAq(a:Uf):Nat->List Oper->Bool
 | 0,_=>true
 | _,[]=>true
 | n+1,o::l=>(match o.dst with|some d=>!(Xs d a)|none=>true) && zAq a n l
def Xh(ops:List Oper)(tm:Tm)(b bk:Nat):Nat->Nat->List Oper->Bool
 | _,0,_=>true
 | _,_,[]=>true
 | i,n+1,o::l=>cond (Nat.testBit bk i || (jG tm b o && zAq (wN ops o) (n+1) (o::l))) (Xh ops tm b bk (i+1) n l) false
def qr(bs:Uf)(k:Nat):Nat->Nat->Bool
 | _,0=>true
 | j,n+1=>cond (Nat.testBit (bs.getD j 0) k) (qr bs k (j+1) n) false
def JS(ops:List Oper)(bs:Uf)(m k:Nat)(tm:Tm)(o:Oper):Bool :=
 match o.op with
 | .store _ a _ =>
  match zx tm a with
  | some (.ptr b _)=>Xh ops tm b (bs.getD k 0) 0 k ops && qr bs k (k+1) (m-k-1)
  | _=>false
 | .mapUpdate _ a _ _ =>
  match zx tm a with
  | some (.map b)=>Xh ops tm b (bs.getD k 0) 0 k ops && qr bs k (k+1) (m-k-1)
  | _=>false
 | _=>false
def Xg(o:Oper):Bool :=
 match o.op with
 | .move _ | .assign _ | .pick .. | .build .. | .binOp .. | .unOp .. | .field .. | .fieldAddr .. | .index .. | .indexAddr .. | .extract .. | .makeFunc .. | .makeInterface .. | .nilCheck _=>true
 | _=>false
def Xi(ops:List Oper)(bk:Nat):Nat->Nat->List Oper->Bool
 | _,0,_=>true
 | _,_,[]=>true
 | i,n+1,o::l=>cond (Nat.testBit bk i || (Xg o && zAq (wN ops o) (n+1) (o::l))) (Xi ops bk (i+1) n l) false
def XY(ops:List Oper)(bs:Uf)(m k:Nat):Bool:=Xi ops (bs.getD k 0) 0 k ops && qr bs k (k+1) (m-k-1)
def yq(ops:List Oper)(bs:Uf)(m k:Nat)(tm:Tm)(o:Oper):Bool:=JS ops bs m k tm o || XY ops bs m k
def xv:List AD->List AD->Bool
 | [],[]=>true
 | _::l,_::a=>xv l a
 | _,_=>false
def yJ(rd : Bool)(ih : Bool -> Code -> St -> Option Out)(ops : List Oper)(bs : Uf)(m : Nat): Nat -> Nat -> List Oper -> St -> Option Out
  | _, _, [], s => some (.done .normal s)
  | 0, _, l, s => wX c orc rd ih ops l s
  | r + 1, k, o::l, s =>
    cond (zh ops s.tm o)
      (match zc c orc rd ih o { s with heap := { s.heap with low := T.top } }with
      | some (.normal, s') =>
        cond (Nat.ble s.heap.nx s'.heap.low || yq ops bs m k s.tm o)
          (cond (xv s.dfr s'.dfr) (yJ rd ih ops bs m r (k + 1) l { s' with heap := { s'.heap with low := cond (Nat.ble s.heap.low s'.heap.low) s.heap.low s'.heap.low } }) none) none
      | _ => none)
      (match yk s o.dst zC s.heap with|some s' => yJ rd ih ops bs m r (k + 1) l s'|none => none)
def qI(d l:Nat)(s:St)(e:H):Option Out :=
 match e.get l with
 | some (.loop st a n tm ps b f df) =>
  match st with
  | .busy=>none
  | _ =>
   match a with
   | none=>some (.done .normal { n:=s.n,tm:=s.tm,dfr:=.coll d::s.dfr,heap:=e.upd l (some (.loop .exhausted a n tm ps b f df)) })
   | some .ret=>some (.done .ret { n:=s.n,tm:=s.tm,dfr:=.coll d::s.dfr,heap:=e.upd l (some (.loop .exhausted a n tm ps b f df)) })
   | some (.exit id)=>some (.done (.exit id) { n:=s.n,tm:=s.tm,dfr:=.coll d::s.dfr,heap:=e.upd l (some (.loop .exhausted a n tm ps b f df)) })
   | _=>none
 | _=>none
def zDk(ih:Ue)(rd:Bool)(f:Operand)(params:Array Tmp)(assign body:Code)(s:St):Option Out :=
  match zx s.tm f with
  | some (.func (.func g) first captured) =>
    cond (rd || !(Nat.blt (s.heap.nx+1) T.top)) none
      (match jY c orc ih g (first++(.yield (s.heap.nx+1)::captured)) ((s.heap.new (.deferred true)).new (.loop .ready none s.n s.tm params assign body s.heap.nx))with
       | some (.ret _ a)=>qI s.heap.nx (s.heap.nx+1) s a
       | _=>none)
  | _=>none
def qa(ih:Ue)(rd:Bool):Code->St->Option Out
 | .skip,s=>some (.done .normal s)
 | .region _ ops e,s =>
  cond e (match ya ops.toList with|some m=>yJ c orc rd ih ops.toList (zi ops.toList []) m m 0 ops.toList s|none=>none)
   (wX c orc rd ih ops.toList ops.toList s)
 | .seq a b,s =>
  match ih rd a s with
  | some (.done .normal d)=>ih rd b d
  | r=>r
 | .cond x a b,s =>
  match zx s.tm x with
  | some (.bool t)=>ih rd (cond t a b) s
  | _=>none
 | .block id b,s =>
  match ih rd b s with
  | some (.done (.exit i) d)=>cond (Nat.beq i id) (some (.done .normal d)) (some (.done (.exit i) d))
  | r=>r
 | .loop b,s =>
  match ih rd b s with
  | some (.done .normal d)=>ih rd (.loop b) d
  | r=>r
 | .scope b,s=>ih rd b s
 | .label _,s=>some (.done .normal s)
 | .exit id,s=>some (.done (.exit id) s)
 | .ret,s=>some (.done .ret s)
 | .rangeFunc f params assign body,s=>zDk c orc ih rd f params assign body s
 | _,_=>none
def ev:Nat->Bool->Code->St->Option Out :=
 λn=>Nat.rec (motive:=λ_=>Bool->Code->St->Option Out) (λ_ _ _=>none) (λ_ r=>λrd code s=>qa c orc r rd code s) n
def run(n:Nat)(f:Nat)(args:Ug)(h:H):Option CallOut:=jY c orc (ev c orc n) f args h
end
def TI.mk'(P : Program)(t : Nat)(i : TypeInfo)(d : TypeDesc): TI :=
  { id := t, desc := d, size := i.size, bytes := i.bytes
    zero := match i.zero with|some v => ofV v|none => none
    cmp := i.comparable
    held := P.stoodInHeld t
    guard := P.eqGuardType P.depth t
    meth := i.methods.toList }
def TI.of(P:Program)(t:Nat)(i:TypeInfo):Option TI :=
 match i.desc with
 | .named _ u=>match P.types[u]? with|some j=>some (TI.mk' P t i j.desc)|none=>none
 | d=>some (TI.mk' P t i d)
def FI.of(f:Func):Option FI :=
 match f.body with
 | some b=>cond (f.name == "runtime.NumGoroutine") none (some { n:=f.ntmps,results:=f.results.toList,body:=b })
 | none=>none
def JX(P:Program):Nat->List TypeInfo->T TI->T TI
 | _,[],t=>t
 | i,x::l,t=>JX P (i+1) l (t.set i (TI.of P i x))
def Xe:Nat->List Func->T FI->T FI
 | _,[],t=>t
 | i,x::l,t=>Xe (i+1) l (t.set i (FI.of x))
def Ctx.of(P : Program)(ne : Option Nat)(a : Option (Nat × Nat)): Ctx :=
  { ty := JX P 0 P.types.toList .leaf, fn := Xe 0 P.funcs.toList .leaf, noesc := ne, mnz := a
    lies := λe u off => liesAt P P.depth e 1 off u 1 }
abbrev dd(n:Int):V:=.int .i64 n
end Go.Sim
