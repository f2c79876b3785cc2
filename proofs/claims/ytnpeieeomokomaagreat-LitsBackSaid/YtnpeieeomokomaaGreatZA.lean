/- A. No condition. -/
import Derived.KernelRfl
import Derived.RangeFuncLeaves
import Derived.RangeFuncRecord
import Derived.Laws.World
import Derived.Laws.Sem
noncomputable section
namespace Go.Sim
theorem dd{p:Prop}(h:p:=by omega):p:=h
theorem de{p:Prop}(h:p:=by kernel_rfl):p:=h
theorem dg{p:Prop}(h:p:=by decide):p:=h
abbrev Ua:=List UInt8
abbrev Ub:=List Int
abbrev Uf:=List Nat
universe u v
theorem oA{α:Type u}(a b:α):(some a=some b)=(a=b):=Option.some.injEq a b
theorem oB{α:Type u}{e:Type v}(a:α)(b:e)(c:α)(d:e):((a,b)=(c,d))=(a=c/\b=d):=Prod.mk.injEq a b c d
theorem oE{n m:Nat}(h:n<=m):Nat.ble n m=true:=Nat.ble_eq_true_of_le h
theorem oG{n m:Nat}(h:Nat.ble n m=true):n<=m:=Nat.le_of_ble_eq_true h
theorem oH{n m:Nat}(h:Nat.beq n m=true):n=m:=Nat.eq_of_beq_eq_true h
theorem oI(a b:Bool):((a&&b)=true)=(a=true/\b=true):=Bool.and_eq_true a b
theorem oJ{α:Type u}(y:α){a:α}{l:List α}(h:a∈l):a∈y::l:=List.mem_cons_of_mem y h
theorem oL{n m k:Nat}(h:n<m)(g:m<=k):n<k:=Nat.lt_of_lt_of_le h g
theorem oM(n:Nat):0<=n:=Nat.zero_le n
theorem oN{α:Sort u}(a b:α):cond true a b=a:=cond_true a b
theorem oO{α:Sort u}(a b:α):cond false a b=b:=cond_false a b
theorem oQ{α:Type u}{l:List α}{i:Nat}(h:i<l.length):l[i]?=some l[i]:=List.getElem?_eq_getElem h
theorem oR(n:Nat):n<=n:=Nat.le_refl n
theorem oS{n m k:Nat}(h:n<=m)(g:m<=k):n<=k:=Nat.le_trans h g
theorem oU(n:Int):n<=n:=Int.le_refl n
theorem oV{α:Type u}{l:List α}{n:Nat}(h:n<l.length):l[n]∈l:=List.getElem_mem h
theorem oW{α:Type u}{l r:List α}:(l++r).length=l.length+r.length:=List.length_append
theorem oc{α:Type u}{a:α}{l:List α}:(a::l).length=l.length+1:=List.length_cons
theorem od{α:Type u}{a:Type v}{f:α->a}{l:List α}{i:Nat}:(l.map f)[i]?=l[i]?.map f:=List.getElem?_map
theorem oe(n:Nat):(n:Int).toNat=n:=Int.toNat_natCast n
theorem og{α:Type u}{l:List α}{i j:Nat}{a:α}(h:i≠j:=by omega):(l.set i a)[j]?=l[j]?:=List.getElem?_set_ne h
theorem ol{α:Type u}{b:Type v}(a:α)(f:α->b):(some a).map f=some (f a):=Option.map_some a f
theorem om(n:Nat):n<n+1:=Nat.lt_succ_self n
theorem oq{α:Type u}{b:α}{l:List α}{a:α}:a∈b::l↔a=b\/a∈l:=List.mem_cons
theorem ou{a b:Nat}(h:a<b:=by omega):a%b=a:=Nat.mod_eq_of_lt h
theorem ov{α:Type u}{l:List α}{i:Nat}(h:l.length<=i:=by omega):l[i]?=none:=List.getElem?_eq_none h
theorem ox{α:Type u}{l:List α}{i:Nat}{a:α}:(l.set i a).length=l.length:=List.length_set
theorem oy{α:Type u}{a:Type v}{l:List α}(f:α->a):(l.map f).length=l.length:=List.length_map f
structure N8 (α:Type) where
 a0:α
 a1:α
 a2:α
 a3:α
 a4:α
 a5:α
 a6:α
 a7:α
inductive D8 where
 | d0
 | d1
 | d2
 | d3
 | d4
 | d5
 | d6
 | d7
def D8.ofR(n:Nat):D8 :=
 match n with
 | 0=>.d0
 | 1=>.d1
 | 2=>.d2
 | 3=>.d3
 | 4=>.d4
 | 5=>.d5
 | 6=>.d6
 | _=>.d7
def D8.of(n:Nat):D8:=D8.ofR (n % 8)
namespace N8
variable {α:Type}
def get(d:D8):N8 α->α :=
 D8.casesOn (motive:=λ_=>N8 α->α) d (λt=>t.a0) (λt=>t.a1) (λt=>t.a2) (λt=>t.a3) (λt=>t.a4) (λt=>t.a5) (λt=>t.a6) (λt=>t.a7)
def mod(d:D8):(α->α)->N8 α->N8 α :=
 D8.casesOn (motive:=λ_=>(α->α)->N8 α->N8 α) d
  (λf t=>N8.casesOn (motive:=λ_=>N8 α) t λa0 a1 a2 a3 a4 a5 a6 a7=>N8.mk (f a0) a1 a2 a3 a4 a5 a6 a7)
  (λf t=>N8.casesOn (motive:=λ_=>N8 α) t λa0 a1 a2 a3 a4 a5 a6 a7=>N8.mk a0 (f a1) a2 a3 a4 a5 a6 a7)
  (λf t=>N8.casesOn (motive:=λ_=>N8 α) t λa0 a1 a2 a3 a4 a5 a6 a7=>N8.mk a0 a1 (f a2) a3 a4 a5 a6 a7)
  (λf t=>N8.casesOn (motive:=λ_=>N8 α) t λa0 a1 a2 a3 a4 a5 a6 a7=>N8.mk a0 a1 a2 (f a3) a4 a5 a6 a7)
  (λf t=>N8.casesOn (motive:=λ_=>N8 α) t λa0 a1 a2 a3 a4 a5 a6 a7=>N8.mk a0 a1 a2 a3 (f a4) a5 a6 a7)
  (λf t=>N8.casesOn (motive:=λ_=>N8 α) t λa0 a1 a2 a3 a4 a5 a6 a7=>N8.mk a0 a1 a2 a3 a4 (f a5) a6 a7)
  (λf t=>N8.casesOn (motive:=λ_=>N8 α) t λa0 a1 a2 a3 a4 a5 a6 a7=>N8.mk a0 a1 a2 a3 a4 a5 (f a6) a7)
  (λf t=>N8.casesOn (motive:=λ_=>N8 α) t λa0 a1 a2 a3 a4 a5 a6 a7=>N8.mk a0 a1 a2 a3 a4 a5 a6 (f a7))
def all(x:α):N8 α:=⟨x,x,x,x,x,x,x,x⟩
theorem get_mod_same(d:D8)(f:α->α)(t:N8 α):(mod d f t).get d=f (t.get d):=by obtain⟨a0,a1,a2,a3,a4,a5,a6,a7⟩:=t;cases d<;>rfl
theorem get_mod_ne{d e:D8}(h:e≠d)(f:α->α)(t:N8 α):(mod d f t).get e=t.get e:=by obtain⟨a0,a1,a2,a3,a4,a5,a6,a7⟩:=t;cases d<;>cases e<;>first|rfl|grind
theorem get_all(d:D8)(x:α):(all x).get d=x:=by cases d<;>rfl
end N8
theorem D8.of_inj{n m:Nat}(h:D8.of n=D8.of m):n % 8=m % 8:=by
 unfold D8.of at h;have c:n % 8<8:=Nat.mod_lt _ dg;have hm:m % 8<8:=Nat.mod_lt _ dg;generalize n % 8=a at *;generalize m % 8=b at *
 match a,b,c,hm with
 | 0,b,_,hm|1,b,_,hm|2,b,_,hm|3,b,_,hm|4,b,_,hm|5,b,_,hm|6,b,_,hm|7,b,_,hm =>
  grind[D8.ofR]
abbrev T(α:Type):Type:=N8 (N8 (N8 (N8 (N8 (N8 (Option α))))))
namespace T
variable {α:Type}
def leaf:T α:=N8.all (N8.all (N8.all (N8.all (N8.all (N8.all none)))))
def top:Nat:=262143
def getF(t:N8 (N8 (N8 (N8 (N8 (N8 (Option α)))))))(n:Nat):Option α :=
 N8.get (D8.of n) (N8.get (D8.of (n/8)) (N8.get (D8.of (n/64)) (N8.get (D8.of (n/512)) (N8.get (D8.of (n/4096)) (N8.get (D8.of (n/32768)) t)))))
def get(t:T α)(n:Nat):Option α:=cond (Nat.ble n 262143) (getF t n) none
def set(t:T α)(n:Nat)(x:Option α):T α :=
 N8.mod (D8.of (n/32768)) (N8.mod (D8.of (n/4096)) (N8.mod (D8.of (n/512)) (N8.mod (D8.of (n/64)) (N8.mod (D8.of (n/8)) (N8.mod (D8.of n) λ_=>x))))) t
@[simp] theorem get_leaf (n:Nat):(leaf:T α).get n=none:=by unfold get leaf getF;simp only[N8.get_all];cases Nat.ble n 262143<;>rfl
theorem get_set(t:T α)(n m:Nat)(x:Option α)(h:n<top):(t.set n x).get m=if m=n then x else t.get m:=by
 have j:n<262143:=h;unfold get;cases hm:Nat.ble m 262143 with
 | false =>
  have:¬m<=262143:=λk=>by grind[oE]
  grind
 | true =>
  have i:=oG hm;simp only[oN];unfold getF set;by_cases a:D8.of (m/32768)=D8.of (n/32768)
  .rw[a,N8.get_mod_same];by_cases b:D8.of (m/4096)=D8.of (n/4096)
   .rw[b,N8.get_mod_same];by_cases c:D8.of (m/512)=D8.of (n/512)
    .rw[c,N8.get_mod_same];by_cases d:D8.of (m/64)=D8.of (n/64)
     .rw[d,N8.get_mod_same];by_cases f:D8.of (m/8)=D8.of (n/8)
      .rw[f,N8.get_mod_same];by_cases g:D8.of m=D8.of n
       .rw[g,N8.get_mod_same];have l:=D8.of_inj g;have o:=D8.of_inj f;have h2:=D8.of_inj d;have h3:=D8.of_inj c;have h4:=D8.of_inj b;have p:=D8.of_inj a
        grind
       rw[N8.get_mod_ne g,if_neg (λe=>g (by rw[e]))]
      rw[N8.get_mod_ne f,if_neg (λe=>f (by rw[e]))]
     rw[N8.get_mod_ne d,if_neg (λe=>d (by rw[e]))]
    rw[N8.get_mod_ne c,if_neg (λe=>c (by rw[e]))]
   rw[N8.get_mod_ne b,if_neg (λe=>b (by rw[e]))]
  rw[N8.get_mod_ne a,if_neg (λe=>a (by rw[e]))]
end T
abbrev Tb(α:Type):Type:=N8 (N8 (N8 α))
namespace Tb
variable {α:Type}
def top:Nat:=511
def leaf(x:α):Tb α:=N8.all (N8.all (N8.all x))
def getF(t:N8 (N8 (N8 α)))(n:Nat):α:=N8.get (D8.of n) (N8.get (D8.of (n/8)) (N8.get (D8.of (n/64)) t))
def get(d:α)(t:Tb α)(n:Nat):α:=cond (Nat.ble n 511) (getF t n) d
def set(t:Tb α)(n:Nat)(x:α):Tb α:=N8.mod (D8.of (n/64)) (N8.mod (D8.of (n/8)) (N8.mod (D8.of n) λ_=>x)) t
theorem get_leaf(d:α)(n:Nat):(leaf d).get d n=d:=by
 grind[get,leaf,getF,N8.get_all]
theorem get_set(d:α)(t:Tb α)(n m:Nat)(x:α)(h:n<top):(t.set n x).get d m=if m=n then x else t.get d m:=by
 have g:n<511:=h;unfold get;cases hm:Nat.ble m 511 with
 | false =>
  have:¬m<=511:=λi=>by grind[oE]
  grind
 | true =>
  have f:=oG hm;simp only[oN];unfold getF set;by_cases a:D8.of (m/64)=D8.of (n/64)
  .rw[a,N8.get_mod_same];by_cases b:D8.of (m/8)=D8.of (n/8)
   .rw[b,N8.get_mod_same];by_cases c:D8.of m=D8.of n
    .rw[c,N8.get_mod_same];have j:=D8.of_inj c;have k:=D8.of_inj b;have h2:=D8.of_inj a
     grind
    rw[N8.get_mod_ne c,if_neg (λe=>c (by rw[e]))]
   rw[N8.get_mod_ne b,if_neg (λe=>b (by rw[e]))]
  rw[N8.get_mod_ne a,if_neg (λe=>a (by rw[e]))]
end Tb
inductive Cap where
 | exact(n:Nat)
 | skip (n:Nat)
inductive V where
 | bool (b:Bool)
 | int (k:IntKind) (n:Int)
 | str (l:Ua)
 | ptr (b off:Nat)
 | nilptr
 | slice (b off len:Nat) (cap:Cap)
 | nilslice
 | tail (b off d k:Nat)
 | map (r:Nat)
 | nilmap
 | func (fn:Fn) (first captured:List V)
 | yield (l:Nat)
 | nilFunc
 | iface (t:TypeId) (v:V)
 | nilIface
 | agg (l:List V)
 | tuple (l:List V)
abbrev Ug:=List V
abbrev Uh:=Operand->Option V
abbrev Ui:=Option V
structure Env where
 blk:Nat->Nat
 off:Nat->Nat
 cap:Nat->Nat
def Cap.val(ρ:Env)(b:Nat):Cap->Nat
 | .exact n=>n
 | .skip n=>ρ.cap b-n
mutual
def V.conc(ρ:Env):V->Value
 | .bool b=>.bool b
 | .int k n=>.int k n
 | .str l=>.string ⟨l.toArray⟩
 | .ptr b o=>.pointer (some ⟨ρ.blk b,ρ.off b+o,none⟩)
 | .nilptr=>.pointer none
 | .slice b o len c=>.slice (some ⟨ρ.blk b,ρ.off b+o,none⟩) len (c.val ρ b)
 | .nilslice=>.slice none 0 0
 | .tail b o d k=>.slice (some ⟨ρ.blk b,ρ.off b+(if ρ.cap b=k then o else o+d),none⟩) 0 (ρ.cap b-k)
 | .map r=>.map (some (ρ.blk r))
 | .nilmap=>.map none
 | .func f x y=>.func f (V.concL ρ x).toArray (V.concL ρ y).toArray
 | .yield l=>.func (.yield (ρ.blk l)) #[] #[]
 | .nilFunc=>.nilFunc
 | .iface t v=>.iface t (v.conc ρ)
 | .nilIface=>.nilIface
 | .agg l=>.agg (V.concL ρ l).toArray
 | .tuple l=>.tuple (V.concL ρ l).toArray
def V.concL(ρ:Env):Ug->List Value
 | []=>[]
 | v::l=>v.conc ρ::V.concL ρ l
end
mutual
def V.In(D:Nat->Prop):V->Prop
 | .ptr b _=>D b
 | .slice b _ _ _=>D b
 | .tail b _ _ _=>D b
 | .map r=>D r
 | .func f x y=>(∀l,f≠.yield l)/\V.InL D x/\V.InL D y
 | .yield l=>D l
 | .iface _ v=>v.In D
 | .agg l=>V.InL D l
 | .tuple l=>V.InL D l
 | _=>True
def V.InL(D:Nat->Prop):Ug->Prop
 | []=>True
 | v::l=>v.In D/\V.InL D l
end
theorem V.concL_eq(ρ:Env)(l:Ug):V.concL ρ l=l.map (V.conc ρ):=by induction l<;>grind[V.concL]
theorem V.InL_iff{D:Nat->Prop}{l:Ug}:V.InL D l↔∀v∈l,v.In D:=by induction l<;>grind[V.InL]
def Agree(D:Nat->Prop)(ρ ρ':Env):Prop:=∀id,D id->ρ'.blk id=ρ.blk id/\ρ'.off id=ρ.off id/\ρ'.cap id=ρ.cap id
theorem Agree.refl(D:Nat->Prop)(ρ:Env):Agree D ρ ρ:=λ_ _=>⟨rfl,rfl,rfl⟩
mutual
theorem V.conc_agree{D:Nat->Prop}{ρ ρ':Env}(h:Agree D ρ ρ'):∀v:V,v.In D->v.conc ρ'=v.conc ρ
 | .bool _,_ | .int _ _,_ | .str _,_ | .nilptr,_ | .nilslice,_ | .nilmap,_ | .nilFunc,_ | .nilIface,_=>by simp[V.conc]
 | .ptr b o,a=>by simp only[V.In]at a;obtain⟨e,h2,_⟩:=h b a;simp[V.conc,e,h2]
 | .slice b o n c,a=>by simp only[V.In]at a;obtain⟨e,h2,h3⟩:=h b a;cases c<;>simp[V.conc,Cap.val,e,h2,h3]
 | .tail b o d k,a=>by simp only[V.In]at a;obtain⟨e,h2,h3⟩:=h b a;simp[V.conc,e,h2,h3]
 | .map r,a=>by simp only[V.In]at a;obtain⟨e,_,_⟩:=h r a;simp[V.conc,e]
 | .yield l,a=>by simp only[V.In]at a;obtain⟨e,_,_⟩:=h l a;simp[V.conc,e]
 | .func f x y,a=>by simp only[V.In]at a;simp[V.conc,V.concL_agree h x a.2.1,V.concL_agree h y a.2.2]
 | .iface t v,a=>by simp only[V.In]at a;simp[V.conc,V.conc_agree h v a]
 | .agg l,a=>by simp only[V.In]at a;simp[V.conc,V.concL_agree h l a]
 | .tuple l,a=>by simp only[V.In]at a;simp[V.conc,V.concL_agree h l a]
theorem V.concL_agree{D:Nat->Prop}{ρ ρ':Env}(h:Agree D ρ ρ'):∀l:Ug,V.InL D l->V.concL ρ' l=V.concL ρ l
 | [],_=>by simp[V.concL]
 | v::l,a=>by simp only[V.InL]at a;simp[V.concL,V.conc_agree h v a.1,V.concL_agree h l a.2]
end
mutual
theorem V.In_mono{D E:Nat->Prop}(h:∀id,D id->E id):∀v:V,v.In D->v.In E
 | .bool _,_ | .int _ _,_ | .str _,_ | .nilptr,_ | .nilslice,_ | .nilmap,_ | .nilFunc,_ | .nilIface,_=>by simp[V.In]
 | .ptr b o,a=>by simp only[V.In]at *;exact h _ a
 | .slice b o n c,a=>by simp only[V.In]at *;exact h _ a
 | .tail b o d k,a=>by simp only[V.In]at *;exact h _ a
 | .map r,a=>by simp only[V.In]at *;exact h _ a
 | .yield l,a=>by simp only[V.In]at *;exact h _ a
 | .func f x y,a=>by simp only[V.In]at *;exact⟨a.1,V.InL_mono h x a.2.1,V.InL_mono h y a.2.2⟩
 | .iface t v,a=>by simp only[V.In]at *;exact V.In_mono h v a
 | .agg l,a=>by simp only[V.In]at *;exact V.InL_mono h l a
 | .tuple l,a=>by simp only[V.In]at *;exact V.InL_mono h l a
theorem V.InL_mono{D E:Nat->Prop}(h:∀id,D id->E id):∀l:Ug,V.InL D l->V.InL E l
 | [],_=>by simp[V.InL]
 | v::l,a=>by simp only[V.InL]at *;exact⟨V.In_mono h v a.1,V.InL_mono h l a.2⟩
end
mutual
theorem V.In_and{D E:Nat->Prop}:∀v:V,v.In D->v.In E->v.In (λid=>D id/\E id)
 | .bool _,_,_ | .int _ _,_,_ | .str _,_,_ | .nilptr,_,_ | .nilslice,_,_ | .nilmap,_,_ | .nilFunc,_,_ | .nilIface,_,_=>by simp[V.In]
 | .ptr b o,a,h2=>by simp only[V.In]at *;exact⟨a,h2⟩
 | .slice b o n c,a,h2=>by simp only[V.In]at *;exact⟨a,h2⟩
 | .tail b o d k,a,h2=>by simp only[V.In]at *;exact⟨a,h2⟩
 | .map r,a,h2=>by simp only[V.In]at *;exact⟨a,h2⟩
 | .yield l,a,h2=>by simp only[V.In]at *;exact⟨a,h2⟩
 | .func f x y,a,h2=>by simp only[V.In]at *;exact⟨a.1,V.InL_and x a.2.1 h2.2.1,V.InL_and y a.2.2 h2.2.2⟩
 | .iface t v,a,h2=>by simp only[V.In]at *;exact V.In_and v a h2
 | .agg l,a,h2=>by simp only[V.In]at *;exact V.InL_and l a h2
 | .tuple l,a,h2=>by simp only[V.In]at *;exact V.InL_and l a h2
theorem V.InL_and{D E:Nat->Prop}:∀l:Ug,V.InL D l->V.InL E l->V.InL (λid=>D id/\E id) l
 | [],_,_=>by simp[V.InL]
 | v::l,a,h2=>by simp only[V.InL]at *;exact⟨V.In_and v a.1 h2.1,V.InL_and l a.2 h2.2⟩
end
def Zv:Nat->Ug->Option Ug
 | 0,_=>some []
 | _+1,[]=>none
 | n+1,v::l=>match Zv n l with|some r=>some (v::r)|none=>none
def KE:Nat->Ug->Option Ug
 | 0,l=>some l
 | _+1,[]=>none
 | n+1,_::l=>KE n l
def lq:Ug->Ug->Option Ug
 | [],l=>some l
 | _::_,[]=>none
 | v::a,_::l=>match lq a l with|some r=>some (v::r)|none=>none
def qz:Nat->Ug->Ug->Option Ug
 | 0,a,l=>lq a l
 | _+1,_,[]=>none
 | n+1,a,x::l=>match qz n a l with|some r=>some (x::r)|none=>none
def ws:Ug->Nat->Nat
 | [],n=>n
 | _::l,n=>ws l (n+1)
theorem VQ:∀{n:Nat}{l r:Ug},KE n l=some r->n<=l.length/\r=l.drop n:=by
 intro n;induction n with
 | zero=>grind[KE]
 | succ n ih=>intro l r h;cases l<;>grind[KE]
theorem Zw:∀{n:Nat}{l r:Ug},Zv n l=some r->n<=l.length/\r=l.take n:=by
 intro n;induction n with
 | zero=>grind[Zv]
 | succ n ih =>
  intro l r h;rcases l with _|⟨x,l⟩
  .grind[Zv]
  simp only[Zv]at h
  grind
theorem yF:∀(l:Ug) (n:Nat),ws l n=l.length+n:=by intro l;induction l<;>grind[ws]
theorem C7:∀{vs l r:Ug},lq vs l=some r->vs.length<=l.length/\r.length=l.length/\∀i,r[i]? = if i<vs.length then vs[i]? else l[i]?:=by
 intro vs;induction vs with
 | nil=>grind[lq]
 | cons v vs ih =>
  intro l r h;rcases l with _|⟨x,l⟩
  .grind[lq]
  simp only[lq]at h
  grind
theorem Zt:∀{n:Nat}{vs l r:Ug},qz n vs l=some r->n+vs.length<=l.length/\r.length=l.length/\∀i,r[i]? = if n<=i/\i<n+vs.length then vs[i-n]? else l[i]?:=by
 intro n;induction n with
 | zero =>
  intro vs l r h;have h':lq vs l=some r:=by grind[qz]
  obtain⟨a,b,c⟩:=C7 h'<;>grind
 | succ n ih =>
  intro vs l r h;rcases l with _|⟨x,l⟩
  .grind[qz]
  simp only[qz]at h
  grind
theorem Sj{n:Nat}{vs l r:Ug}(h:qz n vs l=some r):∀v∈r,v∈vs\/v∈l:=by obtain⟨_,_,c⟩:=Zt h<;>grind[List.mem_iff_getElem?]
inductive Cs where
 | ls (l:Ug)
 | tb (t:Tb V) (n:Nat)
 | big (d:V) (t:T V) (n:Nat)
namespace Cs
def len:Cs->Nat
 | .ls l=>ws l 0
 | .tb _ n=>n
 | .big _ _ n=>n
def getL:Ug->Nat->Ui
 | [],_=>none
 | v::l,n=>match n with|0=>some v|n+1=>getL l n
def V8(d:V)(t:T V)(i:Nat):V:=match t.get i with|some v=>v|none=>d
def get?:Cs->Nat->Ui
 | .ls l,i=>getL l i
 | .tb t n,i=>cond (Nat.blt i n) (some (Tb.get .nilptr t i)) none
 | .big d t n,i=>cond (Nat.blt i n) (some (V8 d t i)) none
def JC(t:Tb V):Nat->Nat->Ug
 | 0,_=>[]
 | k+1,o=>Tb.get .nilptr t o::JC t k (o+1)
def pW(d:V)(t:T V):Nat->Nat->Ug
 | 0,_=>[]
 | k+1,o=>V8 d t o::pW d t k (o+1)
def Sz(l:Ug)(o k:Nat):Option Ug:=match KE o l with|some r=>Zv k r|none=>none
def range:Cs->Nat->Nat->Option Ug
 | .ls l,o,k=>Sz l o k
 | .tb t n,o,k=>cond (Nat.ble (o+k) n) (some (JC t k o)) none
 | .big d t n,o,k=>cond (Nat.ble (o+k) n) (some (pW d t k o)) none
def Y0:Ug->Nat->Tb V->Tb V
 | [],_,t=>t
 | v::a,o,t=>Y0 a (o+1) (t.set o v)
def kG:Ug->Nat->T V->T V
 | [],_,t=>t
 | v::a,o,t=>kG a (o+1) (t.set o (some v))
def zBH(l:Ug)(o:Nat)(vs:Ug):Option Cs:=match qz o vs l with|some r=>some (.ls r)|none=>none
def put:Cs->Nat->Ug->Option Cs
 | .ls l,o,a=>zBH l o a
 | .tb t n,o,a=>cond (Nat.ble (ws a o) n && Nat.ble n 511) (some (.tb (Y0 a o t) n)) none
 | .big d t n,o,a=>cond (Nat.ble (ws a o) n && Nat.ble n 262143) (some (.big d (kG a o t) n)) none
def WL(l:Ug)(m:Nat):Option Cs :=
 cond (Nat.ble m 511) (some (.tb (Y0 l 0 (Tb.leaf .nilptr)) m)) (cond (Nat.ble m 262143) (some (.big .nilptr (kG l 0 .leaf) m)) none)
def Pk(l vs:Ug)(m:Nat):Option Cs:=cond (Nat.ble m 16) (some (.ls (l++vs))) (WL (l++vs) m)
def Eo(t:Tb V)(n:Nat)(vs:Ug)(m:Nat):Option Cs :=
 cond (Nat.ble m 511) (some (.tb (Y0 vs n t) m)) (cond (Nat.ble m 262143) (some (.big .nilptr (kG vs n (kG (JC t n 0) 0 .leaf)) m)) none)
def app:Cs->Ug->Option Cs
 | .ls l,a=>Pk l a (ws l (ws a 0))
 | .tb t n,a=>Eo t n a (ws a n)
 | .big d t n,a=>cond (Nat.ble (ws a n) 262143) (some (.big d (kG a n t) (ws a n))) none
def ofL(l:Ug):Option Cs:=Pk [] l (ws l 0)
def rep(v:V)(n:Nat):Option Cs :=
 cond (Nat.ble n 511) (some (.tb (Tb.leaf v) n)) (cond (Nat.ble n 262143) (some (.big v .leaf n)) none)
theorem getL_eq:∀(l:Ug) (i:Nat),getL l i=l[i]?:=by
 intro l;induction l with
 | nil=>grind[getL]
 | cons v l ih=>intro i;cases i<;>grind[getL]
theorem We(t:Tb V):∀(k o:Nat),(JC t k o).length=k/\∀j,(JC t k o)[j]? = if j<k then some (Tb.get .nilptr t (o+j)) else none:=by
 intro k;induction k with
 | zero=>intro o;exact⟨rfl,λj=>by simp[JC]⟩
 | succ k ih =>
  intro o;obtain⟨a,b⟩:=ih (o+1);refine⟨by grind[JC],λj=>?_⟩;rcases j with _|j
  .simp[JC]
  simp only[JC,List.getElem?_cons_succ,b,show o+1+j=o+(j+1)from dd]
  grind
theorem FQ(d:V)(t:T V):∀(k o:Nat),(pW d t k o).length=k/\∀j,(pW d t k o)[j]? = if j<k then some (V8 d t (o+j)) else none:=by
 intro k;induction k with
 | zero=>intro o;exact⟨rfl,λj=>by simp[pW]⟩
 | succ k ih =>
  intro o;obtain⟨a,b⟩:=ih (o+1);refine⟨by grind[pW],λj=>?_⟩;rcases j with _|j
  .simp[pW]
  simp only[pW,List.getElem?_cons_succ,b,show o+1+j=o+(j+1)from dd]
  grind
theorem pB:∀(vs:Ug) (o:Nat) (t:Tb V) (i:Nat),o+vs.length<=511 ->
  Tb.get .nilptr (Y0 vs o t) i=if o<=i/\i<o+vs.length then (vs[i-o]?).getD .nilptr else Tb.get .nilptr t i:=by
 intro vs;induction vs with
 | nil=>simp_all[Y0,if_neg]
 | cons v vs ih =>
  intro o t i h;simp only[oc]at h ⊢;rw[Y0,ih _ _ _ dd,Tb.get_set _ _ _ _ _ (by grind[Tb.top])]
  grind
theorem YB:∀(vs:Ug) (o:Nat) (t:T V) (i:Nat),o+vs.length<=262143 ->
  (kG vs o t).get i=if o<=i/\i<o+vs.length then vs[i-o]? else t.get i:=by
 intro vs;induction vs with
 | nil=>simp_all[kG,if_neg]
 | cons v vs ih =>
  intro o t i h;simp only[oc]at h ⊢;rw[kG,ih _ _ _ dd,T.get_set _ _ _ _ (by grind[T.top])]
  grind
theorem aj{a b:Nat}(h:Nat.blt a b=true):a<b:=oG h
theorem get_lt{c:Cs}{i:Nat}{v:V}(h:c.get? i=some v):i<c.len:=by
 cases c with
 | ls l =>
  grind[get?,getL_eq,len,yF]
 | tb t n =>
  simp only[get?]at h;cases hb:Nat.blt i n with
  | true=>exact aj hb
  | false=>grind
 | big d t n =>
  simp only[get?]at h;cases hb:Nat.blt i n with
  | true=>exact aj hb
  | false=>grind
theorem range_eq{c:Cs}{o k:Nat}{x:Ug}(h:c.range o k=some x):x.length=k/\o+k<=c.len/\∀j,j<k->x[j]? = c.get? (o+j):=by
 cases c with
 | ls l =>
  simp only[range,Sz]at h;split at h
  .rename_i r hr;obtain⟨a1,rfl⟩:=VQ hr;obtain⟨a2,rfl⟩:=Zw h;simp only[List.length_drop]at a2;refine⟨by grind,by grind[len,yF],λj f=>?_⟩
   simp_all[get?,getL_eq]
  grind
 | tb t n =>
  simp only[range]at h;rcases hb:Nat.ble (o+k) n with _|_
  .grind
  simp only[hb,oN,oA]at h;subst h;have e:=oG hb;obtain⟨a,b⟩:=We t k o;refine⟨a,e,λj f=>?_⟩;have g:Nat.blt (o+j) n=true:=oE dd;rw[b,if_pos f];simp only[get?,g,oN]
 | big d t n =>
  simp only[range]at h;rcases hb:Nat.ble (o+k) n with _|_
  .grind
  simp only[hb,oN,oA]at h;subst h;have e:=oG hb;obtain⟨a,b⟩:=FQ d t k o;refine⟨a,e,λj f=>?_⟩;have g:Nat.blt (o+j) n=true:=oE dd;rw[b,if_pos f];simp only[get?,g,oN]
theorem range_mem{c:Cs}{o k:Nat}{x:Ug}(h:c.range o k=some x){v:V}(d:v∈x):∃i,c.get? i=some v:=by obtain⟨a,_,b⟩:=range_eq h<;>grind[List.mem_iff_getElem?]
theorem range_some{c:Cs}{o k:Nat}(h:o+k<=c.len):∃x,c.range o k=some x:=by
 cases c with
 | ls l =>
  simp only[len,yF,Nat.add_zero]at h;have hd:∀(n:Nat) (l:Ug),n<=l.length->KE n l=some (l.drop n):=by
   intro n;induction n with
   | zero=>grind[KE]
   | succ n ih=>intro l hl;cases l<;>grind[KE]
  have a:∀(n:Nat) (l:Ug),n<=l.length->Zv n l=some (l.take n):=by
   intro n;induction n with
   | zero=>grind[Zv]
   | succ n ih=>intro l hl;cases l<;>grind[Zv]
  grind[range,Sz]
 | tb t n=>have hb:Nat.ble (o+k) n=true:=oE h;exact⟨_,by simp only[range,hb,oN];rfl⟩
 | big d t n=>have hb:Nat.ble (o+k) n=true:=oE h;exact⟨_,by simp only[range,hb,oN];rfl⟩
theorem put_eq{c c':Cs}{o:Nat}{vs:Ug}(h:c.put o vs=some c'):
  o+vs.length<=c.len/\c'.len=c.len/\∀i,c'.get? i=if o<=i/\i<o+vs.length then vs[i-o]? else c.get? i:=by
 cases c with
 | ls l =>
  simp only[put,zBH]at h;split at h
  .rename_i r hr;simp only[oA]at h;subst h;obtain⟨s1,e,f⟩:=Zt hr<;>grind[len,yF,get?,getL_eq]
  grind
 | tb t n =>
  simp only[put]at h;rcases hb:(Nat.ble (ws vs o) n && Nat.ble n 511) with _|_
  .grind
  simp only[hb,oN,oA]at h;subst h;simp only[oI]at hb;have a:=oG hb.1;have h2:=oG hb.2;rw[yF]at a;refine⟨by grind[len],rfl,λi=>?_⟩;simp only[get?];rw[pB _ _ _ _ dd];by_cases hi:o<=i/\i<o+vs.length
  .have b:Nat.blt i n=true:=oE dd
   grind
  grind
 | big d t n =>
  simp only[put]at h;rcases hb:(Nat.ble (ws vs o) n && Nat.ble n 262143) with _|_
  .grind
  simp only[hb,oN,oA]at h;subst h;simp only[oI]at hb;have a:=oG hb.1;have h2:=oG hb.2;rw[yF]at a;refine⟨by grind[len],rfl,λi=>?_⟩;simp only[get?,V8];rw[YB _ _ _ _ dd];by_cases hi:o<=i/\i<o+vs.length
  .have b:Nat.blt i n=true:=oE dd
   grind
  grind
theorem Gf{l:Ug}{m:Nat}{c:Cs}(hm:m=l.length)(h:WL l m=some c):c.len=m/\∀i,c.get? i=l[i]?:=by
 unfold WL at h;cases hb:Nat.ble m 511 with
 | true =>
  simp only[hb,oN,oA]at h;subst h;have e:=oG hb;refine⟨rfl,λi=>?_⟩;simp only[get?];rw[pB _ _ _ _ dd];by_cases hi:i<m
  .have a:Nat.blt i m=true:=oE hi
   grind
  have a:Nat.blt i m=false:=by
   rcases d:Nat.blt i m with _|_
   .rfl
   exact absurd (aj d) hi
  grind
 | false =>
  simp only[hb,oO]at h;rcases b:Nat.ble m 262143 with _|_
  .grind
  simp only[b,oN,oA]at h;subst h;have e:=oG b;refine⟨rfl,λi=>?_⟩;simp only[get?,V8];rw[YB _ _ _ _ dd];by_cases hi:i<m
  .have a:Nat.blt i m=true:=oE hi
   grind
  have a:Nat.blt i m=false:=by
   rcases d:Nat.blt i m with _|_
   .rfl
   exact absurd (aj d) hi
  grind
theorem Ru{l vs:Ug}{m:Nat}{c:Cs}(hm:m=l.length+vs.length)(h:Pk l vs m=some c):c.len=m/\∀i,c.get? i=(l++vs)[i]?:=by
 unfold Pk at h;cases hb:Nat.ble m 16 with
 | true=>simp only[hb,oN,oA]at h;grind[len,yF,get?,getL_eq]
 | false =>
  simp only[hb,oO]at h
  grind[Gf,oW]
theorem ofL_eq{l:Ug}{c:Cs}(h:ofL l=some c):c.len=l.length/\∀i,c.get? i=l[i]?:=by
 have:=Ru (by simp[yF]) h
 grind[yF]
theorem app_eq{c c':Cs}{vs:Ug}(h:c.app vs=some c'):c'.len=c.len+vs.length/\∀i,c'.get? i=if i<c.len then c.get? i else vs[i-c.len]?:=by
 cases c with
 | ls l =>
  simp only[app]at h;obtain⟨a,b⟩:=Ru (by grind[yF]) h;refine⟨by grind[len,yF],λi=>?_⟩;rw[b];simp only[len,yF,Nat.add_zero,get?,getL_eq]
  grind
 | tb t n =>
  simp only[app,Eo]at h;cases hb:Nat.ble (ws vs n) 511 with
  | true =>
   simp only[hb,oN,oA]at h;subst h;have f:=oG hb;rw[yF]at f;refine⟨by grind[len,yF],λi=>?_⟩;show Cs.get? (.tb (Y0 vs n t) (ws vs n)) i=if i<n then Cs.get? (.tb t n) i else vs[i-n]?
   simp only[get?];rw[pB _ _ _ _ dd,yF];by_cases hi:i<n
   .have e:Nat.blt i (vs.length+n)=true:=oE dd;have j:Nat.blt i n=true:=oE hi
    grind
   rw[if_neg hi];by_cases hj:i<vs.length+n
   .have e:Nat.blt i (vs.length+n)=true:=oE hj
    grind
   have e:Nat.blt i (vs.length+n)=false:=by
    rcases k:Nat.blt i (vs.length+n) with _|_
    .rfl
    simp_all[aj]
   grind
  | false =>
   simp only[hb,oO]at h;rcases g:Nat.ble (ws vs n) 262143 with _|_
   .grind
   simp only[g,oN,oA]at h;subst h;have f:=oG g;rw[yF]at f;obtain⟨r1,r2⟩:=We t n 0;refine⟨by grind[len,yF],λi=>?_⟩;show Cs.get? (.big .nilptr (kG vs n (kG (JC t n 0) 0 .leaf)) (ws vs n)) i=if i<n then Cs.get? (.tb t n) i else vs[i-n]?
   simp only[get?,V8];rw[YB _ _ _ _ dd,YB _ _ _ _ dd,yF];by_cases hi:i<n
   .have e:Nat.blt i (vs.length+n)=true:=oE dd;have j:Nat.blt i n=true:=oE hi
    grind
   rw[if_neg hi];by_cases hj:i<vs.length+n
   .have e:Nat.blt i (vs.length+n)=true:=oE hj
    grind
   have e:Nat.blt i (vs.length+n)=false:=by
    rcases k:Nat.blt i (vs.length+n) with _|_
    .rfl
    simp_all[aj]
   grind
 | big d t n =>
  simp only[app]at h;rcases hb:Nat.ble (ws vs n) 262143 with _|_
  .grind
  simp only[hb,oN,oA]at h;subst h;have f:=oG hb;rw[yF]at f;refine⟨by grind[len,yF],λi=>?_⟩;show Cs.get? (.big d (kG vs n t) (ws vs n)) i=if i<n then Cs.get? (.big d t n) i else vs[i-n]?
  simp only[get?,V8];rw[YB _ _ _ _ dd,yF];by_cases hi:i<n
  .have e:Nat.blt i (vs.length+n)=true:=oE dd;have j:Nat.blt i n=true:=oE hi
   grind
  rw[if_neg hi];by_cases hj:i<vs.length+n
  .have e:Nat.blt i (vs.length+n)=true:=oE hj
   grind
  have e:Nat.blt i (vs.length+n)=false:=by
   rcases k:Nat.blt i (vs.length+n) with _|_
   .rfl
   simp_all[aj]
  grind
theorem rep_eq{v:V}{n:Nat}{c:Cs}(h:rep v n=some c):c.len=n/\∀i,c.get? i=if i<n then some v else none:=by
 unfold rep at h;have key:∀i,(cond (Nat.blt i n) (some v) none:Ui)=if i<n then some v else none:=λi=>by
  simp_all
 cases hb:Nat.ble n 511 with
 | true =>
  simp only[hb,oN,oA]at h;subst h;have b:=oG hb;refine⟨rfl,λi=>?_⟩;rw[<-key];simp only[get?];rcases hi:Nat.blt i n with _|_
  .rfl
  have:=aj hi;simp only[oN]
  grind[Tb.get,Tb.leaf,Tb.getF,N8.get_all,oE]
 | false =>
  simp only[hb,oO]at h;rcases a:Nat.ble n 262143 with _|_
  .grind
  simp only[a,oN,oA]at h;subst h;refine⟨rfl,λi=>?_⟩
  grind[get?,V8,T.get_leaf]
end Cs
def V.one:V->Bool
 | .agg _=>false
 | .tuple _=>false
 | _=>true
def zZ:V:=.tuple []
abbrev Tm:Type:=Tb V
def zq(tm:Tm)(t:Nat):V:=Tb.get zZ tm t
theorem wL(ρ:Env):zZ.conc ρ=undef:=by grind[zZ,V.conc,V.concL,undef]
theorem jH(D:Nat->Prop):zZ.In D:=by simp[zZ,V.In,V.InL]
structure TmR (ρ:Env) (D:Nat->Prop) (n:Nat) (tm:Tm) (a:Array Value):Prop where
 size:a.size=n
 cap:n<=Tb.top
 val:∀t,a.getD t undef=(zq tm t).conc ρ
 inn:∀t,(zq tm t).In D
structure Ent where
 key:V
 val:V
 born:Nat
def Ent.conc(ρ:Env)(e:Ent):MapEntry:={ key:=e.key.conc ρ,val:=e.val.conc ρ,born:=e.born }
structure Rk where
 n:Nat
 ty:Nat
 fz:Nat
inductive O where
 | cells (l:Cs) (esz:Rk) (wr op:Bool)
 | map (es:List Ent) (clock:Nat)
 | loop (st:LoopState) (pending:Option Code) (n:Nat) (tm:Tm) (params:Array Tmp) (assign body:Code) (dfr:Nat)
 | deferred (there:Bool)
 | strIter (l:Ua) (pos:Nat)
 | mapIter (m:Option Nat) (since:Nat) (seen:Uf) (stepped:Nat)
def O.wr:O->Bool
 | .cells _ _ w _=>w
 | _=>true
structure H where
 tbl:T O
 nx:Nat
 low:Nat
def H.get(h:H)(id:Nat):Option O:=h.tbl.get id
def ORel(ρ:Env)(D:Nat->Prop)(b:Nat):O->Option Obj->Prop
 | .cells l esz wr op,x=>∃c e fz,x=some (.cells c e fz)/\(∀i v,l.get? i=some v->c[ρ.off b+i]? = some (v.conc ρ))/\(∀i v,l.get? i=some v->v.In D) /\
   (wr=true->ρ.off b=0/\(∀i,i<c.size->esz.fz<=i->¬(fz.1<=i/\i<fz.2))/\l.len<=c.size/\c.size=(if op then ρ.cap b*esz.n else l.len) /\
    ∀t,esz.ty=t+1->e=t/\(fz.1=fz.2\/(fz.1=0/\fz.2<=esz.fz)))
 | .map es clock,x=>x=some (.map (es.map (Ent.conc ρ)).toArray clock)/\∀e∈es,e.key.In D/\e.val.In D
 | .loop st pending n tm params assign body dfr,x=>∃fn tmps,x=some (.loop { state:=st,pending,fn,tmps,params,assign,body,defers:=ρ.blk dfr })/\TmR ρ D n tm tmps/\D dfr
 | .deferred there,x=>x=some (.deferred (if there then some [] else none))
 | .strIter l pos,x=>x=some (.stringIter ⟨l.toArray⟩ pos)
 | .mapIter m since seen stepped,x=>x=some (.mapIter (m.map ρ.blk) since seen.toArray stepped)/\∀r,m=some r->D r
structure HR (ρ:Env) (D:Nat->Prop) (h:H) (w:World):Prop where
 cap:h.nx<=T.top
 lt:∀id,D id->id<h.nx
 rel:∀id o,D id->h.get id=some o->ORel ρ D id o w.heap[ρ.blk id]?
 inj:∀i j oi oj,D i->D j->h.get i=some oi->h.get j=some oj->oi.wr=true->ρ.blk i=ρ.blk j->i=j
def Dx(D:Nat->Prop)(h h':H):Nat->Prop:=λid=>D id\/(h.nx<=id/\id<h'.nx)
structure Mv (ρ:Env) (D:Nat->Prop) (h:H) (w:World) (ρ':Env) (h':H) (w':World):Prop where
 nx:h.nx<=h'.nx
 size:w.heap.size<=w'.heap.size
 os:w'.os=w.os
 tape:w'.tape=w.tape/\w.drawn<=w'.drawn
 output:w'.output=w.output
 agree:Agree D ρ ρ'
 old:∀id o',id<h.nx->h'.get id=some o'->∃o,h.get id=some o/\o'.wr=o.wr
 img:∀id o',h.nx<=id->id<h'.nx->h'.get id=some o'->o'.wr=true /\
  (w.heap.size<=ρ'.blk id\/∃j o,D j/\h.get j=some o/\o.wr=true/\ρ.blk j=ρ'.blk id/\h'.get j=none)
 frame:∀r,r<w.heap.size->(∀j o,D j->h.get j=some o->o.wr=true->ρ.blk j≠r)->w'.heap[r]? = w.heap[r]?
 low:h'.low<=h.low
 kept:∀id,id<h.nx->id<h'.low->h'.get id=h.get id
theorem wm{D:Nat->Prop}{h h':H}:∀id,D id->Dx D h h' id:=λ_=>.inl
theorem zd{D:Nat->Prop}{h:H}:Dx D h h=D:=by funext id;simp only[Dx,eq_iff_iff];grind
theorem jq{D:Nat->Prop}{h h':H}(e:h'.nx=h.nx):Dx D h h'=D:=by funext id;simp only[Dx,eq_iff_iff];grind
theorem wn{D:Nat->Prop}{h h1 h2:H}(a:h.nx<=h1.nx)(b:h1.nx<=h2.nx):Dx (Dx D h h1) h1 h2=Dx D h h2:=by funext id;simp only[Dx,eq_iff_iff];grind
theorem Mv.refl(ρ:Env)(D:Nat->Prop)(h:H)(w:World):Mv ρ D h w ρ h w :=
 ⟨oR _,oR _,rfl,⟨rfl,oR _⟩,rfl,Agree.refl _ _,λ_ o' _ e=>⟨o',e,rfl⟩,λ_ _ a b=>dd,λ_ _ _=>rfl,oR _,λ_ _ _=>rfl⟩
theorem Mv.trans{ρ ρ1 ρ2:Env}{D:Nat->Prop}{h h1 h2:H}{w w1 w2:World}(hD:∀id,D id->id<h.nx)(a:Mv ρ D h w ρ1 h1 w1)(b:Mv ρ1 (Dx D h h1) h1 w1 ρ2 h2 w2):Mv ρ D h w ρ2 h2 w2 where
 nx:=oS a.nx b.nx
 size:=oS a.size b.size
 os:=b.os.trans a.os
 tape:=⟨b.tape.1.trans a.tape.1,oS a.tape.2 b.tape.2⟩
 output:=b.output.trans a.output
 agree:=λid hid=>by obtain⟨x1,x2,x3⟩:=a.agree id hid;obtain⟨y1,y2,y3⟩:=b.agree id (.inl hid)<;>grind
 old:=λid o' hlt he=>by obtain⟨o1,he1,e1⟩:=b.old id o' (oL hlt a.nx) he;obtain⟨o,he2,e2⟩:=a.old id o1 hlt he1<;>grind
 img:=λid o' h0 h2' he=>by
  have dead:∀k,k<h.nx->h1.get k=none->h2.get k=none:=λk hk hn=>by
   rcases hc:h2.get k with _|o
   .rfl
   obtain⟨o1,he1,_⟩:=b.old k o (oL hk a.nx) hc<;>grind
  by_cases hid:id<h1.nx
  .obtain⟨o1,he1,e1⟩:=b.old id o' hid he;obtain⟨hw,hi⟩:=a.img id o1 h0 hid he1;have hag:=(b.agree id (.inr ⟨h0,hid⟩)).1
   grind
  obtain⟨hw,hi⟩:=b.img id o' dd h2' he;refine⟨hw,?_⟩;rcases hi with hi|⟨j,o,d1,d2,d3,d4,d5⟩
  .exact .inl (oS a.size hi)
  rcases d1 with d1|d1
  .obtain⟨o0,g1,g2⟩:=a.old j o (hD j d1) d2;exact .inr ⟨j,o0,d1,g1,g2.symm.trans d3,by rw[<-d4];exact(a.agree j d1).1.symm,d5⟩
  obtain⟨_,hj⟩:=a.img j o d1.1 d1.2 d2<;>grind
 frame:=λr hr hno=>by
  rw[b.frame r (oL hr a.size) ?_,a.frame r hr hno];intro j o d1 d2 d3;rcases d1 with d1|d1
  .obtain⟨o0,g1,g2⟩:=a.old j o (hD j d1) d2;rw[(a.agree j d1).1]
   grind
  obtain⟨_,hj⟩:=a.img j o d1.1 d1.2 d2<;>grind
 low:=oS b.low a.low
 kept:=λid h0 hl=>(b.kept id (oL h0 a.nx) hl).trans (a.kept id h0 (oL hl b.low))
theorem HR.of_heap{ρ:Env}{D:Nat->Prop}{h:H}{w w':World}(r:HR ρ D h w)(e:w'.heap=w.heap):HR ρ D h w' :=
 ⟨r.cap,r.lt,by rw[e];exact r.rel,r.inj⟩
theorem Mv.of_heap{ρ:Env}{D:Nat->Prop}{h:H}{w w':World}(e:w'.heap=w.heap)(c:w'.os=w.os)(e2:w'.tape=w.tape/\w.drawn<=w'.drawn)(d:w'.output=w.output):Mv ρ D h w ρ h w' :=
 ⟨oR _,by grind,c,e2,d,Agree.refl _ _,λ_ o' _ e=>⟨o',e,rfl⟩,λ_ _ a b=>dd,λr _ _=>by rw[e],oR _,λ_ _ _=>rfl⟩
def H.upd(h:H)(id:Nat)(o:Option O):H :=
 match h with
 | ⟨t,n,l⟩=>⟨t.set id o,n,cond (Nat.ble l id) l id⟩
def H.new(h:H)(o:O):H :=
 match h with
 | ⟨t,n,l⟩=>⟨t.set n (some o),n+1,l⟩
theorem H.upd_eq(h:H)(id:Nat)(o:Option O):h.upd id o = { tbl:=h.tbl.set id o,nx:=h.nx,low:=cond (Nat.ble h.low id) h.low id }:=rfl
theorem H.new_eq(h:H)(o:O):h.new o = { tbl:=h.tbl.set h.nx (some o),nx:=h.nx+1,low:=h.low }:=rfl
def Env.at(ρ : Env)(id blk cap : Nat): Env :=
  { blk := λi => if i = id then blk else ρ.blk i
    off := λi => if i = id then 0 else ρ.off i
    cap := λi => if i = id then cap else ρ.cap i }
@[simp] theorem Env.at_blk (ρ:Env) (id b c:Nat):(ρ.at id b c).blk id=b:=by simp[Env.at]
@[simp] theorem Env.at_off (ρ:Env) (id b c:Nat):(ρ.at id b c).off id=0:=by simp[Env.at]
@[simp] theorem Env.at_cap (ρ:Env) (id b c:Nat):(ρ.at id b c).cap id=c:=by simp[Env.at]
theorem Env.at_agree{ρ:Env}{D:Nat->Prop}{id b c:Nat}(h:¬D id):Agree D ρ (ρ.at id b c):=λi hi=>by
 grind[Env.at]
theorem H.low_upd(h:H)(id:Nat)(o:Option O):(h.upd id o).low=min h.low id:=by
 rw[H.upd_eq];cases hb:Nat.ble h.low id
 .have:¬h.low<=id:=λe=>by grind[oE]
  grind
 simp_all
theorem H.get_upd(h:H)(id j:Nat)(o:Option O)(hl:id<T.top):(h.upd id o).get j=if j=id then o else h.get j:=by
 grind[H.upd_eq,H.get,T.get_set]
theorem H.get_new(h:H)(j:Nat)(o:O)(hl:h.nx<T.top):(h.new o).get j=if j=h.nx then some o else h.get j:=by
 grind[H.new_eq,H.get,T.get_set]
theorem TmR.agree{ρ ρ':Env}{D D':Nat->Prop}{n:Nat}{tm:Tm}{a:Array Value}(h:TmR ρ D n tm a)(hs:∀id,D id->D' id)(b:Agree D ρ ρ'):TmR ρ' D' n tm a :=
 ⟨h.size,h.cap,λt=>by rw[V.conc_agree b _ (h.inn t)];exact h.val t,λt=>V.In_mono hs _ (h.inn t)⟩
theorem ORel.agree{ρ ρ':Env}{D D':Nat->Prop}{b:Nat}{o:O}{x:Option Obj}(h:ORel ρ D b o x)(hb:D b)(hs:∀id,D id->D' id)(d:Agree D ρ ρ'):ORel ρ' D' b o x:=by
 cases o with
 | cells l esz wr op =>
  obtain⟨c,e,fz,rfl,a,h2,h3⟩:=h;obtain⟨_,a2,a3⟩:=d b hb;refine⟨c,e,fz,rfl,λi v f=>?_,λi v f=>V.In_mono hs _ (h2 i v f),?_⟩
  .grind[V.conc_agree]
  grind
 | map es clock =>
  obtain⟨a,h2⟩:=h;refine⟨?_,λe g=>⟨V.In_mono hs _ (h2 e g).1,V.In_mono hs _ (h2 e g).2⟩⟩
  grind[List.map_congr_left,Ent.conc,V.conc_agree]
 | loop st pending n tm params assign body dfr=>obtain⟨fn,tmps,a,h2,h3⟩:=h;refine⟨fn,tmps,?_,h2.agree hs d,hs _ h3⟩;rw[a,(d dfr h3).1]
 | deferred there=>exact h
 | strIter l pos=>exact h
 | mapIter m since seen stepped =>
  obtain⟨a,h2⟩:=h;refine⟨?_,λr hr=>hs _ (h2 r hr)⟩;rcases m with _|r
  .exact a
  simp only[ol]at *;rw[(d r (h2 r rfl)).1];exact a
theorem ORel.some{ρ:Env}{D:Nat->Prop}{b:Nat}{o:O}{x:Option Obj}(h:ORel ρ D b o x):∃y,x=some y:=by
 cases o with
 | cells l esz wr op=>obtain⟨c,e,fz,rfl,_⟩:=h<;>grind
 | map es clock=>exact⟨_,h.1⟩
 | loop st pending n tm params assign body dfr=>obtain⟨fn,tmps,a,_⟩:=h<;>grind
 | deferred there=>exact⟨_,h⟩
 | strIter l pos=>exact⟨_,h⟩
 | mapIter m since seen stepped=>exact⟨_,h.1⟩
theorem HR.lt_size{ρ:Env}{D:Nat->Prop}{h:H}{w:World}(r:HR ρ D h w){id:Nat}{o:O}(hd:D id)(a:h.get id=some o):ρ.blk id<w.heap.size:=by obtain⟨y,b⟩:=(r.rel id o hd a).some<;>grind
theorem HR.upd{ρ:Env}{D:Nat->Prop}{h:H}{w:World}(r:HR ρ D h w){b:Nat}{o o':O}{x:Obj}(hd:D b)(hg:h.get b=some o)(hw:o.wr=true)(_:o'.wr=true)(hx:ORel ρ D b o' (some x)):HR ρ D (h.upd b (some o')) (w.putObj (ρ.blk b) x) where
 cap:=r.cap
 lt:=r.lt
 rel:=λid o1 d1 g1=>by
  have hb:b<T.top:=oL (r.lt b hd) r.cap;rw[H.get_upd _ _ _ _ hb]at g1;by_cases e:id=b
  .subst e;rw[if_pos rfl]at g1;cases g1;rw[World.putObj_heap_same (r.lt_size hd hg)];exact hx
  rw[if_neg e]at g1;have hne:ρ.blk id≠ρ.blk b:=λhc=>e (r.inj b id o o1 hd d1 hg g1 hw hc.symm).symm
  rw[World.putObj_heap_other hne];exact r.rel id o1 d1 g1
 inj:=λi j oi oj di dj gi gj wi hij=>by
  have hb:b<T.top:=oL (r.lt b hd) r.cap;rw[H.get_upd _ _ _ _ hb]at gi gj;by_cases ei:i=b
  .by_cases ej:j=b
   .rw[ei,ej]
   rw[if_neg ej]at gj;subst ei;exact r.inj i j o oj hd dj hg gj hw hij
  rw[if_neg ei]at gi;by_cases ej:j=b
  .subst ej;exact r.inj i j oi o di dj gi hg wi hij
  rw[if_neg ej]at gj;exact r.inj i j oi oj di dj gi gj wi hij
theorem Mv.upd{ρ:Env}{D:Nat->Prop}{h:H}{w:World}(r:HR ρ D h w){b:Nat}{o o':O}{x:Obj}(hd:D b)(hg:h.get b=some o)(hw:o.wr=true)(hw':o'.wr=true):
  Mv ρ D h w ρ (h.upd b (some o')) (w.putObj (ρ.blk b) x) where
 nx:=oR _
 size:=by simp
 os:=rfl
 tape:=⟨rfl,oR _⟩
 output:=rfl
 agree:=Agree.refl _ _
 old:=λid o1 _ g1=>by
  have hb:b<T.top:=oL (r.lt b hd) r.cap;rw[H.get_upd _ _ _ _ hb]at g1
  grind
 img:=λid _ a b _=>by grind[H.upd_eq]
 frame:=λk _ hk=>World.putObj_heap_other (λe=>hk b o hd hg hw e.symm)
 low:=by grind[H.low_upd]
 kept:=λid _ hl=>by have hb:b<T.top:=oL (r.lt b hd) r.cap;rw[H.low_upd]at hl;rw[H.get_upd _ _ _ _ hb,if_neg dd]
theorem HR.new{ρ:Env}{D:Nat->Prop}{h:H}{w:World}(r:HR ρ D h w){o:O}{x:Obj}(c:Nat)(s:h.nx<T.top)(t:ORel (ρ.at h.nx w.heap.size c) (Dx D h (h.new o)) h.nx o (some x)):HR (ρ.at h.nx w.heap.size c) (Dx D h (h.new o)) (h.new o) (w.alloc x):=by
 have l:¬D h.nx:=λhd=>by have:=r.lt _ hd;omega
 have b:Agree D ρ (ρ.at h.nx w.heap.size c):=Env.at_agree l;have a:∀id,Dx D h (h.new o) id->id=h.nx\/(D id/\id≠h.nx):=by
  rintro id (d|d)
  .exact .inr ⟨d,λe=>l (e ▸ d)⟩
  simp only[H.new_eq]at d;exact .inl dd
 refine⟨by simp only[H.new_eq];omega,?_,?_,?_⟩
 .rintro id d;rcases a id d with e|⟨d,_⟩
  .simp only[H.new_eq];omega
  have:=r.lt id d;simp only[H.new_eq];omega
 .rintro id u d g;rw[H.get_new _ _ _ s]at g;rcases a id d with e|⟨d1,e⟩
  .subst e;rw[if_pos rfl]at g;cases g;rw[Env.at_blk,World.alloc_heap_new];exact t
  rw[if_neg e]at g;have hr:=r.rel id u d1 g;have v:=r.lt_size d1 g;rw[(b id d1).1,show(w.alloc x).heap[ρ.blk id]? = w.heap[ρ.blk id]? from by
   show(w.heap.push x)[ρ.blk id]? = _;rw[Array.getElem?_push,if_neg dd]]
  exact hr.agree d1 wm b
 rintro i j oi oj k dj m n y f;rw[H.get_new _ _ _ s]at m n;rcases a i k with p|⟨k,p⟩<;>rcases a j dj with q|⟨dj,q⟩
 .rw[p,q]
 .rw[if_neg q]at n;have:=r.lt_size dj n;subst p;rw[Env.at_blk,(b j dj).1]at f;omega
 .rw[if_neg p]at m;have:=r.lt_size k m;subst q;rw[Env.at_blk,(b i k).1]at f;omega
 rw[if_neg p]at m;rw[if_neg q]at n;rw[(b i k).1,(b j dj).1]at f;exact r.inj i j oi oj k dj m n y f
theorem Mv.new{ρ:Env}{D:Nat->Prop}{h:H}{w:World}(r:HR ρ D h w){o:O}{x:Obj}(c:Nat)(a:h.nx<T.top)(hw:o.wr=true):
  Mv ρ D h w (ρ.at h.nx w.heap.size c) (h.new o) (w.alloc x):=by
 have b:¬D h.nx:=λhd=>by have:=r.lt _ hd;omega
 refine⟨by simp[H.new_eq],by simp,rfl,⟨rfl,oR _⟩,rfl,Env.at_agree b,?_,?_,?_,oR _,?_⟩
 .intro id e f d;rw[H.get_new _ _ _ a,if_neg dd]at d;grind
 .intro id e g i d;simp only[H.new_eq]at i;obtain rfl:id=h.nx:=dd
  rw[H.get_new _ _ _ a,if_pos rfl]at d;simp_all
 .intro k j _;show(w.heap.push x)[k]? = _
  grind
 intro id g _;rw[H.get_new _ _ _ a,if_neg dd]
structure TI where
 id:Nat
 desc:TypeDesc
 size:Nat
 bytes:Nat
 zero:Ui
 cmp:Bool
 held:Bool
 guard:Bool
 meth:List Method
structure FI where
 n:Nat
 results:List ResultVar
 body:Code
structure Ctx where
 ty:T TI
 fn:T FI
 noesc:Option Nat
 mnz:Option (Nat×Nat)
 lies:Nat->Nat->Nat->Bool
inductive AD where
 | coll (id:Nat)
 | fn (f:Nat) (captured args:Ug)
def LA:Value->Ui
 | .bool b=>some (.bool b)
 | .int k n=>some (.int k n)
 | .string s=>some (.str s.data.toList)
 | .pointer none=>some .nilptr
 | .slice none 0 0=>some .nilslice
 | .map none=>some .nilmap
 | .func (.func f) ⟨[]⟩ ⟨[]⟩=>some (.func (.func f) [] [])
 | .nilFunc=>some .nilFunc
 | .nilIface=>some .nilIface
 | _=>none
def LB:List Value->Option Ug
 | []=>some []
 | v::l =>
  match LA v with
  | none=>none
  | some x =>
   match LB l with
   | none=>none
   | some y=>some (x::y)
def ofV:Value->Ui
 | .agg ⟨l⟩=>match LB l with|some x=>some (.agg x)|none=>none
 | .iface t v=>match LA v with|some x=>some (.iface t x)|none=>none
 | v=>LA v
def yt(tm:Tm):Operand->Ui
 | .tmp t=>some (zq tm t)
 | .const v=>ofV v
 | .func f=>some (.func (.func f) [] [])
 | .global _=>none
def Xw(e:Uh):List Operand->Option Ug
 | []=>some []
 | x::l =>
  match e x with
  | none=>none
  | some v =>
   match Xw e l with
   | none=>none
   | some r=>some (v::r)
def jx:TypeDesc->Bool
 | .struct _=>true
 | .array _ _=>true
 | _=>false
def zU:Ug->Bool
 | []=>true
 | v::l=>cond v.one (zU l) false
def V.cells:V->Ug
 | .agg l=>l
 | v=>[v]
def YP:Ua->Nat->Nat
 | [],n=>n
 | _::l,n=>YP l (n+1)
def we:Ug->Nat->Bool
 | [],0=>true
 | _::l,n+1=>we l n
 | _,_=>false
def ye(c:Ctx)(t:TypeId)(h:H):V->Ui
 | .ptr b o =>
  match h.get b with
  | some (.cells l _ _ _) =>
   match c.ty.get t with
   | some ti =>
    cond (jx ti.desc) (match l.range o ti.size with|some x=>some (.agg x)|none=>none) (l.get? o)
   | none=>none
  | _=>none
 | _=>none
def jP(c : Ctx)(t : TypeId)(h : H)(a v : V): Option H :=
  match a with
  | .ptr b o =>
    match h.get b with
    | some (.cells l esz true op) =>
      match c.ty.get t with
      | some ti =>
        cond (we v.cells ti.size)
          (cond (cond (Nat.ble esz.fz o) (zU v.cells) false)
            (match l.put o v.cells with
            | some l' => some (h.upd b (some (.cells l' esz true op)))
            | none => none) none) none
      | none => none
    | _ => none
  | _ => none
def kJ(h:H)(r:Option Cs)(esz:Rk)(op:Bool):Option (Nat×H) :=
 cond (Nat.blt h.nx T.top) (match r with|some cs=>some (h.nx,h.new (.cells cs esz true op))|none=>none) none
def qg(h:H)(l:Ug)(esz:Rk)(op:Bool):Option (Nat×H):=cond (zU l) (kJ h (Cs.ofL l) esz op) none
def yD(k:IntKind)(n:Int):Int :=
 match k with
 | .i64=>match n with
  | .ofNat m=>cond (Nat.blt m 9223372036854775808) (.ofNat m) (k.wrap (.ofNat m))
  | .negSucc m=>cond (Nat.blt m 9223372036854775808) (.negSucc m) (k.wrap (.negSucc m))
 | .u64=>match n with
  | .ofNat m=>cond (Nat.blt m 18446744073709551616) (.ofNat m) (.ofNat (m % 18446744073709551616))
  | .negSucc m=>k.wrap (.negSucc m)
 | .u8=>match n with
  | .ofNat m=>.ofNat (m % 256)
  | .negSucc m=>k.wrap (.negSucc m)
 | k=>k.wrap n
def lX:Int->Int->Bool
 | .ofNat a,.ofNat b=>Nat.blt a b
 | .ofNat _,.negSucc _=>false
 | .negSucc _,.ofNat _=>true
 | .negSucc a,.negSucc b=>Nat.blt b a
def sS:Int->Int->Bool
 | .ofNat a,.ofNat b=>Nat.beq a b
 | .negSucc a,.negSucc b=>Nat.beq a b
 | _,_=>false
def Av:Int->Int->Int
 | .ofNat a,.ofNat b=>.ofNat (a+b)
 | a,b=>a+b
def Cz:Int->Int->Int
 | .ofNat a,.ofNat b=>cond (Nat.ble b a) (.ofNat (a-b)) (.negSucc (b-a-1))
 | a,b=>a-b
def zAq:Int->Int->Int
 | .ofNat a,.ofNat b=>.ofNat (a*b)
 | a,b=>a*b
def RL(x:Int)(n:Nat):Int :=
 match x with
 | .ofNat a=>.ofNat (Nat.shiftRight a n)
 | x=>x.fdiv (2^n)
def Lh(x:Int)(n:Nat):Int :=
 match x with
 | .ofNat a=>.ofNat (Nat.shiftLeft a n)
 | x=>x*2^n
def zDD:Int->Int->Int
 | .ofNat a,.ofNat b=>.ofNat (a/b)
 | a,b=>a.tdiv b
def zGC:Int->Int->Int
 | .ofNat a,.ofNat b=>.ofNat (a % b)
 | a,b=>a.tmod b
def jy:IntKind->IntKind->Bool
 | .i8,.i8 | .i16,.i16 | .i32,.i32 | .i64,.i64 | .u8,.u8 | .u16,.u16 | .u32,.u32 | .u64,.u64=>true
 | _,_=>false
def bi(op:BinOp)(k:IntKind)(x y:Int):Ui :=
 let a:=BitVec.ofInt k.bits x
 let b:=BitVec.ofInt k.bits y
 match op with
 | .and=>some (.int k (k.wrap (a &&& b).toNat))
 | .or=>some (.int k (k.wrap (a ||| b).toNat))
 | .xor=>some (.int k (k.wrap (a ^^^ b).toNat))
 | .andNot=>some (.int k (k.wrap (a &&& ~~~b).toNat))
 | _=>none
def wI(op:BinOp)(k:IntKind)(x y:Int):Ui :=
 match op with
 | .add=>some (.int k (yD k (Av x y)))
 | .sub=>some (.int k (yD k (Cz x y)))
 | .mul=>some (.int k (yD k (zAq x y)))
 | .quo=>cond (sS y 0) none (some (.int k (yD k (zDD x y))))
 | .rem=>cond (sS y 0) none (some (.int k (zGC x y)))
 | .eql=>some (.bool (sS x y))
 | .neq=>some (.bool (!sS x y))
 | .lss=>some (.bool (lX x y))
 | .leq=>some (.bool (!lX y x))
 | .gtr=>some (.bool (lX y x))
 | .geq=>some (.bool (!lX x y))
 | .shl=>cond (lX y 0) none (some (.int k (yD k (Lh x (cond (Nat.ble y.toNat k.bits) y.toNat k.bits)))))
 | .shr=>cond (lX y 0) none (some (.int k (RL x (cond (Nat.ble y.toNat k.bits) y.toNat k.bits))))
 | op=>bi op k x y
def KU:BinOp->Bool
 | .shl | .shr=>true
 | _=>false
def eqB:Ua->Ua->Bool
 | [],[]=>true
 | a::x,b::y=>cond (Nat.beq a.toNat b.toNat) (eqB x y) false
 | _,_=>false
def RX(op:BinOp)(x y:Ua):Ui :=
 match op with
 | .add=>cond (Nat.ble (YP x (YP y 0)) 4611686018427387904) (some (.str (x++y))) none
 | .eql=>some (.bool (eqB x y))
 | .neq=>some (.bool (!eqB x y))
 | .lss=>some (.bool (Op.bytesLess x y))
 | .geq=>some (.bool (!Op.bytesLess x y))
 | _=>none
def eq1(d:TypeDesc)(x y:V):Option Bool :=
 match d,x,y with
 | .bool,.bool a,.bool b=>some (a == b)
 | .int _,.int j a,.int k b=>cond (jy j k) (some (sS a b)) none
 | .string,.str a,.str b=>some (eqB a b)
 | .pointer _,.nilptr,.nilptr=>some true
 | .pointer _,.nilptr,.ptr _ _=>some false
 | .pointer _,.ptr _ _,.nilptr=>some false
 | .interface _,.nilIface,.nilIface=>some true
 | .interface _,.nilIface,.iface _ _=>some false
 | .interface _,.iface _ _,.nilIface=>some false
 | .slice _,.nilslice,.nilslice=>some true
 | .slice _,.nilslice,.slice _ _ _ _=>some false
 | .slice _,.slice _ _ _ _,.nilslice=>some false
 | .map _ _,.nilmap,.nilmap=>some true
 | .map _ _,.nilmap,.map _=>some false
 | .map _ _,.map _,.nilmap=>some false
 | .func _ _ _,.nilFunc,.nilFunc=>some true
 | .func _ _ _,.nilFunc,.func _ _ _=>some false
 | .func _ _ _,.nilFunc,.yield _=>some false
 | .func _ _ _,.func _ _ _,.nilFunc=>some false
 | .func _ _ _,.yield _,.nilFunc=>some false
 | _,_,_=>none
def apart(ti:TI)(l:Ug)(off:Nat):Ui :=
 match KE off l with
 | none=>none
 | some r=>cond (jx ti.desc) (match Zv ti.size r with|some x=>some (.agg x)|none=>none) (match r with|v::_=>some v | []=>none)
def Ic(c : Ctx)(rec_ : TypeId -> V -> V -> Option Bool): List Field -> Ug -> Ug -> Option Bool
  | [], _, _ => some true
  | f::fs, xs, ys =>
    cond (f.name == "_") none
      (match c.ty.get f.type with
      | none => none
      | some ti =>
        match apart ti xs f.offset, apart ti ys f.offset with
        | some x, some y =>
          match rec_ f.type x y with
          | some true => Ic c rec_ fs xs ys
          | r => r
        | _, _ => none)
def Ib(ti:TI)(a:V->V->Option Bool):Nat->Nat->Ug->Ug->Option Bool
 | 0,_,_,_=>some true
 | k+1,i,xs,b =>
  match apart ti xs (i*ti.size),apart ti b (i*ti.size)with
  | some x,some y =>
   match a x y with
   | some true=>Ib ti a k (i+1) xs b
   | r=>r
  | _,_=>none
def pD(c:Ctx):Nat->TypeId->V->V->Option Bool
 | 0,_,_,_=>none
 | d+1,t,x,y =>
  match c.ty.get t with
  | none=>none
  | some ti =>
   match ti.desc,x,y with
   | .struct g,.agg xs,.agg f=>cond ti.held none (Ic c (pD c d) g.toList xs f)
   | .array n e,.agg xs,.agg f=>match c.ty.get e with|none=>none|some a=>Ib a (pD c d e) n 0 xs f
   | .interface _,.iface tx h,.iface ty i =>
    cond (Nat.beq tx ty) (match c.ty.get tx with|none=>none|some ti=>cond ti.cmp (pD c d tx h i) none) (some false)
   | .pointer a,.ptr b o,.ptr j o'=>match c.ty.get a with|none=>none|some a=>cond (Nat.beq b j && Nat.blt 0 a.size) (some (Nat.beq o o')) none
   | d,x,y=>eq1 d x y
def KT:Operand->Bool
 | .const _=>true
 | _=>false
def rM(c:Ctx)(t:TypeId)(x y:Operand)(a b:V):Bool :=
 match a,b with
 | .nilIface,.nilIface=>KT x || KT y
 | .agg _,.agg _=>match c.ty.get t with|some ti=>!ti.guard|none=>false
 | _,_=>true
def Yf(c:Ctx)(op:BinOp)(t:TypeId)(x y:Operand)(a b:V):Ui :=
 match a,b with
 | .int k m,.int d n=>cond (KU op) (wI op k m n) (cond (jy k d) (wI op k m n) none)
 | .str m,.str n=>RX op m n
 | a,b =>
  match op with
  | .eql=>cond (rM c t x y a b) (match pD c 30 t a b with|some r=>some (.bool r)|none=>none) none
  | .neq=>cond (rM c t x y a b) (match pD c 30 t a b with|some r=>some (.bool (!r))|none=>none) none
  | _=>none
def aun:UnOp->V->Ui
 | .neg,.int k n=>some (.int k (yD k (Cz 0 n)))
 | .xor,.int k n=>bi .xor k (if k.signed then -1 else k.max) n
 | .not,.bool b=>some (.bool (!b))
 | _,_=>none
def wN:Ug->Option Ua
 | []=>some []
 | .int .u8 n::l=>match wN l with|some r=>some (UInt8.ofNat n.toNat::r)|none=>none
 | _::_=>none
def yU:Ua->Ug
 | []=>[]
 | b::l=>.int .u8 (.ofNat b.toNat)::yU l
def xm(z:Ug):Nat->Ug
 | 0=>[]
 | n+1=>z++xm z n
def ya:Int->Option Nat
 | .ofNat n=>some n
 | .negSucc _=>none
def wZ(c:Ctx)(s d:TypeId)(h:H)(v:V):Option (V×H) :=
 match c.ty.get s,c.ty.get d with
 | some f,some g =>
  match f.desc,g.desc,v with
  | .int _,.int k,.int _ n=>some (.int k (yD k n),h)
  | .string,.string,.str l=>some (.str l,h)
  | .string,.slice e,.str l =>
   match c.ty.get e with
   | some a =>
    match a.desc with
    | .int .u8=>match qg h (yU l) ⟨1,0,0⟩ true with|some (b,h')=>some (.slice b 0 (YP l 0) (.skip 0),h')|none=>none
    | _=>none
   | none=>none
  | .slice e,.string,.nilslice =>
   match c.ty.get e with
   | some a=>match a.desc with | .int .u8=>some (.str [],h)|_=>none
   | none=>none
  | .pointer t,.unsafePointer,.ptr b o =>
   match c.ty.get t,h.get b with
   | some i,some (.cells l _ _ _)=>cond (Nat.blt 0 i.size) (match l.get? o with|some _=>some (.ptr b o,h)|none=>none) none
   | _,_=>none
  | .unsafePointer,.pointer u,.ptr b o =>
   match c.ty.get u,h.get b with
   | some _,some (.cells l esz true false) =>
    match esz.ty with
    | e+1=>match c.ty.get e with
     | some a=>cond (Nat.blt 0 a.size && Nat.beq l.len a.size && c.lies e u o) (some (.ptr b o,h)) none
     | none=>none
    | 0=>none
   | _,_=>none
  | .slice e,.string,.slice b o len _ =>
   match c.ty.get e with
   | some a =>
    match a.desc with
    | .int .u8 =>
     match h.get b with
     | some (.cells l _ _ _) =>
      match l.range o len with
      | some x=>(match wN x with|some y=>some (.str y,h)|none=>none)
      | none=>none
     | _=>none
    | _=>none
   | none=>none
  | .slice _,.slice e,.slice b o len j =>
   cond (Nat.beq s d) (match c.ty.get e with
   | some a =>
    match a.desc with
    | .int .u8 =>
     match h.get b with
     | some (.cells l esz true op)=>cond (Nat.beq esz.fz 0 && Nat.blt 0 esz.ty) (some (.slice b o len j,h.upd b (some (.cells l ⟨esz.n,0,0⟩ true op)))) none
     | _=>none
    | _=>none
   | none=>none) none
  | _,_,_=>none
 | _,_=>none
def bnd:Ui->Nat->Nat->Option Nat
 | none,d,_=>some d
 | some (.int _ n),_,top=>match ya n with|some m=>cond (Nat.ble m top) (some m) none|none=>none
 | some _,_,_=>none
def zS(l:Ua)(lo hi:Nat):Ua:=(l.drop lo).take (hi-lo)
def Rx(b o k:Nat)(mx hi lo:Ui):Ui :=
 match mx,hi,lo with
 | none,some (.int _ (.ofNat 0)),none=>some (.slice b o 0 (.skip k))
 | _,_,_=>none
def zw(c:Ctx)(t:TypeId)(h:H)(x:V)(lo hi mx:Ui):Ui :=
 match c.ty.get t with
 | none=>none
 | some ti =>
  match ti.desc,x with
  | .string,.str l =>
   match mx with
   | some _=>none
   | none =>
    let n:=YP l 0
    match bnd hi n n with
    | none=>none
    | some hh=>match bnd lo 0 hh with|none=>none|some ll=>some (.str (zS l ll hh))
  | .array n e,.ptr b o =>
   match c.ty.get e with
   | none=>none
   | some te =>
    match bnd mx n n with
    | none=>none
    | some m =>
     match bnd hi n m with
     | none=>none
     | some hh =>
      cond (mx.isSome && hi.isNone) none
      (match bnd lo 0 hh with
      | none=>none
      | some ll=>some (.slice b (cond (Nat.beq m ll) o (o+ll*te.size)) (hh-ll) (.exact (m-ll))))
  | .slice e,.nilslice =>
   match c.ty.get e with
   | none=>none
   | some _ =>
    match bnd mx 0 0 with
    | none=>none
    | some m =>
     match bnd hi 0 m with
     | none=>none
     | some hh=>cond (mx.isSome && hi.isNone) none (match bnd lo 0 hh with|none=>none|some _=>some .nilslice)
  | .slice e,.slice b o len (.exact cp) =>
   match c.ty.get e with
   | none=>none
   | some te =>
    match bnd mx cp cp with
    | none=>none
    | some m =>
     match bnd hi len m with
     | none=>none
     | some hh =>
      cond (mx.isSome && hi.isNone) none
      (match bnd lo 0 hh with
      | none=>none
      | some ll=>some (.slice b (cond (Nat.beq m ll) o (o+ll*te.size)) (hh-ll) (.exact (m-ll))))
  | .slice e,.slice b o len (.skip k) =>
   match c.ty.get e,h.get b with
   | some te,some (.cells l esz true true) =>
    cond (Nat.beq esz.n te.size && Nat.blt 0 esz.n && Nat.beq o (k*esz.n))
    (cond (Nat.ble (o+len*esz.n) l.len)
     (match mx with
     | some _ =>
      cond hi.isNone none
      (match bnd mx 0 len with
      | none=>none
      | some m =>
       match bnd hi len m with
       | none=>none
       | some hh =>
        match bnd lo 0 hh with
        | none=>none
        | some ll=>some (.slice b (cond (Nat.beq m ll) o (o+ll*te.size)) (hh-ll) (.exact (m-ll))))
     | none =>
      match bnd hi len len with
      | none=>none
      | some hh =>
       match bnd lo 0 hh with
       | none=>none
       | some ll =>
        cond (Nat.beq ll 0) (some (.slice b o hh (.skip k)))
        (cond (Nat.blt ll len) (some (.slice b (o+ll*te.size) (hh-ll) (.skip (k+ll)))) (cond (Nat.beq ll len) (some (.tail b o (ll*te.size) (k+ll))) none))) (Rx b o k mx hi lo)) none
   | _,_=>none
  | _,_=>none
def xK(c:Ctx)(t:TypeId)(x d:V):Ui :=
 match d with
 | .int _ n =>
  match ya n,c.ty.get t with
  | some i,some ti =>
   match ti.desc,x with
   | .array len e,.ptr b o=>cond (Nat.blt i len) (match c.ty.get e with|some a=>some (.ptr b (o+i*a.size))|none=>none) none
   | .slice e,.slice b o len _=>cond (Nat.blt i len) (match c.ty.get e with|some a=>some (.ptr b (o+i*a.size))|none=>none) none
   | _,_=>none
  | _,_=>none
 | _=>none
def JQ:Ua->Nat->Option UInt8
 | [],_=>none
 | b::_,0=>some b
 | _::l,n+1=>JQ l n
def wM(c:Ctx)(t:TypeId)(x d:V):Ui :=
 match d with
 | .int _ n =>
  match ya n,c.ty.get t with
  | some i,some ti =>
   match ti.desc,x with
   | .array len e,.agg cs=>cond (Nat.blt i len) (match c.ty.get e with|some a=>apart a cs (i*a.size)|none=>none) none
   | .string,.str l=>match JQ l i with|some b=>some (.int .u8 (.ofNat b.toNat))|none=>none
   | _,_=>none
  | _,_=>none
 | _=>none
def Ec(c:Ctx)(t:TypeId)(x:V)(f:Nat):Ui :=
 match c.ty.get t with
 | some ti =>
  match ti.desc,x with
  | .struct b,.agg cs =>
   match b[f]? with
   | some a=>match c.ty.get a.type with|some d=>apart d cs a.offset|none=>none
   | none=>none
  | _,_=>none
 | none=>none
def Xu(c:Ctx)(place:Nat->Option (Nat×Nat)):Ug->List (Nat×V)->Option Ug
 | cells,[]=>some cells
 | cells,(i,v)::a =>
  match place i with
  | none=>none
  | some (off,size) =>
   cond (we v.cells size) (match qz off v.cells cells with|some r=>Xu c place r a|none=>none) none
def Yq(c:Ctx)(a:Array Field)(i:Nat):Option (Nat×Nat) :=
 match a[i]? with
 | some f=>match c.ty.get f.type with|some ti=>some (f.offset,ti.size)|none=>none
 | none=>none
def T2(c:Ctx):List Field->Bool
 | []=>true
 | f::l=>match c.ty.get f.type with|some _=>T2 c l|none=>false
def qe(c:Ctx)(t:TypeId)(parts:List (Nat×V)):Ui :=
 match c.ty.get t with
 | some ti =>
  match ti.zero with
  | some z =>
   match ti.desc with
   | .struct a=>cond (T2 c a.toList) (match Xu c (Yq c a) z.cells parts with|some r=>some (.agg r)|none=>none) none
   | .array _ e =>
    match c.ty.get e with
    | some b=>match Xu c (λi=>some (i*b.size,b.size)) z.cells parts with|some r=>some (.agg r)|none=>none
    | none=>none
   | _=>none
  | none=>none
 | none=>none
def uZ(z:Ug)(k:Nat):Option Cs :=
 match z with
 | [v]=>Cs.rep v k
 | _=>Cs.ofL (xm z k)
def zO(c:Ctx)(t:TypeId)(len:Nat)(parts:List (Nat×V))(h:H):Option (V×H) :=
 match c.ty.get t with
 | some ti =>
  match ti.desc with
  | .slice e =>
   match c.ty.get e with
   | some a =>
    match a.zero with
    | some z =>
     cond (Nat.ble (len*a.size) 1048576)
     (cond (we z.cells a.size)
      (match Xu c (λi=>some (i*a.size,a.size)) (xm z.cells len) parts with
      | some r=>match qg h r ⟨0,e+1,0⟩ false with|some (b,h')=>some (.slice b 0 len (.exact len),h')|none=>none
      | none=>none) none) none
    | none=>none
   | none=>none
  | _=>none
 | none=>none
def Z7(c:Ctx)(t:TypeId)(len cp:V)(h:H):Option (V×H) :=
 match len,cp with
 | .int _ ln,.int _ cn =>
  match ya ln,ya cn with
  | some l,some k =>
   match c.ty.get t with
   | some ti =>
    match ti.desc with
    | .slice e =>
     match c.ty.get e with
     | some te =>
      match te.zero with
      | some z =>
       cond (Nat.ble l k && Nat.ble k 4294967296 && Nat.ble (te.bytes*k) 1099511627776 && we z.cells te.size)
        (match kJ h (uZ z.cells k) ⟨0,0,0⟩ false with|some (b,h')=>some (.slice b 0 l (.exact k),h')|none=>none) none
      | none=>none
     | none=>none
    | _=>none
   | none=>none
  | _,_=>none
 | _,_=>none
def yT(esz:Nat)(h:H):V->Option (Nat×Ug)
 | .nilslice=>some (0,[])
 | .tail _ _ _ _=>some (0,[])
 | .str l=>cond (Nat.beq esz 1) (some (YP l 0,yU l)) none
 | .slice b o len _ =>
  match h.get b with
  | some (.cells l _ _ _) =>
   match l.range o (len*esz)with|some x=>some (len,x)|none=>none
  | _=>none
 | _=>none
def qq(h:H)(b:Nat):H:=h.upd b none
def jD(k:Rk)(te:TI)(h:H)(r:Option Cs)(a:Nat):Option (V×H) :=
 cond (Nat.ble (a*te.bytes) 1099511627776)
  (match kJ h r k true with|some (b,h')=>some (.slice b 0 a (.skip 0),h')|none=>none) none
def qh(h:H)(b o len:Nat)(cp:Cap)(esz c:Nat)(l:Cs)(a:Rk)(op:Bool)(new:Ug):Option (V×H) :=
 match l.put (o+len*esz) new with
 | some d=>cond (Nat.ble a.fz (o+len*esz)) (some (.slice b o c cp,h.upd b (some (.cells d a true op)))) none
 | none=>none
def Yh(te:TI)(h:H)(b o len k c:Nat)(l:Cs)(a:Rk)(new:Ug):Option (V×H) :=
 cond (Nat.beq k 0 && Nat.beq l.len (o+len*te.size) && Nat.ble a.fz (o+len*te.size) && (Nat.beq a.ty 0 || Nat.beq a.ty (te.id+1))) (jD a te (qq h b) (l.app new) c) none
def kX(te:TI)(h:H)(b o len k n:Nat)(l:Cs)(a:Rk)(wr op:Bool)(new:Ug):Option (V×H) :=
 cond (wr && op && Nat.beq te.size a.n && Nat.beq o (k*te.size) && zU new && Nat.ble (o+len*te.size) l.len)
  (cond (Nat.beq n 0) (some (.slice b o len (.skip k),h))
   (match qh h b o len (.skip k) te.size (len+n) l a op new with
   | some r=>some r
   | none=>Yh te h b o len k (len+n) l a new)) none
def xD(te:TI):Rk:=⟨te.size,te.id+1,0⟩
def Xo(l:Cs)(o m:Nat)(new:Ug):Option Cs :=
 match l.range o m with
 | some old=>cond (zU new) (Cs.ofL (old++new)) none
 | none=>none
def jO(te:TI)(h:H)(b o len k n:Nat)(l:Cs)(a:Rk)(wr op:Bool)(new:Ug):Option (V×H) :=
 cond (Nat.ble (len+n) k)
  (cond (wr && zU new) (cond (Nat.beq n 0) (some (.slice b o len (.exact k),h)) (qh h b o len (.exact k) te.size (len+n) l a op new)) none)
  (jD (xD te) te h (Xo l o (len*te.size) new) (len+n))
def appTo(te:TI)(h:H)(n:Nat)(new:Ug):V->Option (V×H)
 | .nilslice=>cond (Nat.beq n 0) (some (.nilslice,h)) (jD (xD te) te h (cond (zU new) (Cs.ofL new) none) n)
 | .slice b o len c =>
  match h.get b with
  | some (.cells l a wr op) =>
   match c with
   | .exact k=>jO te h b o len k n l a wr op new
   | .skip k=>kX te h b o len k n l a wr op new
  | _=>none
 | _=>none
def jo(te:TI):Bool :=
 Nat.blt 0 te.size && Nat.blt 0 te.bytes && (match te.zero with|some z=>we z.cells te.size|none=>false)
def zi(c:Ctx)(t:TypeId)(h:H)(s x:V):Option (V×H) :=
 match c.ty.get t with
 | some ti =>
  match ti.desc with
  | .slice e =>
   match c.ty.get e with
   | some a=>cond (jo a) (match yT a.size h x with|none=>none|some (n,new)=>appTo a h n new s) none
   | none=>none
  | _=>none
 | none=>none
def Xs(c:Ctx)(t:TypeId)(h:H)(s x:V):Option (V×H) :=
 match c.ty.get t with
 | some ti =>
  match ti.desc with
  | .slice e =>
   match c.ty.get e with
   | some a=>cond (jo a && Nat.beq a.size 1)
    (match x,a.zero with
    | .int .i64 (.ofNat k),some z=>cond (Nat.ble (k*a.bytes) 1099511627776)
     (match z.cells with
     | [u]=>appTo a h k (List.replicate k u) s
     | _=>none) none
    | _,_=>none) none
   | none=>none
  | _=>none
 | none=>none
def YE(c:Ctx)(tx t:TypeId)(h:H)(s x:V):Option (V×H) :=
 match c.ty.get tx with
 | some ti =>
  match ti.desc with
  | .string=>zi c t h s x
  | .slice _=>zi c t h s x
  | .int _=>Xs c t h s x
  | _=>none
 | none=>none
def Rr(c : Ctx)(t : TypeId)(h : H)(d x : V): Option (V × H) :=
  match c.ty.get t with
  | some ti =>
    match ti.desc with
    | .slice e =>
      match c.ty.get e with
      | some te =>
        match yT te.size h x with
        | none => none
        | some (n, new) =>
          match d with
          | .nilslice => some (.int .i64 0, h)
          | .slice b o len _ =>
            match h.get b with
            | some (.cells l esz true op) =>
              let m := cond (Nat.ble n len) n len
              match Zv (m * te.size) new with
              | some cs =>
                cond (cond (Nat.ble esz.fz o) (zU cs) false) (match l.put o cs with
                | some l' => some (.int .i64 (.ofNat m), h.upd b (some (.cells l' esz true op)))
                | none => none) none
              | none => none
            | _ => none
          | _ => none
      | none => none
    | _ => none
  | none => none
def Yg(c:Ctx)(t:TypeId)(h:H)(x:V):Ui :=
 match c.ty.get t with
 | none=>none
 | some ti =>
  match ti.desc,x with
  | .string,.str l=>some (.int .i64 (.ofNat (YP l 0)))
  | .array n _,_=>some (.int .i64 (.ofNat n))
  | .slice _,.slice _ _ n _=>some (.int .i64 (.ofNat n))
  | .slice _,.nilslice=>some (.int .i64 0)
  | .map _ _,.nilmap=>some (.int .i64 0)
  | .map _ _,.map r=>match h.get r with|some (.map es _)=>some (.int .i64 (.ofNat es.length))|_=>none
  | _,_=>none
def Au(c:Ctx)(t:TypeId)(x:V):Ui :=
 match c.ty.get t with
 | none=>none
 | some ti =>
  match ti.desc,x with
  | .array n _,_=>some (.int .i64 (.ofNat n))
  | .slice _,.slice _ _ _ (.exact n)=>some (.int .i64 (.ofNat n))
  | .slice _,.nilslice=>some (.int .i64 0)
  | _,_=>none
def YQ(mx:Bool):V->Ug->Ui
 | v,[]=>some v
 | .int k a,.int _ b::l=>YQ mx (.int k (cond (cond mx (lX a b) (lX b a)) b a)) l
 | _,_=>none
def bI:TypeDesc->Bool
 | .int _=>true
 | .string=>true
 | .bool=>true
 | _=>false
def Qh(c:Ctx)(xs:Ug):List Field->Bool
 | []=>true
 | f::fs=>(match c.ty.get f.type with
   | some a=>bI a.desc && (match apart a xs f.offset with|some _=>true|none=>false)
   | none=>false) && Qh c xs fs
def Qg(te:TI)(xs:Ug):Nat->Nat->Bool
 | 0,_=>true
 | n+1,i=>(match apart te xs (i*te.size)with|some _=>true|none=>false) && Qg te xs n (i+1)
def Xn(c:Ctx)(t:TypeId)(v:V):Bool :=
 match c.ty.get t with
 | none=>false
 | some ti =>
  match ti.desc,v with
  | .int _,.int _ _=>true
  | .string,.str _=>true
  | .bool,.bool _=>true
  | .struct b,.agg xs=>Qh c xs b.toList
  | .array n e,.agg xs=>match c.ty.get e with|some a=>bI a.desc && Qg a xs n 0|none=>false
  | _,_=>false
def xp(c:Ctx)(t:TypeId)(k:V):List Ent->Nat->Option (Option (Nat×Ent))
 | [],_=>some none
 | e::es,i=>match pD c 30 t k e.key with
  | some true=>some (some (i,e))
  | some false=>xp c t k es (i+1)
  | none=>none
def Qt(h:H):V->Option (List Ent)
 | .nilmap=>some []
 | .map r=>match h.get r with|some (.map es _)=>some es|_=>none
 | _=>none
def qt(ok:Bool)(v:V)(b:Bool):V:=cond ok (.tuple [v,.bool b]) v
def Jk(c:Ctx)(kt et:TypeId)(es:List Ent)(k:V)(ok:Bool):Ui :=
 cond (Xn c kt k)
  (match xp c kt k es 0 with
  | some (some (_,e))=>some (qt ok e.val true)
  | some none=>(match c.ty.get et with
   | some a=>(match a.zero with|some z=>some (qt ok z false)|none=>none)
   | none=>none)
  | none=>none) none
def Y1(c:Ctx)(t:TypeId)(h:H)(m k:V)(ok:Bool):Ui :=
 match c.ty.get t with
 | some ti =>
  match ti.desc with
  | .map kt et=>match Qt h m with|some es=>Jk c kt et es k ok|none=>none
  | _=>none
 | none=>none
def J9:List Ent->Nat->V->V->List Ent
 | [],_,_,_=>[]
 | e::es,0,k,v=>⟨k,v,e.born⟩::es
 | e::es,n+1,k,v=>e::J9 es n k v
def rn:V->V->Bool
 | .bool a,.bool b=>a == b
 | .int j a,.int k b=>jy j k && sS a b
 | .str a,.str b=>eqB a b
 | _,_=>false
def rp:Ug->Ug->Bool
 | [],[]=>true
 | a::l,b::m=>rn a b && rp l m
 | _,_=>false
def Y5:V->V->Bool
 | .agg a,.agg b=>rp a b
 | a,b=>rn a b
def Y8(c:Ctx)(t:TypeId)(h:H)(m k v:V):Option H :=
 match c.ty.get t with
 | some ti =>
  match ti.desc,m with
  | .map kt _,.map r =>
   match h.get r with
   | some (.map es clock) =>
    cond (Xn c kt k)
     (match xp c kt k es 0 with
     | some (some (i,e))=>cond (Y5 e.key k) (some (h.upd r (some (.map (J9 es i k v) clock)))) none
     | some none=>some (h.upd r (some (.map (es++[⟨k,v,clock⟩]) (clock+1))))
     | none=>none) none
   | _=>none
  | _,_=>none
 | none=>none
def nY(h:H):Option (V×H):=cond (Nat.blt h.nx T.top) (some (.map h.nx,h.new (.map [] 0))) none
def Ir(c:Ctx)(t:TypeId)(x:V)(ok:Bool):Ui :=
 match c.ty.get t with
 | none=>none
 | some ti =>
  match ti.desc,x with
  | .interface _,_=>none
  | _,.iface d v =>
   cond (Nat.beq d t) (some (qt ok v true))
    (cond ok (match ti.zero with|some z=>some (qt true z false)|none=>none) none)
  | _,.nilIface=>cond ok (match ti.zero with|some z=>some (qt true z false)|none=>none) none
  | _,_=>none
def Cg:TypeDesc->Bool
 | .pointer _=>true
 | _=>false
def Q4(name:String):List Method->Option Method
 | []=>none
 | m::l=>cond (m.name == name) (some m) (Q4 name l)
def Bc:TypeDesc->Option Nat
 | .pointer e=>some e
 | _=>none
def XW(c:Ctx)(t:TypeId)(name:String):Option (Nat×Option Nat) :=
 match c.ty.get t with
 | none=>none
 | some ti =>
  match Q4 name ti.meth with
  | none=>none
  | some m =>
   match m.path.toList,m.func with
   | [],some (f,pr)=>cond (Cg ti.desc == pr) (some (f,none)) (match Bc ti.desc,pr with|some e,false=>some (f,some e)|_,_=>none)
   | _,_=>none
inductive AN where
 | val (v:V) (h:H)
 | skip (h:H)
 | call (f:Nat) (args:Ug)
 | round (l:Nat) (args:Ug)
 | dfr (d:AD)
 | recover
 | pan (v:V) (h:H)
def AN.ofV:Ui->H->Option AN
 | some v,h=>some (.val v h)
 | none,_=>none
def AN.ofVH:Option (V×H)->Option AN
 | some (v,h)=>some (.val v h)
 | none=>none
def evO(e:Uh):Option Operand->Option Ui
 | none=>some none
 | some x=>match e x with|some v=>some (some v)|none=>none
def NR(e:Uh):List (Nat×Operand)->Option (List (Nat×V))
 | []=>some []
 | (i,x)::l =>
  match e x with
  | none=>none
  | some v=>match NR e l with|none=>none|some r=>some ((i,v)::r)
def JN(h:H):V->Ui
 | .nilslice=>some .nilptr
 | .slice b o _ (.exact (_+1))=>some (.ptr b o)
 | .slice b o _ (.skip 0)=>match h.get b with
  | some (.cells l _ true true)=>cond (Nat.blt 0 l.len) (some (.ptr b o)) none
  | _=>none
 | _=>none
def JO(c:Ctx)(pt:TypeId)(h:H)(p n:V):Option (V×H) :=
 match p,n with
 | .nilptr,.int _ (.ofNat 0)=>some (.str [],h)
 | .ptr _ _,.int _ (.ofNat 0)=>some (.str [],h)
 | .ptr b 0,.int _ (.ofNat n) =>
  match c.ty.get pt,h.get b with
  | some tp,some (.cells l esz true op) =>
   match tp.desc with
   | .pointer u =>
    match c.ty.get u with
    | some tu =>
     cond (Nat.beq tu.size 1 && Nat.beq esz.ty (u+1) && Nat.ble n 4611686018427387904)
      (match l.range 0 n with
      | some x=>(match wN x with
       | some y=>some (.str y,h.upd b (some (.cells l ⟨esz.n,esz.ty,cond (Nat.ble esz.fz n) n esz.fz⟩ true op)))
       | none=>none)
      | none=>none) none
    | none=>none
   | _=>none
  | _,_=>none
 | _,_=>none
def nw(c:Ctx)(g:Nat):Bool:=match c.noesc with|some k=>Nat.beq g k|none=>false
def Bq(c:Ctx)(g:Nat):Option Nat:=match c.mnz with|some (k,el)=>cond (Nat.beq g k) (some el) none|none=>none
def Ej(el:Nat)(h:H)(first args captured:Ug):Option (V×H) :=
 match first,args,captured with
 | [],[.int .i64 (.ofNat n)],[]=>cond (Nat.ble n 4294967296) (match kJ h (some (.ls [])) ⟨1,el+1,0⟩ true with|some (b,h')=>some (.slice b 0 n (.skip 0),h')|none=>none) none
 | _,_,_=>none
def JL(c:Ctx)(h:H)(g:Nat)(first args captured:Ug):Option AN :=
 cond (nw c g) (match first,args,captured with | [],[x],[]=>some (.val x h)|_,_,_=>none)
  (match Bq c g with
  | some el=>AN.ofVH (Ej el h first args captured)
  | none=>some (.call g (first++(args++captured))))
def wo(c:Ctx)(cl:Call)(e:Uh)(h:H):Option AN :=
 match Xw e cl.args.toList with
 | none=>none
 | some args =>
  match cl.callee with
  | .value f =>
   match e f with
   | some (.func (.func g) first captured)=>JL c h g first args captured
   | some (.yield l)=>some (.round l args)
   | _=>none
  | .builtin b =>
   match b,args,cl.argTypes.toList with
   | .len,[x],[t]=>AN.ofV (Yg c t h x) h
   | .cap,[x],[t]=>AN.ofV (Au c t x) h
   | .append,[s,x],[t,tx]=>AN.ofVH (YE c tx t h s x)
   | .copy,[d,x],[t,_]=>AN.ofVH (Rr c t h d x)
   | .min,x::l,_=>AN.ofV (YQ false x l) h
   | .max,x::l,_=>AN.ofV (YQ true x l) h
   | .recover,[],_=>some .recover
   | .unsafeSliceData,[x],_=>AN.ofV (JN h x) h
   | .unsafeString,[p,n],pt::_=>AN.ofVH (JO c pt h p n)
   | _,_,_=>none
  | .invoke r name=>match e r with
   | some (.iface t v) =>
    (match XW c t name with
    | some (f,none)=>some (.call f (v::args))
    | some (f,some el)=>(match ye c el h v with|some u=>some (.call f (u::args))|none=>none)
    | none=>none)
   | _=>none
def afa(c:Ctx)(a:Field)(b o:Nat)(h:H):Option AN :=
 match c.ty.get a.type with
 | some d=>cond (Nat.blt 0 d.size) (some (.val (.ptr b (o+a.offset)) h)) none
 | none=>none
def xS(c:Ctx)(o:Oper)(e:Uh)(h:H):Option AN :=
 match o.op with
 | .move x=>AN.ofV (e x) h
 | .assign x=>AN.ofV (e x) h
 | .pick r a b=>match e r with|some (.bool t)=>AN.ofV (cond t (e a) (e b)) h|_=>none
 | .alloc t=>match c.ty.get t with
  | some ti=>match ti.zero with
   | some z=>match qg h z.cells ⟨0,t+1,0⟩ false with|some (b,h')=>some (.val (.ptr b 0) h')|none=>none
   | none=>none
  | none=>none
 | .box t x=>match e x with
  | some v=>match qg h v.cells ⟨0,t+1,0⟩ false with|some (b,h')=>some (.val (.ptr b 0) h')|none=>none
  | none=>none
 | .build t ps=>match NR e ps.toList with|some l=>AN.ofV (qe c t l) h|none=>none
 | .buildSlice t n ps=>match NR e ps.toList with|some l=>AN.ofVH (zO c t n l h)|none=>none
 | .load t a=>match e a with|some v=>AN.ofV (ye c t h v) h|none=>none
 | .store t a x=>match e a,e x with|some p,some v=>(match jP c t h p v with|some h'=>some (.skip h')|none=>none)|_,_=>none
 | .nilCheck x=>match e x with
  | some (.ptr b o)=>some (.val (.ptr b o) h)
  | some (.iface t v)=>some (.val (.iface t v) h)
  | some (.func (.func g) a b)=>some (.val (.func (.func g) a b) h)
  | some (.yield l)=>some (.val (.yield l) h)
  | _=>none
 | .binOp op t x y _=>match e x,e y with|some a,some b=>AN.ofV (Yf c op t x y a b) h|_,_=>none
 | .unOp op _ x=>match e x with|some v=>AN.ofV (aun op v) h|none=>none
 | .convert s d x=>match e x with|some v=>AN.ofVH (wZ c s d h v)|none=>none
 | .sliceToArrayPointer t x=>match c.ty.get t,e x with
  | some ti,some (.slice b o len _)=>match ti.desc with | .array n _=>cond (Nat.ble n len) (some (.val (.ptr b o) h)) none|_=>none
  | _,_=>none
 | .makeInterface t x=>match c.ty.get t,e x with
  | some ti,some v=>match ti.desc with | .interface _=>none|_=>some (.val (.iface t v) h)
  | _,_=>none
 | .makeFunc (.func g) first captured=>match Xw e first.toList,Xw e captured.toList with
  | some a,some b=>some (.val (.func (.func g) a b) h)
  | _,_=>none
 | .makeSlice t l k=>match e l,e k with|some a,some b=>AN.ofVH (Z7 c t a b h)|_,_=>none
 | .slice t x lo hi u=>match e x,evO e lo,evO e hi,evO e u with
  | some v,some a,some b,some m=>AN.ofV (zw c t h v a b m) h
  | _,_,_,_=>none
 | .fieldAddr t x f=>match c.ty.get t,e x with
  | some ti,some (.ptr b o)=>match ti.desc with | .struct w=>(match w[f]? with|some A=>afa c A b o h|none=>none)|_=>none
  | _,_=>none
 | .field t x f=>match e x with|some v=>AN.ofV (Ec c t v f) h|none=>none
 | .indexAddr t x q=>match e x,e q with|some a,some b=>AN.ofV (xK c t a b) h|_,_=>none
 | .index t x q=>match e x,e q with|some a,some b=>AN.ofV (wM c t a b) h|_,_=>none
 | .extract x i=>match e x with|some (.tuple l)=>AN.ofV l[i]? h|_=>none
 | .call j=>wo c j e h
 | .panic x=>match e x with|some (.iface t v)=>some (.pan (.iface t v) h)|_=>none
 | .defer j=>match Xw e j.args.toList,j.callee with
  | some args,.value f=>match e f with|some (.func (.func g) first captured)=>some (.dfr (.fn g captured (first++args)))|_=>none
  | _,_=>none
 | .makeMap _ none=>AN.ofVH (nY h)
 | .typeAssert x _ t ok=>match e x with|some v=>AN.ofV (Ir c t v ok) h|none=>none
 | .lookup t x k ok=>match e x,e k with|some a,some b=>AN.ofV (Y1 c t h a b ok) h|_,_=>none
 | .mapUpdate t m k v=>match e m,e k,e v with|some a,some b,some d=>(match Y8 c t h a b d with|some h'=>some (.skip h')|none=>none)|_,_,_=>none
 | _=>none
inductive AX where
 | normal
 | exit (id:Nat)
 | ret
 | panic (v:V)
structure St where
 n:Nat
 tm:Tm
 dfr:List AD
 heap:H
inductive Out where
 | done (x:AX) (s:St)
abbrev Uc:=V->H->Prop
abbrev Ud:=AX->St->Prop
abbrev Ue:=Bool->Code->St->Option Out
inductive CallOut where
 | ret (v:V) (h:H)
 | panic (v:V) (h:H)
def wP(s:St)(d:Option Tmp)(v:V)(h:H):Option St :=
 match d with
 | none=>some { s with heap:=h }
 | some t=>cond (Nat.blt t s.n) (some { s with tm:=s.tm.set t v,heap:=h }) none
def yO(ops:List Oper)(tm:Tm)(o:Oper):Bool :=
 match o.guard with
 | none=>true
 | some (j,w) =>
  match ops[j]? with
  | some o'=>match o'.dst with
   | some d=>match zq tm d with | .bool b=>b == w|_=>false
   | none=>false
  | none=>false
def kR:Edge->Bool
 | ⟨_,.textOnly _⟩=>false
 | ⟨_,.gcOnly _⟩=>false
 | _=>true
def WB:Nat->Uf->Bool
 | _,[]=>false
 | n,m::l=>cond (Nat.beq n m) true (WB n l)
def yE:List Oper->Uf->Uf
 | [],a=>a
 | o::l,a=>yE l (a++[o.after.toList.foldl (λs e=>cond (kR e) (s ||| 2^e.on ||| a.getD e.on 0) s) 0])
def wF(ops:List Oper)(o:Oper):Uf :=
  (match o.guard with
   | some (g,_)=>(match ops[g]? with|some o'=>(match o'.dst with|some d=>[d]|none=>[])|none=>[])
   | none=>[])++o.op.operands.toList.filterMap λ| .tmp t=>some t|_=>none
def QL(ops:List Oper)(a b:Oper):Bool :=
 (match a.dst with|some d=>WB d (wF ops b) || (match b.dst with|some c=>Nat.beq d c|none=>false)|none=>false) ||
 (match b.dst with|some d=>WB d (wF ops a)|none=>false)
def Wk(ops:List Oper)(j:Nat)(oj:Oper)(a:Nat):Nat->List Oper->Bool
 | _,[]=>true
 | i,oi::l=>cond (Nat.blt i j) (cond (Nat.testBit a i || !(QL ops oi oj)) (Wk ops j oj a (i+1) l) false) true
def Q1(j:Nat)(o:Oper):Bool :=
 o.after.toList.all λe=>Nat.blt e.on j || (match e.ground with | .gcOnly _=>true|_=>false)
def nk(e:Edge):Bool:=match e.ground with | .textOnly _=>false|_=>true
def fV(ops:List Oper):Uf->Uf->Bool
 | [],_=>true
 | i::l,seen=>(match ops[i]? with|some o=>o.after.toList.all λe=>!(nk e) || WB e.on seen|none=>false) && fV ops l (i::seen)
def rN(l:Uf):Nat->Bool
 | 0=>true
 | n+1=>WB n l && rN l n
def Qa(o:Oper)(a:Nat):Bool :=
 match o.guard with
 | none=>true
 | some (g,_)=>Nat.testBit a g
def XJ(ops:List Oper)(bs:Uf):Nat->List Oper->Bool
 | _,[]=>true
 | j,o::l=>Wk ops j o (bs.getD j 0) 0 ops && Q1 j o && Qa o (bs.getD j 0) && XJ ops bs (j+1) l
def j6(bs:Uf):Nat->Nat
 | 0=>0
 | j+1=>cond (Nat.beq (bs.getD j 0 % 2^j) (2^j-1)) (j6 bs j) (j+1)
def j8(ops:List Oper):Option Nat :=
 let bs:=yE ops []
 cond (XJ ops bs 0 ops && (!(Region.departs ops.toArray) || (fV ops (Region.linearise .gc ops.toArray 0) [] && rN (Region.linearise .gc ops.toArray 0) ops.length))) (some (j6 bs ops.length)) none
section
variable (c:Ctx) (orc:Nat->Ug->H->Option (V×H))
def leave(results:List ResultVar)(tm:Tm)(h:H):List ResultVar->Ug->Option Ug
 | [],b=>some b.reverse
 | .tmp t::l,b=>leave results tm h l (zq tm t::b)
 | .cell a t::l,b=>match ye c t h (zq tm a)with|some v=>leave results tm h l (v::b)|none=>none
def yC:Ug->V
 | [v]=>v
 | l=>.tuple l
def zy:Ug->Nat->Tm->Tm
 | [],_,t=>t
 | v::l,i,t=>zy l (i+1) (t.set i v)
def xz(call:Nat->Ug->H->Option CallOut):List AD->H->Option H
 | [],h=>some h
 | .coll id::l,h =>
  match h.get id with
  | some (.deferred true)=>xz call l (h.upd id (some (.deferred false)))
  | _=>none
 | .fn f cap args::l,h =>
  match call f (args++cap) h with
  | some (.ret _ h')=>xz call l h'
  | _=>none
def ky(ih:Ue)(fi:FI)(args:Ug)(h:H):Option Out :=
 cond (Nat.ble (ws args 0) fi.n && Nat.ble fi.n 511) (ih false fi.body { n:=fi.n,tm:=zy args 0 (Tb.leaf zZ),dfr:=[],heap:=h }) none
def endD(fi:FI)(s:St):Option CallOut :=
 match s.dfr with
 | []=>match leave c fi.results s.tm s.heap fi.results []with|some a=>some (.ret (yC a) s.heap)|none=>none
 | _=>none
def Ju(ih:Ue)(f:Nat)(args:Ug)(h:H):Option CallOut :=
 match c.fn.get f with
 | none=>none
 | some fi =>
  match ky ih fi args h with
  | some (.done .normal s)=>endD c fi s
  | some (.done .ret s)=>endD c fi s
  | _=>none
def VW(ih:Ue)(fi:FI)(s:St):Option CallOut :=
 match xz (Ju c ih) s.dfr s.heap with
 | some h'=>match leave c fi.results s.tm h' fi.results []with|some a=>some (.ret (yC a) h')|none=>none
 | none=>none
def tZ(ih:Ue)(f:Nat)(args:Ug)(h:H):Option CallOut :=
 match c.fn.get f with
 | none=>none
 | some fi =>
  match ky ih fi args h with
  | some (.done .normal s)=>VW c ih fi s
  | some (.done .ret s)=>VW c ih fi s
  | some (.done (.panic v) s)=>match s.dfr with | []=>some (.panic v s.heap)|_=>none
  | _=>none
def Zd(ih:Ue)(f:Nat)(args:Ug)(h:H):Option CallOut :=
 match orc f args h with
 | some (v,h')=>some (.ret v h')
 | none=>tZ c ih f args h
def xX:List Tmp->Ug->Nat->Tm->Option (Tm)
 | [],[],_,t=>some t
 | p::ps,v::a,n,t=>cond (Nat.blt p n) (xX ps a n (t.set p v)) none
 | _,_,_,_=>none
def yZ(l:Nat)(x:AX)(s:St):Option CallOut :=
 match s.dfr,s.heap.get l with
 | [],some (.loop _ _ n tm ps a b df) =>
  match x with
  | .normal=>some (.ret (.bool true) (s.heap.upd l (some (.loop .ready none n tm ps a b df))))
  | .ret=>some (.ret (.bool false) (s.heap.upd l (some (.loop .done (some .ret) n tm ps a b df))))
  | .exit id=>some (.ret (.bool false) (s.heap.upd l (some (.loop .done (some (.exit id)) n tm ps a b df))))
  | .panic _=>none
 | _,_=>none
def rm(ih:Ue)(l:Nat)(body:Code)(s:St):Option CallOut :=
 match s.heap.get l with
 | some (.loop .ready a n tm ps b d df) =>
  match ih true body { n:=s.n,tm:=s.tm,dfr:=s.dfr,heap:=s.heap.upd l (some (.loop .busy a n tm ps b d df)) }with
  | some (.done x e)=>yZ l x e
  | none=>none
 | _=>none
def roundF(ih:Ue)(l:Nat)(args:Ug)(h:H):Option CallOut :=
 match h.get l with
 | some (.loop _ _ n tm params assign body _) =>
  match xX params.toList args n tm with
  | none=>none
  | some a =>
   match ih true assign { n:=n,tm:=a,dfr:=[],heap:=h }with
   | some (.done .normal s)=>rm ih l body s
   | _=>none
 | _=>none
def yG(rd:Bool)(ih:Ue)(o:Oper)(s:St):Option (AX×St) :=
 match xS c o (yt s.tm) s.heap with
 | none=>none
 | some (.val v h)=>match wP s o.dst v h with|some a=>some (.normal,a)|none=>none
 | some (.skip h)=>match wP s o.dst zZ h with|some a=>some (.normal,a)|none=>none
 | some (.call f args) =>
  match Zd c orc ih f args s.heap with
  | some (.ret v h)=>match wP s o.dst v h with|some a=>some (.normal,a)|none=>none
  | some (.panic v h)=>some (.panic v,{ s with heap:=h })
  | none=>none
 | some (.round l args) =>
  match roundF ih l args s.heap with
  | some (.ret v h)=>match wP s o.dst v h with|some a=>some (.normal,a)|none=>none
  | _=>none
 | some (.dfr d)=>cond rd none (match wP { s with dfr:=d::s.dfr } o.dst zZ s.heap with|some a=>some (.normal,a)|none=>none)
 | some (.pan v h)=>some (.panic v,{ s with heap:=h })
 | some .recover=>none
def Zp(rd:Bool)(ih:Ue)(ops:List Oper):List Oper->St->Option Out
 | [],s=>some (.done .normal s)
 | o::l,s =>
  cond (yO ops s.tm o)
   (match yG c orc rd ih o s with
   | some (.normal,a)=>Zp rd ih ops l a
   | some (x,a)=>some (.done x a)
   | none=>none)
   (match wP s o.dst zZ s.heap with|some a=>Zp rd ih ops l a|none=>none)
def lS(tm:Tm)(cl:Call):Bool :=
 match cl.callee,Xw (yt tm) cl.args.toList,cl.argTypes.toList with
 | .builtin .len,some [.str _],[_]=>true
 | _,_,_=>false
def wp(tm:Tm)(b:Nat)(o:Oper):Bool :=
 match o.op with
 | .move _ | .assign _ | .pick .. | .build .. | .binOp .. | .unOp .. | .field .. | .fieldAddr .. | .index .. | .indexAddr .. | .extract .. | .makeFunc .. | .makeInterface .. | .nilCheck _=>true
 | .load _ a=>match yt tm a with|some (.ptr d _)=>!(Nat.beq b d)|_=>false
 | .convert _ _ x=>match yt tm x with|some (.int _ _)=>true|_=>false
 | .slice _ x _ _ _=>match yt tm x with|some (.str _)=>true|some (.slice _ _ _ (.exact _))=>true|_=>false
 | .call e=>lS tm e
 | _=>false
def Kj(a:Uf):Nat->List Oper->Bool
 | 0,_=>true
 | _,[]=>true
 | n+1,o::l=>(match o.dst with|some d=>!(WB d a)|none=>true) && Kj a n l
def qL(ops:List Oper)(tm:Tm)(b bk:Nat):Nat->Nat->List Oper->Bool
 | _,0,_=>true
 | _,_,[]=>true
 | i,n+1,o::l=>cond (Nat.testBit bk i || (wp tm b o && Kj (wF ops o) (n+1) (o::l))) (qL ops tm b bk (i+1) n l) false
def Jj(bs:Uf)(k:Nat):Nat->Nat->Bool
 | _,0=>true
 | j,n+1=>cond (Nat.testBit (bs.getD j 0) k) (Jj bs k (j+1) n) false
def qN(o:Oper):Bool:=match o.op with | .alloc _=>true|_=>false
def YF(bs:Uf)(k:Nat):Nat->Nat->List Oper->Bool
 | _,0,_=>true
 | _,_,[]=>true
 | j,n+1,o::l=>cond (Nat.testBit (bs.getD j 0) k || qN o) (YF bs k (j+1) n l) false
def XN(ops:List Oper)(bs:Uf)(m k:Nat)(tm:Tm)(o:Oper):Bool :=
 match o.op with
 | .store _ a _ =>
  match yt tm a with
  | some (.ptr b _)=>qL ops tm b (bs.getD k 0) 0 k ops && YF bs k (k+1) (m-k-1) (ops.drop (k+1))
  | _=>false
 | .mapUpdate _ a _ _ =>
  match yt tm a with
  | some (.map b)=>qL ops tm b (bs.getD k 0) 0 k ops && YF bs k (k+1) (m-k-1) (ops.drop (k+1))
  | _=>false
 | .call ⟨.builtin .append,args,_⟩ =>
  match args.toList with
  | a::_ =>
   match yt tm a with
   | some (.slice b _ _ _)=>qL ops tm b (bs.getD k 0) 0 k ops && YF bs k (k+1) (m-k-1) (ops.drop (k+1))
   | _=>false
  | []=>false
 | _=>false
def Yr(o:Oper):Bool :=
 match o.op with
 | .move _ | .assign _ | .pick .. | .build .. | .binOp .. | .unOp .. | .field .. | .fieldAddr .. | .index .. | .indexAddr .. | .extract .. | .makeFunc .. | .makeInterface .. | .nilCheck _=>true
 | _=>false
def KJ(ops:List Oper)(bk:Nat):Nat->Nat->List Oper->Bool
 | _,0,_=>true
 | _,_,[]=>true
 | i,n+1,o::l=>cond (Nat.testBit bk i || (Yr o && Kj (wF ops o) (n+1) (o::l))) (KJ ops bk (i+1) n l) false
def Jd(ops:List Oper)(bs:Uf)(m k:Nat):Bool:=KJ ops (bs.getD k 0) 0 k ops && Jj bs k (k+1) (m-k-1)
def kD(ops:List Oper)(bs:Uf)(m k:Nat)(tm:Tm)(o:Oper):Bool:=XN ops bs m k tm o || Jd ops bs m k
def ZR:List AD->List AD->Bool
 | [],[]=>true
 | _::l,_::a=>ZR l a
 | _,_=>false
def kO(rd : Bool)(ih : Bool -> Code -> St -> Option Out)(ops : List Oper)(bs : Uf)(m : Nat): Nat -> Nat -> List Oper -> St -> Option Out
  | _, _, [], s => some (.done .normal s)
  | 0, _, l, s => Zp c orc rd ih ops l s
  | r + 1, k, o::l, s =>
    cond (yO ops s.tm o)
      (match yG c orc rd ih o { s with heap := { s.heap with low := T.top } }with
      | some (.normal, s') =>
        cond (Nat.ble s.heap.nx s'.heap.low || kD ops bs m k s.tm o)
          (cond (ZR s.dfr s'.dfr) (kO rd ih ops bs m r (k + 1) l { s' with heap := { s'.heap with low := cond (Nat.ble s.heap.low s'.heap.low) s.heap.low s'.heap.low } }) none) none
      | _ => none)
      (match wP s o.dst zZ s.heap with|some s' => kO rd ih ops bs m r (k + 1) l s'|none => none)
def kl(d l:Nat)(s:St)(h3:H):Option Out :=
 match h3.get l with
 | some (.loop st a n tm ps b e df) =>
  match st with
  | .busy=>none
  | _ =>
   match a with
   | none=>some (.done .normal { n:=s.n,tm:=s.tm,dfr:=.coll d::s.dfr,heap:=h3.upd l (some (.loop .exhausted a n tm ps b e df)) })
   | some .ret=>some (.done .ret { n:=s.n,tm:=s.tm,dfr:=.coll d::s.dfr,heap:=h3.upd l (some (.loop .exhausted a n tm ps b e df)) })
   | some (.exit id)=>some (.done (.exit id) { n:=s.n,tm:=s.tm,dfr:=.coll d::s.dfr,heap:=h3.upd l (some (.loop .exhausted a n tm ps b e df)) })
   | _=>none
 | _=>none
def cH(ih:Ue)(rd:Bool)(f:Operand)(params:Array Tmp)(assign body:Code)(s:St):Option Out :=
  match yt s.tm f with
  | some (.func (.func g) first captured) =>
    cond (rd || !(Nat.blt (s.heap.nx+1) T.top)) none
      (match Zd c orc ih g (first++(.yield (s.heap.nx+1)::captured)) ((s.heap.new (.deferred true)).new (.loop .ready none s.n s.tm params assign body s.heap.nx))with
       | some (.ret _ h3)=>kl s.heap.nx (s.heap.nx+1) s h3
       | _=>none)
  | _=>none
def ZS(ih:Ue)(rd:Bool):Code->St->Option Out
 | .skip,s=>some (.done .normal s)
 | .region _ ops draw,s =>
  cond draw (match j8 ops.toList with|some m=>kO c orc rd ih ops.toList (yE ops.toList []) m m 0 ops.toList s|none=>none)
   (Zp c orc rd ih ops.toList ops.toList s)
 | .seq a b,s =>
  match ih rd a s with
  | some (.done .normal d)=>ih rd b d
  | r=>r
 | .cond x a b,s =>
  match yt s.tm x with
  | some (.bool t)=>ih rd (cond t a b) s
  | _=>none
 | .block id b,s =>
  match ih rd b s with
  | some (.done (.exit i) d)=>cond (Nat.beq i id) (some (.done .normal d)) (some (.done (.exit i) d))
  | r=>r
 | .loop b,s =>
  match ih rd b s with
  | some (.done .normal d)=>ih rd (.loop b) d
  | r=>r
 | .scope b,s=>ih rd b s
 | .label _,s=>some (.done .normal s)
 | .exit id,s=>some (.done (.exit id) s)
 | .ret,s=>some (.done .ret s)
 | .rangeFunc f params assign body,s=>cH c orc ih rd f params assign body s
 | _,_=>none
def ev:Nat->Bool->Code->St->Option Out :=
 λn=>Nat.rec (motive:=λ_=>Bool->Code->St->Option Out) (λ_ _ _=>none) (λ_ r=>λrd code s=>ZS c orc r rd code s) n
def run(n:Nat)(f:Nat)(args:Ug)(h:H):Option CallOut:=Zd c orc (ev c orc n) f args h
end
def TI.mk'(P : Program)(t : Nat)(i : TypeInfo)(d : TypeDesc): TI :=
  { id := t, desc := d, size := i.size, bytes := i.bytes
    zero := match i.zero with|some v => ofV v|none => none
    cmp := i.comparable
    held := P.stoodInHeld t
    guard := P.eqGuardType P.depth t
    meth := i.methods.toList }
def TI.of(P:Program)(t:Nat)(i:TypeInfo):Option TI :=
 match i.desc with
 | .named _ u=>match P.types[u]? with|some j=>some (TI.mk' P t i j.desc)|none=>none
 | d=>some (TI.mk' P t i d)
def FI.of(f:Func):Option FI :=
 match f.body with
 | some b=>cond (f.name == "runtime.NumGoroutine") none (some { n:=f.ntmps,results:=f.results.toList,body:=b })
 | none=>none
def Kq(P:Program):Nat->List TypeInfo->T TI->T TI
 | _,[],t=>t
 | i,x::l,t=>Kq P (i+1) l (t.set i (TI.of P i x))
def KH:Nat->List Func->T FI->T FI
 | _,[],t=>t
 | i,x::l,t=>KH (i+1) l (t.set i (FI.of x))
def Ctx.of(P : Program)(ne : Option Nat)(a : Option (Nat × Nat)): Ctx :=
  { ty := Kq P 0 P.types.toList .leaf, fn := KH 0 P.funcs.toList .leaf, noesc := ne, mnz := a
    lies := λe u off => liesAt P P.depth e 1 off u 1 }
abbrev dh(n:Int):V:=.int .i64 n
end Go.Sim
