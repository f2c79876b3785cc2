/- A. No condition. -/
import Derived.RangeFuncLeaves
import Derived.RangeFuncRecord
import Derived.Laws.World
import Derived.Laws.Sem
namespace Go.Sim
universe u v
theorem oA{α:Type u}(a b:α):(some a=some b)=(a=b):=Option.some.injEq a b
theorem oB{α:Type u}{β:Type v}(a:α)(b:β)(c:α)(d:β):((a,b)=(c,d))=(a=c/\b=d):=Prod.mk.injEq a b c d
theorem oC{n m:Nat}(h:n<=m):Nat.ble n m=true:=Nat.ble_eq_true_of_le h
theorem oE{n m:Nat}(h:Nat.ble n m=true):n<=m:=Nat.le_of_ble_eq_true h
theorem oF{n m:Nat}(h:Nat.beq n m=true):n=m:=Nat.eq_of_beq_eq_true h
theorem oG(a b:Bool):((a&&b)=true)=(a=true/\b=true):=Bool.and_eq_true a b
theorem oH{α:Type u}(y:α){a:α}{l:List α}(h:a∈l):a∈y::l:=List.mem_cons_of_mem y h
theorem oI{n m k:Nat}(h:n<m)(g:m<=k):n<k:=Nat.lt_of_lt_of_le h g
theorem oJ(n:Nat):0<=n:=Nat.zero_le n
theorem oK{α:Sort u}(a b:α):cond true a b=a:=cond_true a b
theorem oM{α:Sort u}(a b:α):cond false a b=b:=cond_false a b
theorem oO{α:Type u}{l:List α}{i:Nat}(h:i<l.length):l[i]?=some l[i]:=List.getElem?_eq_getElem h
theorem oP(n:Nat):n<=n:=Nat.le_refl n
theorem oQ{n m k:Nat}(h:n<=m)(g:m<=k):n<=k:=Nat.le_trans h g
theorem oS{α:Type u}{l:List α}{n:Nat}(h:n<l.length):l[n]∈l:=List.getElem_mem h
theorem oU{α:Type u}{l r:List α}:(l++r).length=l.length+r.length:=List.length_append
theorem oV{α:Type u}{a:α}{l:List α}:(a::l).length=l.length+1:=List.length_cons
theorem oW{α:Type u}{β:Type v}{f:α->β}{l:List α}{i:Nat}:(l.map f)[i]?=l[i]?.map f:=List.getElem?_map
theorem oX(n:Nat):(n:Int).toNat=n:=Int.toNat_natCast n
theorem oY{α:Type u}{l:List α}{i j:Nat}(h:i≠j){a:α}:(l.set i a)[j]?=l[j]?:=List.getElem?_set_ne h
theorem oZ{α:Type u}{β:Type v}(a:α)(f:α->β):(some a).map f=some (f a):=Option.map_some a f
theorem oc(n:Nat):n<n+1:=Nat.lt_succ_self n
theorem od{α:Type u}{b:α}{l:List α}{a:α}:a∈b::l↔a=b\/a∈l:=List.mem_cons
theorem oe{a b:Nat}(h:a<b):a%b=a:=Nat.mod_eq_of_lt h
theorem og{α:Type u}{l:List α}{i:Nat}(h:l.length<=i):l[i]?=none:=List.getElem?_eq_none h
theorem oh{α:Type u}{l:List α}{i:Nat}{a:α}:(l.set i a).length=l.length:=List.length_set
theorem ol{α:Type u}{β:Type v}{l:List α}(f:α->β):(l.map f).length=l.length:=List.length_map f
structure N8 (α:Type) where
 a0:α
 a1:α
 a2:α
 a3:α
 a4:α
 a5:α
 a6:α
 a7:α
inductive D8 where
 | d0
 | d1
 | d2
 | d3
 | d4
 | d5
 | d6
 | d7
def D8.ofR(n:Nat):D8 :=
 match n with
 | 0=>.d0
 | 1=>.d1
 | 2=>.d2
 | 3=>.d3
 | 4=>.d4
 | 5=>.d5
 | 6=>.d6
 | _=>.d7
def D8.of(n:Nat):D8:=D8.ofR (n % 8)
namespace N8
variable {α:Type}
def get(d:D8):N8 α->α :=
 D8.casesOn (motive:=λ_=>N8 α->α) d (λt=>t.a0) (λt=>t.a1) (λt=>t.a2) (λt=>t.a3) (λt=>t.a4) (λt=>t.a5) (λt=>t.a6) (λt=>t.a7)
def mod(d:D8):(α->α)->N8 α->N8 α :=
 D8.casesOn (motive:=λ_=>(α->α)->N8 α->N8 α) d
  (λf t=>N8.casesOn (motive:=λ_=>N8 α) t λa0 a1 a2 a3 a4 a5 a6 a7=>N8.mk (f a0) a1 a2 a3 a4 a5 a6 a7)
  (λf t=>N8.casesOn (motive:=λ_=>N8 α) t λa0 a1 a2 a3 a4 a5 a6 a7=>N8.mk a0 (f a1) a2 a3 a4 a5 a6 a7)
  (λf t=>N8.casesOn (motive:=λ_=>N8 α) t λa0 a1 a2 a3 a4 a5 a6 a7=>N8.mk a0 a1 (f a2) a3 a4 a5 a6 a7)
  (λf t=>N8.casesOn (motive:=λ_=>N8 α) t λa0 a1 a2 a3 a4 a5 a6 a7=>N8.mk a0 a1 a2 (f a3) a4 a5 a6 a7)
  (λf t=>N8.casesOn (motive:=λ_=>N8 α) t λa0 a1 a2 a3 a4 a5 a6 a7=>N8.mk a0 a1 a2 a3 (f a4) a5 a6 a7)
  (λf t=>N8.casesOn (motive:=λ_=>N8 α) t λa0 a1 a2 a3 a4 a5 a6 a7=>N8.mk a0 a1 a2 a3 a4 (f a5) a6 a7)
  (λf t=>N8.casesOn (motive:=λ_=>N8 α) t λa0 a1 a2 a3 a4 a5 a6 a7=>N8.mk a0 a1 a2 a3 a4 a5 (f a6) a7)
  (λf t=>N8.casesOn (motive:=λ_=>N8 α) t λa0 a1 a2 a3 a4 a5 a6 a7=>N8.mk a0 a1 a2 a3 a4 a5 a6 (f a7))
def all(x:α):N8 α:=⟨x,x,x,x,x,x,x,x⟩
theorem get_mod_same(d:D8)(f:α->α)(t:N8 α):(mod d f t).get d=f (t.get d):=by
 obtain⟨a0,a1,a2,a3,a4,a5,a6,a7⟩:=t;cases d<;>rfl
theorem get_mod_ne{d e:D8}(h:e≠d)(f:α->α)(t:N8 α):(mod d f t).get e=t.get e:=by
 obtain⟨a0,a1,a2,a3,a4,a5,a6,a7⟩:=t;cases d<;>cases e<;>first|rfl|exact absurd rfl h
theorem get_all(d:D8)(x:α):(all x).get d=x:=by cases d<;>rfl
end N8
theorem D8.of_inj{n m:Nat}(h:D8.of n=D8.of m):n % 8=m % 8:=by
 unfold D8.of at h;have hn:n % 8<8:=Nat.mod_lt _ (by decide);have hm:m % 8<8:=Nat.mod_lt _ (by decide);generalize n % 8=a at *;generalize m % 8=b at *
 match a,b,hn,hm with
 | 0,b,_,hm|1,b,_,hm|2,b,_,hm|3,b,_,hm|4,b,_,hm|5,b,_,hm|6,b,_,hm|7,b,_,hm =>
  match b,hm with
  | 0,_|1,_|2,_|3,_|4,_|5,_|6,_|7,_=>first|rfl|(simp only[D8.ofR]at h;cases h)
abbrev T(α:Type):Type:=N8 (N8 (N8 (N8 (N8 (N8 (Option α))))))
namespace T
variable {α:Type}
def leaf:T α:=N8.all (N8.all (N8.all (N8.all (N8.all (N8.all none)))))
def top:Nat:=262143
def getF(t:N8 (N8 (N8 (N8 (N8 (N8 (Option α)))))))(n:Nat):Option α :=
 N8.get (D8.of n) (N8.get (D8.of (n/8)) (N8.get (D8.of (n/64)) (N8.get (D8.of (n/512)) (N8.get (D8.of (n/4096)) (N8.get (D8.of (n/32768)) t)))))
def get(t:T α)(n:Nat):Option α:=cond (Nat.ble n 262143) (getF t n) none
def set(t:T α)(n:Nat)(x:Option α):T α :=
 N8.mod (D8.of (n/32768)) (N8.mod (D8.of (n/4096)) (N8.mod (D8.of (n/512)) (N8.mod (D8.of (n/64)) (N8.mod (D8.of (n/8)) (N8.mod (D8.of n) λ_=>x))))) t
@[simp] theorem get_leaf (n:Nat):(leaf:T α).get n=none:=by
 unfold get leaf getF;simp only[N8.get_all];cases Nat.ble n 262143<;>rfl
theorem get_set(t:T α)(n m:Nat)(x:Option α)(h:n<top):(t.set n x).get m=if m=n then x else t.get m:=by
 have hn:n<262143:=h;unfold get;cases hm:Nat.ble m 262143 with
 | false =>
  have:¬m<=262143:=λhc=>by rw[oC hc]at hm;cases hm
  simp only[oM];rw[if_neg (by omega)]
 | true =>
  have hm':=oE hm;simp only[oK];unfold getF set;by_cases e5:D8.of (m/32768)=D8.of (n/32768)
  ·rw[e5,N8.get_mod_same]
   by_cases e4:D8.of (m/4096)=D8.of (n/4096)
   ·rw[e4,N8.get_mod_same]
    by_cases e3:D8.of (m/512)=D8.of (n/512)
    ·rw[e3,N8.get_mod_same]
     by_cases e2:D8.of (m/64)=D8.of (n/64)
     ·rw[e2,N8.get_mod_same]
      by_cases e1:D8.of (m/8)=D8.of (n/8)
      ·rw[e1,N8.get_mod_same]
       by_cases e0:D8.of m=D8.of n
       ·rw[e0,N8.get_mod_same]
        have h0:=D8.of_inj e0;have h1:=D8.of_inj e1;have h2:=D8.of_inj e2;have h3:=D8.of_inj e3;have h4:=D8.of_inj e4;have h5:=D8.of_inj e5;rw[if_pos (by omega)]
       ·rw[N8.get_mod_ne e0,if_neg (λe=>e0 (by rw[e]))]
      ·rw[N8.get_mod_ne e1,if_neg (λe=>e1 (by rw[e]))]
     ·rw[N8.get_mod_ne e2,if_neg (λe=>e2 (by rw[e]))]
    ·rw[N8.get_mod_ne e3,if_neg (λe=>e3 (by rw[e]))]
   ·rw[N8.get_mod_ne e4,if_neg (λe=>e4 (by rw[e]))]
  ·rw[N8.get_mod_ne e5,if_neg (λe=>e5 (by rw[e]))]
end T
abbrev Tb(α:Type):Type:=N8 (N8 (N8 α))
namespace Tb
variable {α:Type}
def top:Nat:=511
def leaf(x:α):Tb α:=N8.all (N8.all (N8.all x))
def getF(t:N8 (N8 (N8 α)))(n:Nat):α:=N8.get (D8.of n) (N8.get (D8.of (n/8)) (N8.get (D8.of (n/64)) t))
def get(d:α)(t:Tb α)(n:Nat):α:=cond (Nat.ble n 511) (getF t n) d
def set(t:Tb α)(n:Nat)(x:α):Tb α:=N8.mod (D8.of (n/64)) (N8.mod (D8.of (n/8)) (N8.mod (D8.of n) λ_=>x)) t
theorem get_leaf(d:α)(n:Nat):(leaf d).get d n=d:=by
 unfold get leaf getF;simp only[N8.get_all];cases Nat.ble n 511<;>rfl
theorem get_set(d:α)(t:Tb α)(n m:Nat)(x:α)(h:n<top):(t.set n x).get d m=if m=n then x else t.get d m:=by
 have hn:n<511:=h;unfold get;cases hm:Nat.ble m 511 with
 | false =>
  have:¬m<=511:=λhc=>by rw[oC hc]at hm;cases hm
  simp only[oM];rw[if_neg (by omega)]
 | true =>
  have hm':=oE hm;simp only[oK];unfold getF set;by_cases e2:D8.of (m/64)=D8.of (n/64)
  ·rw[e2,N8.get_mod_same]
   by_cases e1:D8.of (m/8)=D8.of (n/8)
   ·rw[e1,N8.get_mod_same]
    by_cases e0:D8.of m=D8.of n
    ·rw[e0,N8.get_mod_same]
     have h0:=D8.of_inj e0;have h1:=D8.of_inj e1;have h2:=D8.of_inj e2;rw[if_pos (by omega)]
    ·rw[N8.get_mod_ne e0,if_neg (λe=>e0 (by rw[e]))]
   ·rw[N8.get_mod_ne e1,if_neg (λe=>e1 (by rw[e]))]
  ·rw[N8.get_mod_ne e2,if_neg (λe=>e2 (by rw[e]))]
end Tb
end Go.Sim
namespace Go.Sim
inductive Cap where
 | exact(n:Nat)
 | skip (n:Nat)
inductive V where
 | bool (b:Bool)
 | int (k:IntKind) (n:Int)
 | str (l:List UInt8)
 | ptr (b off:Nat)
 | nilptr
 | slice (b off len:Nat) (cap:Cap)
 | nilslice
 | map (r:Nat)
 | nilmap
 | func (fn:Fn) (first captured:List V)
 | yield (l:Nat)
 | nilFunc
 | iface (t:TypeId) (v:V)
 | nilIface
 | agg (l:List V)
 | tuple (l:List V)
structure Env where
 blk:Nat->Nat
 off:Nat->Nat
 cap:Nat->Nat
def Cap.val(ρ:Env)(b:Nat):Cap->Nat
 | .exact n=>n
 | .skip n=>ρ.cap b-n
mutual
def V.conc(ρ:Env):V->Value
 | .bool b=>.bool b
 | .int k n=>.int k n
 | .str l=>.string ⟨l.toArray⟩
 | .ptr b o=>.pointer (some ⟨ρ.blk b,ρ.off b+o,none⟩)
 | .nilptr=>.pointer none
 | .slice b o len c=>.slice (some ⟨ρ.blk b,ρ.off b+o,none⟩) len (c.val ρ b)
 | .nilslice=>.slice none 0 0
 | .map r=>.map (some (ρ.blk r))
 | .nilmap=>.map none
 | .func f x y=>.func f (V.concL ρ x).toArray (V.concL ρ y).toArray
 | .yield l=>.func (.yield (ρ.blk l)) #[] #[]
 | .nilFunc=>.nilFunc
 | .iface t v=>.iface t (v.conc ρ)
 | .nilIface=>.nilIface
 | .agg l=>.agg (V.concL ρ l).toArray
 | .tuple l=>.tuple (V.concL ρ l).toArray
def V.concL(ρ:Env):List V->List Value
 | []=>[]
 | v::l=>v.conc ρ::V.concL ρ l
end
mutual
def V.In(D:Nat->Prop):V->Prop
 | .ptr b _=>D b
 | .slice b _ _ _=>D b
 | .map r=>D r
 | .func f x y=>(∀l,f≠.yield l)/\V.InL D x/\V.InL D y
 | .yield l=>D l
 | .iface _ v=>v.In D
 | .agg l=>V.InL D l
 | .tuple l=>V.InL D l
 | _=>True
def V.InL(D:Nat->Prop):List V->Prop
 | []=>True
 | v::l=>v.In D/\V.InL D l
end
theorem V.concL_eq(ρ:Env)(l:List V):V.concL ρ l=l.map (V.conc ρ):=by
 induction l with
 | nil=>simp[V.concL]
 | cons v l ih=>simp[V.concL,ih]
theorem V.InL_iff{D:Nat->Prop}{l:List V}:V.InL D l↔∀v∈l,v.In D:=by
 induction l with
 | nil=>simp[V.InL]
 | cons v l ih=>simp[V.InL,ih]
def Agree(D:Nat->Prop)(ρ ρ':Env):Prop:=∀id,D id->ρ'.blk id=ρ.blk id/\ρ'.off id=ρ.off id/\ρ'.cap id=ρ.cap id
theorem Agree.refl(D:Nat->Prop)(ρ:Env):Agree D ρ ρ:=λ_ _=>⟨rfl,rfl,rfl⟩
mutual
theorem V.conc_agree{D:Nat->Prop}{ρ ρ':Env}(h:Agree D ρ ρ'):∀v:V,v.In D->v.conc ρ'=v.conc ρ
 | .bool _,_ | .int _ _,_ | .str _,_ | .nilptr,_ | .nilslice,_ | .nilmap,_ | .nilFunc,_ | .nilIface,_=>by simp[V.conc]
 | .ptr b o,hv=>by simp only[V.In]at hv;obtain⟨h1,h2,_⟩:=h b hv;simp[V.conc,h1,h2]
 | .slice b o n c,hv=>by
  simp only[V.In]at hv;obtain⟨h1,h2,h3⟩:=h b hv;cases c<;>simp[V.conc,Cap.val,h1,h2,h3]
 | .map r,hv=>by simp only[V.In]at hv;obtain⟨h1,_,_⟩:=h r hv;simp[V.conc,h1]
 | .yield l,hv=>by simp only[V.In]at hv;obtain⟨h1,_,_⟩:=h l hv;simp[V.conc,h1]
 | .func f x y,hv=>by
  simp only[V.In]at hv;simp[V.conc,V.concL_agree h x hv.2.1,V.concL_agree h y hv.2.2]
 | .iface t v,hv=>by simp only[V.In]at hv;simp[V.conc,V.conc_agree h v hv]
 | .agg l,hv=>by simp only[V.In]at hv;simp[V.conc,V.concL_agree h l hv]
 | .tuple l,hv=>by simp only[V.In]at hv;simp[V.conc,V.concL_agree h l hv]
theorem V.concL_agree{D:Nat->Prop}{ρ ρ':Env}(h:Agree D ρ ρ'):∀l:List V,V.InL D l->V.concL ρ' l=V.concL ρ l
 | [],_=>by simp[V.concL]
 | v::l,hv=>by simp only[V.InL]at hv;simp[V.concL,V.conc_agree h v hv.1,V.concL_agree h l hv.2]
end
mutual
theorem V.In_mono{D E:Nat->Prop}(h:∀id,D id->E id):∀v:V,v.In D->v.In E
 | .bool _,_ | .int _ _,_ | .str _,_ | .nilptr,_ | .nilslice,_ | .nilmap,_ | .nilFunc,_ | .nilIface,_=>by simp[V.In]
 | .ptr b o,hv=>by simp only[V.In]at *;exact h _ hv
 | .slice b o n c,hv=>by simp only[V.In]at *;exact h _ hv
 | .map r,hv=>by simp only[V.In]at *;exact h _ hv
 | .yield l,hv=>by simp only[V.In]at *;exact h _ hv
 | .func f x y,hv=>by
  simp only[V.In]at *;exact⟨hv.1,V.InL_mono h x hv.2.1,V.InL_mono h y hv.2.2⟩
 | .iface t v,hv=>by simp only[V.In]at *;exact V.In_mono h v hv
 | .agg l,hv=>by simp only[V.In]at *;exact V.InL_mono h l hv
 | .tuple l,hv=>by simp only[V.In]at *;exact V.InL_mono h l hv
theorem V.InL_mono{D E:Nat->Prop}(h:∀id,D id->E id):∀l:List V,V.InL D l->V.InL E l
 | [],_=>by simp[V.InL]
 | v::l,hv=>by simp only[V.InL]at *;exact⟨V.In_mono h v hv.1,V.InL_mono h l hv.2⟩
end
mutual
theorem V.In_and{D E:Nat->Prop}:∀v:V,v.In D->v.In E->v.In (λid=>D id/\E id)
 | .bool _,_,_ | .int _ _,_,_ | .str _,_,_ | .nilptr,_,_ | .nilslice,_,_ | .nilmap,_,_ | .nilFunc,_,_ | .nilIface,_,_=>by simp[V.In]
 | .ptr b o,h1,h2=>by simp only[V.In]at *;exact⟨h1,h2⟩
 | .slice b o n c,h1,h2=>by simp only[V.In]at *;exact⟨h1,h2⟩
 | .map r,h1,h2=>by simp only[V.In]at *;exact⟨h1,h2⟩
 | .yield l,h1,h2=>by simp only[V.In]at *;exact⟨h1,h2⟩
 | .func f x y,h1,h2=>by
  simp only[V.In]at *;exact⟨h1.1,V.InL_and x h1.2.1 h2.2.1,V.InL_and y h1.2.2 h2.2.2⟩
 | .iface t v,h1,h2=>by simp only[V.In]at *;exact V.In_and v h1 h2
 | .agg l,h1,h2=>by simp only[V.In]at *;exact V.InL_and l h1 h2
 | .tuple l,h1,h2=>by simp only[V.In]at *;exact V.InL_and l h1 h2
theorem V.InL_and{D E:Nat->Prop}:∀l:List V,V.InL D l->V.InL E l->V.InL (λid=>D id/\E id) l
 | [],_,_=>by simp[V.InL]
 | v::l,h1,h2=>by simp only[V.InL]at *;exact⟨V.In_and v h1.1 h2.1,V.InL_and l h1.2 h2.2⟩
end
def qC:Nat->List V->Option (List V)
 | 0,_=>some []
 | _+1,[]=>none
 | n+1,v::l=>match qC n l with|some r=>some (v::r)|none=>none
def Yc:Nat->List V->Option (List V)
 | 0,l=>some l
 | _+1,[]=>none
 | n+1,_::l=>Yc n l
def zB2:List V->List V->Option (List V)
 | [],l=>some l
 | _::_,[]=>none
 | v::vs,_::l=>match zB2 vs l with|some r=>some (v::r)|none=>none
def jx:Nat->List V->List V->Option (List V)
 | 0,vs,l=>zB2 vs l
 | _+1,_,[]=>none
 | n+1,vs,x::l=>match jx n vs l with|some r=>some (x::r)|none=>none
def wG:List V->Nat->Nat
 | [],n=>n
 | _::l,n=>wG l (n+1)
theorem zEy:∀{n:Nat}{l r:List V},Yc n l=some r->n<=l.length/\r=l.drop n:=by
 intro n
 induction n with
 | zero=>intro l r h;simp only[Yc,oA]at h;subst h;simp
 | succ n ih =>
  intro l r h;cases l with
  | nil=>simp[Yc]at h
  | cons x l=>simp only[Yc]at h;obtain⟨a,b⟩:=ih h;simp[b];omega
theorem YB:∀{n:Nat}{l r:List V},qC n l=some r->n<=l.length/\r=l.take n:=by
 intro n
 induction n with
 | zero=>intro l r h;simp only[qC,oA]at h;subst h;simp
 | succ n ih =>
  intro l r h;cases l with
  | nil=>simp[qC]at h
  | cons x l =>
   simp only[qC]at h;cases ht:qC n l with
   | none=>simp[ht]at h
   | some q =>
    simp only[ht,oA]at h;obtain⟨a,b⟩:=ih ht;subst h;simp[b];omega
theorem zz:∀(l:List V) (n:Nat),wG l n=l.length+n:=by
 intro l
 induction l with
 | nil=>intro n;simp[wG]
 | cons x l ih=>intro n;simp only[wG,ih,oV];omega
theorem zSO:∀{vs l r:List V},zB2 vs l=some r->vs.length<=l.length/\r.length=l.length/\∀i,r[i]? = if i<vs.length then vs[i]? else l[i]?:=by
 intro vs
 induction vs with
 | nil=>intro l r h;simp only[zB2,oA]at h;subst h;simp
 | cons v vs ih =>
  intro l r h;cases l with
  | nil=>simp[zB2]at h
  | cons x l =>
   simp only[zB2]at h;cases ho:zB2 vs l with
   | none=>simp[ho]at h
   | some q =>
    simp only[ho,oA]at h;obtain⟨a,b,c⟩:=ih ho;subst h;refine⟨by simpa using a,by simpa using b,λi=>?_⟩
    cases i with
    | zero=>simp
    | succ i=>simp[c i]
theorem qo:∀{n:Nat}{vs l r:List V},jx n vs l=some r->n+vs.length<=l.length/\r.length=l.length/\∀i,r[i]? = if n<=i/\i<n+vs.length then vs[i-n]? else l[i]?:=by
 intro n
 induction n with
 | zero =>
  intro vs l r h;have h':zB2 vs l=some r:=by cases l<;>simpa [jx]using h
  obtain⟨a,b,c⟩:=zSO h';exact⟨by omega,b,λi=>by simp[c i]⟩
 | succ n ih =>
  intro vs l r h;cases l with
  | nil=>simp[jx]at h
  | cons x l =>
   simp only[jx]at h;cases ho:jx n vs l with
   | none=>simp[ho]at h
   | some q =>
    simp only[ho,oA]at h;obtain⟨a,b,c⟩:=ih ho;subst h;refine⟨by simp;omega,by simpa using b,λi=>?_⟩
    cases i with
    | zero=>simp
    | succ i =>
     simp only[List.getElem?_cons_succ,c i];by_cases hc:n<=i/\i<n+vs.length
     ·rw[if_pos hc,if_pos (by omega),Nat.add_sub_add_right]
     ·rw[if_neg hc,if_neg (by omega)]
theorem zH2{n:Nat}{vs l r:List V}(h:jx n vs l=some r):∀v∈r,v∈vs\/v∈l:=by
 obtain⟨_,_,c⟩:=qo h;intro v hv;obtain⟨i,hi⟩:=List.mem_iff_getElem?.1 hv;rw[c i]at hi;split at hi
 ·exact .inl (List.mem_of_getElem? hi)
 ·exact .inr (List.mem_of_getElem? hi)
inductive Cs where
 | ls (l:List V)
 | tb (t:Tb V) (n:Nat)
 | big (d:V) (t:T V) (n:Nat)
namespace Cs
def len:Cs->Nat
 | .ls l=>wG l 0
 | .tb _ n=>n
 | .big _ _ n=>n
def getL:List V->Nat->Option V
 | [],_=>none
 | v::l,n=>match n with|0=>some v|n+1=>getL l n
def zFO(d:V)(t:T V)(i:Nat):V:=match t.get i with|some v=>v|none=>d
def get?:Cs->Nat->Option V
 | .ls l,i=>getL l i
 | .tb t n,i=>cond (Nat.blt i n) (some (Tb.get .nilptr t i)) none
 | .big d t n,i=>cond (Nat.blt i n) (some (zFO d t i)) none
def Yi(t:Tb V):Nat->Nat->List V
 | 0,_=>[]
 | k+1,o=>Tb.get .nilptr t o::Yi t k (o+1)
def KX(d:V)(t:T V):Nat->Nat->List V
 | 0,_=>[]
 | k+1,o=>zFO d t o::KX d t k (o+1)
def zHs(l:List V)(o k:Nat):Option (List V):=match Yc o l with|some r=>qC k r|none=>none
def range:Cs->Nat->Nat->Option (List V)
 | .ls l,o,k=>zHs l o k
 | .tb t n,o,k=>cond (Nat.ble (o+k) n) (some (Yi t k o)) none
 | .big d t n,o,k=>cond (Nat.ble (o+k) n) (some (KX d t k o)) none
def ZP:List V->Nat->Tb V->Tb V
 | [],_,t=>t
 | v::vs,o,t=>ZP vs (o+1) (t.set o v)
def jQ:List V->Nat->T V->T V
 | [],_,t=>t
 | v::vs,o,t=>jQ vs (o+1) (t.set o (some v))
def zYC(l:List V)(o:Nat)(vs:List V):Option Cs:=match jx o vs l with|some r=>some (.ls r)|none=>none
def put:Cs->Nat->List V->Option Cs
 | .ls l,o,vs=>zYC l o vs
 | .tb t n,o,vs=>cond (Nat.ble (wG vs o) n && Nat.ble n 511) (some (.tb (ZP vs o t) n)) none
 | .big d t n,o,vs=>cond (Nat.ble (wG vs o) n && Nat.ble n 262143) (some (.big d (jQ vs o t) n)) none
def zFh(l:List V)(m:Nat):Option Cs :=
 cond (Nat.ble m 511) (some (.tb (ZP l 0 (Tb.leaf .nilptr)) m)) (cond (Nat.ble m 262143) (some (.big .nilptr (jQ l 0 .leaf) m)) none)
def zKD(l vs:List V)(m:Nat):Option Cs:=cond (Nat.ble m 16) (some (.ls (l++vs))) (zFh (l++vs) m)
def zRS(t:Tb V)(n:Nat)(vs:List V)(m:Nat):Option Cs :=
 cond (Nat.ble m 511) (some (.tb (ZP vs n t) m)) (cond (Nat.ble m 262143) (some (.big .nilptr (jQ vs n (jQ (Yi t n 0) 0 .leaf)) m)) none)
def app:Cs->List V->Option Cs
 | .ls l,vs=>zKD l vs (wG l (wG vs 0))
 | .tb t n,vs=>zRS t n vs (wG vs n)
 | .big d t n,vs=>cond (Nat.ble (wG vs n) 262143) (some (.big d (jQ vs n t) (wG vs n))) none
def ofL(l:List V):Option Cs:=zKD [] l (wG l 0)
def rep(v:V)(n:Nat):Option Cs :=
 cond (Nat.ble n 511) (some (.tb (Tb.leaf v) n)) (cond (Nat.ble n 262143) (some (.big v .leaf n)) none)
theorem getL_eq:∀(l:List V) (i:Nat),getL l i=l[i]?:=by
 intro l
 induction l with
 | nil=>intro i;simp[getL]
 | cons v l ih=>intro i;cases i with
  | zero=>simp[getL]
  | succ i=>simp[getL,ih]
theorem zGF(t:Tb V):∀(k o:Nat),(Yi t k o).length=k/\∀j,(Yi t k o)[j]? = if j<k then some (Tb.get .nilptr t (o+j)) else none:=by
 intro k
 induction k with
 | zero=>intro o;exact⟨rfl,λj=>by simp[Yi]⟩
 | succ k ih =>
  intro o;obtain⟨a,b⟩:=ih (o+1);refine⟨by simp[Yi,a],λj=>?_⟩
  cases j with
  | zero=>simp[Yi]
  | succ j =>
   simp only[Yi,List.getElem?_cons_succ,b,show o+1+j=o+(j+1)from by omega];by_cases h:j<k
   ·rw[if_pos h,if_pos (by omega)]
   ·rw[if_neg h,if_neg (by omega)]
theorem zPk(d:V)(t:T V):∀(k o:Nat),(KX d t k o).length=k/\∀j,(KX d t k o)[j]? = if j<k then some (zFO d t (o+j)) else none:=by
 intro k
 induction k with
 | zero=>intro o;exact⟨rfl,λj=>by simp[KX]⟩
 | succ k ih =>
  intro o;obtain⟨a,b⟩:=ih (o+1);refine⟨by simp[KX,a],λj=>?_⟩
  cases j with
  | zero=>simp[KX]
  | succ j =>
   simp only[KX,List.getElem?_cons_succ,b,show o+1+j=o+(j+1)from by omega];by_cases h:j<k
   ·rw[if_pos h,if_pos (by omega)]
   ·rw[if_neg h,if_neg (by omega)]
theorem KG:∀(vs:List V) (o:Nat) (t:Tb V) (i:Nat),o+vs.length<=511 ->
  Tb.get .nilptr (ZP vs o t) i=if o<=i/\i<o+vs.length then (vs[i-o]?).getD .nilptr else Tb.get .nilptr t i:=by
 intro vs
 induction vs with
 | nil=>intro o t i _;simp only[ZP,List.length_nil];rw[if_neg (by omega)]
 | cons v vs ih =>
  intro o t i h;simp only[oV]at h ⊢;rw[ZP,ih _ _ _ (by omega),Tb.get_set _ _ _ _ _ (by unfold Tb.top;omega)];by_cases h1:i=o
  ·subst h1
   rw[if_neg (by omega),if_pos rfl,if_pos (by omega)];simp
  ·by_cases h2:o+1<=i/\i<o+1+vs.length
   ·rw[if_pos h2,if_pos (by omega)]
    obtain⟨k,hk⟩:∃k,i-o=k+1:=⟨i-o-1,by omega⟩;rw[hk,List.getElem?_cons_succ,show i-(o+1)=k from by omega]
   ·rw[if_neg h2,if_neg h1,if_neg (by omega)]
theorem qr:∀(vs:List V) (o:Nat) (t:T V) (i:Nat),o+vs.length<=262143 ->
  (jQ vs o t).get i=if o<=i/\i<o+vs.length then vs[i-o]? else t.get i:=by
 intro vs
 induction vs with
 | nil=>intro o t i _;simp only[jQ,List.length_nil];rw[if_neg (by omega)]
 | cons v vs ih =>
  intro o t i h;simp only[oV]at h ⊢;rw[jQ,ih _ _ _ (by omega),T.get_set _ _ _ _ (by unfold T.top;omega)];by_cases h1:i=o
  ·subst h1
   rw[if_neg (by omega),if_pos rfl,if_pos (by omega)];simp
  ·by_cases h2:o+1<=i/\i<o+1+vs.length
   ·rw[if_pos h2,if_pos (by omega)]
    obtain⟨k,hk⟩:∃k,i-o=k+1:=⟨i-o-1,by omega⟩;rw[hk,List.getElem?_cons_succ,show i-(o+1)=k from by omega]
   ·rw[if_neg h2,if_neg h1,if_neg (by omega)]
theorem zCw{a b:Nat}(h:Nat.blt a b=true):a<b:=oE h
theorem zXc{c:Cs}{i:Nat}{v:V}(h:c.get? i=some v):i<c.len:=by
 cases c with
 | ls l =>
  simp only[get?,getL_eq]at h;simp only[len,zz];have:=(List.getElem?_eq_some_iff.1 h).1;omega
 | tb t n =>
  simp only[get?]at h;cases hb:Nat.blt i n with
  | true=>exact zCw hb
  | false=>simp[hb]at h
 | big d t n =>
  simp only[get?]at h;cases hb:Nat.blt i n with
  | true=>exact zCw hb
  | false=>simp[hb]at h
theorem range_eq{c:Cs}{o k:Nat}{x:List V}(h:c.range o k=some x):x.length=k/\o+k<=c.len/\∀j,j<k->x[j]? = c.get? (o+j):=by
 cases c with
 | ls l =>
  simp only[range,zHs]at h;split at h
  ·rename_i r hr
   obtain⟨a1,rfl⟩:=zEy hr;obtain⟨a2,rfl⟩:=YB h;simp only[List.length_drop]at a2;refine⟨by simp;omega,by simp only[len,zz];omega,λj hj=>?_⟩
   rw[List.getElem?_take,if_pos hj,List.getElem?_drop];simp only[get?,getL_eq]
  ·cases h
 | tb t n =>
  simp only[range]at h;cases hb:Nat.ble (o+k) n with
  | false=>simp[hb]at h
  | true =>
   simp only[hb,oK,oA]at h;subst h;have hle:=oE hb;obtain⟨a,b⟩:=zGF t k o;refine⟨a,hle,λj hj=>?_⟩
   have h1:Nat.blt (o+j) n=true:=oC (by omega);rw[b,if_pos hj];simp only[get?,h1,oK]
 | big d t n =>
  simp only[range]at h;cases hb:Nat.ble (o+k) n with
  | false=>simp[hb]at h
  | true =>
   simp only[hb,oK,oA]at h;subst h;have hle:=oE hb;obtain⟨a,b⟩:=zPk d t k o;refine⟨a,hle,λj hj=>?_⟩
   have h1:Nat.blt (o+j) n=true:=oC (by omega);rw[b,if_pos hj];simp only[get?,h1,oK]
theorem range_mem{c:Cs}{o k:Nat}{x:List V}(h:c.range o k=some x){v:V}(hv:v∈x):∃i,c.get? i=some v:=by
 obtain⟨a,_,b⟩:=range_eq h;obtain⟨j,hj⟩:=List.mem_iff_getElem?.1 hv;have hjk:j<k:=by rw[<-a];exact(List.getElem?_eq_some_iff.1 hj).1
 exact⟨o+j,by rw[<-b j hjk];exact hj⟩
theorem range_some{c:Cs}{o k:Nat}(h:o+k<=c.len):∃x,c.range o k=some x:=by
 cases c with
 | ls l =>
  simp only[len,zz,Nat.add_zero]at h;have hd:∀(n:Nat) (l:List V),n<=l.length->Yc n l=some (l.drop n):=by
   intro n
   induction n with
   | zero=>intro l _;simp[Yc]
   | succ n ih=>intro l hl;cases l with
    | nil=>simp at hl
    | cons x l=>simp only[Yc,ih l (by simpa using hl),List.drop_succ_cons]
  have ht:∀(n:Nat) (l:List V),n<=l.length->qC n l=some (l.take n):=by
   intro n
   induction n with
   | zero=>intro l _;simp[qC]
   | succ n ih=>intro l hl;cases l with
    | nil=>simp at hl
    | cons x l=>simp only[qC,ih l (by simpa using hl),List.take_succ_cons]
  exact⟨_,by simp only[range,zHs,hd o l (by omega)];exact ht _ _ (by simp;omega)⟩
 | tb t n =>
  have hb:Nat.ble (o+k) n=true:=oC h;exact⟨_,by simp only[range,hb,oK];rfl⟩
 | big d t n =>
  have hb:Nat.ble (o+k) n=true:=oC h;exact⟨_,by simp only[range,hb,oK];rfl⟩
theorem put_eq{c c':Cs}{o:Nat}{vs:List V}(h:c.put o vs=some c'):
  o+vs.length<=c.len/\c'.len=c.len/\∀i,c'.get? i=if o<=i/\i<o+vs.length then vs[i-o]? else c.get? i:=by
 cases c with
 | ls l =>
  simp only[put,zYC]at h;split at h
  ·rename_i r hr
   simp only[oA]at h;subst h;obtain⟨s1,s2,s3⟩:=qo hr;exact⟨by simp only[len,zz];omega,by simp only[len,zz];omega,λi=>by simp only[get?,getL_eq];exact s3 i⟩
  ·cases h
 | tb t n =>
  simp only[put]at h;cases hb:(Nat.ble (wG vs o) n && Nat.ble n 511)with
  | false=>simp[hb]at h
  | true =>
   simp only[hb,oK,oA]at h;subst h;simp only[oG]at hb;have h1:=oE hb.1;have h2:=oE hb.2;rw[zz]at h1;refine⟨by simp only[len];omega,rfl,λi=>?_⟩
   simp only[get?];rw[KG _ _ _ _ (by omega)];by_cases hi:o<=i/\i<o+vs.length
   ·have hin:Nat.blt i n=true:=oC (by omega)
    rw[if_pos hi,if_pos hi,hin,oK,oO (by omega)];rfl
   ·rw[if_neg hi,if_neg hi]
 | big d t n =>
  simp only[put]at h;cases hb:(Nat.ble (wG vs o) n && Nat.ble n 262143)with
  | false=>simp[hb]at h
  | true =>
   simp only[hb,oK,oA]at h;subst h;simp only[oG]at hb;have h1:=oE hb.1;have h2:=oE hb.2;rw[zz]at h1;refine⟨by simp only[len];omega,rfl,λi=>?_⟩
   simp only[get?,zFO];rw[qr _ _ _ _ (by omega)];by_cases hi:o<=i/\i<o+vs.length
   ·have hin:Nat.blt i n=true:=oC (by omega)
    rw[if_pos hi,if_pos hi,hin,oK,oO (by omega)]
   ·rw[if_neg hi,if_neg hi]
theorem zO2{l:List V}{m:Nat}{c:Cs}(hm:m=l.length)(h:zFh l m=some c):c.len=m/\∀i,c.get? i=l[i]?:=by
 unfold zFh at h;cases hb:Nat.ble m 511 with
 | true =>
  simp only[hb,oK,oA]at h;subst h;have h1:=oE hb;refine⟨rfl,λi=>?_⟩
  simp only[get?];rw[KG _ _ _ _ (by omega)];by_cases hi:i<m
  ·have hin:Nat.blt i m=true:=oC hi
   rw[hin,oK,if_pos (by omega),Nat.sub_zero,oO (by omega)];rfl
  ·have hin:Nat.blt i m=false:=by
    cases hc:Nat.blt i m with
    | false=>rfl
    | true=>exact absurd (zCw hc) hi
   rw[hin,oM,og (by omega)]
 | false =>
  simp only[hb,oM]at h;cases hb2:Nat.ble m 262143 with
  | false=>simp[hb2]at h
  | true =>
   simp only[hb2,oK,oA]at h;subst h;have h1:=oE hb2;refine⟨rfl,λi=>?_⟩
   simp only[get?,zFO];rw[qr _ _ _ _ (by omega)];by_cases hi:i<m
   ·have hin:Nat.blt i m=true:=oC hi
    rw[hin,oK,if_pos (by omega),Nat.sub_zero,oO (by omega)]
   ·have hin:Nat.blt i m=false:=by
     cases hc:Nat.blt i m with
     | false=>rfl
     | true=>exact absurd (zCw hc) hi
    rw[hin,oM,og (by omega)]
theorem zI8{l vs:List V}{m:Nat}{c:Cs}(hm:m=l.length+vs.length)(h:zKD l vs m=some c):c.len=m/\∀i,c.get? i=(l++vs)[i]?:=by
 unfold zKD at h;cases hb:Nat.ble m 16 with
 | true =>
  simp only[hb,oK,oA]at h;subst h;exact⟨by simp only[len,zz,oU];omega,λi=>by simp only[get?,getL_eq]⟩
 | false =>
  simp only[hb,oM]at h;exact zO2 (by rw[oU];exact hm) h
theorem ofL_eq{l:List V}{c:Cs}(h:ofL l=some c):c.len=l.length/\∀i,c.get? i=l[i]?:=by
 have:=zI8 (by simp[zz]) h;simpa [zz]using this
theorem app_eq{c c':Cs}{vs:List V}(h:c.app vs=some c'):c'.len=c.len+vs.length/\∀i,c'.get? i=if i<c.len then c.get? i else vs[i-c.len]?:=by
 cases c with
 | ls l =>
  simp only[app]at h;obtain⟨a,b⟩:=zI8 (by simp only[zz];omega) h;refine⟨by rw[a];simp only[len,zz];omega,λi=>?_⟩
  rw[b];simp only[len,zz,Nat.add_zero,get?,getL_eq];by_cases hi:i<l.length
  ·rw[if_pos hi,List.getElem?_append_left hi]
  ·rw[if_neg hi,List.getElem?_append_right (by omega)]
 | tb t n =>
  simp only[app,zRS]at h;cases hb:Nat.ble (wG vs n) 511 with
  | true =>
   simp only[hb,oK,oA]at h;subst h;have h1:=oE hb;rw[zz]at h1;refine⟨by simp only[len,zz];omega,λi=>?_⟩
   show Cs.get? (.tb (ZP vs n t) (wG vs n)) i=if i<n then Cs.get? (.tb t n) i else vs[i-n]?
   simp only[get?];rw[KG _ _ _ _ (by omega),zz];by_cases hi:i<n
   ·have e1:Nat.blt i (vs.length+n)=true:=oC (by omega)
    have e2:Nat.blt i n=true:=oC hi;rw[if_pos hi,e1,e2,if_neg (by omega)]
   ·rw[if_neg hi]
    by_cases hj:i<vs.length+n
    ·have e1:Nat.blt i (vs.length+n)=true:=oC hj
     rw[e1,oK,if_pos (by omega),oO (by omega)];rfl
    ·have e1:Nat.blt i (vs.length+n)=false:=by
      cases hc:Nat.blt i (vs.length+n)with
      | false=>rfl
      | true=>exact absurd (zCw hc) hj
     rw[e1,oM,og (by omega)]
  | false =>
   simp only[hb,oM]at h;cases hb2:Nat.ble (wG vs n) 262143 with
   | false=>simp[hb2]at h
   | true =>
    simp only[hb2,oK,oA]at h;subst h;have h1:=oE hb2;rw[zz]at h1;obtain⟨r1,r2⟩:=zGF t n 0;refine⟨by simp only[len,zz];omega,λi=>?_⟩
    show Cs.get? (.big .nilptr (jQ vs n (jQ (Yi t n 0) 0 .leaf)) (wG vs n)) i=if i<n then Cs.get? (.tb t n) i else vs[i-n]?
    simp only[get?,zFO];rw[qr _ _ _ _ (by omega),qr _ _ _ _ (by rw[r1];omega),zz];by_cases hi:i<n
    ·have e1:Nat.blt i (vs.length+n)=true:=oC (by omega)
     have e2:Nat.blt i n=true:=oC hi;rw[if_pos hi,e1,e2,if_neg (by omega),if_pos (by rw[r1];omega),r2,if_pos (by omega),Nat.sub_zero,Nat.zero_add]
    ·rw[if_neg hi]
     by_cases hj:i<vs.length+n
     ·have e1:Nat.blt i (vs.length+n)=true:=oC hj
      rw[e1,oK,if_pos (by omega),oO (by omega)]
     ·have e1:Nat.blt i (vs.length+n)=false:=by
       cases hc:Nat.blt i (vs.length+n)with
       | false=>rfl
       | true=>exact absurd (zCw hc) hj
      rw[e1,oM,og (by omega)]
 | big d t n =>
  simp only[app]at h;cases hb:Nat.ble (wG vs n) 262143 with
  | false=>simp[hb]at h
  | true =>
   simp only[hb,oK,oA]at h;subst h;have h1:=oE hb;rw[zz]at h1;refine⟨by simp only[len,zz];omega,λi=>?_⟩
   show Cs.get? (.big d (jQ vs n t) (wG vs n)) i=if i<n then Cs.get? (.big d t n) i else vs[i-n]?
   simp only[get?,zFO];rw[qr _ _ _ _ (by omega),zz];by_cases hi:i<n
   ·have e1:Nat.blt i (vs.length+n)=true:=oC (by omega)
    have e2:Nat.blt i n=true:=oC hi;rw[if_pos hi,e1,e2,if_neg (by omega)]
   ·rw[if_neg hi]
    by_cases hj:i<vs.length+n
    ·have e1:Nat.blt i (vs.length+n)=true:=oC hj
     rw[e1,oK,if_pos (by omega),oO (by omega)]
    ·have e1:Nat.blt i (vs.length+n)=false:=by
      cases hc:Nat.blt i (vs.length+n)with
      | false=>rfl
      | true=>exact absurd (zCw hc) hj
     rw[e1,oM,og (by omega)]
theorem rep_eq{v:V}{n:Nat}{c:Cs}(h:rep v n=some c):c.len=n/\∀i,c.get? i=if i<n then some v else none:=by
 unfold rep at h;have key:∀i,(cond (Nat.blt i n) (some v) none:Option V)=if i<n then some v else none:=λi=>by
  by_cases hi:i<n
  ·have e1:Nat.blt i n=true:=oC hi
   rw[e1,if_pos hi];rfl
  ·have e1:Nat.blt i n=false:=by
    cases hc:Nat.blt i n with
    | false=>rfl
    | true=>exact absurd (zCw hc) hi
   rw[e1,if_neg hi];rfl
 cases hb:Nat.ble n 511 with
 | true =>
  simp only[hb,oK,oA]at h;subst h;have h1:=oE hb;refine⟨rfl,λi=>?_⟩
  rw[<-key];simp only[get?];cases hi:Nat.blt i n with
  | false=>rfl
  | true =>
   have:=zCw hi;simp only[oK];unfold Tb.get Tb.leaf Tb.getF;simp only[N8.get_all];rw[oC (by omega)];rfl
 | false =>
  simp only[hb,oM]at h;cases hb2:Nat.ble n 262143 with
  | false=>simp[hb2]at h
  | true =>
   simp only[hb2,oK,oA]at h;subst h;refine⟨rfl,λi=>?_⟩
   rw[<-key];simp only[get?,zFO,T.get_leaf]
end Cs
def V.one:V->Bool
 | .agg _=>false
 | .tuple _=>false
 | _=>true
def zB:V:=.tuple []
abbrev Tm:Type:=Tb V
def zk(tm:Tm)(t:Nat):V:=Tb.get zB tm t
theorem wK(ρ:Env):zB.conc ρ=undef:=by simp[zB,V.conc,V.concL,undef]
theorem wO(D:Nat->Prop):zB.In D:=by simp[zB,V.In,V.InL]
structure TmR (ρ:Env) (D:Nat->Prop) (n:Nat) (tm:Tm) (a:Array Value):Prop where
 size:a.size=n
 cap:n<=Tb.top
 val:∀t,a.getD t undef=(zk tm t).conc ρ
 inn:∀t,(zk tm t).In D
structure Ent where
 key:V
 val:V
 born:Nat
def Ent.conc(ρ:Env)(e:Ent):MapEntry:={ key:=e.key.conc ρ,val:=e.val.conc ρ,born:=e.born }
structure Rk where
 n:Nat
 ty:Nat
 fz:Nat
inductive O where
 | cells (l:Cs) (esz:Rk) (wr op:Bool)
 | map (es:List Ent) (clock:Nat)
 | loop (st:LoopState) (pending:Option Code) (n:Nat) (tm:Tm) (params:Array Tmp) (assign body:Code) (dfr:Nat)
 | deferred (there:Bool)
 | strIter (l:List UInt8) (pos:Nat)
 | mapIter (m:Option Nat) (since:Nat) (seen:List Nat) (stepped:Nat)
def O.wr:O->Bool
 | .cells _ _ w _=>w
 | _=>true
structure H where
 tbl:T O
 nx:Nat
 low:Nat
def H.get(h:H)(id:Nat):Option O:=h.tbl.get id
def ORel(ρ:Env)(D:Nat->Prop)(b:Nat):O->Option Obj->Prop
 | .cells l esz wr op,x=>∃c e fz,x=some (.cells c e fz)/\(∀i v,l.get? i=some v->c[ρ.off b+i]? = some (v.conc ρ))/\(∀i v,l.get? i=some v->v.In D) /\
   (wr=true->ρ.off b=0/\(∀i,i<c.size->esz.fz<=i->¬(fz.1<=i/\i<fz.2))/\l.len<=c.size/\c.size=(if op then ρ.cap b*esz.n else l.len) /\
    ∀t,esz.ty=t+1->e=t/\(fz.1=fz.2\/(fz.1=0/\fz.2<=esz.fz)))
 | .map es clock,x=>x=some (.map (es.map (Ent.conc ρ)).toArray clock)/\∀e∈es,e.key.In D/\e.val.In D
 | .loop st pending n tm params assign body dfr,x=>∃fn tmps,x=some (.loop { state:=st,pending,fn,tmps,params,assign,body,defers:=ρ.blk dfr })/\TmR ρ D n tm tmps/\D dfr
 | .deferred there,x=>x=some (.deferred (if there then some [] else none))
 | .strIter l pos,x=>x=some (.stringIter ⟨l.toArray⟩ pos)
 | .mapIter m since seen stepped,x=>x=some (.mapIter (m.map ρ.blk) since seen.toArray stepped)/\∀r,m=some r->D r
structure HR (ρ:Env) (D:Nat->Prop) (h:H) (w:World):Prop where
 cap:h.nx<=T.top
 lt:∀id,D id->id<h.nx
 rel:∀id o,D id->h.get id=some o->ORel ρ D id o w.heap[ρ.blk id]?
 inj:∀i j oi oj,D i->D j->h.get i=some oi->h.get j=some oj->oi.wr=true->ρ.blk i=ρ.blk j->i=j
def Dx(D:Nat->Prop)(h h':H):Nat->Prop:=λid=>D id\/(h.nx<=id/\id<h'.nx)
structure Mv (ρ:Env) (D:Nat->Prop) (h:H) (w:World) (ρ':Env) (h':H) (w':World):Prop where
 nx:h.nx<=h'.nx
 size:w.heap.size<=w'.heap.size
 os:w'.os=w.os
 tape:w'.tape=w.tape
 output:w'.output=w.output
 agree:Agree D ρ ρ'
 old:∀id o',id<h.nx->h'.get id=some o'->∃o,h.get id=some o/\o'.wr=o.wr
 img:∀id o',h.nx<=id->id<h'.nx->h'.get id=some o'->o'.wr=true /\
  (w.heap.size<=ρ'.blk id\/∃j o,D j/\h.get j=some o/\o.wr=true/\ρ.blk j=ρ'.blk id/\h'.get j=none)
 frame:∀r,r<w.heap.size->(∀j o,D j->h.get j=some o->o.wr=true->ρ.blk j≠r)->w'.heap[r]? = w.heap[r]?
 low:h'.low<=h.low
 kept:∀id,id<h.nx->id<h'.low->h'.get id=h.get id
theorem wX{D:Nat->Prop}{h h':H}:∀id,D id->Dx D h h' id:=λ_=>.inl
theorem zf{D:Nat->Prop}{h:H}:Dx D h h=D:=by
 funext id;simp only[Dx,eq_iff_iff];constructor
 ·rintro(h1|h1)
  ·exact h1
  ·omega
 ·exact .inl
theorem jD{D:Nat->Prop}{h h':H}(e:h'.nx=h.nx):Dx D h h'=D:=by
 funext id;simp only[Dx,eq_iff_iff];constructor
 ·rintro(h1|h1)
  ·exact h1
  ·omega
 ·exact .inl
theorem wY{D:Nat->Prop}{h h1 h2:H}(a:h.nx<=h1.nx)(b:h1.nx<=h2.nx):Dx (Dx D h h1) h1 h2=Dx D h h2:=by
 funext id;simp only[Dx,eq_iff_iff];constructor
 ·rintro((c|c)|c)
  ·exact .inl c
  ·exact .inr (by omega)
  ·exact .inr (by omega)
 ·rintro(c|c)
  ·exact .inl (.inl c)
  ·by_cases e:id<h1.nx
   ·exact .inl (.inr (by omega))
   ·exact .inr (by omega)
theorem Mv.refl(ρ:Env)(D:Nat->Prop)(h:H)(w:World):Mv ρ D h w ρ h w :=
 ⟨oP _,oP _,rfl,rfl,rfl,Agree.refl _ _,λ_ o' _ e=>⟨o',e,rfl⟩,λ_ _ a b=>by omega,λ_ _ _=>rfl,oP _,λ_ _ _=>rfl⟩
theorem Mv.trans{ρ ρ1 ρ2:Env}{D:Nat->Prop}{h h1 h2:H}{w w1 w2:World}(hD:∀id,D id->id<h.nx)(a:Mv ρ D h w ρ1 h1 w1)(b:Mv ρ1 (Dx D h h1) h1 w1 ρ2 h2 w2):Mv ρ D h w ρ2 h2 w2 where
 nx:=oQ a.nx b.nx
 size:=oQ a.size b.size
 os:=b.os.trans a.os
 tape:=b.tape.trans a.tape
 output:=b.output.trans a.output
 agree:=λid hid=>by
  obtain⟨x1,x2,x3⟩:=a.agree id hid;obtain⟨y1,y2,y3⟩:=b.agree id (.inl hid);exact⟨y1.trans x1,y2.trans x2,y3.trans x3⟩
 old:=λid o' hlt he=>by
  obtain⟨o1,he1,e1⟩:=b.old id o' (oI hlt a.nx) he;obtain⟨o,he2,e2⟩:=a.old id o1 hlt he1;exact⟨o,he2,e1.trans e2⟩
 img:=λid o' h0 h2' he=>by
  have dead:∀k,k<h.nx->h1.get k=none->h2.get k=none:=λk hk hn=>by
   cases hc:h2.get k with
   | none=>rfl
   | some o=>obtain⟨o1,he1,_⟩:=b.old k o (oI hk a.nx) hc;rw[hn]at he1;cases he1
  by_cases hid:id<h1.nx
  ·obtain⟨o1,he1,e1⟩:=b.old id o' hid he
   obtain⟨hw,hi⟩:=a.img id o1 h0 hid he1;have hag:=(b.agree id (.inr ⟨h0,hid⟩)).1;refine⟨e1.trans hw,?_⟩;rcases hi with hi|⟨j,o,d1,d2,d3,d4,d5⟩
   ·exact .inl (by rw[hag];exact hi)
   ·exact .inr ⟨j,o,d1,d2,d3,by rw[hag];exact d4,dead j (hD j d1) d5⟩
  ·obtain⟨hw,hi⟩:=b.img id o' (by omega) h2' he
   refine⟨hw,?_⟩;rcases hi with hi|⟨j,o,d1,d2,d3,d4,d5⟩
   ·exact .inl (oQ a.size hi)
   ·rcases d1 with d1|d1
    ·obtain⟨o0,g1,g2⟩:=a.old j o (hD j d1) d2
     exact .inr ⟨j,o0,d1,g1,g2.symm.trans d3,by rw[<-d4];exact(a.agree j d1).1.symm,d5⟩
    ·obtain⟨_,hj⟩:=a.img j o d1.1 d1.2 d2
     rcases hj with hj|⟨k,ok,k1,k2,k3,k4,k5⟩
     ·exact .inl (by rw[<-d4];exact hj)
     ·exact .inr ⟨k,ok,k1,k2,k3,k4.trans d4,dead k (hD k k1) k5⟩
 frame:=λr hr hno=>by
  rw[b.frame r (oI hr a.size) ?_,a.frame r hr hno];intro j o d1 d2 d3;rcases d1 with d1|d1
  ·obtain⟨o0,g1,g2⟩:=a.old j o (hD j d1) d2
   rw[(a.agree j d1).1];exact hno j o0 d1 g1 (g2.symm.trans d3)
  ·obtain⟨_,hj⟩:=a.img j o d1.1 d1.2 d2
   rcases hj with hj|⟨k,ok,k1,k2,k3,k4,_⟩
   ·omega
   ·rw[<-k4];exact hno k ok k1 k2 k3
 low:=oQ b.low a.low
 kept:=λid h0 hl=>(b.kept id (oI h0 a.nx) hl).trans (a.kept id h0 (oI hl b.low))
theorem HR.of_heap{ρ:Env}{D:Nat->Prop}{h:H}{w w':World}(r:HR ρ D h w)(e:w'.heap=w.heap):HR ρ D h w' :=
 ⟨r.cap,r.lt,by rw[e];exact r.rel,r.inj⟩
theorem Mv.of_heap{ρ:Env}{D:Nat->Prop}{h:H}{w w':World}(e:w'.heap=w.heap)(e1:w'.os=w.os)(e2:w'.tape=w.tape)(e3:w'.output=w.output):Mv ρ D h w ρ h w' :=
 ⟨oP _,by rw[e];exact oP _,e1,e2,e3,Agree.refl _ _,λ_ o' _ e=>⟨o',e,rfl⟩,λ_ _ a b=>by omega,λr _ _=>by rw[e],oP _,λ_ _ _=>rfl⟩
def H.upd(h:H)(id:Nat)(o:Option O):H :=
 match h with
 | ⟨t,n,l⟩=>⟨t.set id o,n,cond (Nat.ble l id) l id⟩
def H.new(h:H)(o:O):H :=
 match h with
 | ⟨t,n,l⟩=>⟨t.set n (some o),n+1,l⟩
theorem H.upd_eq(h:H)(id:Nat)(o:Option O):h.upd id o = { tbl:=h.tbl.set id o,nx:=h.nx,low:=cond (Nat.ble h.low id) h.low id }:=rfl
theorem H.new_eq(h:H)(o:O):h.new o = { tbl:=h.tbl.set h.nx (some o),nx:=h.nx+1,low:=h.low }:=rfl
def Env.at(ρ : Env)(id blk cap : Nat): Env :=
  { blk := λi => if i = id then blk else ρ.blk i
    off := λi => if i = id then 0 else ρ.off i
    cap := λi => if i = id then cap else ρ.cap i }
@[simp] theorem Env.at_blk (ρ:Env) (id b c:Nat):(ρ.at id b c).blk id=b:=by simp[Env.at]
@[simp] theorem Env.at_off (ρ:Env) (id b c:Nat):(ρ.at id b c).off id=0:=by simp[Env.at]
@[simp] theorem Env.at_cap (ρ:Env) (id b c:Nat):(ρ.at id b c).cap id=c:=by simp[Env.at]
theorem Env.at_agree{ρ:Env}{D:Nat->Prop}{id b c:Nat}(h:¬D id):Agree D ρ (ρ.at id b c):=λi hi=>by
 have:i≠id:=λe=>h (e ▸ hi)
 simp[Env.at,this]
theorem H.low_upd(h:H)(id:Nat)(o:Option O):(h.upd id o).low=min h.low id:=by
 rw[H.upd_eq];cases hb:Nat.ble h.low id
 ·have:¬h.low<=id:=λe=>by rw[oC e]at hb;cases hb
  simp only[oM];omega
 ·have:=oE hb
  simp only[oK];omega
theorem H.get_upd(h:H)(id j:Nat)(o:Option O)(hl:id<T.top):(h.upd id o).get j=if j=id then o else h.get j:=by
 simp[H.upd_eq,H.get,T.get_set _ _ _ _ hl]
theorem H.get_new(h:H)(j:Nat)(o:O)(hl:h.nx<T.top):(h.new o).get j=if j=h.nx then some o else h.get j:=by
 simp[H.new_eq,H.get,T.get_set _ _ _ _ hl]
theorem TmR.agree{ρ ρ':Env}{D D':Nat->Prop}{n:Nat}{tm:Tm}{a:Array Value}(h:TmR ρ D n tm a)(hs:∀id,D id->D' id)(ha:Agree D ρ ρ'):TmR ρ' D' n tm a :=
 ⟨h.size,h.cap,λt=>by rw[V.conc_agree ha _ (h.inn t)];exact h.val t,λt=>V.In_mono hs _ (h.inn t)⟩
theorem ORel.agree{ρ ρ':Env}{D D':Nat->Prop}{b:Nat}{o:O}{x:Option Obj}(h:ORel ρ D b o x)(hb:D b)(hs:∀id,D id->D' id)(ha:Agree D ρ ρ'):ORel ρ' D' b o x:=by
 cases o with
 | cells l esz wr op =>
  obtain⟨c,e,fz,rfl,h1,h2,h3⟩:=h;obtain⟨_,a2,a3⟩:=ha b hb;refine⟨c,e,fz,rfl,λi v hv=>?_,λi v hv=>V.In_mono hs _ (h2 i v hv),?_⟩
  ·rw[a2,V.conc_agree ha v (h2 i v hv)];exact h1 i v hv
  ·rw[a2,a3];exact h3
 | map es clock =>
  obtain⟨h1,h2⟩:=h;refine⟨?_,λe he=>⟨V.In_mono hs _ (h2 e he).1,V.In_mono hs _ (h2 e he).2⟩⟩
  rw[h1]
  congr 2
  congr 1
  apply List.map_congr_left;intro e he;simp[Ent.conc,V.conc_agree ha _ (h2 e he).1,V.conc_agree ha _ (h2 e he).2]
 | loop st pending n tm params assign body dfr =>
  obtain⟨fn,tmps,h1,h2,h3⟩:=h;refine⟨fn,tmps,?_,h2.agree hs ha,hs _ h3⟩;rw[h1,(ha dfr h3).1]
 | deferred there=>exact h
 | strIter l pos=>exact h
 | mapIter m since seen stepped =>
  obtain⟨h1,h2⟩:=h;refine⟨?_,λr hr=>hs _ (h2 r hr)⟩
  cases m with
  | none=>exact h1
  | some r=>simp only[oZ]at *;rw[(ha r (h2 r rfl)).1];exact h1
theorem ORel.some{ρ:Env}{D:Nat->Prop}{b:Nat}{o:O}{x:Option Obj}(h:ORel ρ D b o x):∃y,x=some y:=by
 cases o with
 | cells l esz wr op=>obtain⟨c,e,fz,rfl,_⟩:=h;exact⟨_,rfl⟩
 | map es clock=>exact⟨_,h.1⟩
 | loop st pending n tm params assign body dfr=>obtain⟨fn,tmps,h1,_⟩:=h;exact⟨_,h1⟩
 | deferred there=>exact⟨_,h⟩
 | strIter l pos=>exact⟨_,h⟩
 | mapIter m since seen stepped=>exact⟨_,h.1⟩
theorem HR.lt_size{ρ:Env}{D:Nat->Prop}{h:H}{w:World}(r:HR ρ D h w){id:Nat}{o:O}(hd:D id)(hg:h.get id=some o):ρ.blk id<w.heap.size:=by
 obtain⟨y,hy⟩:=(r.rel id o hd hg).some;rcases Nat.lt_or_ge (ρ.blk id) w.heap.size with g|g
 ·exact g
 ·rw[Array.getElem?_eq_none g]at hy;cases hy
theorem HR.upd{ρ:Env}{D:Nat->Prop}{h:H}{w:World}(r:HR ρ D h w){b:Nat}{o o':O}{x:Obj}(hd:D b)(hg:h.get b=some o)(hw:o.wr=true)(_:o'.wr=true)(hx:ORel ρ D b o' (some x)):HR ρ D (h.upd b (some o')) (w.putObj (ρ.blk b) x) where
 cap:=r.cap
 lt:=r.lt
 rel:=λid o1 d1 g1=>by
  have hb:b<T.top:=oI (r.lt b hd) r.cap;rw[H.get_upd _ _ _ _ hb]at g1;by_cases e:id=b
  ·subst e
   rw[if_pos rfl]at g1;cases g1;rw[World.putObj_heap_same (r.lt_size hd hg)];exact hx
  ·rw[if_neg e]at g1
   have hne:ρ.blk id≠ρ.blk b:=λhc=>e (r.inj b id o o1 hd d1 hg g1 hw hc.symm).symm
   rw[World.putObj_heap_other hne];exact r.rel id o1 d1 g1
 inj:=λi j oi oj di dj gi gj wi hij=>by
  have hb:b<T.top:=oI (r.lt b hd) r.cap;rw[H.get_upd _ _ _ _ hb]at gi gj;by_cases ei:i=b
  ·by_cases ej:j=b
   ·rw[ei,ej]
   ·rw[if_neg ej]at gj;subst ei;exact r.inj i j o oj hd dj hg gj hw hij
  ·rw[if_neg ei]at gi
   by_cases ej:j=b
   ·subst ej;exact r.inj i j oi o di dj gi hg wi hij
   ·rw[if_neg ej]at gj;exact r.inj i j oi oj di dj gi gj wi hij
theorem Mv.upd{ρ:Env}{D:Nat->Prop}{h:H}{w:World}(r:HR ρ D h w){b:Nat}{o o':O}{x:Obj}(hd:D b)(hg:h.get b=some o)(hw:o.wr=true)(hw':o'.wr=true):
  Mv ρ D h w ρ (h.upd b (some o')) (w.putObj (ρ.blk b) x) where
 nx:=oP _
 size:=by simp
 os:=rfl
 tape:=rfl
 output:=rfl
 agree:=Agree.refl _ _
 old:=λid o1 _ g1=>by
  have hb:b<T.top:=oI (r.lt b hd) r.cap;rw[H.get_upd _ _ _ _ hb]at g1;by_cases e:id=b
  ·subst e;rw[if_pos rfl]at g1;cases g1;exact⟨o,hg,hw'.trans hw.symm⟩
  ·rw[if_neg e]at g1;exact⟨o1,g1,rfl⟩
 img:=λid _ a b _=>by simp only[H.upd_eq]at b;omega
 frame:=λk _ hk=>World.putObj_heap_other (λe=>hk b o hd hg hw e.symm)
 low:=by rw[H.low_upd];omega
 kept:=λid _ hl=>by
  have hb:b<T.top:=oI (r.lt b hd) r.cap;rw[H.low_upd]at hl;rw[H.get_upd _ _ _ _ hb,if_neg (by omega)]
theorem HR.new{ρ:Env}{D:Nat->Prop}{h:H}{w:World}(r:HR ρ D h w){o:O}{x:Obj}(c:Nat)(hn:h.nx<T.top)(hx:ORel (ρ.at h.nx w.heap.size c) (Dx D h (h.new o)) h.nx o (some x)):HR (ρ.at h.nx w.heap.size c) (Dx D h (h.new o)) (h.new o) (w.alloc x):=by
 have hnd:¬D h.nx:=λhd=>by have:=r.lt _ hd;omega
 have hag:Agree D ρ (ρ.at h.nx w.heap.size c):=Env.at_agree hnd;have hcase:∀id,Dx D h (h.new o) id->id=h.nx\/(D id/\id≠h.nx):=by
  rintro id (d|d)
  ·exact .inr ⟨d,λe=>hnd (e ▸ d)⟩
  ·simp only[H.new_eq]at d;exact .inl (by omega)
 refine⟨by simp only[H.new_eq];omega,?_,?_,?_⟩
 ·rintro id d
  rcases hcase id d with e|⟨d,_⟩
  ·simp only[H.new_eq];omega
  ·have:=r.lt id d;simp only[H.new_eq];omega
 ·rintro id o1 d g1
  rw[H.get_new _ _ _ hn]at g1;rcases hcase id d with e|⟨d1,e⟩
  ·subst e
   rw[if_pos rfl]at g1;cases g1;rw[Env.at_blk,World.alloc_heap_new];exact hx
  ·rw[if_neg e]at g1
   have hr:=r.rel id o1 d1 g1;have hlt:=r.lt_size d1 g1;rw[(hag id d1).1,show(w.alloc x).heap[ρ.blk id]? = w.heap[ρ.blk id]? from by
    show(w.heap.push x)[ρ.blk id]? = _;rw[Array.getElem?_push,if_neg (by omega)]]
   exact hr.agree d1 wX hag
 ·rintro i j oi oj di dj gi gj wi hij
  rw[H.get_new _ _ _ hn]at gi gj;rcases hcase i di with ei|⟨di,ei⟩<;>rcases hcase j dj with ej|⟨dj,ej⟩
  ·rw[ei,ej]
  ·rw[if_neg ej]at gj
   have:=r.lt_size dj gj;subst ei;rw[Env.at_blk,(hag j dj).1]at hij;omega
  ·rw[if_neg ei]at gi
   have:=r.lt_size di gi;subst ej;rw[Env.at_blk,(hag i di).1]at hij;omega
  ·rw[if_neg ei]at gi;rw[if_neg ej]at gj
   rw[(hag i di).1,(hag j dj).1]at hij;exact r.inj i j oi oj di dj gi gj wi hij
theorem Mv.new{ρ:Env}{D:Nat->Prop}{h:H}{w:World}(r:HR ρ D h w){o:O}{x:Obj}(c:Nat)(hn:h.nx<T.top)(hw:o.wr=true):
  Mv ρ D h w (ρ.at h.nx w.heap.size c) (h.new o) (w.alloc x):=by
 have hnd:¬D h.nx:=λhd=>by have:=r.lt _ hd;omega
 refine⟨by simp[H.new_eq],by simp,rfl,rfl,rfl,Env.at_agree hnd,?_,?_,?_,oP _,?_⟩
 ·intro id o1 hlt g1
  rw[H.get_new _ _ _ hn,if_neg (by omega)]at g1;exact⟨o1,g1,rfl⟩
 ·intro id o1 h0 h1 g1
  simp only[H.new_eq]at h1;obtain rfl:id=h.nx:=by omega
  rw[H.get_new _ _ _ hn,if_pos rfl]at g1;cases g1;exact⟨hw,.inl (by rw[Env.at_blk];exact oP _)⟩
 ·intro k hk _
  show(w.heap.push x)[k]? = _;rw[Array.getElem?_push,if_neg (by omega)]
 ·intro id h0 _
  rw[H.get_new _ _ _ hn,if_neg (by omega)]
structure TI where
 id:Nat
 desc:TypeDesc
 size:Nat
 bytes:Nat
 zero:Option V
 cmp:Bool
 held:Bool
 guard:Bool
 meth:List Method
structure FI where
 n:Nat
 results:List ResultVar
 body:Code
structure Ctx where
 ty:T TI
 fn:T FI
 noesc:Option Nat
 mnz:Option (Nat×Nat)
 lies:Nat->Nat->Nat->Bool
inductive AD where
 | coll (id:Nat)
 | fn (f:Nat) (captured args:List V)
def zLI:Value->Option V
 | .bool b=>some (.bool b)
 | .int k n=>some (.int k n)
 | .string s=>some (.str s.data.toList)
 | .pointer none=>some .nilptr
 | .slice none 0 0=>some .nilslice
 | .map none=>some .nilmap
 | .func (.func f) ⟨[]⟩ ⟨[]⟩=>some (.func (.func f) [] [])
 | .nilFunc=>some .nilFunc
 | .nilIface=>some .nilIface
 | _=>none
def zLJ:List Value->Option (List V)
 | []=>some []
 | v::l =>
  match zLI v with
  | none=>none
  | some x =>
   match zLJ l with
   | none=>none
   | some y=>some (x::y)
def ofV:Value->Option V
 | .agg ⟨l⟩=>match zLJ l with|some x=>some (.agg x)|none=>none
 | .iface t v=>match zLI v with|some x=>some (.iface t x)|none=>none
 | v=>zLI v
def yF(tm:Tm):Operand->Option V
 | .tmp t=>some (zk tm t)
 | .const v=>ofV v
 | .func f=>some (.func (.func f) [] [])
 | .global _=>none
def ZW(e:Operand->Option V):List Operand->Option (List V)
 | []=>some []
 | x::l =>
  match e x with
  | none=>none
  | some v =>
   match ZW e l with
   | none=>none
   | some r=>some (v::r)
def jZ:TypeDesc->Bool
 | .struct _=>true
 | .array _ _=>true
 | _=>false
def zL:List V->Bool
 | []=>true
 | v::l=>cond v.one (zL l) false
def V.cells:V->List V
 | .agg l=>l
 | v=>[v]
def qI:List UInt8->Nat->Nat
 | [],n=>n
 | _::l,n=>qI l (n+1)
def wU:List V->Nat->Bool
 | [],0=>true
 | _::l,n+1=>wU l n
 | _,_=>false
def zK(c:Ctx)(t:TypeId)(h:H):V->Option V
 | .ptr b o =>
  match h.get b with
  | some (.cells l _ _ _) =>
   match c.ty.get t with
   | some ti =>
    cond (jZ ti.desc) (match l.range o ti.size with|some x=>some (.agg x)|none=>none) (l.get? o)
   | none=>none
  | _=>none
 | _=>none
def zg(c : Ctx)(t : TypeId)(h : H)(a v : V): Option H :=
  match a with
  | .ptr b o =>
    match h.get b with
    | some (.cells l esz true op) =>
      match c.ty.get t with
      | some ti =>
        cond (wU v.cells ti.size)
          (cond (cond (Nat.ble esz.fz o) (zL v.cells) false)
            (match l.put o v.cells with
            | some l' => some (h.upd b (some (.cells l' esz true op)))
            | none => none) none) none
      | none => none
    | _ => none
  | _ => none
def qg(h:H)(r:Option Cs)(esz:Rk)(op:Bool):Option (Nat×H) :=
 cond (Nat.blt h.nx T.top) (match r with|some cs=>some (h.nx,h.new (.cells cs esz true op))|none=>none) none
def Z2(h:H)(l:List V)(esz:Rk)(op:Bool):Option (Nat×H):=cond (zL l) (qg h (Cs.ofL l) esz op) none
def zT(k:IntKind)(n:Int):Int :=
 match k with
 | .i64=>match n with
  | .ofNat m=>cond (Nat.blt m 9223372036854775808) (.ofNat m) (k.wrap (.ofNat m))
  | .negSucc m=>cond (Nat.blt m 9223372036854775808) (.negSucc m) (k.wrap (.negSucc m))
 | .u64=>match n with
  | .ofNat m=>cond (Nat.blt m 18446744073709551616) (.ofNat m) (.ofNat (m % 18446744073709551616))
  | .negSucc m=>k.wrap (.negSucc m)
 | .u8=>match n with
  | .ofNat m=>.ofNat (m % 256)
  | .negSucc m=>k.wrap (.negSucc m)
 | k=>k.wrap n
def JU:Int->Int->Bool
 | .ofNat a,.ofNat b=>Nat.blt a b
 | .ofNat _,.negSucc _=>false
 | .negSucc _,.ofNat _=>true
 | .negSucc a,.negSucc b=>Nat.blt b a
def eqF:Int->Int->Bool
 | .ofNat a,.ofNat b=>Nat.beq a b
 | .negSucc a,.negSucc b=>Nat.beq a b
 | _,_=>false
def Yp:Int->Int->Int
 | .ofNat a,.ofNat b=>.ofNat (a+b)
 | a,b=>a+b
def zSf:Int->Int->Int
 | .ofNat a,.ofNat b=>cond (Nat.ble b a) (.ofNat (a-b)) (.negSucc (b-a-1))
 | a,b=>a-b
def zXr:Int->Int->Int
 | .ofNat a,.ofNat b=>.ofNat (a*b)
 | a,b=>a*b
def zB6(x:Int)(n:Nat):Int :=
 match x with
 | .ofNat a=>.ofNat (Nat.shiftRight a n)
 | x=>x.fdiv (2^n)
def zL8(x:Int)(n:Nat):Int :=
 match x with
 | .ofNat a=>.ofNat (Nat.shiftLeft a n)
 | x=>x*2^n
def zMp:Int->Int->Int
 | .ofNat a,.ofNat b=>.ofNat (a/b)
 | a,b=>a.tdiv b
def z1r:Int->Int->Int
 | .ofNat a,.ofNat b=>.ofNat (a % b)
 | a,b=>a.tmod b
def wm:IntKind->IntKind->Bool
 | .i8,.i8 | .i16,.i16 | .i32,.i32 | .i64,.i64 | .u8,.u8 | .u16,.u16 | .u32,.u32 | .u64,.u64=>true
 | _,_=>false
def Ob(op:BinOp)(k:IntKind)(x y:Int):Option V :=
 let a:=BitVec.ofInt k.bits x
 let b:=BitVec.ofInt k.bits y
 match op with
 | .and=>some (.int k (k.wrap (a &&& b).toNat))
 | .or=>some (.int k (k.wrap (a ||| b).toNat))
 | .xor=>some (.int k (k.wrap (a ^^^ b).toNat))
 | .andNot=>some (.int k (k.wrap (a &&& ~~~b).toNat))
 | _=>none
def zq(op:BinOp)(k:IntKind)(x y:Int):Option V :=
 match op with
 | .add=>some (.int k (zT k (Yp x y)))
 | .sub=>some (.int k (zT k (zSf x y)))
 | .mul=>some (.int k (zT k (zXr x y)))
 | .quo=>cond (eqF y 0) none (some (.int k (zT k (zMp x y))))
 | .rem=>cond (eqF y 0) none (some (.int k (z1r x y)))
 | .eql=>some (.bool (eqF x y))
 | .neq=>some (.bool (!eqF x y))
 | .lss=>some (.bool (JU x y))
 | .leq=>some (.bool (!JU y x))
 | .gtr=>some (.bool (JU y x))
 | .geq=>some (.bool (!JU x y))
 | .shl=>cond (JU y 0) none (some (.int k (zT k (zL8 x (cond (Nat.ble y.toNat k.bits) y.toNat k.bits)))))
 | .shr=>cond (JU y 0) none (some (.int k (zB6 x (cond (Nat.ble y.toNat k.bits) y.toNat k.bits))))
 | op=>Ob op k x y
def jN:BinOp->Bool
 | .shl | .shr=>true
 | _=>false
def eqB:List UInt8->List UInt8->Bool
 | [],[]=>true
 | a::x,b::y=>cond (Nat.beq a.toNat b.toNat) (eqB x y) false
 | _,_=>false
def zIF(op:BinOp)(x y:List UInt8):Option V :=
 match op with
 | .add=>cond (Nat.ble (qI x (qI y 0)) 4611686018427387904) (some (.str (x++y))) none
 | .eql=>some (.bool (eqB x y))
 | .neq=>some (.bool (!eqB x y))
 | .lss=>some (.bool (Op.bytesLess x y))
 | .geq=>some (.bool (!Op.bytesLess x y))
 | _=>none
def eq1(d:TypeDesc)(x y:V):Option Bool :=
 match d,x,y with
 | .bool,.bool a,.bool b=>some (a == b)
 | .int _,.int j a,.int k b=>cond (wm j k) (some (eqF a b)) none
 | .string,.str a,.str b=>some (eqB a b)
 | .pointer _,.nilptr,.nilptr=>some true
 | .pointer _,.nilptr,.ptr _ _=>some false
 | .pointer _,.ptr _ _,.nilptr=>some false
 | .interface _,.nilIface,.nilIface=>some true
 | .interface _,.nilIface,.iface _ _=>some false
 | .interface _,.iface _ _,.nilIface=>some false
 | .slice _,.nilslice,.nilslice=>some true
 | .slice _,.nilslice,.slice _ _ _ _=>some false
 | .slice _,.slice _ _ _ _,.nilslice=>some false
 | .map _ _,.nilmap,.nilmap=>some true
 | .map _ _,.nilmap,.map _=>some false
 | .map _ _,.map _,.nilmap=>some false
 | .func _ _ _,.nilFunc,.nilFunc=>some true
 | .func _ _ _,.nilFunc,.func _ _ _=>some false
 | .func _ _ _,.nilFunc,.yield _=>some false
 | .func _ _ _,.func _ _ _,.nilFunc=>some false
 | .func _ _ _,.yield _,.nilFunc=>some false
 | _,_,_=>none
def apart(ti:TI)(l:List V)(off:Nat):Option V :=
 match Yc off l with
 | none=>none
 | some r=>cond (jZ ti.desc) (match qC ti.size r with|some x=>some (.agg x)|none=>none) (match r with|v::_=>some v | []=>none)
def zMN(c : Ctx)(rec_ : TypeId -> V -> V -> Option Bool): List Field -> List V -> List V -> Option Bool
  | [], _, _ => some true
  | f::fs, xs, ys =>
    cond (f.name == "_") none
      (match c.ty.get f.type with
      | none => none
      | some ti =>
        match apart ti xs f.offset, apart ti ys f.offset with
        | some x, some y =>
          match rec_ f.type x y with
          | some true => zMN c rec_ fs xs ys
          | r => r
        | _, _ => none)
def zMM(ti:TI)(rec_:V->V->Option Bool):Nat->Nat->List V->List V->Option Bool
 | 0,_,_,_=>some true
 | k+1,i,xs,ys =>
  match apart ti xs (i*ti.size),apart ti ys (i*ti.size)with
  | some x,some y =>
   match rec_ x y with
   | some true=>zMM ti rec_ k (i+1) xs ys
   | r=>r
  | _,_=>none
def aeq(c:Ctx):Nat->TypeId->V->V->Option Bool
 | 0,_,_,_=>none
 | d+1,t,x,y =>
  match c.ty.get t with
  | none=>none
  | some ti =>
   match ti.desc,x,y with
   | .struct fs,.agg xs,.agg ys=>cond ti.held none (zMN c (aeq c d) fs.toList xs ys)
   | .array n e,.agg xs,.agg ys=>match c.ty.get e with|none=>none|some te=>zMM te (aeq c d e) n 0 xs ys
   | .interface _,.iface tx vx,.iface ty vy =>
    cond (Nat.beq tx ty) (match c.ty.get tx with|none=>none|some ti=>cond ti.cmp (aeq c d tx vx vy) none) (some false)
   | .pointer te,.ptr b o,.ptr b' o'=>match c.ty.get te with|none=>none|some te=>cond (Nat.beq b b' && Nat.blt 0 te.size) (some (Nat.beq o o')) none
   | d,x,y=>eq1 d x y
def Xn:Operand->Bool
 | .const _=>true
 | _=>false
def Jc(c:Ctx)(t:TypeId)(x y:Operand)(a b:V):Bool :=
 match a,b with
 | .nilIface,.nilIface=>Xn x || Xn y
 | .agg _,.agg _=>match c.ty.get t with|some ti=>!ti.guard|none=>false
 | _,_=>true
def Yo(c:Ctx)(op:BinOp)(t:TypeId)(x y:Operand)(a b:V):Option V :=
 match a,b with
 | .int k m,.int k' n=>cond (jN op) (zq op k m n) (cond (wm k k') (zq op k m n) none)
 | .str m,.str n=>zIF op m n
 | a,b =>
  match op with
  | .eql=>cond (Jc c t x y a b) (match aeq c 30 t a b with|some r=>some (.bool r)|none=>none) none
  | .neq=>cond (Jc c t x y a b) (match aeq c 30 t a b with|some r=>some (.bool (!r))|none=>none) none
  | _=>none
def aun:UnOp->V->Option V
 | .neg,.int k n=>some (.int k (zT k (zSf 0 n)))
 | .xor,.int k n=>Ob .xor k (if k.signed then -1 else k.max) n
 | .not,.bool b=>some (.bool (!b))
 | _,_=>none
def xg:List V->Option (List UInt8)
 | []=>some []
 | .int .u8 n::l=>match xg l with|some r=>some (UInt8.ofNat n.toNat::r)|none=>none
 | _::_=>none
def yM:List UInt8->List V
 | []=>[]
 | b::l=>.int .u8 (.ofNat b.toNat)::yM l
def xD(z:List V):Nat->List V
 | 0=>[]
 | n+1=>z++xD z n
def yx:Int->Option Nat
 | .ofNat n=>some n
 | .negSucc _=>none
def xN(c:Ctx)(s d:TypeId)(h:H)(v:V):Option (V×H) :=
 match c.ty.get s,c.ty.get d with
 | some ts,some td =>
  match ts.desc,td.desc,v with
  | .int _,.int k,.int _ n=>some (.int k (zT k n),h)
  | .string,.string,.str l=>some (.str l,h)
  | .string,.slice e,.str l =>
   match c.ty.get e with
   | some te =>
    match te.desc with
    | .int .u8=>match Z2 h (yM l) ⟨1,0,0⟩ true with|some (b,h')=>some (.slice b 0 (qI l 0) (.skip 0),h')|none=>none
    | _=>none
   | none=>none
  | .slice e,.string,.nilslice =>
   match c.ty.get e with
   | some te=>match te.desc with | .int .u8=>some (.str [],h)|_=>none
   | none=>none
  | .pointer t,.unsafePointer,.ptr b o =>
   match c.ty.get t,h.get b with
   | some tt,some (.cells l _ _ _)=>cond (Nat.blt 0 tt.size) (match l.get? o with|some _=>some (.ptr b o,h)|none=>none) none
   | _,_=>none
  | .unsafePointer,.pointer u,.ptr b o =>
   match c.ty.get u,h.get b with
   | some _,some (.cells l esz true false) =>
    match esz.ty with
    | e+1=>match c.ty.get e with
     | some te=>cond (Nat.blt 0 te.size && Nat.beq l.len te.size && c.lies e u o) (some (.ptr b o,h)) none
     | none=>none
    | 0=>none
   | _,_=>none
  | .slice e,.string,.slice b o len _ =>
   match c.ty.get e with
   | some te =>
    match te.desc with
    | .int .u8 =>
     match h.get b with
     | some (.cells l _ _ _) =>
      match l.range o len with
      | some x=>(match xg x with|some y=>some (.str y,h)|none=>none)
      | none=>none
     | _=>none
    | _=>none
   | none=>none
  | .slice _,.slice e,.slice b o len cp =>
   cond (Nat.beq s d) (match c.ty.get e with
   | some te =>
    match te.desc with
    | .int .u8 =>
     match h.get b with
     | some (.cells l esz true op)=>cond (Nat.beq esz.fz 0 && Nat.blt 0 esz.ty) (some (.slice b o len cp,h.upd b (some (.cells l ⟨esz.n,0,0⟩ true op)))) none
     | _=>none
    | _=>none
   | none=>none) none
  | _,_,_=>none
 | _,_=>none
def bnd:Option V->Nat->Nat->Option Nat
 | none,d,_=>some d
 | some (.int _ n),_,top=>match yx n with|some m=>cond (Nat.ble m top) (some m) none|none=>none
 | some _,_,_=>none
def Zz(l:List UInt8)(lo hi:Nat):List UInt8:=(l.drop lo).take (hi-lo)
def zI9(b o k:Nat)(mx hi lo:Option V):Option V :=
 match mx,hi,lo with
 | none,some (.int _ (.ofNat 0)),none=>some (.slice b o 0 (.skip k))
 | _,_,_=>none
def yB(c : Ctx)(t : TypeId)(h : H)(x : V)(lo hi mx : Option V): Option V :=
  match c.ty.get t with
  | none => none
  | some ti =>
    match ti.desc, x with
    | .string, .str l =>
      match mx with
      | some _ => none
      | none =>
        let n := qI l 0
        match bnd hi n n with
        | none => none
        | some hh => match bnd lo 0 hh with|none => none|some ll => some (.str (Zz l ll hh))
    | .array n e, .ptr b o =>
      match c.ty.get e with
      | none => none
      | some te =>
        match bnd mx n n with
        | none => none
        | some m =>
          match bnd hi n m with
          | none => none
          | some hh =>
            cond (mx.isSome && hi.isNone) none
            (match bnd lo 0 hh with
            | none => none
            | some ll => some (.slice b (cond (Nat.beq m ll) o (o + ll * te.size)) (hh - ll) (.exact (m - ll))))
    | .slice e, .nilslice =>
      match c.ty.get e with
      | none => none
      | some _ =>
        match bnd mx 0 0 with
        | none => none
        | some m =>
          match bnd hi 0 m with
          | none => none
          | some hh => cond (mx.isSome && hi.isNone) none (match bnd lo 0 hh with|none => none|some _ => some .nilslice)
    | .slice e, .slice b o len (.exact cp) =>
      match c.ty.get e with
      | none => none
      | some te =>
        match bnd mx cp cp with
        | none => none
        | some m =>
          match bnd hi len m with
          | none => none
          | some hh =>
            cond (mx.isSome && hi.isNone) none
            (match bnd lo 0 hh with
            | none => none
            | some ll => some (.slice b (cond (Nat.beq m ll) o (o + ll * te.size)) (hh - ll) (.exact (m - ll))))
    | .slice e, .slice b o len (.skip k) =>
      match c.ty.get e, h.get b with
      | some te, some (.cells l esz true true) =>
        cond (Nat.beq esz.n te.size && Nat.blt 0 esz.n && Nat.beq o (k * esz.n))
        (cond (Nat.ble (o + len * esz.n) l.len)
          (match mx with
          | some _ =>
            cond hi.isNone none
            (match bnd mx 0 len with
            | none => none
            | some m =>
              match bnd hi len m with
              | none => none
              | some hh =>
                match bnd lo 0 hh with
                | none => none
                | some ll => some (.slice b (cond (Nat.beq m ll) o (o + ll * te.size)) (hh - ll) (.exact (m - ll))))
          | none =>
            match bnd hi len len with
            | none => none
            | some hh =>
              match bnd lo 0 hh with
              | none => none
              | some ll =>
                cond (Nat.beq ll 0) (some (.slice b o hh (.skip k)))
                (cond (Nat.blt ll len) (some (.slice b (o + ll * te.size) (hh - ll) (.skip (k + ll)))) none)) (zI9 b o k mx hi lo)) none
      | _, _ => none
    | _, _ => none
def z8(c:Ctx)(t:TypeId)(x ix:V):Option V :=
 match ix with
 | .int _ n =>
  match yx n,c.ty.get t with
  | some i,some ti =>
   match ti.desc,x with
   | .array len e,.ptr b o=>cond (Nat.blt i len) (match c.ty.get e with|some te=>some (.ptr b (o+i*te.size))|none=>none) none
   | .slice e,.slice b o len _=>cond (Nat.blt i len) (match c.ty.get e with|some te=>some (.ptr b (o+i*te.size))|none=>none) none
   | _,_=>none
  | _,_=>none
 | _=>none
def Yv:List UInt8->Nat->Option UInt8
 | [],_=>none
 | b::_,0=>some b
 | _::l,n+1=>Yv l n
def xe(c:Ctx)(t:TypeId)(x ix:V):Option V :=
 match ix with
 | .int _ n =>
  match yx n,c.ty.get t with
  | some i,some ti =>
   match ti.desc,x with
   | .array len e,.agg cs=>cond (Nat.blt i len) (match c.ty.get e with|some te=>apart te cs (i*te.size)|none=>none) none
   | .string,.str l=>match Yv l i with|some b=>some (.int .u8 (.ofNat b.toNat))|none=>none
   | _,_=>none
  | _,_=>none
 | _=>none
def zRL(c:Ctx)(t:TypeId)(x:V)(f:Nat):Option V :=
 match c.ty.get t with
 | some ti =>
  match ti.desc,x with
  | .struct fs,.agg cs =>
   match fs[f]? with
   | some fd=>match c.ty.get fd.type with|some tf=>apart tf cs fd.offset|none=>none
   | none=>none
  | _,_=>none
 | none=>none
def Ya(c:Ctx)(place:Nat->Option (Nat×Nat)):List V->List (Nat×V)->Option (List V)
 | cells,[]=>some cells
 | cells,(i,v)::rest =>
  match place i with
  | none=>none
  | some (off,size) =>
   cond (wU v.cells size) (match jx off v.cells cells with|some r=>Ya c place r rest|none=>none) none
def Ze(c:Ctx)(fs:Array Field)(i:Nat):Option (Nat×Nat) :=
 match fs[i]? with
 | some f=>match c.ty.get f.type with|some ti=>some (f.offset,ti.size)|none=>none
 | none=>none
def zG3(c:Ctx):List Field->Bool
 | []=>true
 | f::l=>match c.ty.get f.type with|some _=>zG3 c l|none=>false
def xA(c:Ctx)(t:TypeId)(parts:List (Nat×V)):Option V :=
 match c.ty.get t with
 | some ti =>
  match ti.zero with
  | some z =>
   match ti.desc with
   | .struct fs=>cond (zG3 c fs.toList) (match Ya c (Ze c fs) z.cells parts with|some r=>some (.agg r)|none=>none) none
   | .array _ e =>
    match c.ty.get e with
    | some te=>match Ya c (λi=>some (i*te.size,te.size)) z.cells parts with|some r=>some (.agg r)|none=>none
    | none=>none
   | _=>none
  | none=>none
 | none=>none
def zEE(z:List V)(k:Nat):Option Cs :=
 match z with
 | [v]=>Cs.rep v k
 | _=>Cs.ofL (xD z k)
def zF(c:Ctx)(t:TypeId)(len:Nat)(parts:List (Nat×V))(h:H):Option (V×H) :=
 match c.ty.get t with
 | some ti =>
  match ti.desc with
  | .slice e =>
   match c.ty.get e with
   | some te =>
    match te.zero with
    | some z =>
     cond (Nat.ble (len*te.size) 1048576)
     (cond (wU z.cells te.size)
      (match Ya c (λi=>some (i*te.size,te.size)) (xD z.cells len) parts with
      | some r=>match Z2 h r ⟨0,e+1,0⟩ false with|some (b,h')=>some (.slice b 0 len (.exact len),h')|none=>none
      | none=>none) none) none
    | none=>none
   | none=>none
  | _=>none
 | none=>none
def jy(c:Ctx)(t:TypeId)(len cp:V)(h:H):Option (V×H) :=
 match len,cp with
 | .int _ ln,.int _ cn =>
  match yx ln,yx cn with
  | some l,some k =>
   match c.ty.get t with
   | some ti =>
    match ti.desc with
    | .slice e =>
     match c.ty.get e with
     | some te =>
      match te.zero with
      | some z =>
       cond (Nat.ble l k && Nat.ble k 4294967296 && Nat.ble (te.bytes*k) 1099511627776 && wU z.cells te.size)
        (match qg h (zEE z.cells k) ⟨0,0,0⟩ false with|some (b,h')=>some (.slice b 0 l (.exact k),h')|none=>none) none
      | none=>none
     | none=>none
    | _=>none
   | none=>none
  | _,_=>none
 | _,_=>none
def wg(esz:Nat)(h:H):V->Option (Nat×List V)
 | .nilslice=>some (0,[])
 | .str l=>cond (Nat.beq esz 1) (some (qI l 0,yM l)) none
 | .slice b o len _ =>
  match h.get b with
  | some (.cells l _ _ _) =>
   match l.range o (len*esz)with|some x=>some (len,x)|none=>none
  | _=>none
 | _=>none
def qB(h:H)(b:Nat):H:=h.upd b none
def jK(k:Rk)(te:TI)(h:H)(r:Option Cs)(need:Nat):Option (V×H) :=
 cond (Nat.ble (need*te.bytes) 1099511627776)
  (match qg h r k true with|some (b,h')=>some (.slice b 0 need (.skip 0),h')|none=>none) none
def qQ(h:H)(b o len:Nat)(cp:Cap)(esz need:Nat)(l:Cs)(esz':Rk)(op:Bool)(new:List V):Option (V×H) :=
 match l.put (o+len*esz) new with
 | some l'=>cond (Nat.ble esz'.fz (o+len*esz)) (some (.slice b o need cp,h.upd b (some (.cells l' esz' true op)))) none
 | none=>none
def Yq(te:TI)(h:H)(b o len k need:Nat)(l:Cs)(esz':Rk)(new:List V):Option (V×H) :=
 cond (Nat.beq k 0 && Nat.beq l.len (o+len*te.size) && Nat.ble esz'.fz (o+len*te.size) && (Nat.beq esz'.ty 0 || Nat.beq esz'.ty (te.id+1))) (jK esz' te (qB h b) (l.app new) need) none
def ko(te:TI)(h:H)(b o len k n:Nat)(l:Cs)(esz':Rk)(wr op:Bool)(new:List V):Option (V×H) :=
 cond (wr && op && Nat.beq te.size esz'.n && Nat.beq o (k*te.size) && zL new && Nat.ble (o+len*te.size) l.len)
  (cond (Nat.beq n 0) (some (.slice b o len (.skip k),h))
   (match qQ h b o len (.skip k) te.size (len+n) l esz' op new with
   | some r=>some r
   | none=>Yq te h b o len k (len+n) l esz' new)) none
def j7(te:TI):Rk:=⟨te.size,te.id+1,0⟩
def Ki(l:Cs)(o m:Nat)(new:List V):Option Cs :=
 match l.range o m with
 | some old=>cond (zL new) (Cs.ofL (old++new)) none
 | none=>none
def kR(te:TI)(h:H)(b o len k n:Nat)(l:Cs)(esz':Rk)(wr op:Bool)(new:List V):Option (V×H) :=
 cond (Nat.ble (len+n) k)
  (cond (wr && zL new) (qQ h b o len (.exact k) te.size (len+n) l esz' op new) none)
  (jK (j7 te) te h (Ki l o (len*te.size) new) (len+n))
def appTo(te:TI)(h:H)(n:Nat)(new:List V):V->Option (V×H)
 | .nilslice=>cond (Nat.beq n 0) (some (.nilslice,h)) (jK (j7 te) te h (cond (zL new) (Cs.ofL new) none) n)
 | .slice b o len cp =>
  match h.get b with
  | some (.cells l esz' wr op) =>
   match cp with
   | .exact k=>kR te h b o len k n l esz' wr op new
   | .skip k=>ko te h b o len k n l esz' wr op new
  | _=>none
 | _=>none
def kH(te:TI):Bool :=
 Nat.blt 0 te.size && Nat.blt 0 te.bytes && (match te.zero with|some z=>wU z.cells te.size|none=>false)
def zc(c:Ctx)(t:TypeId)(h:H)(s x:V):Option (V×H) :=
 match c.ty.get t with
 | some ti =>
  match ti.desc with
  | .slice e =>
   match c.ty.get e with
   | some te=>cond (kH te) (match wg te.size h x with|none=>none|some (n,new)=>appTo te h n new s) none
   | none=>none
  | _=>none
 | none=>none
def X1(c:Ctx)(t:TypeId)(h:H)(s x:V):Option (V×H) :=
 match c.ty.get t with
 | some ti =>
  match ti.desc with
  | .slice e =>
   match c.ty.get e with
   | some te=>cond (kH te && Nat.beq te.size 1)
    (match x,te.zero with
    | .int .i64 (.ofNat k),some z=>cond (Nat.ble (k*te.bytes) 1099511627776)
     (match z.cells with
     | [u]=>appTo te h k (List.replicate k u) s
     | _=>none) none
    | _,_=>none) none
   | none=>none
  | _=>none
 | none=>none
def Ky(c:Ctx)(tx t:TypeId)(h:H)(s x:V):Option (V×H) :=
 match c.ty.get tx with
 | some ti =>
  match ti.desc with
  | .string=>zc c t h s x
  | .slice _=>zc c t h s x
  | .int _=>X1 c t h s x
  | _=>none
 | none=>none
def zI3(c : Ctx)(t : TypeId)(h : H)(d x : V): Option (V × H) :=
  match c.ty.get t with
  | some ti =>
    match ti.desc with
    | .slice e =>
      match c.ty.get e with
      | some te =>
        match wg te.size h x with
        | none => none
        | some (n, new) =>
          match d with
          | .nilslice => some (.int .i64 0, h)
          | .slice b o len _ =>
            match h.get b with
            | some (.cells l esz true op) =>
              let m := cond (Nat.ble n len) n len
              match qC (m * te.size) new with
              | some cs =>
                cond (cond (Nat.ble esz.fz o) (zL cs) false) (match l.put o cs with
                | some l' => some (.int .i64 (.ofNat m), h.upd b (some (.cells l' esz true op)))
                | none => none) none
              | none => none
            | _ => none
          | _ => none
      | none => none
    | _ => none
  | none => none
def zp(c:Ctx)(t:TypeId)(h:H)(x:V):Option V :=
 match c.ty.get t with
 | none=>none
 | some ti =>
  match ti.desc,x with
  | .string,.str l=>some (.int .i64 (.ofNat (qI l 0)))
  | .array n _,_=>some (.int .i64 (.ofNat n))
  | .slice _,.slice _ _ n _=>some (.int .i64 (.ofNat n))
  | .slice _,.nilslice=>some (.int .i64 0)
  | .map _ _,.nilmap=>some (.int .i64 0)
  | .map _ _,.map r=>match h.get r with|some (.map es _)=>some (.int .i64 (.ofNat es.length))|_=>none
  | _,_=>none
def zW3(c:Ctx)(t:TypeId)(x:V):Option V :=
 match c.ty.get t with
 | none=>none
 | some ti =>
  match ti.desc,x with
  | .array n _,_=>some (.int .i64 (.ofNat n))
  | .slice _,.slice _ _ _ (.exact n)=>some (.int .i64 (.ofNat n))
  | .slice _,.nilslice=>some (.int .i64 0)
  | _,_=>none
def ZC(mx:Bool):V->List V->Option V
 | v,[]=>some v
 | .int k a,.int _ b::l=>ZC mx (.int k (cond (cond mx (JU a b) (JU b a)) b a)) l
 | _,_=>none
def OQ:TypeDesc->Bool
 | .int _=>true
 | .string=>true
 | .bool=>true
 | _=>false
def zIz(c:Ctx)(xs:List V):List Field->Bool
 | []=>true
 | f::fs=>(match c.ty.get f.type with
   | some tf=>OQ tf.desc && (match apart tf xs f.offset with|some _=>true|none=>false)
   | none=>false) && zIz c xs fs
def zIy(te:TI)(xs:List V):Nat->Nat->Bool
 | 0,_=>true
 | n+1,i=>(match apart te xs (i*te.size)with|some _=>true|none=>false) && zIy te xs n (i+1)
def Kh(c:Ctx)(t:TypeId)(v:V):Bool :=
 match c.ty.get t with
 | none=>false
 | some ti =>
  match ti.desc,v with
  | .int _,.int _ _=>true
  | .string,.str _=>true
  | .bool,.bool _=>true
  | .struct fs,.agg xs=>zIz c xs fs.toList
  | .array n e,.agg xs=>match c.ty.get e with|some te=>OQ te.desc && zIy te xs n 0|none=>false
  | _,_=>false
def wu(c:Ctx)(t:TypeId)(k:V):List Ent->Nat->Option (Option (Nat×Ent))
 | [],_=>some none
 | e::es,i=>match aeq c 30 t k e.key with
  | some true=>some (some (i,e))
  | some false=>wu c t k es (i+1)
  | none=>none
def zOR(h:H):V->Option (List Ent)
 | .nilmap=>some []
 | .map r=>match h.get r with|some (.map es _)=>some es|_=>none
 | _=>none
def Zg(ok:Bool)(v:V)(b:Bool):V:=cond ok (.tuple [v,.bool b]) v
def OB(c:Ctx)(kt et:TypeId)(es:List Ent)(k:V)(ok:Bool):Option V :=
 cond (Kh c kt k)
  (match wu c kt k es 0 with
  | some (some (_,e))=>some (Zg ok e.val true)
  | some none=>(match c.ty.get et with
   | some te=>(match te.zero with|some z=>some (Zg ok z false)|none=>none)
   | none=>none)
  | none=>none) none
def ZQ(c:Ctx)(t:TypeId)(h:H)(m k:V)(ok:Bool):Option V :=
 match c.ty.get t with
 | some ti =>
  match ti.desc with
  | .map kt et=>match zOR h m with|some es=>OB c kt et es k ok|none=>none
  | _=>none
 | none=>none
def Jw:List Ent->Nat->V->V->List Ent
 | [],_,_,_=>[]
 | e::es,0,k,v=>⟨k,v,e.born⟩::es
 | e::es,n+1,k,v=>e::Jw es n k v
def zDo:V->V->Bool
 | .bool a,.bool b=>a == b
 | .int j a,.int k b=>wm j k && eqF a b
 | .str a,.str b=>eqB a b
 | _,_=>false
def Jt:List V->List V->Bool
 | [],[]=>true
 | a::l,b::m=>zDo a b && Jt l m
 | _,_=>false
def K0:V->V->Bool
 | .agg a,.agg b=>Jt a b
 | a,b=>zDo a b
def Kj(c : Ctx)(t : TypeId)(h : H)(m k v : V): Option H :=
  match c.ty.get t with
  | some ti =>
    match ti.desc, m with
    | .map kt _, .map r =>
      match h.get r with
      | some (.map es clock) =>
        cond (Kh c kt k)
          (match wu c kt k es 0 with
          | some (some (i, e)) => cond (K0 e.key k) (some (h.upd r (some (.map (Jw es i k v) clock)))) none
          | some none => some (h.upd r (some (.map (es ++ [⟨k, v, clock⟩]) (clock + 1))))
          | none => none) none
      | _ => none
    | _, _ => none
  | none => none
def OC(h:H):Option (V×H):=cond (Nat.blt h.nx T.top) (some (.map h.nx,h.new (.map [] 0))) none
def zMZ(c:Ctx)(t:TypeId)(x:V)(ok:Bool):Option V :=
 match c.ty.get t with
 | none=>none
 | some ti =>
  match ti.desc,x with
  | .interface _,_=>none
  | _,.iface d v =>
   cond (Nat.beq d t) (some (Zg ok v true))
    (cond ok (match ti.zero with|some z=>some (Zg true z false)|none=>none) none)
  | _,.nilIface=>cond ok (match ti.zero with|some z=>some (Zg true z false)|none=>none) none
  | _,_=>none
def zST:TypeDesc->Bool
 | .pointer _=>true
 | _=>false
def zIs(name:String):List Method->Option Method
 | []=>none
 | m::l=>cond (m.name == name) (some m) (zIs name l)
def zVL:TypeDesc->Option Nat
 | .pointer e=>some e
 | _=>none
def YJ(c:Ctx)(t:TypeId)(name:String):Option (Nat×Option Nat) :=
 match c.ty.get t with
 | none=>none
 | some ti =>
  match zIs name ti.meth with
  | none=>none
  | some m =>
   match m.path.toList,m.func with
   | [],some (f,pr)=>cond (zST ti.desc == pr) (some (f,none)) (match zVL ti.desc,pr with|some e,false=>some (f,some e)|_,_=>none)
   | _,_=>none
inductive AN where
 | val (v:V) (h:H)
 | skip (h:H)
 | call (f:Nat) (args:List V)
 | round (l:Nat) (args:List V)
 | dfr (d:AD)
 | recover
 | pan (v:V) (h:H)
def AN.ofV:Option V->H->Option AN
 | some v,h=>some (.val v h)
 | none,_=>none
def AN.ofVH:Option (V×H)->Option AN
 | some (v,h)=>some (.val v h)
 | none=>none
def evO(e:Operand->Option V):Option Operand->Option (Option V)
 | none=>some none
 | some x=>match e x with|some v=>some (some v)|none=>none
def evP(e:Operand->Option V):List (Nat×Operand)->Option (List (Nat×V))
 | []=>some []
 | (i,x)::l =>
  match e x with
  | none=>none
  | some v=>match evP e l with|none=>none|some r=>some ((i,v)::r)
def Ys(h:H):V->Option V
 | .nilslice=>some .nilptr
 | .slice b o _ (.exact (_+1))=>some (.ptr b o)
 | .slice b o _ (.skip 0)=>match h.get b with
  | some (.cells l _ true true)=>cond (Nat.blt 0 l.len) (some (.ptr b o)) none
  | _=>none
 | _=>none
def Yt(c:Ctx)(pt:TypeId)(h:H)(p n:V):Option (V×H) :=
 match p,n with
 | .nilptr,.int _ (.ofNat 0)=>some (.str [],h)
 | .ptr _ _,.int _ (.ofNat 0)=>some (.str [],h)
 | .ptr b 0,.int _ (.ofNat n) =>
  match c.ty.get pt,h.get b with
  | some tp,some (.cells l esz true op) =>
   match tp.desc with
   | .pointer u =>
    match c.ty.get u with
    | some tu =>
     cond (Nat.beq tu.size 1 && Nat.beq esz.ty (u+1) && Nat.ble n 4611686018427387904)
      (match l.range 0 n with
      | some x=>(match xg x with
       | some y=>some (.str y,h.upd b (some (.cells l ⟨esz.n,esz.ty,cond (Nat.ble esz.fz n) n esz.fz⟩ true op)))
       | none=>none)
      | none=>none) none
    | none=>none
   | _=>none
  | _,_=>none
 | _,_=>none
def YS(c:Ctx)(g:Nat):Bool:=match c.noesc with|some k=>Nat.beq g k|none=>false
def zVS(c:Ctx)(g:Nat):Option Nat:=match c.mnz with|some (k,el)=>cond (Nat.beq g k) (some el) none|none=>none
def zRP(el:Nat)(h:H)(first args captured:List V):Option (V×H) :=
 match first,args,captured with
 | [],[.int .i64 (.ofNat n)],[]=>cond (Nat.ble n 4294967296) (match qg h (some (.ls [])) ⟨1,el+1,0⟩ true with|some (b,h')=>some (.slice b 0 n (.skip 0),h')|none=>none) none
 | _,_,_=>none
def qt(c:Ctx)(h:H)(g:Nat)(first args captured:List V):Option AN :=
 cond (YS c g) (match first,args,captured with | [],[x],[]=>some (.val x h)|_,_,_=>none)
  (match zVS c g with
  | some el=>AN.ofVH (zRP el h first args captured)
  | none=>some (.call g (first++(args++captured))))
def xR(c:Ctx)(cl:Call)(e:Operand->Option V)(h:H):Option AN :=
 match ZW e cl.args.toList with
 | none=>none
 | some args =>
  match cl.callee with
  | .value f =>
   match e f with
   | some (.func (.func g) first captured)=>qt c h g first args captured
   | some (.yield l)=>some (.round l args)
   | _=>none
  | .builtin b =>
   match b,args,cl.argTypes.toList with
   | .len,[x],[t]=>AN.ofV (zp c t h x) h
   | .cap,[x],[t]=>AN.ofV (zW3 c t x) h
   | .append,[s,x],[t,tx]=>AN.ofVH (Ky c tx t h s x)
   | .copy,[d,x],[t,_]=>AN.ofVH (zI3 c t h d x)
   | .min,x::l,_=>AN.ofV (ZC false x l) h
   | .max,x::l,_=>AN.ofV (ZC true x l) h
   | .recover,[],_=>some .recover
   | .unsafeSliceData,[x],_=>AN.ofV (Ys h x) h
   | .unsafeString,[p,n],pt::_=>AN.ofVH (Yt c pt h p n)
   | _,_,_=>none
  | .invoke r name=>match e r with
   | some (.iface t v) =>
    (match YJ c t name with
    | some (f,none)=>some (.call f (v::args))
    | some (f,some el)=>(match zK c el h v with|some u=>some (.call f (u::args))|none=>none)
    | none=>none)
   | _=>none
def afa(c:Ctx)(fd:Field)(b o:Nat)(h:H):Option AN :=
 match c.ty.get fd.type with
 | some tf=>cond (Nat.blt 0 tf.size) (some (.val (.ptr b (o+fd.offset)) h)) none
 | none=>none
def zh(c:Ctx)(o:Oper)(e:Operand->Option V)(h:H):Option AN :=
 match o.op with
 | .move x=>AN.ofV (e x) h
 | .assign x=>AN.ofV (e x) h
 | .pick cc a b=>match e cc with|some (.bool t)=>AN.ofV (cond t (e a) (e b)) h|_=>none
 | .alloc t=>match c.ty.get t with
  | some ti=>match ti.zero with
   | some z=>match Z2 h z.cells ⟨0,t+1,0⟩ false with|some (b,h')=>some (.val (.ptr b 0) h')|none=>none
   | none=>none
  | none=>none
 | .box t x=>match e x with
  | some v=>match Z2 h v.cells ⟨0,t+1,0⟩ false with|some (b,h')=>some (.val (.ptr b 0) h')|none=>none
  | none=>none
 | .build t ps=>match evP e ps.toList with|some l=>AN.ofV (xA c t l) h|none=>none
 | .buildSlice t n ps=>match evP e ps.toList with|some l=>AN.ofVH (zF c t n l h)|none=>none
 | .load t a=>match e a with|some v=>AN.ofV (zK c t h v) h|none=>none
 | .store t a x=>match e a,e x with|some p,some v=>(match zg c t h p v with|some h'=>some (.skip h')|none=>none)|_,_=>none
 | .nilCheck x=>match e x with
  | some (.ptr b o)=>some (.val (.ptr b o) h)
  | some (.iface t v)=>some (.val (.iface t v) h)
  | some (.func (.func g) a b)=>some (.val (.func (.func g) a b) h)
  | some (.yield l)=>some (.val (.yield l) h)
  | _=>none
 | .binOp op t x y _=>match e x,e y with|some a,some b=>AN.ofV (Yo c op t x y a b) h|_,_=>none
 | .unOp op _ x=>match e x with|some v=>AN.ofV (aun op v) h|none=>none
 | .convert s d x=>match e x with|some v=>AN.ofVH (xN c s d h v)|none=>none
 | .sliceToArrayPointer t x=>match c.ty.get t,e x with
  | some ti,some (.slice b o len _)=>match ti.desc with | .array n _=>cond (Nat.ble n len) (some (.val (.ptr b o) h)) none|_=>none
  | _,_=>none
 | .makeInterface t x=>match c.ty.get t,e x with
  | some ti,some v=>match ti.desc with | .interface _=>none|_=>some (.val (.iface t v) h)
  | _,_=>none
 | .makeFunc (.func g) first captured=>match ZW e first.toList,ZW e captured.toList with
  | some a,some b=>some (.val (.func (.func g) a b) h)
  | _,_=>none
 | .makeSlice t l k=>match e l,e k with|some a,some b=>AN.ofVH (jy c t a b h)|_,_=>none
 | .slice t x lo hi mx=>match e x,evO e lo,evO e hi,evO e mx with
  | some v,some a,some b,some m=>AN.ofV (yB c t h v a b m) h
  | _,_,_,_=>none
 | .fieldAddr t x f=>match c.ty.get t,e x with
  | some ti,some (.ptr b o)=>match ti.desc with | .struct fs=>(match fs[f]? with|some fd=>afa c fd b o h|none=>none)|_=>none
  | _,_=>none
 | .field t x f=>match e x with|some v=>AN.ofV (zRL c t v f) h|none=>none
 | .indexAddr t x ix=>match e x,e ix with|some a,some b=>AN.ofV (z8 c t a b) h|_,_=>none
 | .index t x ix=>match e x,e ix with|some a,some b=>AN.ofV (xe c t a b) h|_,_=>none
 | .extract x i=>match e x with|some (.tuple l)=>AN.ofV l[i]? h|_=>none
 | .call cl=>xR c cl e h
 | .panic x=>match e x with|some (.iface t v)=>some (.pan (.iface t v) h)|_=>none
 | .defer cl=>match ZW e cl.args.toList,cl.callee with
  | some args,.value f=>match e f with|some (.func (.func g) first captured)=>some (.dfr (.fn g captured (first++args)))|_=>none
  | _,_=>none
 | .makeMap _ none=>AN.ofVH (OC h)
 | .typeAssert x _ t ok=>match e x with|some v=>AN.ofV (zMZ c t v ok) h|none=>none
 | .lookup t x k ok=>match e x,e k with|some a,some b=>AN.ofV (ZQ c t h a b ok) h|_,_=>none
 | .mapUpdate t m k v=>match e m,e k,e v with|some a,some b,some d=>(match Kj c t h a b d with|some h'=>some (.skip h')|none=>none)|_,_,_=>none
 | _=>none
inductive AX where
 | normal
 | exit (id:Nat)
 | ret
 | panic (v:V)
structure St where
 n:Nat
 tm:Tm
 dfr:List AD
 heap:H
inductive Out where
 | done (x:AX) (s:St)
inductive CallOut where
 | ret (v:V) (h:H)
 | panic (v:V) (h:H)
def yY(s:St)(d:Option Tmp)(v:V)(h:H):Option St :=
 match d with
 | none=>some { s with heap:=h }
 | some t=>cond (Nat.blt t s.n) (some { s with tm:=s.tm.set t v,heap:=h }) none
def zU(ops:List Oper)(tm:Tm)(o:Oper):Bool :=
 match o.guard with
 | none=>true
 | some (j,w) =>
  match ops[j]? with
  | some o'=>match o'.dst with
   | some d=>match zk tm d with | .bool b=>b == w|_=>false
   | none=>false
  | none=>false
def jI:Edge->Bool
 | ⟨_,.textOnly _⟩=>false
 | ⟨_,.gcOnly _⟩=>false
 | _=>true
def Xq:Nat->List Nat->Bool
 | _,[]=>false
 | n,m::l=>cond (Nat.beq n m) true (Xq n l)
def za:List Oper->List Nat->List Nat
 | [],acc=>acc
 | o::l,acc=>za l (acc++[o.after.toList.foldl (λs e=>cond (jI e) (s ||| 2^e.on ||| acc.getD e.on 0) s) 0])
def xw(ops:List Oper)(o:Oper):List Nat :=
  (match o.guard with
   | some (g,_)=>(match ops[g]? with|some o'=>(match o'.dst with|some d=>[d]|none=>[])|none=>[])
   | none=>[])++o.op.operands.toList.filterMap λ| .tmp t=>some t|_=>none
def zIi(ops:List Oper)(a b:Oper):Bool :=
 (match a.dst with|some d=>Xq d (xw ops b) || (match b.dst with|some d'=>Nat.beq d d'|none=>false)|none=>false) ||
 (match b.dst with|some d=>Xq d (xw ops a)|none=>false)
def zGJ(ops:List Oper)(j:Nat)(oj:Oper)(bj:Nat):Nat->List Oper->Bool
 | _,[]=>true
 | i,oi::l=>cond (Nat.blt i j) (cond (Nat.testBit bj i || !(zIi ops oi oj)) (zGJ ops j oj bj (i+1) l) false) true
def zIp(j:Nat)(o:Oper):Bool :=
 o.after.toList.all λe=>Nat.blt e.on j || (match e.ground with | .gcOnly _=>true|_=>false)
def OL(e:Edge):Bool:=match e.ground with | .textOnly _=>false|_=>true
def zAu(ops:List Oper):List Nat->List Nat->Bool
 | [],_=>true
 | i::l,seen=>(match ops[i]? with|some o=>o.after.toList.all λe=>!(OL e) || Xq e.on seen|none=>false) && zAu ops l (i::seen)
def XD(l:List Nat):Nat->Bool
 | 0=>true
 | n+1=>Xq n l && XD l n
def zIv(o:Oper)(bj:Nat):Bool :=
 match o.guard with
 | none=>true
 | some (g,_)=>Nat.testBit bj g
def ZL(ops:List Oper)(bs:List Nat):Nat->List Oper->Bool
 | _,[]=>true
 | j,o::l=>zGJ ops j o (bs.getD j 0) 0 ops && zIp j o && zIv o (bs.getD j 0) && ZL ops bs (j+1) l
def jq(bs:List Nat):Nat->Nat
 | 0=>0
 | j+1=>cond (Nat.beq (bs.getD j 0 % 2^j) (2^j-1)) (jq bs j) (j+1)
def yb(ops:List Oper):Option Nat :=
 let bs:=za ops []
 cond (ZL ops bs 0 ops && (!(Region.departs ops.toArray) || (zAu ops (Region.linearise .gc ops.toArray 0) [] && XD (Region.linearise .gc ops.toArray 0) ops.length))) (some (jq bs ops.length)) none
section
variable (c:Ctx) (orc:Nat->List V->H->Option (V×H))
def leave(results:List ResultVar)(tm:Tm)(h:H):List ResultVar->List V->Option (List V)
 | [],acc=>some acc.reverse
 | .tmp t::l,acc=>leave results tm h l (zk tm t::acc)
 | .cell a t::l,acc=>match zK c t h (zk tm a)with|some v=>leave results tm h l (v::acc)|none=>none
def yO:List V->V
 | [v]=>v
 | l=>.tuple l
def zC:List V->Nat->Tm->Tm
 | [],_,t=>t
 | v::l,i,t=>zC l (i+1) (t.set i v)
def xX(call:Nat->List V->H->Option CallOut):List AD->H->Option H
 | [],h=>some h
 | .coll id::l,h =>
  match h.get id with
  | some (.deferred true)=>xX call l (h.upd id (some (.deferred false)))
  | _=>none
 | .fn f cap args::l,h =>
  match call f (args++cap) h with
  | some (.ret _ h')=>xX call l h'
  | _=>none
def jv(ih:Bool->Code->St->Option Out)(fi:FI)(args:List V)(h:H):Option Out :=
 cond (Nat.ble (wG args 0) fi.n && Nat.ble fi.n 511) (ih false fi.body { n:=fi.n,tm:=zC args 0 (Tb.leaf zB),dfr:=[],heap:=h }) none
def endD(fi:FI)(s:St):Option CallOut :=
 match s.dfr with
 | []=>match leave c fi.results s.tm s.heap fi.results []with|some vs=>some (.ret (yO vs) s.heap)|none=>none
 | _=>none
def Z4(ih:Bool->Code->St->Option Out)(f:Nat)(args:List V)(h:H):Option CallOut :=
 match c.fn.get f with
 | none=>none
 | some fi =>
  match jv ih fi args h with
  | some (.done .normal s)=>endD c fi s
  | some (.done .ret s)=>endD c fi s
  | _=>none
def zFE(ih:Bool->Code->St->Option Out)(fi:FI)(s:St):Option CallOut :=
 match xX (Z4 c ih) s.dfr s.heap with
 | some h'=>match leave c fi.results s.tm h' fi.results []with|some vs=>some (.ret (yO vs) h')|none=>none
 | none=>none
def zBj(ih:Bool->Code->St->Option Out)(f:Nat)(args:List V)(h:H):Option CallOut :=
 match c.fn.get f with
 | none=>none
 | some fi =>
  match jv ih fi args h with
  | some (.done .normal s)=>zFE c ih fi s
  | some (.done .ret s)=>zFE c ih fi s
  | some (.done (.panic v) s)=>match s.dfr with | []=>some (.panic v s.heap)|_=>none
  | _=>none
def jG(ih:Bool->Code->St->Option Out)(f:Nat)(args:List V)(h:H):Option CallOut :=
 match orc f args h with
 | some (v,h')=>some (.ret v h')
 | none=>zBj c ih f args h
def wN:List Tmp->List V->Nat->Tm->Option (Tm)
 | [],[],_,t=>some t
 | p::ps,v::vs,n,t=>cond (Nat.blt p n) (wN ps vs n (t.set p v)) none
 | _,_,_,_=>none
def jo(l:Nat)(x:AX)(s:St):Option CallOut :=
 match s.dfr,s.heap.get l with
 | [],some (.loop _ _ n tm ps asg bd df) =>
  match x with
  | .normal=>some (.ret (.bool true) (s.heap.upd l (some (.loop .ready none n tm ps asg bd df))))
  | .ret=>some (.ret (.bool false) (s.heap.upd l (some (.loop .done (some .ret) n tm ps asg bd df))))
  | .exit id=>some (.ret (.bool false) (s.heap.upd l (some (.loop .done (some (.exit id)) n tm ps asg bd df))))
  | .panic _=>none
 | _,_=>none
def Js(ih:Bool->Code->St->Option Out)(l:Nat)(body:Code)(s:St):Option CallOut :=
 match s.heap.get l with
 | some (.loop .ready pend n tm ps asg bd df) =>
  match ih true body { n:=s.n,tm:=s.tm,dfr:=s.dfr,heap:=s.heap.upd l (some (.loop .busy pend n tm ps asg bd df)) }with
  | some (.done x s2)=>jo l x s2
  | none=>none
 | _=>none
def XQ(ih:Bool->Code->St->Option Out)(l:Nat)(args:List V)(h:H):Option CallOut :=
 match h.get l with
 | some (.loop _ _ n tm params assign body _) =>
  match wN params.toList args n tm with
  | none=>none
  | some tm' =>
   match ih true assign { n:=n,tm:=tm',dfr:=[],heap:=h }with
   | some (.done .normal s)=>Js ih l body s
   | _=>none
 | _=>none
def zV(rd:Bool)(ih:Bool->Code->St->Option Out)(o:Oper)(s:St):Option (AX×St) :=
 match zh c o (yF s.tm) s.heap with
 | none=>none
 | some (.val v h)=>match yY s o.dst v h with|some s'=>some (.normal,s')|none=>none
 | some (.skip h)=>match yY s o.dst zB h with|some s'=>some (.normal,s')|none=>none
 | some (.call f args) =>
  match jG c orc ih f args s.heap with
  | some (.ret v h)=>match yY s o.dst v h with|some s'=>some (.normal,s')|none=>none
  | some (.panic v h)=>some (.panic v,{ s with heap:=h })
  | none=>none
 | some (.round l args) =>
  match XQ ih l args s.heap with
  | some (.ret v h)=>match yY s o.dst v h with|some s'=>some (.normal,s')|none=>none
  | _=>none
 | some (.dfr d)=>cond rd none (match yY { s with dfr:=d::s.dfr } o.dst zB s.heap with|some s'=>some (.normal,s')|none=>none)
 | some (.pan v h)=>some (.panic v,{ s with heap:=h })
 | some .recover=>none
def we(rd:Bool)(ih:Bool->Code->St->Option Out)(ops:List Oper):List Oper->St->Option Out
 | [],s=>some (.done .normal s)
 | o::l,s =>
  cond (zU ops s.tm o)
   (match zV c orc rd ih o s with
   | some (.normal,s')=>we rd ih ops l s'
   | some (x,s')=>some (.done x s')
   | none=>none)
   (match yY s o.dst zB s.heap with|some s'=>we rd ih ops l s'|none=>none)
def wj(tm:Tm)(b:Nat)(o:Oper):Bool :=
 match o.op with
 | .move _ | .assign _ | .pick .. | .build .. | .binOp .. | .unOp .. | .field .. | .fieldAddr .. | .index .. | .indexAddr .. | .extract .. | .makeFunc .. | .makeInterface .. | .nilCheck _=>true
 | .load _ a=>match yF tm a with|some (.ptr b' _)=>!(Nat.beq b b')|_=>false
 | .convert _ _ x=>match yF tm x with|some (.int _ _)=>true|_=>false
 | .slice _ x _ _ _=>match yF tm x with|some (.str _)=>true|some (.slice _ _ _ (.exact _))=>true|_=>false
 | _=>false
def zAm(ts:List Nat):Nat->List Oper->Bool
 | 0,_=>true
 | _,[]=>true
 | n+1,o::l=>(match o.dst with|some d=>!(Xq d ts)|none=>true) && zAm ts n l
def Xh(ops:List Oper)(tm:Tm)(b bk:Nat):Nat->Nat->List Oper->Bool
 | _,0,_=>true
 | _,_,[]=>true
 | i,n+1,o::l=>cond (Nat.testBit bk i || (wj tm b o && zAm (xw ops o) (n+1) (o::l))) (Xh ops tm b bk (i+1) n l) false
def qO(bs:List Nat)(k:Nat):Nat->Nat->Bool
 | _,0=>true
 | j,n+1=>cond (Nat.testBit (bs.getD j 0) k) (qO bs k (j+1) n) false
def JO(ops:List Oper)(bs:List Nat)(m k:Nat)(tm:Tm)(o:Oper):Bool :=
 match o.op with
 | .store _ a _ =>
  match yF tm a with
  | some (.ptr b _)=>Xh ops tm b (bs.getD k 0) 0 k ops && qO bs k (k+1) (m-k-1)
  | _=>false
 | .mapUpdate _ a _ _ =>
  match yF tm a with
  | some (.map b)=>Xh ops tm b (bs.getD k 0) 0 k ops && qO bs k (k+1) (m-k-1)
  | _=>false
 | _=>false
def Xg(o:Oper):Bool :=
 match o.op with
 | .move _ | .assign _ | .pick .. | .build .. | .binOp .. | .unOp .. | .field .. | .fieldAddr .. | .index .. | .indexAddr .. | .extract .. | .makeFunc .. | .makeInterface .. | .nilCheck _=>true
 | _=>false
def Xi(ops:List Oper)(bk:Nat):Nat->Nat->List Oper->Bool
 | _,0,_=>true
 | _,_,[]=>true
 | i,n+1,o::l=>cond (Nat.testBit bk i || (Xg o && zAm (xw ops o) (n+1) (o::l))) (Xi ops bk (i+1) n l) false
def XX(ops:List Oper)(bs:List Nat)(m k:Nat):Bool:=Xi ops (bs.getD k 0) 0 k ops && qO bs k (k+1) (m-k-1)
def wA(ops:List Oper)(bs:List Nat)(m k:Nat)(tm:Tm)(o:Oper):Bool:=JO ops bs m k tm o || XX ops bs m k
def xI:List AD->List AD->Bool
 | [],[]=>true
 | _::l,_::l'=>xI l l'
 | _,_=>false
def yJ(rd : Bool)(ih : Bool -> Code -> St -> Option Out)(ops : List Oper)(bs : List Nat)(m : Nat): Nat -> Nat -> List Oper -> St -> Option Out
  | _, _, [], s => some (.done .normal s)
  | 0, _, l, s => we c orc rd ih ops l s
  | r + 1, k, o::l, s =>
    cond (zU ops s.tm o)
      (match zV c orc rd ih o { s with heap := { s.heap with low := T.top } }with
      | some (.normal, s') =>
        cond (Nat.ble s.heap.nx s'.heap.low || wA ops bs m k s.tm o)
          (cond (xI s.dfr s'.dfr) (yJ rd ih ops bs m r (k + 1) l { s' with heap := { s'.heap with low := cond (Nat.ble s.heap.low s'.heap.low) s.heap.low s'.heap.low } }) none) none
      | _ => none)
      (match yY s o.dst zB s.heap with|some s' => yJ rd ih ops bs m r (k + 1) l s'|none => none)
def qj(d l:Nat)(s:St)(h3:H):Option Out :=
 match h3.get l with
 | some (.loop st pend n tm ps asg bd df) =>
  match st with
  | .busy=>none
  | _ =>
   match pend with
   | none=>some (.done .normal { n:=s.n,tm:=s.tm,dfr:=.coll d::s.dfr,heap:=h3.upd l (some (.loop .exhausted pend n tm ps asg bd df)) })
   | some .ret=>some (.done .ret { n:=s.n,tm:=s.tm,dfr:=.coll d::s.dfr,heap:=h3.upd l (some (.loop .exhausted pend n tm ps asg bd df)) })
   | some (.exit id)=>some (.done (.exit id) { n:=s.n,tm:=s.tm,dfr:=.coll d::s.dfr,heap:=h3.upd l (some (.loop .exhausted pend n tm ps asg bd df)) })
   | _=>none
 | _=>none
def zHr(ih:Bool->Code->St->Option Out)(rd:Bool)(f:Operand)(params:Array Tmp)(assign body:Code)(s:St):Option Out :=
  match yF s.tm f with
  | some (.func (.func g) first captured) =>
    cond (rd || !(Nat.blt (s.heap.nx+1) T.top)) none
      (match jG c orc ih g (first++(.yield (s.heap.nx+1)::captured)) ((s.heap.new (.deferred true)).new (.loop .ready none s.n s.tm params assign body s.heap.nx))with
       | some (.ret _ h3)=>qj s.heap.nx (s.heap.nx+1) s h3
       | _=>none)
  | _=>none
end
def TI.mk'(P : Program)(t : Nat)(i : TypeInfo)(d : TypeDesc): TI :=
  { id := t, desc := d, size := i.size, bytes := i.bytes
    zero := match i.zero with|some v => ofV v|none => none
    cmp := i.comparable
    held := P.stoodInHeld t
    guard := P.eqGuardType P.depth t
    meth := i.methods.toList }
def TI.of(P:Program)(t:Nat)(i:TypeInfo):Option TI :=
 match i.desc with
 | .named _ u=>match P.types[u]? with|some j=>some (TI.mk' P t i j.desc)|none=>none
 | d=>some (TI.mk' P t i d)
def FI.of(f:Func):Option FI :=
 match f.body with
 | some b=>cond (f.name == "runtime.NumGoroutine") none (some { n:=f.ntmps,results:=f.results.toList,body:=b })
 | none=>none
def JQ(P:Program):Nat->List TypeInfo->T TI->T TI
 | _,[],t=>t
 | i,x::l,t=>JQ P (i+1) l (t.set i (TI.of P i x))
def Xe:Nat->List Func->T FI->T FI
 | _,[],t=>t
 | i,x::l,t=>Xe (i+1) l (t.set i (FI.of x))
def Ctx.of(P : Program)(ne : Option Nat)(mz : Option (Nat × Nat)): Ctx :=
  { ty := JQ P 0 P.types.toList .leaf, fn := Xe 0 P.funcs.toList .leaf, noesc := ne, mnz := mz
    lies := λe u off => liesAt P P.depth e 1 off u 1 }
end Go.Sim
