/- A. No condition. -/
import Derived.RangeFuncLeaves
import Derived.RangeFuncRecord
import Derived.Laws.World
import Derived.Laws.Sem
namespace Go.Sim
universe u v
theorem oA {α:Type u}(a b:α):(some a=some b)=(a=b):=Option.some.injEq a b
theorem oB {α:Type u}{β:Type v}(a:α)(b:β)(c:α)(d:β):((a,b)=(c,d))=(a=c/\b=d):=Prod.mk.injEq a b c d
theorem oC {n m:Nat}(h:n<=m):Nat.ble n m=true:=Nat.ble_eq_true_of_le h
theorem oE {n m:Nat}(h:Nat.ble n m=true):n<=m:=Nat.le_of_ble_eq_true h
theorem oF {n m:Nat}(h:Nat.beq n m=true):n=m:=Nat.eq_of_beq_eq_true h
theorem oG (a b:Bool):((a&&b)=true)=(a=true/\b=true):=Bool.and_eq_true a b
theorem oH {α:Type u}(y:α){a:α}{l:List α}(h:a∈l):a∈y::l:=List.mem_cons_of_mem y h
theorem oI {n m k:Nat}(h:n<m)(g:m<=k):n<k:=Nat.lt_of_lt_of_le h g
theorem oJ (n:Nat):0<=n:=Nat.zero_le n
theorem oK {α:Sort u}(a b:α):cond true a b=a:=cond_true a b
theorem oL {α:Sort u}(a b:α):cond false a b=b:=cond_false a b
theorem oM {α:Type u}{l:List α}{i:Nat}(h:i<l.length):l[i]?=some l[i]:=List.getElem?_eq_getElem h
theorem oO (n:Nat):n<=n:=Nat.le_refl n
theorem oP {n m k:Nat}(h:n<=m)(g:m<=k):n<=k:=Nat.le_trans h g
theorem oQ {α:Type u}{l:List α}{n:Nat}(h:n<l.length):l[n]∈l:=List.getElem_mem h
theorem oR {α:Type u}{l r:List α}:(l++r).length=l.length+r.length:=List.length_append
theorem oS {α:Type u}{a:α}{l:List α}:(a::l).length=l.length+1:=List.length_cons
theorem oU {α:Type u}{β:Type v}{f:α->β}{l:List α}{i:Nat}:(l.map f)[i]?=l[i]?.map f:=List.getElem?_map
theorem oV (n:Nat):(n:Int).toNat=n:=Int.toNat_natCast n
theorem oW {α:Type u}{l:List α}{i j:Nat}(h:i≠j){a:α}:(l.set i a)[j]?=l[j]?:=List.getElem?_set_ne h
theorem oX {α:Type u}{β:Type v}(a:α)(f:α->β):(some a).map f=some (f a):=Option.map_some a f
theorem oY {α:Type u}{b:α}{l:List α}{a:α}:a∈b::l↔a=b\/a∈l:=List.mem_cons
theorem oZ {a b:Nat}(h:a<b):a%b=a:=Nat.mod_eq_of_lt h
theorem oa {α:Type u}{l:List α}{i:Nat}(h:l.length<=i):l[i]?=none:=List.getElem?_eq_none h
theorem oc {α:Type u}{l:List α}{i:Nat}{a:α}:(l.set i a).length=l.length:=List.length_set
theorem od {α:Type u}{β:Type v}{l:List α}(f:α->β):(l.map f).length=l.length:=List.length_map f
structure N8 (α:Type) where
 a0:α
 a1:α
 a2:α
 a3:α
 a4:α
 a5:α
 a6:α
 a7:α
inductive D8 where
 | d0
 | d1
 | d2
 | d3
 | d4
 | d5
 | d6
 | d7
def D8.ofR (n:Nat):D8 :=
 match n with
 | 0=>.d0
 | 1=>.d1
 | 2=>.d2
 | 3=>.d3
 | 4=>.d4
 | 5=>.d5
 | 6=>.d6
 | _=>.d7
def D8.of (n:Nat):D8:=D8.ofR (n % 8)
namespace N8
variable {α:Type}
def get (d:D8):N8 α->α :=
 D8.casesOn (motive:=λ_=>N8 α->α) d (λt=>t.a0) (λt=>t.a1) (λt=>t.a2) (λt=>t.a3) (λt=>t.a4) (λt=>t.a5) (λt=>t.a6) (λt=>t.a7)
def mod (d:D8):(α->α)->N8 α->N8 α :=
 D8.casesOn (motive:=λ_=>(α->α)->N8 α->N8 α) d
  (λf t=>N8.casesOn (motive:=λ_=>N8 α) t λa0 a1 a2 a3 a4 a5 a6 a7=>N8.mk (f a0) a1 a2 a3 a4 a5 a6 a7)
  (λf t=>N8.casesOn (motive:=λ_=>N8 α) t λa0 a1 a2 a3 a4 a5 a6 a7=>N8.mk a0 (f a1) a2 a3 a4 a5 a6 a7)
  (λf t=>N8.casesOn (motive:=λ_=>N8 α) t λa0 a1 a2 a3 a4 a5 a6 a7=>N8.mk a0 a1 (f a2) a3 a4 a5 a6 a7)
  (λf t=>N8.casesOn (motive:=λ_=>N8 α) t λa0 a1 a2 a3 a4 a5 a6 a7=>N8.mk a0 a1 a2 (f a3) a4 a5 a6 a7)
  (λf t=>N8.casesOn (motive:=λ_=>N8 α) t λa0 a1 a2 a3 a4 a5 a6 a7=>N8.mk a0 a1 a2 a3 (f a4) a5 a6 a7)
  (λf t=>N8.casesOn (motive:=λ_=>N8 α) t λa0 a1 a2 a3 a4 a5 a6 a7=>N8.mk a0 a1 a2 a3 a4 (f a5) a6 a7)
  (λf t=>N8.casesOn (motive:=λ_=>N8 α) t λa0 a1 a2 a3 a4 a5 a6 a7=>N8.mk a0 a1 a2 a3 a4 a5 (f a6) a7)
  (λf t=>N8.casesOn (motive:=λ_=>N8 α) t λa0 a1 a2 a3 a4 a5 a6 a7=>N8.mk a0 a1 a2 a3 a4 a5 a6 (f a7))
def all (x:α):N8 α:=⟨x,x,x,x,x,x,x,x⟩
theorem get_mod_same (d:D8) (f:α->α) (t:N8 α):(mod d f t).get d=f (t.get d):=by
 obtain⟨a0,a1,a2,a3,a4,a5,a6,a7⟩:=t;cases d<;>rfl
theorem get_mod_ne {d e:D8}(h:e≠d) (f:α->α) (t:N8 α):(mod d f t).get e=t.get e:=by
 obtain⟨a0,a1,a2,a3,a4,a5,a6,a7⟩:=t;cases d<;>cases e<;>first|rfl|exact absurd rfl h
theorem get_all (d:D8) (x:α):(all x).get d=x:=by cases d<;>rfl
end N8
theorem D8.of_inj {n m:Nat}(h:D8.of n=D8.of m):n % 8=m % 8:=by
 unfold D8.of at h;have hn:n % 8<8:=Nat.mod_lt _ (by decide);have hm:m % 8<8:=Nat.mod_lt _ (by decide);generalize n % 8=a at *;generalize m % 8=b at *
 match a,b,hn,hm with
 | 0,b,_,hm|1,b,_,hm|2,b,_,hm|3,b,_,hm|4,b,_,hm|5,b,_,hm|6,b,_,hm|7,b,_,hm =>
  match b,hm with
  | 0,_|1,_|2,_|3,_|4,_|5,_|6,_|7,_=>first|rfl|(simp only[D8.ofR]at h;cases h)
abbrev T (α:Type):Type:=N8 (N8 (N8 (N8 (N8 (N8 (Option α))))))
namespace T
variable {α:Type}
def leaf:T α:=N8.all (N8.all (N8.all (N8.all (N8.all (N8.all none)))))
def top:Nat:=262143
def getF (t:N8 (N8 (N8 (N8 (N8 (N8 (Option α))))))) (n:Nat):Option α :=
 N8.get (D8.of n) (N8.get (D8.of (n/8)) (N8.get (D8.of (n/64)) (N8.get (D8.of (n/512)) (N8.get (D8.of (n/4096)) (N8.get (D8.of (n/32768)) t)))))
def get (t:T α) (n:Nat):Option α:=cond (Nat.ble n 262143) (getF t n) none
def set (t:T α) (n:Nat) (x:Option α):T α :=
 N8.mod (D8.of (n/32768)) (N8.mod (D8.of (n/4096)) (N8.mod (D8.of (n/512)) (N8.mod (D8.of (n/64)) (N8.mod (D8.of (n/8)) (N8.mod (D8.of n) λ_=>x))))) t
@[simp] theorem get_leaf (n:Nat):(leaf:T α).get n=none:=by
 unfold get leaf getF;simp only[N8.get_all];cases Nat.ble n 262143<;>rfl
theorem get_set (t:T α) (n m:Nat) (x:Option α) (h:n<top):(t.set n x).get m=if m=n then x else t.get m:=by
 have hn:n<262143:=h;unfold get;cases hm:Nat.ble m 262143 with
 | false =>
  have:¬m<=262143:=λhc=>by rw[oC hc]at hm;cases hm
  simp only[oL];rw[if_neg (by omega)]
 | true =>
  have hm':=oE hm;simp only[oK];unfold getF set;by_cases e5:D8.of (m/32768)=D8.of (n/32768)
  ·rw[e5,N8.get_mod_same]
   by_cases e4:D8.of (m/4096)=D8.of (n/4096)
   ·rw[e4,N8.get_mod_same]
    by_cases e3:D8.of (m/512)=D8.of (n/512)
    ·rw[e3,N8.get_mod_same]
     by_cases e2:D8.of (m/64)=D8.of (n/64)
     ·rw[e2,N8.get_mod_same]
      by_cases e1:D8.of (m/8)=D8.of (n/8)
      ·rw[e1,N8.get_mod_same]
       by_cases e0:D8.of m=D8.of n
       ·rw[e0,N8.get_mod_same]
        have h0:=D8.of_inj e0;have h1:=D8.of_inj e1;have h2:=D8.of_inj e2;have h3:=D8.of_inj e3;have h4:=D8.of_inj e4;have h5:=D8.of_inj e5;rw[if_pos (by omega)]
       ·rw[N8.get_mod_ne e0,if_neg (λe=>e0 (by rw[e]))]
      ·rw[N8.get_mod_ne e1,if_neg (λe=>e1 (by rw[e]))]
     ·rw[N8.get_mod_ne e2,if_neg (λe=>e2 (by rw[e]))]
    ·rw[N8.get_mod_ne e3,if_neg (λe=>e3 (by rw[e]))]
   ·rw[N8.get_mod_ne e4,if_neg (λe=>e4 (by rw[e]))]
  ·rw[N8.get_mod_ne e5,if_neg (λe=>e5 (by rw[e]))]
end T
abbrev Tb (α:Type):Type:=N8 (N8 (N8 α))
namespace Tb
variable {α:Type}
def top:Nat:=511
def leaf (x:α):Tb α:=N8.all (N8.all (N8.all x))
def getF (t:N8 (N8 (N8 α))) (n:Nat):α:=N8.get (D8.of n) (N8.get (D8.of (n/8)) (N8.get (D8.of (n/64)) t))
def get (d:α) (t:Tb α) (n:Nat):α:=cond (Nat.ble n 511) (getF t n) d
def set (t:Tb α) (n:Nat) (x:α):Tb α:=N8.mod (D8.of (n/64)) (N8.mod (D8.of (n/8)) (N8.mod (D8.of n) λ_=>x)) t
theorem get_leaf (d:α) (n:Nat):(leaf d).get d n=d:=by
 unfold get leaf getF;simp only[N8.get_all];cases Nat.ble n 511<;>rfl
theorem get_set (d:α) (t:Tb α) (n m:Nat) (x:α) (h:n<top):(t.set n x).get d m=if m=n then x else t.get d m:=by
 have hn:n<511:=h;unfold get;cases hm:Nat.ble m 511 with
 | false =>
  have:¬m<=511:=λhc=>by rw[oC hc]at hm;cases hm
  simp only[oL];rw[if_neg (by omega)]
 | true =>
  have hm':=oE hm;simp only[oK];unfold getF set;by_cases e2:D8.of (m/64)=D8.of (n/64)
  ·rw[e2,N8.get_mod_same]
   by_cases e1:D8.of (m/8)=D8.of (n/8)
   ·rw[e1,N8.get_mod_same]
    by_cases e0:D8.of m=D8.of n
    ·rw[e0,N8.get_mod_same]
     have h0:=D8.of_inj e0;have h1:=D8.of_inj e1;have h2:=D8.of_inj e2;rw[if_pos (by omega)]
    ·rw[N8.get_mod_ne e0,if_neg (λe=>e0 (by rw[e]))]
   ·rw[N8.get_mod_ne e1,if_neg (λe=>e1 (by rw[e]))]
  ·rw[N8.get_mod_ne e2,if_neg (λe=>e2 (by rw[e]))]
end Tb
end Go.Sim
namespace Go.Sim
inductive Cap where
 | exact(n:Nat)
 | skip (n:Nat)
inductive V where
 | bool (b:Bool)
 | int (k:IntKind) (n:Int)
 | str (l:List UInt8)
 | ptr (b off:Nat)
 | nilptr
 | slice (b off len:Nat) (cap:Cap)
 | nilslice
 | map (r:Nat)
 | nilmap
 | func (fn:Fn) (first captured:List V)
 | yield (l:Nat)
 | nilFunc
 | iface (t:TypeId) (v:V)
 | nilIface
 | agg (l:List V)
 | tuple (l:List V)
structure Env where
 blk:Nat->Nat
 off:Nat->Nat
 cap:Nat->Nat
def Cap.val (ρ:Env) (b:Nat):Cap->Nat
 | .exact n=>n
 | .skip n=>ρ.cap b-n
mutual
def V.conc (ρ:Env):V->Value
 | .bool b=>.bool b
 | .int k n=>.int k n
 | .str l=>.string ⟨l.toArray⟩
 | .ptr b o=>.pointer (some ⟨ρ.blk b,ρ.off b+o,none⟩)
 | .nilptr=>.pointer none
 | .slice b o len c=>.slice (some ⟨ρ.blk b,ρ.off b+o,none⟩) len (c.val ρ b)
 | .nilslice=>.slice none 0 0
 | .map r=>.map (some (ρ.blk r))
 | .nilmap=>.map none
 | .func f x y=>.func f (V.concL ρ x).toArray (V.concL ρ y).toArray
 | .yield l=>.func (.yield (ρ.blk l)) #[] #[]
 | .nilFunc=>.nilFunc
 | .iface t v=>.iface t (v.conc ρ)
 | .nilIface=>.nilIface
 | .agg l=>.agg (V.concL ρ l).toArray
 | .tuple l=>.tuple (V.concL ρ l).toArray
def V.concL (ρ:Env):List V->List Value
 | []=>[]
 | v::l=>v.conc ρ::V.concL ρ l
end
mutual
def V.In (D:Nat->Prop):V->Prop
 | .ptr b _=>D b
 | .slice b _ _ _=>D b
 | .map r=>D r
 | .func f x y=>(∀l,f≠.yield l)/\V.InL D x/\V.InL D y
 | .yield l=>D l
 | .iface _ v=>v.In D
 | .agg l=>V.InL D l
 | .tuple l=>V.InL D l
 | _=>True
def V.InL (D:Nat->Prop):List V->Prop
 | []=>True
 | v::l=>v.In D/\V.InL D l
end
theorem V.concL_eq (ρ:Env) (l:List V):V.concL ρ l=l.map (V.conc ρ):=by
 induction l with
 | nil=>simp[V.concL]
 | cons v l ih=>simp[V.concL,ih]
theorem V.InL_iff {D:Nat->Prop}{l:List V}:V.InL D l↔∀v∈l,v.In D:=by
 induction l with
 | nil=>simp[V.InL]
 | cons v l ih=>simp[V.InL,ih]
def Agree (D:Nat->Prop) (ρ ρ':Env):Prop:=∀id,D id->ρ'.blk id=ρ.blk id/\ρ'.off id=ρ.off id/\ρ'.cap id=ρ.cap id
theorem Agree.refl (D:Nat->Prop) (ρ:Env):Agree D ρ ρ:=λ_ _=>⟨rfl,rfl,rfl⟩
mutual
theorem V.conc_agree {D:Nat->Prop}{ρ ρ':Env}(h:Agree D ρ ρ'):∀v:V,v.In D->v.conc ρ'=v.conc ρ
 | .bool _,_ | .int _ _,_ | .str _,_ | .nilptr,_ | .nilslice,_ | .nilmap,_ | .nilFunc,_ | .nilIface,_=>by simp[V.conc]
 | .ptr b o,hv=>by simp only[V.In]at hv;obtain⟨h1,h2,_⟩:=h b hv;simp[V.conc,h1,h2]
 | .slice b o n c,hv=>by
  simp only[V.In]at hv;obtain⟨h1,h2,h3⟩:=h b hv;cases c<;>simp[V.conc,Cap.val,h1,h2,h3]
 | .map r,hv=>by simp only[V.In]at hv;obtain⟨h1,_,_⟩:=h r hv;simp[V.conc,h1]
 | .yield l,hv=>by simp only[V.In]at hv;obtain⟨h1,_,_⟩:=h l hv;simp[V.conc,h1]
 | .func f x y,hv=>by
  simp only[V.In]at hv;simp[V.conc,V.concL_agree h x hv.2.1,V.concL_agree h y hv.2.2]
 | .iface t v,hv=>by simp only[V.In]at hv;simp[V.conc,V.conc_agree h v hv]
 | .agg l,hv=>by simp only[V.In]at hv;simp[V.conc,V.concL_agree h l hv]
 | .tuple l,hv=>by simp only[V.In]at hv;simp[V.conc,V.concL_agree h l hv]
theorem V.concL_agree {D:Nat->Prop}{ρ ρ':Env}(h:Agree D ρ ρ'):∀l:List V,V.InL D l->V.concL ρ' l=V.concL ρ l
 | [],_=>by simp[V.concL]
 | v::l,hv=>by simp only[V.InL]at hv;simp[V.concL,V.conc_agree h v hv.1,V.concL_agree h l hv.2]
end
mutual
theorem V.In_mono {D E:Nat->Prop}(h:∀id,D id->E id):∀v:V,v.In D->v.In E
 | .bool _,_ | .int _ _,_ | .str _,_ | .nilptr,_ | .nilslice,_ | .nilmap,_ | .nilFunc,_ | .nilIface,_=>by simp[V.In]
 | .ptr b o,hv=>by simp only[V.In]at *;exact h _ hv
 | .slice b o n c,hv=>by simp only[V.In]at *;exact h _ hv
 | .map r,hv=>by simp only[V.In]at *;exact h _ hv
 | .yield l,hv=>by simp only[V.In]at *;exact h _ hv
 | .func f x y,hv=>by
  simp only[V.In]at *;exact⟨hv.1,V.InL_mono h x hv.2.1,V.InL_mono h y hv.2.2⟩
 | .iface t v,hv=>by simp only[V.In]at *;exact V.In_mono h v hv
 | .agg l,hv=>by simp only[V.In]at *;exact V.InL_mono h l hv
 | .tuple l,hv=>by simp only[V.In]at *;exact V.InL_mono h l hv
theorem V.InL_mono {D E:Nat->Prop}(h:∀id,D id->E id):∀l:List V,V.InL D l->V.InL E l
 | [],_=>by simp[V.InL]
 | v::l,hv=>by simp only[V.InL]at *;exact⟨V.In_mono h v hv.1,V.InL_mono h l hv.2⟩
end
mutual
theorem V.In_and {D E:Nat->Prop}:∀v:V,v.In D->v.In E->v.In (λid=>D id/\E id)
 | .bool _,_,_ | .int _ _,_,_ | .str _,_,_ | .nilptr,_,_ | .nilslice,_,_ | .nilmap,_,_ | .nilFunc,_,_ | .nilIface,_,_=>by simp[V.In]
 | .ptr b o,h1,h2=>by simp only[V.In]at *;exact⟨h1,h2⟩
 | .slice b o n c,h1,h2=>by simp only[V.In]at *;exact⟨h1,h2⟩
 | .map r,h1,h2=>by simp only[V.In]at *;exact⟨h1,h2⟩
 | .yield l,h1,h2=>by simp only[V.In]at *;exact⟨h1,h2⟩
 | .func f x y,h1,h2=>by
  simp only[V.In]at *;exact⟨h1.1,V.InL_and x h1.2.1 h2.2.1,V.InL_and y h1.2.2 h2.2.2⟩
 | .iface t v,h1,h2=>by simp only[V.In]at *;exact V.In_and v h1 h2
 | .agg l,h1,h2=>by simp only[V.In]at *;exact V.InL_and l h1 h2
 | .tuple l,h1,h2=>by simp only[V.In]at *;exact V.InL_and l h1 h2
theorem V.InL_and {D E:Nat->Prop}:∀l:List V,V.InL D l->V.InL E l->V.InL (λid=>D id/\E id) l
 | [],_,_=>by simp[V.InL]
 | v::l,h1,h2=>by simp only[V.InL]at *;exact⟨V.In_and v h1.1 h2.1,V.InL_and l h1.2 h2.2⟩
end
def kW:Nat->List V->Option (List V)
 | 0,_=>some []
 | _+1,[]=>none
 | n+1,v::l=>match kW n l with|some r=>some (v::r)|none=>none
def Zj:Nat->List V->Option (List V)
 | 0,l=>some l
 | _+1,[]=>none
 | n+1,_::l=>Zj n l
def zAa:List V->List V->Option (List V)
 | [],l=>some l
 | _::_,[]=>none
 | v::vs,_::l=>match zAa vs l with|some r=>some (v::r)|none=>none
def jh:Nat->List V->List V->Option (List V)
 | 0,vs,l=>zAa vs l
 | _+1,_,[]=>none
 | n+1,vs,x::l=>match jh n vs l with|some r=>some (x::r)|none=>none
def xr:List V->Nat->Nat
 | [],n=>n
 | _::l,n=>xr l (n+1)
theorem zDb:∀{n:Nat}{l r:List V},Zj n l=some r->n<=l.length/\r=l.drop n:=by
 intro n
 induction n with
 | zero=>intro l r h;simp only[Zj,oA]at h;subst h;simp
 | succ n ih =>
  intro l r h;cases l with
  | nil=>simp[Zj]at h
  | cons x l=>simp only[Zj]at h;obtain⟨a,b⟩:=ih h;simp[b];omega
theorem ZQ:∀{n:Nat}{l r:List V},kW n l=some r->n<=l.length/\r=l.take n:=by
 intro n
 induction n with
 | zero=>intro l r h;simp only[kW,oA]at h;subst h;simp
 | succ n ih =>
  intro l r h;cases l with
  | nil=>simp[kW]at h
  | cons x l =>
   simp only[kW]at h;cases ht:kW n l with
   | none=>simp[ht]at h
   | some q =>
    simp only[ht,oA]at h;obtain⟨a,b⟩:=ih ht;subst h;simp[b];omega
theorem zq:∀(l:List V) (n:Nat),xr l n=l.length+n:=by
 intro l
 induction l with
 | nil=>intro n;simp[xr]
 | cons x l ih=>intro n;simp only[xr,ih,oS];omega
theorem zQJ:∀{vs l r:List V},zAa vs l=some r->vs.length<=l.length/\r.length=l.length/\∀i,r[i]? = if i<vs.length then vs[i]? else l[i]?:=by
 intro vs
 induction vs with
 | nil=>intro l r h;simp only[zAa,oA]at h;subst h;simp
 | cons v vs ih =>
  intro l r h;cases l with
  | nil=>simp[zAa]at h
  | cons x l =>
   simp only[zAa]at h;cases ho:zAa vs l with
   | none=>simp[ho]at h
   | some q =>
    simp only[ho,oA]at h;obtain⟨a,b,c⟩:=ih ho;subst h;refine⟨by simpa using a,by simpa using b,λi=>?_⟩
    cases i with
    | zero=>simp
    | succ i=>simp[c i]
theorem qD:∀{n:Nat}{vs l r:List V},jh n vs l=some r->n+vs.length<=l.length/\r.length=l.length/\∀i,r[i]? = if n<=i/\i<n+vs.length then vs[i-n]? else l[i]?:=by
 intro n
 induction n with
 | zero =>
  intro vs l r h;have h':zAa vs l=some r:=by cases l<;>simpa [jh]using h
  obtain⟨a,b,c⟩:=zQJ h';exact⟨by omega,b,λi=>by simp[c i]⟩
 | succ n ih =>
  intro vs l r h;cases l with
  | nil=>simp[jh]at h
  | cons x l =>
   simp only[jh]at h;cases ho:jh n vs l with
   | none=>simp[ho]at h
   | some q =>
    simp only[ho,oA]at h;obtain⟨a,b,c⟩:=ih ho;subst h;refine⟨by simp;omega,by simpa using b,λi=>?_⟩
    cases i with
    | zero=>simp
    | succ i =>
     simp only[List.getElem?_cons_succ,c i];by_cases hc:n<=i/\i<n+vs.length
     ·rw[if_pos hc,if_pos (by omega),Nat.add_sub_add_right]
     ·rw[if_neg hc,if_neg (by omega)]
theorem zGO {n:Nat}{vs l r:List V}(h:jh n vs l=some r):∀v∈r,v∈vs\/v∈l:=by
 obtain⟨_,_,c⟩:=qD h;intro v hv;obtain⟨i,hi⟩:=List.mem_iff_getElem?.1 hv;rw[c i]at hi;split at hi
 ·exact .inl (List.mem_of_getElem? hi)
 ·exact .inr (List.mem_of_getElem? hi)
inductive Cs where
 | ls (l:List V)
 | tb (t:Tb V) (n:Nat)
 | big (d:V) (t:T V) (n:Nat)
namespace Cs
def len:Cs->Nat
 | .ls l=>xr l 0
 | .tb _ n=>n
 | .big _ _ n=>n
def getL:List V->Nat->Option V
 | [],_=>none
 | v::l,n=>match n with|0=>some v|n+1=>getL l n
def zDl (d:V) (t:T V) (i:Nat):V:=match t.get i with|some v=>v|none=>d
def get?:Cs->Nat->Option V
 | .ls l,i=>getL l i
 | .tb t n,i=>cond (Nat.blt i n) (some (Tb.get .nilptr t i)) none
 | .big d t n,i=>cond (Nat.blt i n) (some (zDl d t i)) none
def Zo (t:Tb V):Nat->Nat->List V
 | 0,_=>[]
 | k+1,o=>Tb.get .nilptr t o::Zo t k (o+1)
def Ja (d:V) (t:T V):Nat->Nat->List V
 | 0,_=>[]
 | k+1,o=>zDl d t o::Ja d t k (o+1)
def zGo (l:List V) (o k:Nat):Option (List V):=match Zj o l with|some r=>kW k r|none=>none
def range:Cs->Nat->Nat->Option (List V)
 | .ls l,o,k=>zGo l o k
 | .tb t n,o,k=>cond (Nat.ble (o+k) n) (some (Zo t k o)) none
 | .big d t n,o,k=>cond (Nat.ble (o+k) n) (some (Ja d t k o)) none
def qa:List V->Nat->Tb V->Tb V
 | [],_,t=>t
 | v::vs,o,t=>qa vs (o+1) (t.set o v)
def wy:List V->Nat->T V->T V
 | [],_,t=>t
 | v::vs,o,t=>wy vs (o+1) (t.set o (some v))
def zW9 (l:List V) (o:Nat) (vs:List V):Option Cs:=match jh o vs l with|some r=>some (.ls r)|none=>none
def put:Cs->Nat->List V->Option Cs
 | .ls l,o,vs=>zW9 l o vs
 | .tb t n,o,vs=>cond (Nat.ble (xr vs o) n && Nat.ble n 511) (some (.tb (qa vs o t) n)) none
 | .big d t n,o,vs=>cond (Nat.ble (xr vs o) n && Nat.ble n 262143) (some (.big d (wy vs o t) n)) none
def zEK (l:List V) (m:Nat):Option Cs :=
 cond (Nat.ble m 511) (some (.tb (qa l 0 (Tb.leaf .nilptr)) m)) (cond (Nat.ble m 262143) (some (.big .nilptr (wy l 0 .leaf) m)) none)
def zIg (l vs:List V) (m:Nat):Option Cs:=cond (Nat.ble m 16) (some (.ls (l++vs))) (zEK (l++vs) m)
def zP7 (t:Tb V) (n:Nat) (vs:List V) (m:Nat):Option Cs :=
 cond (Nat.ble m 511) (some (.tb (qa vs n t) m)) (cond (Nat.ble m 262143) (some (.big .nilptr (wy vs n (wy (Zo t n 0) 0 .leaf)) m)) none)
def app:Cs->List V->Option Cs
 | .ls l,vs=>zIg l vs (xr l (xr vs 0))
 | .tb t n,vs=>zP7 t n vs (xr vs n)
 | .big d t n,vs=>cond (Nat.ble (xr vs n) 262143) (some (.big d (wy vs n t) (xr vs n))) none
def ofL (l:List V):Option Cs:=zIg [] l (xr l 0)
def rep (v:V) (n:Nat):Option Cs :=
 cond (Nat.ble n 511) (some (.tb (Tb.leaf v) n)) (cond (Nat.ble n 262143) (some (.big v .leaf n)) none)
theorem getL_eq:∀(l:List V) (i:Nat),getL l i=l[i]?:=by
 intro l
 induction l with
 | nil=>intro i;simp[getL]
 | cons v l ih=>intro i;cases i with
  | zero=>simp[getL]
  | succ i=>simp[getL,ih]
theorem zE4 (t:Tb V):∀(k o:Nat),(Zo t k o).length=k/\∀j,(Zo t k o)[j]? = if j<k then some (Tb.get .nilptr t (o+j)) else none:=by
 intro k
 induction k with
 | zero=>intro o;exact⟨rfl,λj=>by simp[Zo]⟩
 | succ k ih =>
  intro o;obtain⟨a,b⟩:=ih (o+1);refine⟨by simp[Zo,a],λj=>?_⟩
  cases j with
  | zero=>simp[Zo]
  | succ j =>
   simp only[Zo,List.getElem?_cons_succ,b,show o+1+j=o+(j+1)from by omega];by_cases h:j<k
   ·rw[if_pos h,if_pos (by omega)]
   ·rw[if_neg h,if_neg (by omega)]
theorem zOL (d:V) (t:T V):∀(k o:Nat),(Ja d t k o).length=k/\∀j,(Ja d t k o)[j]? = if j<k then some (zDl d t (o+j)) else none:=by
 intro k
 induction k with
 | zero=>intro o;exact⟨rfl,λj=>by simp[Ja]⟩
 | succ k ih =>
  intro o;obtain⟨a,b⟩:=ih (o+1);refine⟨by simp[Ja,a],λj=>?_⟩
  cases j with
  | zero=>simp[Ja]
  | succ j =>
   simp only[Ja,List.getElem?_cons_succ,b,show o+1+j=o+(j+1)from by omega];by_cases h:j<k
   ·rw[if_pos h,if_pos (by omega)]
   ·rw[if_neg h,if_neg (by omega)]
theorem JX:∀(vs:List V) (o:Nat) (t:Tb V) (i:Nat),o+vs.length<=511 ->
  Tb.get .nilptr (qa vs o t) i=if o<=i/\i<o+vs.length then (vs[i-o]?).getD .nilptr else Tb.get .nilptr t i:=by
 intro vs
 induction vs with
 | nil=>intro o t i _;simp only[qa,List.length_nil];rw[if_neg (by omega)]
 | cons v vs ih =>
  intro o t i h;simp only[oS]at h ⊢;rw[qa,ih _ _ _ (by omega),Tb.get_set _ _ _ _ _ (by unfold Tb.top;omega)];by_cases h1:i=o
  ·subst h1
   rw[if_neg (by omega),if_pos rfl,if_pos (by omega)];simp
  ·by_cases h2:o+1<=i/\i<o+1+vs.length
   ·rw[if_pos h2,if_pos (by omega)]
    obtain⟨k,hk⟩:∃k,i-o=k+1:=⟨i-o-1,by omega⟩;rw[hk,List.getElem?_cons_succ,show i-(o+1)=k from by omega]
   ·rw[if_neg h2,if_neg h1,if_neg (by omega)]
theorem qF:∀(vs:List V) (o:Nat) (t:T V) (i:Nat),o+vs.length<=262143 ->
  (wy vs o t).get i=if o<=i/\i<o+vs.length then vs[i-o]? else t.get i:=by
 intro vs
 induction vs with
 | nil=>intro o t i _;simp only[wy,List.length_nil];rw[if_neg (by omega)]
 | cons v vs ih =>
  intro o t i h;simp only[oS]at h ⊢;rw[wy,ih _ _ _ (by omega),T.get_set _ _ _ _ (by unfold T.top;omega)];by_cases h1:i=o
  ·subst h1
   rw[if_neg (by omega),if_pos rfl,if_pos (by omega)];simp
  ·by_cases h2:o+1<=i/\i<o+1+vs.length
   ·rw[if_pos h2,if_pos (by omega)]
    obtain⟨k,hk⟩:∃k,i-o=k+1:=⟨i-o-1,by omega⟩;rw[hk,List.getElem?_cons_succ,show i-(o+1)=k from by omega]
   ·rw[if_neg h2,if_neg h1,if_neg (by omega)]
theorem zBh {a b:Nat}(h:Nat.blt a b=true):a<b:=oE h
theorem get_lt {c:Cs}{i:Nat}{v:V}(h:c.get? i=some v):i<c.len:=by
 cases c with
 | ls l =>
  simp only[get?,getL_eq]at h;simp only[len,zq];have:=(List.getElem?_eq_some_iff.1 h).1;omega
 | tb t n =>
  simp only[get?]at h;cases hb:Nat.blt i n with
  | true=>exact zBh hb
  | false=>simp[hb]at h
 | big d t n =>
  simp only[get?]at h;cases hb:Nat.blt i n with
  | true=>exact zBh hb
  | false=>simp[hb]at h
theorem range_eq {c:Cs}{o k:Nat}{x:List V}(h:c.range o k=some x):x.length=k/\o+k<=c.len/\∀j,j<k->x[j]? = c.get? (o+j):=by
 cases c with
 | ls l =>
  simp only[range,zGo]at h;split at h
  ·rename_i r hr
   obtain⟨a1,rfl⟩:=zDb hr;obtain⟨a2,rfl⟩:=ZQ h;simp only[List.length_drop]at a2;refine⟨by simp;omega,by simp only[len,zq];omega,λj hj=>?_⟩
   rw[List.getElem?_take,if_pos hj,List.getElem?_drop];simp only[get?,getL_eq]
  ·cases h
 | tb t n =>
  simp only[range]at h;cases hb:Nat.ble (o+k) n with
  | false=>simp[hb]at h
  | true =>
   simp only[hb,oK,oA]at h;subst h;have hle:=oE hb;obtain⟨a,b⟩:=zE4 t k o;refine⟨a,hle,λj hj=>?_⟩
   have h1:Nat.blt (o+j) n=true:=oC (by omega);rw[b,if_pos hj];simp only[get?,h1,oK]
 | big d t n =>
  simp only[range]at h;cases hb:Nat.ble (o+k) n with
  | false=>simp[hb]at h
  | true =>
   simp only[hb,oK,oA]at h;subst h;have hle:=oE hb;obtain⟨a,b⟩:=zOL d t k o;refine⟨a,hle,λj hj=>?_⟩
   have h1:Nat.blt (o+j) n=true:=oC (by omega);rw[b,if_pos hj];simp only[get?,h1,oK]
theorem range_mem {c:Cs}{o k:Nat}{x:List V}(h:c.range o k=some x) {v:V}(hv:v∈x):∃i,c.get? i=some v:=by
 obtain⟨a,_,b⟩:=range_eq h;obtain⟨j,hj⟩:=List.mem_iff_getElem?.1 hv;have hjk:j<k:=by rw[<-a];exact(List.getElem?_eq_some_iff.1 hj).1
 exact⟨o+j,by rw[<-b j hjk];exact hj⟩
theorem range_some {c:Cs}{o k:Nat}(h:o+k<=c.len):∃x,c.range o k=some x:=by
 cases c with
 | ls l =>
  simp only[len,zq,Nat.add_zero]at h;have hd:∀(n:Nat) (l:List V),n<=l.length->Zj n l=some (l.drop n):=by
   intro n
   induction n with
   | zero=>intro l _;simp[Zj]
   | succ n ih=>intro l hl;cases l with
    | nil=>simp at hl
    | cons x l=>simp only[Zj,ih l (by simpa using hl),List.drop_succ_cons]
  have ht:∀(n:Nat) (l:List V),n<=l.length->kW n l=some (l.take n):=by
   intro n
   induction n with
   | zero=>intro l _;simp[kW]
   | succ n ih=>intro l hl;cases l with
    | nil=>simp at hl
    | cons x l=>simp only[kW,ih l (by simpa using hl),List.take_succ_cons]
  exact⟨_,by simp only[range,zGo,hd o l (by omega)];exact ht _ _ (by simp;omega)⟩
 | tb t n =>
  have hb:Nat.ble (o+k) n=true:=oC h;exact⟨_,by simp only[range,hb,oK];rfl⟩
 | big d t n =>
  have hb:Nat.ble (o+k) n=true:=oC h;exact⟨_,by simp only[range,hb,oK];rfl⟩
theorem put_eq {c c':Cs}{o:Nat}{vs:List V}(h:c.put o vs=some c') :
  o+vs.length<=c.len/\c'.len=c.len/\∀i,c'.get? i=if o<=i/\i<o+vs.length then vs[i-o]? else c.get? i:=by
 cases c with
 | ls l =>
  simp only[put,zW9]at h;split at h
  ·rename_i r hr
   simp only[oA]at h;subst h;obtain⟨s1,s2,s3⟩:=qD hr;exact⟨by simp only[len,zq];omega,by simp only[len,zq];omega,λi=>by simp only[get?,getL_eq];exact s3 i⟩
  ·cases h
 | tb t n =>
  simp only[put]at h;cases hb:(Nat.ble (xr vs o) n && Nat.ble n 511)with
  | false=>simp[hb]at h
  | true =>
   simp only[hb,oK,oA]at h;subst h;simp only[oG]at hb;have h1:=oE hb.1;have h2:=oE hb.2;rw[zq]at h1;refine⟨by simp only[len];omega,rfl,λi=>?_⟩
   simp only[get?];rw[JX _ _ _ _ (by omega)];by_cases hi:o<=i/\i<o+vs.length
   ·have hin:Nat.blt i n=true:=oC (by omega)
    rw[if_pos hi,if_pos hi,hin,oK,oM (by omega)];rfl
   ·rw[if_neg hi,if_neg hi]
 | big d t n =>
  simp only[put]at h;cases hb:(Nat.ble (xr vs o) n && Nat.ble n 262143)with
  | false=>simp[hb]at h
  | true =>
   simp only[hb,oK,oA]at h;subst h;simp only[oG]at hb;have h1:=oE hb.1;have h2:=oE hb.2;rw[zq]at h1;refine⟨by simp only[len];omega,rfl,λi=>?_⟩
   simp only[get?,zDl];rw[qF _ _ _ _ (by omega)];by_cases hi:o<=i/\i<o+vs.length
   ·have hin:Nat.blt i n=true:=oC (by omega)
    rw[if_pos hi,if_pos hi,hin,oK,oM (by omega)]
   ·rw[if_neg hi,if_neg hi]
theorem zMd {l:List V}{m:Nat}{c:Cs}(hm:m=l.length) (h:zEK l m=some c):c.len=m/\∀i,c.get? i=l[i]?:=by
 unfold zEK at h;cases hb:Nat.ble m 511 with
 | true =>
  simp only[hb,oK,oA]at h;subst h;have h1:=oE hb;refine⟨rfl,λi=>?_⟩
  simp only[get?];rw[JX _ _ _ _ (by omega)];by_cases hi:i<m
  ·have hin:Nat.blt i m=true:=oC hi
   rw[hin,oK,if_pos (by omega),Nat.sub_zero,oM (by omega)];rfl
  ·have hin:Nat.blt i m=false:=by
    cases hc:Nat.blt i m with
    | false=>rfl
    | true=>exact absurd (zBh hc) hi
   rw[hin,oL,oa (by omega)]
 | false =>
  simp only[hb,oL]at h;cases hb2:Nat.ble m 262143 with
  | false=>simp[hb2]at h
  | true =>
   simp only[hb2,oK,oA]at h;subst h;have h1:=oE hb2;refine⟨rfl,λi=>?_⟩
   simp only[get?,zDl];rw[qF _ _ _ _ (by omega)];by_cases hi:i<m
   ·have hin:Nat.blt i m=true:=oC hi
    rw[hin,oK,if_pos (by omega),Nat.sub_zero,oM (by omega)]
   ·have hin:Nat.blt i m=false:=by
     cases hc:Nat.blt i m with
     | false=>rfl
     | true=>exact absurd (zBh hc) hi
    rw[hin,oL,oa (by omega)]
theorem zHX {l vs:List V}{m:Nat}{c:Cs}(hm:m=l.length+vs.length) (h:zIg l vs m=some c):c.len=m/\∀i,c.get? i=(l++vs)[i]?:=by
 unfold zIg at h;cases hb:Nat.ble m 16 with
 | true =>
  simp only[hb,oK,oA]at h;subst h;exact⟨by simp only[len,zq,oR];omega,λi=>by simp only[get?,getL_eq]⟩
 | false =>
  simp only[hb,oL]at h;exact zMd (by rw[oR];exact hm) h
theorem ofL_eq {l:List V}{c:Cs}(h:ofL l=some c):c.len=l.length/\∀i,c.get? i=l[i]?:=by
 have:=zHX (by simp[zq]) h;simpa [zq]using this
theorem app_eq {c c':Cs}{vs:List V}(h:c.app vs=some c'):c'.len=c.len+vs.length/\∀i,c'.get? i=if i<c.len then c.get? i else vs[i-c.len]?:=by
 cases c with
 | ls l =>
  simp only[app]at h;obtain⟨a,b⟩:=zHX (by simp only[zq];omega) h;refine⟨by rw[a];simp only[len,zq];omega,λi=>?_⟩
  rw[b];simp only[len,zq,Nat.add_zero,get?,getL_eq];by_cases hi:i<l.length
  ·rw[if_pos hi,List.getElem?_append_left hi]
  ·rw[if_neg hi,List.getElem?_append_right (by omega)]
 | tb t n =>
  simp only[app,zP7]at h;cases hb:Nat.ble (xr vs n) 511 with
  | true =>
   simp only[hb,oK,oA]at h;subst h;have h1:=oE hb;rw[zq]at h1;refine⟨by simp only[len,zq];omega,λi=>?_⟩
   show Cs.get? (.tb (qa vs n t) (xr vs n)) i=if i<n then Cs.get? (.tb t n) i else vs[i-n]?
   simp only[get?];rw[JX _ _ _ _ (by omega),zq];by_cases hi:i<n
   ·have e1:Nat.blt i (vs.length+n)=true:=oC (by omega)
    have e2:Nat.blt i n=true:=oC hi;rw[if_pos hi,e1,e2,if_neg (by omega)]
   ·rw[if_neg hi]
    by_cases hj:i<vs.length+n
    ·have e1:Nat.blt i (vs.length+n)=true:=oC hj
     rw[e1,oK,if_pos (by omega),oM (by omega)];rfl
    ·have e1:Nat.blt i (vs.length+n)=false:=by
      cases hc:Nat.blt i (vs.length+n)with
      | false=>rfl
      | true=>exact absurd (zBh hc) hj
     rw[e1,oL,oa (by omega)]
  | false =>
   simp only[hb,oL]at h;cases hb2:Nat.ble (xr vs n) 262143 with
   | false=>simp[hb2]at h
   | true =>
    simp only[hb2,oK,oA]at h;subst h;have h1:=oE hb2;rw[zq]at h1;obtain⟨r1,r2⟩:=zE4 t n 0;refine⟨by simp only[len,zq];omega,λi=>?_⟩
    show Cs.get? (.big .nilptr (wy vs n (wy (Zo t n 0) 0 .leaf)) (xr vs n)) i=if i<n then Cs.get? (.tb t n) i else vs[i-n]?
    simp only[get?,zDl];rw[qF _ _ _ _ (by omega),qF _ _ _ _ (by rw[r1];omega),zq];by_cases hi:i<n
    ·have e1:Nat.blt i (vs.length+n)=true:=oC (by omega)
     have e2:Nat.blt i n=true:=oC hi;rw[if_pos hi,e1,e2,if_neg (by omega),if_pos (by rw[r1];omega),r2,if_pos (by omega),Nat.sub_zero,Nat.zero_add]
    ·rw[if_neg hi]
     by_cases hj:i<vs.length+n
     ·have e1:Nat.blt i (vs.length+n)=true:=oC hj
      rw[e1,oK,if_pos (by omega),oM (by omega)]
     ·have e1:Nat.blt i (vs.length+n)=false:=by
       cases hc:Nat.blt i (vs.length+n)with
       | false=>rfl
       | true=>exact absurd (zBh hc) hj
      rw[e1,oL,oa (by omega)]
 | big d t n =>
  simp only[app]at h;cases hb:Nat.ble (xr vs n) 262143 with
  | false=>simp[hb]at h
  | true =>
   simp only[hb,oK,oA]at h;subst h;have h1:=oE hb;rw[zq]at h1;refine⟨by simp only[len,zq];omega,λi=>?_⟩
   show Cs.get? (.big d (wy vs n t) (xr vs n)) i=if i<n then Cs.get? (.big d t n) i else vs[i-n]?
   simp only[get?,zDl];rw[qF _ _ _ _ (by omega),zq];by_cases hi:i<n
   ·have e1:Nat.blt i (vs.length+n)=true:=oC (by omega)
    have e2:Nat.blt i n=true:=oC hi;rw[if_pos hi,e1,e2,if_neg (by omega)]
   ·rw[if_neg hi]
    by_cases hj:i<vs.length+n
    ·have e1:Nat.blt i (vs.length+n)=true:=oC hj
     rw[e1,oK,if_pos (by omega),oM (by omega)]
    ·have e1:Nat.blt i (vs.length+n)=false:=by
      cases hc:Nat.blt i (vs.length+n)with
      | false=>rfl
      | true=>exact absurd (zBh hc) hj
     rw[e1,oL,oa (by omega)]
theorem rep_eq {v:V}{n:Nat}{c:Cs}(h:rep v n=some c):c.len=n/\∀i,c.get? i=if i<n then some v else none:=by
 unfold rep at h;have key:∀i,(cond (Nat.blt i n) (some v) none:Option V)=if i<n then some v else none:=λi=>by
  by_cases hi:i<n
  ·have e1:Nat.blt i n=true:=oC hi
   rw[e1,if_pos hi];rfl
  ·have e1:Nat.blt i n=false:=by
    cases hc:Nat.blt i n with
    | false=>rfl
    | true=>exact absurd (zBh hc) hi
   rw[e1,if_neg hi];rfl
 cases hb:Nat.ble n 511 with
 | true =>
  simp only[hb,oK,oA]at h;subst h;have h1:=oE hb;refine⟨rfl,λi=>?_⟩
  rw[<-key];simp only[get?];cases hi:Nat.blt i n with
  | false=>rfl
  | true =>
   have:=zBh hi;simp only[oK];unfold Tb.get Tb.leaf Tb.getF;simp only[N8.get_all];rw[oC (by omega)];rfl
 | false =>
  simp only[hb,oL]at h;cases hb2:Nat.ble n 262143 with
  | false=>simp[hb2]at h
  | true =>
   simp only[hb2,oK,oA]at h;subst h;refine⟨rfl,λi=>?_⟩
   rw[<-key];simp only[get?,zDl,T.get_leaf]
end Cs
def V.one:V->Bool
 | .agg _=>false
 | .tuple _=>false
 | _=>true
def zC:V:=.tuple []
abbrev Tm:Type:=Tb V
def yB (tm:Tm) (t:Nat):V:=Tb.get zC tm t
theorem xO (ρ:Env):zC.conc ρ=undef:=by simp[zC,V.conc,V.concL,undef]
theorem xY (D:Nat->Prop):zC.In D:=by simp[zC,V.In,V.InL]
structure TmR (ρ:Env) (D:Nat->Prop) (n:Nat) (tm:Tm) (a:Array Value):Prop where
 size:a.size=n
 cap:n<=Tb.top
 val:∀t,a.getD t undef=(yB tm t).conc ρ
 inn:∀t,(yB tm t).In D
structure Ent where
 key:V
 val:V
 born:Nat
def Ent.conc (ρ:Env) (e:Ent):MapEntry:={ key:=e.key.conc ρ,val:=e.val.conc ρ,born:=e.born }
structure Rk where
 n:Nat
 ty:Nat
 fz:Nat
inductive O where
 | cells (l:Cs) (esz:Rk) (wr op:Bool)
 | map (es:List Ent) (clock:Nat)
 | loop (st:LoopState) (pending:Option Code) (n:Nat) (tm:Tm) (params:Array Tmp) (assign body:Code) (dfr:Nat)
 | deferred (there:Bool)
 | strIter (l:List UInt8) (pos:Nat)
 | mapIter (m:Option Nat) (since:Nat) (seen:List Nat) (stepped:Nat)
def O.wr:O->Bool
 | .cells _ _ w _=>w
 | _=>true
structure H where
 tbl:T O
 next:Nat
 low:Nat
def H.get (h:H) (id:Nat):Option O:=h.tbl.get id
def ORel (ρ:Env) (D:Nat->Prop) (b:Nat):O->Option Obj->Prop
 | .cells l esz wr op,x=>∃c e fz,x=some (.cells c e fz)/\(∀i v,l.get? i=some v->c[ρ.off b+i]? = some (v.conc ρ))/\(∀i v,l.get? i=some v->v.In D) /\
   (wr=true->ρ.off b=0/\(∀i,i<c.size->esz.fz<=i->¬(fz.1<=i/\i<fz.2))/\l.len<=c.size/\c.size=(if op then ρ.cap b*esz.n else l.len) /\
    ∀t,esz.ty=t+1->e=t/\(fz.1=fz.2\/(fz.1=0/\fz.2<=esz.fz)))
 | .map es clock,x=>x=some (.map (es.map (Ent.conc ρ)).toArray clock)/\∀e∈es,e.key.In D/\e.val.In D
 | .loop st pending n tm params assign body dfr,x=>∃fn tmps,x=some (.loop { state:=st,pending,fn,tmps,params,assign,body,defers:=ρ.blk dfr })/\TmR ρ D n tm tmps/\D dfr
 | .deferred there,x=>x=some (.deferred (if there then some [] else none))
 | .strIter l pos,x=>x=some (.stringIter ⟨l.toArray⟩ pos)
 | .mapIter m since seen stepped,x=>x=some (.mapIter (m.map ρ.blk) since seen.toArray stepped)/\∀r,m=some r->D r
structure HR (ρ:Env) (D:Nat->Prop) (h:H) (w:World):Prop where
 cap:h.next<=T.top
 lt:∀id,D id->id<h.next
 rel:∀id o,D id->h.get id=some o->ORel ρ D id o w.heap[ρ.blk id]?
 inj:∀i j oi oj,D i->D j->h.get i=some oi->h.get j=some oj->oi.wr=true->ρ.blk i=ρ.blk j->i=j
def Dx (D:Nat->Prop) (h h':H):Nat->Prop:=λid=>D id\/(h.next<=id/\id<h'.next)
structure Mv (ρ:Env) (D:Nat->Prop) (h:H) (w:World) (ρ':Env) (h':H) (w':World):Prop where
 next:h.next<=h'.next
 size:w.heap.size<=w'.heap.size
 os:w'.os=w.os
 tape:w'.tape=w.tape
 output:w'.output=w.output
 agree:Agree D ρ ρ'
 old:∀id o',id<h.next->h'.get id=some o'->∃o,h.get id=some o/\o'.wr=o.wr
 img:∀id o',h.next<=id->id<h'.next->h'.get id=some o'->o'.wr=true /\
  (w.heap.size<=ρ'.blk id\/∃j o,D j/\h.get j=some o/\o.wr=true/\ρ.blk j=ρ'.blk id/\h'.get j=none)
 frame:∀r,r<w.heap.size->(∀j o,D j->h.get j=some o->o.wr=true->ρ.blk j≠r)->w'.heap[r]? = w.heap[r]?
 low:h'.low<=h.low
 kept:∀id,id<h.next->id<h'.low->h'.get id=h.get id
theorem xZ {D:Nat->Prop}{h h':H}:∀id,D id->Dx D h h' id:=λ_=>.inl
theorem zk {D:Nat->Prop}{h:H}:Dx D h h=D:=by
 funext id;simp only[Dx,eq_iff_iff];constructor
 ·rintro(h1|h1)
  ·exact h1
  ·omega
 ·exact .inl
theorem wa {D:Nat->Prop}{h h':H}(e:h'.next=h.next):Dx D h h'=D:=by
 funext id;simp only[Dx,eq_iff_iff];constructor
 ·rintro(h1|h1)
  ·exact h1
  ·omega
 ·exact .inl
theorem xS {D:Nat->Prop}{h h1 h2:H}(a:h.next<=h1.next) (b:h1.next<=h2.next):Dx (Dx D h h1) h1 h2=Dx D h h2:=by
 funext id;simp only[Dx,eq_iff_iff];constructor
 ·rintro((c|c)|c)
  ·exact .inl c
  ·exact .inr (by omega)
  ·exact .inr (by omega)
 ·rintro(c|c)
  ·exact .inl (.inl c)
  ·by_cases e:id<h1.next
   ·exact .inl (.inr (by omega))
   ·exact .inr (by omega)
theorem Mv.refl (ρ:Env) (D:Nat->Prop) (h:H) (w:World):Mv ρ D h w ρ h w :=
 ⟨oO _,oO _,rfl,rfl,rfl,Agree.refl _ _,λ_ o' _ e=>⟨o',e,rfl⟩,λ_ _ a b=>by omega,λ_ _ _=>rfl,oO _,λ_ _ _=>rfl⟩
theorem Mv.trans {ρ ρ1 ρ2:Env}{D:Nat->Prop}{h h1 h2:H}{w w1 w2:World}(hD:∀id,D id->id<h.next)
  (a:Mv ρ D h w ρ1 h1 w1) (b:Mv ρ1 (Dx D h h1) h1 w1 ρ2 h2 w2):Mv ρ D h w ρ2 h2 w2 where
 next:=oP a.next b.next
 size:=oP a.size b.size
 os:=b.os.trans a.os
 tape:=b.tape.trans a.tape
 output:=b.output.trans a.output
 agree:=λid hid=>by
  obtain⟨x1,x2,x3⟩:=a.agree id hid;obtain⟨y1,y2,y3⟩:=b.agree id (.inl hid);exact⟨y1.trans x1,y2.trans x2,y3.trans x3⟩
 old:=λid o' hlt he=>by
  obtain⟨o1,he1,e1⟩:=b.old id o' (oI hlt a.next) he;obtain⟨o,he2,e2⟩:=a.old id o1 hlt he1;exact⟨o,he2,e1.trans e2⟩
 img:=λid o' h0 h2' he=>by
  have dead:∀k,k<h.next->h1.get k=none->h2.get k=none:=λk hk hn=>by
   cases hc:h2.get k with
   | none=>rfl
   | some o=>obtain⟨o1,he1,_⟩:=b.old k o (oI hk a.next) hc;rw[hn]at he1;cases he1
  by_cases hid:id<h1.next
  ·obtain⟨o1,he1,e1⟩:=b.old id o' hid he
   obtain⟨hw,hi⟩:=a.img id o1 h0 hid he1;have hag:=(b.agree id (.inr ⟨h0,hid⟩)).1;refine⟨e1.trans hw,?_⟩;rcases hi with hi|⟨j,o,d1,d2,d3,d4,d5⟩
   ·exact .inl (by rw[hag];exact hi)
   ·exact .inr ⟨j,o,d1,d2,d3,by rw[hag];exact d4,dead j (hD j d1) d5⟩
  ·obtain⟨hw,hi⟩:=b.img id o' (by omega) h2' he
   refine⟨hw,?_⟩;rcases hi with hi|⟨j,o,d1,d2,d3,d4,d5⟩
   ·exact .inl (oP a.size hi)
   ·rcases d1 with d1|d1
    ·obtain⟨o0,g1,g2⟩:=a.old j o (hD j d1) d2
     exact .inr ⟨j,o0,d1,g1,g2.symm.trans d3,by rw[<-d4];exact(a.agree j d1).1.symm,d5⟩
    ·obtain⟨_,hj⟩:=a.img j o d1.1 d1.2 d2
     rcases hj with hj|⟨k,ok,k1,k2,k3,k4,k5⟩
     ·exact .inl (by rw[<-d4];exact hj)
     ·exact .inr ⟨k,ok,k1,k2,k3,k4.trans d4,dead k (hD k k1) k5⟩
 frame:=λr hr hno=>by
  rw[b.frame r (oI hr a.size) ?_,a.frame r hr hno];intro j o d1 d2 d3;rcases d1 with d1|d1
  ·obtain⟨o0,g1,g2⟩:=a.old j o (hD j d1) d2
   rw[(a.agree j d1).1];exact hno j o0 d1 g1 (g2.symm.trans d3)
  ·obtain⟨_,hj⟩:=a.img j o d1.1 d1.2 d2
   rcases hj with hj|⟨k,ok,k1,k2,k3,k4,_⟩
   ·omega
   ·rw[<-k4];exact hno k ok k1 k2 k3
 low:=oP b.low a.low
 kept:=λid h0 hl=>(b.kept id (oI h0 a.next) hl).trans (a.kept id h0 (oI hl b.low))
theorem HR.of_heap {ρ:Env}{D:Nat->Prop}{h:H}{w w':World}(r:HR ρ D h w) (e:w'.heap=w.heap):HR ρ D h w' :=
 ⟨r.cap,r.lt,by rw[e];exact r.rel,r.inj⟩
theorem Mv.of_heap {ρ:Env}{D:Nat->Prop}{h:H}{w w':World}(e:w'.heap=w.heap) (e1:w'.os=w.os) (e2:w'.tape=w.tape) (e3:w'.output=w.output):Mv ρ D h w ρ h w' :=
 ⟨oO _,by rw[e];exact oO _,e1,e2,e3,Agree.refl _ _,λ_ o' _ e=>⟨o',e,rfl⟩,λ_ _ a b=>by omega,λr _ _=>by rw[e],oO _,λ_ _ _=>rfl⟩
def H.upd (h:H) (id:Nat) (o:Option O):H :=
 match h with
 | ⟨t,n,l⟩=>⟨t.set id o,n,cond (Nat.ble l id) l id⟩
def H.new (h:H) (o:O):H :=
 match h with
 | ⟨t,n,l⟩=>⟨t.set n (some o),n+1,l⟩
theorem H.upd_eq (h:H) (id:Nat) (o:Option O):h.upd id o = { tbl:=h.tbl.set id o,next:=h.next,low:=cond (Nat.ble h.low id) h.low id }:=rfl
theorem H.new_eq (h:H) (o:O):h.new o = { tbl:=h.tbl.set h.next (some o),next:=h.next+1,low:=h.low }:=rfl
def Env.at (ρ : Env) (id blk cap : Nat) : Env :=
  { blk := λi => if i = id then blk else ρ.blk i
    off := λi => if i = id then 0 else ρ.off i
    cap := λi => if i = id then cap else ρ.cap i }
@[simp] theorem Env.at_blk (ρ:Env) (id b c:Nat):(ρ.at id b c).blk id=b:=by simp[Env.at]
@[simp] theorem Env.at_off (ρ:Env) (id b c:Nat):(ρ.at id b c).off id=0:=by simp[Env.at]
@[simp] theorem Env.at_cap (ρ:Env) (id b c:Nat):(ρ.at id b c).cap id=c:=by simp[Env.at]
theorem Env.at_agree {ρ:Env}{D:Nat->Prop}{id b c:Nat}(h:¬D id):Agree D ρ (ρ.at id b c):=λi hi=>by
 have:i≠id:=λe=>h (e ▸ hi)
 simp[Env.at,this]
theorem H.low_upd (h:H) (id:Nat) (o:Option O):(h.upd id o).low=min h.low id:=by
 rw[H.upd_eq];cases hb:Nat.ble h.low id
 ·have:¬h.low<=id:=λe=>by rw[oC e]at hb;cases hb
  simp only[oL];omega
 ·have:=oE hb
  simp only[oK];omega
theorem H.get_upd (h:H) (id j:Nat) (o:Option O) (hl:id<T.top):(h.upd id o).get j=if j=id then o else h.get j:=by
 simp[H.upd_eq,H.get,T.get_set _ _ _ _ hl]
theorem H.get_new (h:H) (j:Nat) (o:O) (hl:h.next<T.top):(h.new o).get j=if j=h.next then some o else h.get j:=by
 simp[H.new_eq,H.get,T.get_set _ _ _ _ hl]
theorem TmR.agree {ρ ρ':Env}{D D':Nat->Prop}{n:Nat}{tm:Tm}{a:Array Value}(h:TmR ρ D n tm a) (hs:∀id,D id->D' id) (ha:Agree D ρ ρ'):TmR ρ' D' n tm a :=
 ⟨h.size,h.cap,λt=>by rw[V.conc_agree ha _ (h.inn t)];exact h.val t,λt=>V.In_mono hs _ (h.inn t)⟩
theorem ORel.agree {ρ ρ':Env}{D D':Nat->Prop}{b:Nat}{o:O}{x:Option Obj}(h:ORel ρ D b o x) (hb:D b) (hs:∀id,D id->D' id) (ha:Agree D ρ ρ'):ORel ρ' D' b o x:=by
 cases o with
 | cells l esz wr op =>
  obtain⟨c,e,fz,rfl,h1,h2,h3⟩:=h;obtain⟨_,a2,a3⟩:=ha b hb;refine⟨c,e,fz,rfl,λi v hv=>?_,λi v hv=>V.In_mono hs _ (h2 i v hv),?_⟩
  ·rw[a2,V.conc_agree ha v (h2 i v hv)];exact h1 i v hv
  ·rw[a2,a3];exact h3
 | map es clock =>
  obtain⟨h1,h2⟩:=h;refine⟨?_,λe he=>⟨V.In_mono hs _ (h2 e he).1,V.In_mono hs _ (h2 e he).2⟩⟩
  rw[h1]
  congr 2
  congr 1
  apply List.map_congr_left;intro e he;simp[Ent.conc,V.conc_agree ha _ (h2 e he).1,V.conc_agree ha _ (h2 e he).2]
 | loop st pending n tm params assign body dfr =>
  obtain⟨fn,tmps,h1,h2,h3⟩:=h;refine⟨fn,tmps,?_,h2.agree hs ha,hs _ h3⟩;rw[h1,(ha dfr h3).1]
 | deferred there=>exact h
 | strIter l pos=>exact h
 | mapIter m since seen stepped =>
  obtain⟨h1,h2⟩:=h;refine⟨?_,λr hr=>hs _ (h2 r hr)⟩
  cases m with
  | none=>exact h1
  | some r=>simp only[oX]at *;rw[(ha r (h2 r rfl)).1];exact h1
theorem ORel.some {ρ:Env}{D:Nat->Prop}{b:Nat}{o:O}{x:Option Obj}(h:ORel ρ D b o x):∃y,x=some y:=by
 cases o with
 | cells l esz wr op=>obtain⟨c,e,fz,rfl,_⟩:=h;exact⟨_,rfl⟩
 | map es clock=>exact⟨_,h.1⟩
 | loop st pending n tm params assign body dfr=>obtain⟨fn,tmps,h1,_⟩:=h;exact⟨_,h1⟩
 | deferred there=>exact⟨_,h⟩
 | strIter l pos=>exact⟨_,h⟩
 | mapIter m since seen stepped=>exact⟨_,h.1⟩
theorem HR.lt_size {ρ:Env}{D:Nat->Prop}{h:H}{w:World}(r:HR ρ D h w) {id:Nat}{o:O}(hd:D id) (hg:h.get id=some o):ρ.blk id<w.heap.size:=by
 obtain⟨y,hy⟩:=(r.rel id o hd hg).some;rcases Nat.lt_or_ge (ρ.blk id) w.heap.size with g|g
 ·exact g
 ·rw[Array.getElem?_eq_none g]at hy;cases hy
theorem HR.upd {ρ:Env}{D:Nat->Prop}{h:H}{w:World}(r:HR ρ D h w) {b:Nat}{o o':O}{x:Obj}(hd:D b) (hg:h.get b=some o) (hw:o.wr=true) (_:o'.wr=true)
  (hx:ORel ρ D b o' (some x)):HR ρ D (h.upd b (some o')) (w.putObj (ρ.blk b) x) where
 cap:=r.cap
 lt:=r.lt
 rel:=λid o1 d1 g1=>by
  have hb:b<T.top:=oI (r.lt b hd) r.cap;rw[H.get_upd _ _ _ _ hb]at g1;by_cases e:id=b
  ·subst e
   rw[if_pos rfl]at g1;cases g1;rw[World.putObj_heap_same (r.lt_size hd hg)];exact hx
  ·rw[if_neg e]at g1
   have hne:ρ.blk id≠ρ.blk b:=λhc=>e (r.inj b id o o1 hd d1 hg g1 hw hc.symm).symm
   rw[World.putObj_heap_other hne];exact r.rel id o1 d1 g1
 inj:=λi j oi oj di dj gi gj wi hij=>by
  have hb:b<T.top:=oI (r.lt b hd) r.cap;rw[H.get_upd _ _ _ _ hb]at gi gj;by_cases ei:i=b
  ·by_cases ej:j=b
   ·rw[ei,ej]
   ·rw[if_neg ej]at gj;subst ei;exact r.inj i j o oj hd dj hg gj hw hij
  ·rw[if_neg ei]at gi
   by_cases ej:j=b
   ·subst ej;exact r.inj i j oi o di dj gi hg wi hij
   ·rw[if_neg ej]at gj;exact r.inj i j oi oj di dj gi gj wi hij
theorem Mv.upd {ρ:Env}{D:Nat->Prop}{h:H}{w:World}(r:HR ρ D h w) {b:Nat}{o o':O}{x:Obj}(hd:D b) (hg:h.get b=some o) (hw:o.wr=true) (hw':o'.wr=true) :
  Mv ρ D h w ρ (h.upd b (some o')) (w.putObj (ρ.blk b) x) where
 next:=oO _
 size:=by simp
 os:=rfl
 tape:=rfl
 output:=rfl
 agree:=Agree.refl _ _
 old:=λid o1 _ g1=>by
  have hb:b<T.top:=oI (r.lt b hd) r.cap;rw[H.get_upd _ _ _ _ hb]at g1;by_cases e:id=b
  ·subst e;rw[if_pos rfl]at g1;cases g1;exact⟨o,hg,hw'.trans hw.symm⟩
  ·rw[if_neg e]at g1;exact⟨o1,g1,rfl⟩
 img:=λid _ a b _=>by simp only[H.upd_eq]at b;omega
 frame:=λk _ hk=>World.putObj_heap_other (λe=>hk b o hd hg hw e.symm)
 low:=by rw[H.low_upd];omega
 kept:=λid _ hl=>by
  have hb:b<T.top:=oI (r.lt b hd) r.cap;rw[H.low_upd]at hl;rw[H.get_upd _ _ _ _ hb,if_neg (by omega)]
theorem HR.new {ρ:Env}{D:Nat->Prop}{h:H}{w:World}(r:HR ρ D h w) {o:O}{x:Obj}(c:Nat) (hn:h.next<T.top)
  (hx:ORel (ρ.at h.next w.heap.size c) (Dx D h (h.new o)) h.next o (some x)):HR (ρ.at h.next w.heap.size c) (Dx D h (h.new o)) (h.new o) (w.alloc x):=by
 have hnd:¬D h.next:=λhd=>by have:=r.lt _ hd;omega
 have hag:Agree D ρ (ρ.at h.next w.heap.size c):=Env.at_agree hnd;have hcase:∀id,Dx D h (h.new o) id->id=h.next\/(D id/\id≠h.next):=by
  rintro id (d|d)
  ·exact .inr ⟨d,λe=>hnd (e ▸ d)⟩
  ·simp only[H.new_eq]at d;exact .inl (by omega)
 refine⟨by simp only[H.new_eq];omega,?_,?_,?_⟩
 ·rintro id d
  rcases hcase id d with e|⟨d,_⟩
  ·simp only[H.new_eq];omega
  ·have:=r.lt id d;simp only[H.new_eq];omega
 ·rintro id o1 d g1
  rw[H.get_new _ _ _ hn]at g1;rcases hcase id d with e|⟨d1,e⟩
  ·subst e
   rw[if_pos rfl]at g1;cases g1;rw[Env.at_blk,World.alloc_heap_new];exact hx
  ·rw[if_neg e]at g1
   have hr:=r.rel id o1 d1 g1;have hlt:=r.lt_size d1 g1;rw[(hag id d1).1,show(w.alloc x).heap[ρ.blk id]? = w.heap[ρ.blk id]? from by
    show(w.heap.push x)[ρ.blk id]? = _;rw[Array.getElem?_push,if_neg (by omega)]]
   exact hr.agree d1 xZ hag
 ·rintro i j oi oj di dj gi gj wi hij
  rw[H.get_new _ _ _ hn]at gi gj;rcases hcase i di with ei|⟨di,ei⟩<;>rcases hcase j dj with ej|⟨dj,ej⟩
  ·rw[ei,ej]
  ·rw[if_neg ej]at gj
   have:=r.lt_size dj gj;subst ei;rw[Env.at_blk,(hag j dj).1]at hij;omega
  ·rw[if_neg ei]at gi
   have:=r.lt_size di gi;subst ej;rw[Env.at_blk,(hag i di).1]at hij;omega
  ·rw[if_neg ei]at gi;rw[if_neg ej]at gj
   rw[(hag i di).1,(hag j dj).1]at hij;exact r.inj i j oi oj di dj gi gj wi hij
theorem Mv.new {ρ:Env}{D:Nat->Prop}{h:H}{w:World}(r:HR ρ D h w) {o:O}{x:Obj}(c:Nat) (hn:h.next<T.top) (hw:o.wr=true) :
  Mv ρ D h w (ρ.at h.next w.heap.size c) (h.new o) (w.alloc x):=by
 have hnd:¬D h.next:=λhd=>by have:=r.lt _ hd;omega
 refine⟨by simp[H.new_eq],by simp,rfl,rfl,rfl,Env.at_agree hnd,?_,?_,?_,oO _,?_⟩
 ·intro id o1 hlt g1
  rw[H.get_new _ _ _ hn,if_neg (by omega)]at g1;exact⟨o1,g1,rfl⟩
 ·intro id o1 h0 h1 g1
  simp only[H.new_eq]at h1;obtain rfl:id=h.next:=by omega
  rw[H.get_new _ _ _ hn,if_pos rfl]at g1;cases g1;exact⟨hw,.inl (by rw[Env.at_blk];exact oO _)⟩
 ·intro k hk _
  show(w.heap.push x)[k]? = _;rw[Array.getElem?_push,if_neg (by omega)]
 ·intro id h0 _
  rw[H.get_new _ _ _ hn,if_neg (by omega)]
end Go.Sim
