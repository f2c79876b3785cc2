/- T. No condition. -/
import Derived.Test.YtnpeieeomokomaaGreatZS
namespace Go.Sim
mutual
def V.ren (r:Nat->Nat):V->V
 | .bool b=>.bool b
 | .int k n=>.int k n
 | .str l=>.str l
 | .ptr b o=>.ptr (r b) o
 | .nilptr=>.nilptr
 | .slice b o len c=>.slice (r b) o len c
 | .nilslice=>.nilslice
 | .map b=>.map (r b)
 | .nilmap=>.nilmap
 | .func f x y=>.func f (V.renL r x) (V.renL r y)
 | .yield l=>.yield (r l)
 | .nilFunc=>.nilFunc
 | .iface t v=>.iface t (V.ren r v)
 | .nilIface=>.nilIface
 | .agg l=>.agg (V.renL r l)
 | .tuple l=>.tuple (V.renL r l)
def V.renL (r:Nat->Nat):List V->List V
 | []=>[]
 | v::l=>V.ren r v::V.renL r l
end
def Env.pull (ρ:Env) (r:Nat->Nat):Env:={ blk:=λi=>ρ.blk (r i),off:=λi=>ρ.off (r i),cap:=λi=>ρ.cap (r i) }
mutual
theorem V.ren_conc (ρ:Env) (r:Nat->Nat):∀v:V,(v.ren r).conc ρ=v.conc (ρ.pull r)
 | .bool _ | .int _ _ | .str _ | .nilptr | .nilslice | .nilmap | .nilFunc | .nilIface=>by simp[V.ren,V.conc]
 | .ptr b o=>by simp[V.ren,V.conc,Env.pull]
 | .slice b o n c=>by cases c<;>simp[V.ren,V.conc,Env.pull,Cap.val]
 | .map b=>by simp[V.ren,V.conc,Env.pull]
 | .yield b=>by simp[V.ren,V.conc,Env.pull]
 | .func f x y=>by simp[V.ren,V.conc,V.renL_conc ρ r x,V.renL_conc ρ r y]
 | .iface t v=>by simp[V.ren,V.conc,V.ren_conc ρ r v]
 | .agg l=>by simp[V.ren,V.conc,V.renL_conc ρ r l]
 | .tuple l=>by simp[V.ren,V.conc,V.renL_conc ρ r l]
theorem V.renL_conc (ρ:Env) (r:Nat->Nat):∀l:List V,V.concL ρ (V.renL r l)=V.concL (ρ.pull r) l
 | []=>by simp[V.renL,V.concL]
 | v::l=>by simp[V.renL,V.concL,V.ren_conc ρ r v,V.renL_conc ρ r l]
end
mutual
theorem V.ren_In {D E:Nat->Prop}{r:Nat->Nat}(h:∀id,D (r id)->E id):∀v:V,(v.ren r).In D->v.In E
 | .bool _,_ | .int _ _,_ | .str _,_ | .nilptr,_ | .nilslice,_ | .nilmap,_ | .nilFunc,_ | .nilIface,_=>by simp[V.In]
 | .ptr b o,g=>by simp only[V.ren,V.In]at *;exact h _ g
 | .slice b o n c,g=>by simp only[V.ren,V.In]at *;exact h _ g
 | .map b,g=>by simp only[V.ren,V.In]at *;exact h _ g
 | .yield b,g=>by simp only[V.ren,V.In]at *;exact h _ g
 | .func f x y,g=>by
  simp only[V.ren,V.In]at *;exact⟨g.1,V.renL_In h x g.2.1,V.renL_In h y g.2.2⟩
 | .iface t v,g=>by simp only[V.ren,V.In]at *;exact V.ren_In h v g
 | .agg l,g=>by simp only[V.ren,V.In]at *;exact V.renL_In h l g
 | .tuple l,g=>by simp only[V.ren,V.In]at *;exact V.renL_In h l g
theorem V.renL_In {D E:Nat->Prop}{r:Nat->Nat}(h:∀id,D (r id)->E id):∀l:List V,V.InL D (V.renL r l)->V.InL E l
 | [],_=>by simp[V.InL]
 | v::l,g=>by simp only[V.renL,V.InL]at *;exact⟨V.ren_In h v g.1,V.renL_In h l g.2⟩
end
theorem V.renL_map (r:Nat->Nat) (l:List V):V.renL r l=l.map (V.ren r):=by
 induction l with
 | nil=>rfl
 | cons v l ih=>simp[V.renL,ih]
def zWL:Fn->Fn->Bool
 | .func f,.func g=>Nat.beq f g
 | _,_=>false
def zLF:Cap->Cap->Bool
 | .exact m,.exact n=>Nat.beq m n
 | .skip m,.skip n=>Nat.beq m n
 | _,_=>false
mutual
def eqV:V->V->Bool
 | .bool a,b=>(match b with | .bool b=>a == b|_=>false)
 | .int j a,b=>(match b with | .int k b=>xE j k && eqF a b|_=>false)
 | .str a,b=>(match b with | .str b=>eqB a b|_=>false)
 | .ptr b o,c=>(match c with | .ptr b' o'=>Nat.beq b b' && Nat.beq o o'|_=>false)
 | .nilptr,b=>(match b with | .nilptr=>true|_=>false)
 | .slice b o n c,d=>(match d with | .slice b' o' n' c'=>Nat.beq b b' && Nat.beq o o' && Nat.beq n n' && zLF c c'|_=>false)
 | .nilslice,b=>(match b with | .nilslice=>true|_=>false)
 | .map a,b=>(match b with | .map b=>Nat.beq a b|_=>false)
 | .nilmap,b=>(match b with | .nilmap=>true|_=>false)
 | .func f x y,b=>(match b with | .func g x' y'=>zWL f g && Ks x x' && Ks y y'|_=>false)
 | .yield a,b=>(match b with | .yield b=>Nat.beq a b|_=>false)
 | .nilFunc,b=>(match b with | .nilFunc=>true|_=>false)
 | .iface t v,b=>(match b with | .iface t' v'=>Nat.beq t t' && eqV v v'|_=>false)
 | .nilIface,b=>(match b with | .nilIface=>true|_=>false)
 | .agg l,b=>(match b with | .agg l'=>Ks l l'|_=>false)
 | .tuple l,b=>(match b with | .tuple l'=>Ks l l'|_=>false)
def Ks:List V->List V->Bool
 | [],b=>(match b with | []=>true|_=>false)
 | v::l,b=>(match b with|v'::l'=>eqV v v' && Ks l l' | []=>false)
end
theorem zFv {f g:Fn}(h:zWL f g=true):f=g:=by
 unfold zWL at h;split at h
 ·rw[oF h]
 ·cases h
theorem zDg {f g:Cap}(h:zLF f g=true):f=g:=by
 unfold zLF at h;split at h
 ·rw[oF h]
 ·rw[oF h]
 ·cases h
mutual
theorem Xp:∀(a b:V),eqV a b=true->a=b
 | .bool a,b,h=>by cases b<;>simp_all [eqV]
 | .int j a,b,h=>by
  cases b<;>simp only[eqV,Bool.false_eq_true]at h;simp only[oG,qO,jF,beq_iff_eq]at h;rw[h.1,h.2]
 | .str a,b,h=>by
  cases b<;>simp only[eqV,Bool.false_eq_true]at h;rw[qr]at h;simp only[beq_iff_eq]at h;rw[h]
 | .ptr c o,b,h=>by
  cases b<;>simp only[eqV,Bool.false_eq_true]at h;simp only[oG]at h;rw[oF h.1,oF h.2]
 | .nilptr,b,h=>by cases b<;>simp_all [eqV]
 | .slice c o n k,b,h=>by
  cases b<;>simp only[eqV,Bool.false_eq_true]at h;simp only[oG]at h;rw[oF h.1.1.1,oF h.1.1.2,oF h.1.2,zDg h.2]
 | .nilslice,b,h=>by cases b<;>simp_all [eqV]
 | .map a,b,h=>by
  cases b<;>simp only[eqV,Bool.false_eq_true]at h;rw[oF h]
 | .nilmap,b,h=>by cases b<;>simp_all [eqV]
 | .func f x y,b,h=>by
  cases b<;>simp only[eqV,Bool.false_eq_true]at h;simp only[oG]at h;rw[zFv h.1.1,wP _ _ h.1.2,wP _ _ h.2]
 | .yield a,b,h=>by
  cases b<;>simp only[eqV,Bool.false_eq_true]at h;rw[oF h]
 | .nilFunc,b,h=>by cases b<;>simp_all [eqV]
 | .iface t v,b,h=>by
  cases b<;>simp only[eqV,Bool.false_eq_true]at h;simp only[oG]at h;rw[oF h.1,Xp _ _ h.2]
 | .nilIface,b,h=>by cases b<;>simp_all [eqV]
 | .agg l,b,h=>by
  cases b<;>simp only[eqV,Bool.false_eq_true]at h;rw[wP _ _ h]
 | .tuple l,b,h=>by
  cases b<;>simp only[eqV,Bool.false_eq_true]at h;rw[wP _ _ h]
theorem wP:∀(a b:List V),Ks a b=true->a=b
 | [],b,h=>by cases b<;>simp_all [Ks]
 | v::l,b,h=>by
  cases b with
  | nil=>simp[Ks]at h
  | cons w m =>
   simp only[Ks,oG]at h;rw[Xp _ _ h.1,wP _ _ h.2]
end
structure Lit where
 l:List V
 k:Rk
 op:Bool
def Cs.ofD (l:List V):Cs:=match Cs.ofL l with|some c=>c|none=>.ls l
theorem Cs.ofD_eq (l:List V):(Cs.ofD l).len=l.length/\∀i,(Cs.ofD l).get? i=l[i]?:=by
 unfold Cs.ofD;split
 ·rename_i c h;exact Cs.ofL_eq h
 ·exact⟨by simp[Cs.len,zq],λi=>by simp[Cs.get?,Cs.getL_eq]⟩
def Lit.toO (L:Lit):O:=.cells (Cs.ofD L.l) L.k true L.op
def zYK (a b:Rk):Bool:=Nat.beq a.n b.n && Nat.beq a.ty b.ty && Nat.beq a.fz b.fz
def zAz (r:Nat->Nat) (L:Lit) (o:Option O):Bool :=
 match o with
 | some (.cells cs k true op)=>Nat.beq cs.len (xr L.l 0) && zYK k L.k && (op == L.op) && (match cs.range 0 cs.len with|some x=>Ks x (V.renL r L.l)|none=>false)
 | _=>false
theorem Yv {r:Nat->Nat}{L:Lit}{o:Option O}(h:zAz r L o=true) :
  ∃cs,o=some (.cells cs L.k true L.op)/\cs.len=L.l.length/\∀i,cs.get? i=(L.l[i]?).map (V.ren r):=by
 unfold zAz at h;split at h
 ·rename_i cs k op
  simp only[oG]at h;obtain⟨⟨⟨h1,h2⟩,h3⟩,h4⟩:=h;have h1:=oF h1;rw[zq,Nat.add_zero]at h1;revert h1;obtain⟨kn,kt,kf⟩:=k;obtain⟨l,⟨ln,lt,lf⟩,lop⟩:=L;intro h1;simp only[zYK,oG]at h2;have e1:=oF h2.1.1;have e2:=oF h2.1.2;have e3:=oF h2.2;simp only at e1 e2 e3 h3 h4;have h1:cs.len=l.length:=h1;subst e1;subst e2;subst e3;have h3:op=lop:=by simpa using h3
  subst h3;refine⟨cs,rfl,h1,λi=>?_⟩
  split at h4
  ·rename_i x hx
   obtain⟨a,_,b⟩:=Cs.range_eq hx;have hxe:=wP _ _ h4;rw[V.renL_map]at hxe;by_cases hi:i<cs.len
   ·have:=b i hi
    rw[Nat.zero_add]at this;rw[<-this,hxe,oU]
   ·have h5:cs.get? i=none:=by
     cases hg:cs.get? i with
     | none=>rfl
     | some v=>exact absurd (Cs.get_lt hg) hi
    have h6:l.length<=i:=by omega
    rw[h5,oa h6];rfl
  ·cases h4
 ·cases h
def xj:List (Nat×Option Lit)->Nat->Option (Option Lit)
 | [],_=>none
 | (i,o)::l,n=>cond (Nat.beq i n) (some o) (xj l n)
def zG5:List (Nat×Option Lit)->T O->T O
 | [],t=>t
 | (i,o)::l,t=>(zG5 l t).set i (match o with|some L=>some L.toO|none=>none)
def zDU (n:Nat):List (Nat×Option Lit)->Bool
 | []=>true
 | (i,_)::l=>Nat.blt i n && zDU n l
theorem zDn {n:Nat}(hn:n<=T.top):∀(l:List (Nat×Option Lit)) (t:T O) (id:Nat),zDU n l=true ->
  (zG5 l t).get id=(match xj l id with|some (some L)=>some L.toO|some none=>none|none=>t.get id):=by
 intro l
 induction l with
 | nil=>intro t id _;rfl
 | cons x l ih =>
  intro t id h;obtain⟨i,o⟩:=x;simp only[zDU,oG]at h;have hi:i<n:=oE h.1;unfold zG5;rw[T.get_set _ _ _ _ (oI hi hn)];simp only[xj];by_cases e:id=i
  ·subst e
   rw[if_pos rfl,Nat.beq_refl,oK];cases o<;>rfl
  ·rw[if_neg e]
   have:Nat.beq i id=false:=by
    cases hb:Nat.beq i id with
    | false=>rfl
    | true=>exact absurd (oF hb).symm e
   rw[this,oL];exact ih t id h.2
def zJ8:List Lit->Nat->T O->T O
 | [],_,t=>t
 | L::l,n,t=>zJ8 l (n+1) (t.set n (some L.toO))
theorem zLV:∀(l:List Lit) (n:Nat) (t:T O) (id:Nat),n+l.length<=T.top ->
  (zJ8 l n t).get id=if n<=id/\id<n+l.length then (l[id-n]?).map Lit.toO else t.get id:=by
 intro l
 induction l with
 | nil=>intro n t id _;simp only[zJ8,List.length_nil];rw[if_neg (by omega)]
 | cons L l ih =>
  intro n t id h;simp only[oS]at h ⊢;rw[zJ8,ih _ _ _ (by omega),T.get_set _ _ _ _ (by omega)];by_cases h1:id=n
  ·subst h1
   rw[if_neg (by omega),if_pos rfl,if_pos (by omega)];simp
  ·by_cases h2:n+1<=id/\id<n+1+l.length
   ·rw[if_pos h2,if_pos (by omega)]
    obtain⟨k,hk⟩:∃k,id-n=k+1:=⟨id-n-1,by omega⟩;rw[hk,List.getElem?_cons_succ,show id-(n+1)=k from by omega]
   ·rw[if_neg h2,if_neg h1,if_neg (by omega)]
structure Chunk where
 f:Nat
 args:List V
 pre:List (Nat×Option Lit)
 n:Nat
 ret:V
 old:List (Nat×Option Lit)
 new:List Lit
 nums:List Nat
namespace Chunk
def h0 (k:Chunk):H:={ tbl:=zG5 k.pre .leaf,next:=k.n,low:=0 }
def rn (k:Chunk) (id:Nat):Nat:=cond (Nat.blt id k.n) id (match k.nums[id-k.n]? with|some m=>m|none=>262144+id)
def zCD:List Lit->Nat->Nat
 | [],n=>n
 | _::l,n=>zCD l (n+1)
def zEF (h:H):List (Nat×Option Lit)->Nat
 | []=>h.low
 | _::_=>0
def after (k:Chunk) (h:H):H:={ tbl:=zJ8 k.new k.n (zG5 k.old h.tbl),next:=zCD k.new k.n,low:=zEF h k.old }
def idr (n:Nat):Nat:=n
def zHx (h:H):List (Nat×Option Lit)->Bool
 | []=>true
 | (i,o)::l=>(match o with|some L=>zAz idr L (h.get i)|none=>false) && zHx h l
def is (k:Chunk) (f:Nat) (args:List V) (h:H):Bool:=Nat.beq f k.f && (Nat.beq h.next k.n && (Ks args k.args && zHx h k.pre))
def zHm (r:Nat->Nat) (h:H):List (Nat×Option Lit)->Bool
 | []=>true
 | (i,o)::l=>(match o with|some L=>zAz r L (h.get i)|none=>(match h.get i with|none=>true|some _=>false)) && zHm r h l
def zBE (r:Nat->Nat) (h:H):List Lit->List Nat->Bool
 | [],[]=>true
 | L::l,i::m=>zAz r L (h.get i) && zBE r h l m
 | _,_=>false
def YJ (i:Nat):List Nat->Bool
 | []=>false
 | j::l=>cond (Nat.beq i j) true (YJ i l)
def zCH (n top:Nat):List Nat->Bool
 | []=>true
 | i::l=>Nat.ble n i && Nat.blt i top && !(YJ i l) && zCH n top l
def zBm (old:List (Nat×Option Lit)) (h:H):List (Nat×Option Lit)->Bool
 | []=>true
 | (i,o)::l=>(match xj old i with|some _=>true|none=>(match o with|some L=>zAz idr L (h.get i)|none=>false)) && zBm old h l
def okRun (k:Chunk) (r:Option CallOut):Bool :=
 match r with
 | some (.ret v h)=>eqV v (V.ren k.rn k.ret) && zHm k.rn h k.old && zBE k.rn h k.new k.nums && zCH k.n h.next k.nums && zBm k.old h k.pre && zDU k.n k.old && zDU k.n k.pre && Nat.ble (k.n+k.nums.length) 262143
 | _=>false
theorem zJP:∀(l:List Lit) (n:Nat),zCD l n=n+l.length:=by
 intro l
 induction l with
 | nil=>intro n;rfl
 | cons L l ih=>intro n;simp only[zCD,ih,oS];omega
theorem zHf:∀l:List V,l.map (V.ren idr)=l:=by
 have h:∀v:V,V.ren idr v=v:=by
  intro v;have:∀(r:Nat->Nat),(∀n,r n=n)->(∀v:V,v.ren r=v):=by
   intro r hr;have hb:∀v:V,v.ren r=v:=by
    intro v
    induction v using V.rec (motive_2:=λl=>V.renL r l=l)with
    | nil=>rfl
    | cons v l h1 h2=>simp[V.renL,h1,h2]
    | _=>simp_all [V.ren]
   exact hb
  exact this idr (λ_=>rfl) v
 intro l
 induction l with
 | nil=>rfl
 | cons v l ih=>simp[h,ih]
def Same (r:Nat->Nat) (L:Lit) (o:Option O):Prop:=∃cs,o=some (.cells cs L.k true L.op)/\cs.len=L.l.length/\∀i,cs.get? i=(L.l[i]?).map (V.ren r)
theorem Same.of_lit (L:Lit):Same idr L (some L.toO):=by
 obtain⟨a,b⟩:=Cs.ofD_eq L.l;refine⟨_,rfl,a,λi=>?_⟩
 rw[b,<-oU,zHf]
theorem Same.wr {r:Nat->Nat}{L:Lit}{o:O}(h:Same r L (some o)):o.wr=true:=by
 obtain⟨cs,e,_⟩:=h;cases e;rfl
theorem Same.rel {ρ:Env}{D E:Nat->Prop}{r:Nat->Nat}{L:Lit}{b:Nat}{o o':O}{x:Option Obj}(h:Same r L (some o)) (h':Same idr L (some o')) (hD:∀id,D (r id)->E id)
  (g:ORel ρ D (r b) o x):ORel (ρ.pull r) E b o' x:=by
 obtain⟨cs,e,h1,h2⟩:=h;cases e;obtain⟨cs',e',h1',h2'⟩:=h';cases e';obtain⟨c,e,fz,rfl,g1,g2,g3⟩:=g;have hL:∀i,cs'.get? i=L.l[i]?:=λi=>by rw[h2',<-oU,zHf]
 refine⟨c,e,fz,rfl,λi v hv=>?_,λi v hv=>?_,?_⟩
 ·rw[hL]at hv
  have:=g1 i (v.ren r) (by rw[h2,hv];rfl);rw[V.ren_conc]at this;exact this
 ·rw[hL]at hv
  exact V.ren_In hD v (g2 i (v.ren r) (by rw[h2,hv];rfl))
 ·rw[h1',<-h1]
  exact g3
theorem ON {h:H}:∀{l:List (Nat×Option Lit)}{id:Nat}{o:Option Lit},zHx h l=true->xj l id=some o->∃L,o=some L/\Same idr L (h.get id):=by
 intro l
 induction l with
 | nil=>intro id o _ e;cases e
 | cons x l ih =>
  intro id o hp e;obtain⟨i,o2⟩:=x;simp only[zHx,oG]at hp;simp only[xj]at e;cases hb:Nat.beq i id with
  | false=>rw[hb,oL]at e;exact ih hp.2 e
  | true =>
   rw[hb,oK]at e;obtain rfl:=oF hb;cases e;cases o with
   | none=>simp at hp
   | some L=>exact⟨L,rfl,Yv hp.1⟩
theorem zGW {r:Nat->Nat}{h:H}:∀{l:List (Nat×Option Lit)}{id:Nat}{o:Option Lit},zHm r h l=true->xj l id=some o ->
  (match o with|some L=>Same r L (h.get id)|none=>h.get id=none):=by
 intro l
 induction l with
 | nil=>intro id o _ e;cases e
 | cons x l ih =>
  intro id o hp e;obtain⟨i,o2⟩:=x;simp only[zHm,oG]at hp;simp only[xj]at e;cases hb:Nat.beq i id with
  | false=>rw[hb,oL]at e;exact ih hp.2 e
  | true =>
   rw[hb,oK]at e;obtain rfl:=oF hb;cases e;cases o with
   | none =>
    have:=hp.1;simp only at this ⊢;split at this
    ·assumption
    ·cases this
   | some L=>exact Yv hp.1
theorem zJS {r:Nat->Nat}{h:H}:∀{l:List Lit}{m:List Nat},zBE r h l m=true->l.length=m.length/\∀(i:Nat) (L:Lit) (k:Nat),l[i]? = some L->m[i]? = some k->Same r L (h.get k):=by
 intro l
 induction l with
 | nil=>intro m e;cases m with
  | nil=>exact⟨rfl,λi L k e=>by simp at e⟩
  | cons=>simp[zBE]at e
 | cons L l ih =>
  intro m e;cases m with
  | nil=>simp[zBE]at e
  | cons j m =>
   simp only[zBE,oG]at e;obtain⟨a,b⟩:=ih e.2;refine⟨by simp[a],λi L' k h1 h2=>?_⟩
   cases i with
   | zero=>simp at h1 h2;subst h1;subst h2;exact Yv e.1
   | succ i=>exact b i L' k (by simpa using h1) (by simpa using h2)
theorem zGI {i:Nat}:∀{l:List Nat},YJ i l=true↔i∈l:=by
 intro l
 induction l with
 | nil=>simp[YJ]
 | cons j l ih =>
  simp only[YJ];cases hb:Nat.beq i j with
  | true=>obtain rfl:=oF hb;simp
  | false =>
   have:i≠j:=λe=>by subst e;rw[Nat.beq_refl]at hb;cases hb
   simp[this,ih]
theorem zGT {n top:Nat}:∀{l:List Nat},zCH n top l=true->(∀i∈l,n<=i/\i<top)/\∀(i j k:Nat),l[i]? = some k->l[j]? = some k->i=j:=by
 intro l
 induction l with
 | nil=>intro _;exact⟨λi h=>by simp at h,λi j k h=>by simp at h⟩
 | cons a l ih =>
  intro e;simp only[zCH,oG,Bool.not_eq_true']at e;obtain⟨⟨⟨e1,e2⟩,e3⟩,e4⟩:=e;obtain⟨h1,h2⟩:=ih e4;have hni:a∉l:=λhm=>by rw[zGI.2 hm]at e3;cases e3
  refine⟨λi hi=>?_,λi j k g1 g2=>?_⟩
  ·rcases oY.1 hi with rfl|g
   ·exact⟨oE e1,oE e2⟩
   ·exact h1 i g
  ·cases i with
   | zero =>
    cases j with
    | zero=>rfl
    | succ j =>
     simp only[List.getElem?_cons_zero,oA]at g1;simp only[List.getElem?_cons_succ]at g2;subst g1;exact absurd (List.mem_of_getElem? g2) hni
   | succ i =>
    cases j with
    | zero =>
     simp only[List.getElem?_cons_zero,oA]at g2;simp only[List.getElem?_cons_succ]at g1;subst g2;exact absurd (List.mem_of_getElem? g1) hni
    | succ j =>
     simp only[List.getElem?_cons_succ]at g1 g2;rw[h2 i j k g1 g2]
theorem qo {old:List (Nat×Option Lit)}{h:H}:∀{l:List (Nat×Option Lit)}{id:Nat}{o:Option Lit},zBm old h l=true->xj l id=some o ->
  (∃o',xj old id=some o')\/∃L,o=some L/\Same idr L (h.get id):=by
 intro l
 induction l with
 | nil=>intro id o _ e;cases e
 | cons x l ih =>
  intro id o hp e;obtain⟨i,o2⟩:=x;simp only[zBm,oG]at hp;simp only[xj]at e;cases hb:Nat.beq i id with
  | false=>rw[hb,oL]at e;exact ih hp.2 e
  | true =>
   rw[hb,oK]at e;obtain rfl:=oF hb;cases e;cases hl:xj old i with
   | some o'=>exact .inl ⟨o',rfl⟩
   | none =>
    have:=hp.1;rw[hl]at this;cases o with
    | none=>simp at this
    | some L=>exact .inr ⟨L,rfl,Yv this⟩
theorem sound {P:Program}(k:Chunk) {r:Option CallOut}(hok:k.okRun r=true) (hr:∀out,r=some out->SimF P k.f k.args k.h0 out)
  {f:Nat}{args:List V}{h:H}(his:k.is f args h=true):SimF P f args h (.ret k.ret (k.after h)):=by
 unfold is at his;simp only[oG]at his;obtain⟨i1,i2,i3,i4⟩:=his;obtain rfl:=oF i1;have hn:h.next=k.n:=oF i2;obtain rfl:=wP _ _ i3;unfold okRun at hok;split at hok
 case h_2=>cases hok
 rename_i v1 h1;simp only[oG]at hok;obtain⟨⟨⟨⟨⟨⟨⟨o1,o2⟩,o3⟩,o4⟩,o5⟩,o6⟩,o7⟩,o8⟩:=hok;have hv:=Xp _ _ o1;have hlen:k.n+k.nums.length<=262143:=oE o8;have hntop:k.n<=T.top:=by unfold T.top;omega
 obtain⟨w1,w2⟩:=zJS o3;obtain⟨m1,m2⟩:=zGT o4;have hS:=hr _ rfl;have get0:∀id,k.h0.get id=(match xj k.pre id with|some (some L)=>some L.toO|some none=>none|none=>none):=λid=>by
  show(zG5 k.pre T.leaf).get id=_;rw[zDn hntop _ _ _ o7,T.get_leaf]
 have pre0:∀id o0,k.h0.get id=some o0->∃L o,xj k.pre id=some (some L)/\o0=L.toO/\h.get id=some o/\Same idr L (some o):=by
  intro id o0 e;rw[get0]at e;cases hl:xj k.pre id with
  | none=>rw[hl]at e;cases e
  | some q =>
   rw[hl]at e;obtain⟨L,rfl,hs⟩:=ON i4 hl;simp only[oA]at e;obtain⟨cs,e2,_⟩:=_root_.id hs;exact⟨L,_,rfl,e.symm,e2,by rw[<-e2];exact hs⟩
 have next2:(k.after h).next=k.n+k.new.length:=zJP _ _;have hnl:k.n+k.new.length<=T.top:=by rw[w1];unfold T.top;omega
 have get2:∀id,(k.after h).get id=if k.n<=id/\id<k.n+k.new.length then (k.new[id-k.n]?).map Lit.toO else
   (match xj k.old id with|some (some L)=>some L.toO|some none=>none|none=>h.get id):=λid=>by
  show(zJ8 k.new k.n (zG5 k.old h.tbl)).get id=_;rw[zLV _ _ _ _ hnl,zDn hntop _ _ _ o6];rfl
 have rnlt:∀id,id<k.n->k.rn id=id:=λid hid=>by
  unfold rn;have:Nat.blt id k.n=true:=oC hid;rw[this];rfl
 have rnge:∀id,k.n<=id->id<k.n+k.new.length->∃L m,k.new[id-k.n]? = some L/\k.nums[id-k.n]? = some m/\k.rn id=m/\k.n<=m/\m<h1.next/\Same k.rn L (h1.get m):=by
  intro id g1 g2;have g3:id-k.n<k.new.length:=by omega
  have g4:id-k.n<k.nums.length:=by rw[<-w1];exact g3
  have e1:k.new[id-k.n]? = some (k.new[id-k.n]):=oM g3;have e2:k.nums[id-k.n]? = some (k.nums[id-k.n]):=oM g4;refine⟨_,_,e1,e2,?_,(m1 _ (oQ g4)).1,(m1 _ (oQ g4)).2,w2 _ _ _ e1 e2⟩;unfold rn;have:Nat.blt id k.n=false:=by
   cases hb:Nat.blt id k.n with
   | false=>rfl
   | true=>have:id<k.n:=oE hb;omega
  rw[this,oL,e2]
 have rntop:∀id,k.n+k.new.length<=id->262144<=k.rn id:=λid g=>by
  unfold rn;have:Nat.blt id k.n=false:=by
   cases hb:Nat.blt id k.n with
   | false=>rfl
   | true=>have:id<k.n:=oE hb;omega
  rw[this,oL,oa (by rw[<-w1];omega)];simp only;omega
 intro ρ D w hR hin;have hR0:HR ρ D k.h0 w:=by
  refine⟨hntop,λid hd=>by have:=hR.lt id hd;rw[hn]at this;exact this,λid o0 hd e=>?_,λi j oi oj di dj gi gj wi hij=>?_⟩
  ·obtain⟨L,o,_,rfl,e2,e3⟩:=pre0 id o0 e
   have:=Same.rel (r:=idr) (E:=D) (b:=id) e3 (Same.of_lit L) (λ_ hh=>hh) (hR.rel id o hd e2);exact this
  ·obtain⟨Li,o,_,rfl,ei,si⟩:=pre0 i oi gi
   obtain⟨Lj,o',_,rfl,ej,sj⟩:=pre0 j oj gj;exact hR.inj i j _ _ di dj ei ej si.wr hij
 refine CallsIn.mono (hS ρ D w hR0 hin) ?_;rintro e w' ⟨ρ1,rfl,mv,hR1,hv1⟩;have hnext1:h1.next<=262143:=hR1.cap;have idD:∀id,Dx D k.h0 h1 (k.rn id)->Dx D h (k.after h) id:=by
  intro id hd;rcases Nat.lt_or_ge id k.n with g|g
  ·rw[rnlt id g]at hd
   rcases hd with hd|hd
   ·exact .inl hd
   ·have:k.n<=id:=hd.1;omega
  ·rcases Nat.lt_or_ge id (k.n+k.new.length)with g2|g2
   ·exact .inr ⟨by rw[hn];exact g,by rw[next2];exact g2⟩
   ·have h3:=rntop id g2
    have:=hR1.lt _ hd;omega
 have oldD:∀id,id<k.n->∀L,xj k.old id=some (some L)->Same k.rn L (h1.get id):=λid _ L hl=>zGW o2 hl
 have wr1:∀id o1,id<k.n->h1.get id=some o1->∃L o,h.get id=some o/\Same idr L (some o)/\o1.wr=true:=by
  intro id o1 g e;obtain⟨o0,e0,ew⟩:=mv.old id o1 g e;obtain⟨L,o,_,rfl,e2,e3⟩:=pre0 id o0 e0;exact⟨L,o,e2,e3,ew.trans rfl⟩
 refine⟨ρ1.pull k.rn,by rw[hv,V.ren_conc],?_,?_,V.ren_In idD _ (by rw[<-hv];exact hv1)⟩
 ·-- the move
  refine⟨by rw[hn,next2];omega,mv.size,mv.os,mv.tape,mv.output,?_,?_,?_,?_,?_,?_⟩
  ·intro id hd
   have hlt:=hR.lt id hd;rw[hn]at hlt;have:=mv.agree id hd;simp only[Env.pull,rnlt id hlt];exact this
  ·intro id o' hlt e
   rw[hn]at hlt;rw[get2,if_neg (by omega)]at e;cases hl:xj k.old id with
   | none=>rw[hl]at e;exact⟨o',e,rfl⟩
   | some q =>
    rw[hl]at e;cases q with
    | none=>cases e
    | some L =>
     simp only[oA]at e;subst e;obtain⟨cs,e2,_⟩:=oldD id hlt L hl;obtain⟨L2,o,e3,e4,_⟩:=wr1 id _ hlt e2;exact⟨o,e3,by rw[e4.wr];rfl⟩
  ·intro id o' g1 g2 e
   rw[hn]at g1;rw[next2]at g2;obtain⟨L,m,a1,a2,a3,a4,a5,a6⟩:=rnge id g1 g2;rw[get2,if_pos ⟨g1,g2⟩,a1]at e;simp only[oX,oA]at e;subst e;refine⟨rfl,?_⟩;obtain⟨cs,e2,_⟩:=_root_.id a6;obtain⟨_,hi⟩:=mv.img m _ a4 a5 e2;simp only[Env.pull,a3];rcases hi with hi|⟨j,o,d1,d2,d3,d4,d5⟩
   ·exact .inl hi
   ·obtain⟨L2,o2',p1,rfl,p3,p4⟩:=pre0 j o d2
    refine .inr ⟨j,o2',d1,p3,p4.wr,d4,?_⟩;have hj:=hR.lt j d1;rw[hn]at hj;rw[get2,if_neg (by omega)];rcases qo o5 p1 with⟨q,hq⟩|⟨L3,e3,s3⟩
    ·rw[hq]
     cases q with
     | none=>rfl
     | some L4 =>
      obtain⟨cs4,e4,_⟩:=oldD j hj L4 hq;rw[d5]at e4;cases e4
    ·obtain⟨cs3,e4,_⟩:=s3
     rw[d5]at e4;cases e4
  ·intro r hr1 hno
   refine mv.frame r hr1 λj o d1 d2 d3=>?_
   obtain⟨L2,o2',p1,rfl,p3,p4⟩:=pre0 j o d2;exact hno j o2' d1 p3 p4.wr
  ·show zEF h k.old<=h.low
   unfold zEF;split
   ·exact oO _
   ·exact oJ _
  ·intro id hlt hl
   rw[hn]at hlt;have hl:id<zEF h k.old:=hl;unfold zEF at hl;split at hl
   ·rename_i ho
    rw[get2,if_neg (by omega),ho];rfl
   ·omega
 ·-- the heap behind it
  have part:∀id o,Dx D h (k.after h) id->(k.after h).get id=some o ->
    (∃L,o=L.toO/\Dx D k.h0 h1 (k.rn id)/\Same k.rn L (h1.get (k.rn id))/\(id<k.n->D id)/\id<k.n+k.new.length)\/(id<k.n/\D id/\h.get id=some o/\xj k.old id=none):=by
   intro id o hd e;rcases hd with hd|hd
   ·have hlt:=hR.lt id hd
    rw[hn]at hlt;rw[get2,if_neg (by omega)]at e;cases hl:xj k.old id with
    | none=>rw[hl]at e;exact .inr ⟨hlt,hd,e,rfl⟩
    | some q =>
     rw[hl]at e;cases q with
     | none=>cases e
     | some L =>
      simp only[oA]at e;subst e;exact .inl ⟨L,rfl,by rw[rnlt id hlt];exact .inl hd,by rw[rnlt id hlt];exact oldD id hlt L hl,λ_=>hd,by omega⟩
   ·have g1:k.n<=id:=by rw[<-hn];exact hd.1
    have g2:id<k.n+k.new.length:=by rw[<-next2];exact hd.2
    obtain⟨L,m,a1,a2,a3,a4,a5,a6⟩:=rnge id g1 g2;rw[get2,if_pos ⟨g1,g2⟩,a1]at e;simp only[oX,oA]at e;subst e;exact .inl ⟨L,rfl,by rw[a3];exact .inr ⟨a4,a5⟩,by rw[a3];exact a6,λg=>by omega,g2⟩
  have stays:∀id o,id<k.n->D id->h.get id=some o->xj k.old id=none->(∃L,Same idr L (some o)/\Same idr L (h1.get id))\/(xj k.pre id=none):=by
   intro id o hlt hd e hl;cases hp:xj k.pre id with
   | none=>exact .inr rfl
   | some q =>
    obtain⟨L,rfl,hs⟩:=ON i4 hp;rcases qo o5 hp with⟨q,hq⟩|⟨L3,e3,s3⟩
    ·rw[hl]at hq;cases hq
    ·cases e3
     rw[e]at hs;exact .inl ⟨L,hs,s3⟩
  have oldblk:∀id,D id->(ρ1.pull k.rn).blk id=ρ.blk id:=λid hd=>by
   have hlt:=hR.lt id hd;rw[hn]at hlt;simp only[Env.pull,rnlt id hlt];exact(mv.agree id hd).1
  have newblk:∀id L,k.n<=id->id<k.n+k.new.length->Same k.rn L (h1.get (k.rn id))->∀j oj,D j->h.get j=some oj->(k.after h).get j≠none->ρ1.blk (k.rn id)≠ρ.blk j:=by
   intro id L g1 g2 hs j oj dj ej hne heq;obtain⟨L',m,a1,a2,a3,a4,a5,a6⟩:=rnge id g1 g2;obtain⟨cs,e2,_⟩:=_root_.id a6;obtain⟨_,hi⟩:=mv.img m _ a4 a5 e2;rw[a3]at heq;rcases hi with hi|⟨q,o,d1,d2,d3,d4,d5⟩
   ·have:=hR.lt_size dj ej
    omega
   ·obtain⟨L2,o2',p1,rfl,p3,p4⟩:=pre0 q o d2
    have hqj:q=j:=hR.inj q j _ _ d1 dj p3 ej p4.wr (by rw[d4];exact heq);subst hqj;have hq:=hR.lt q d1;rw[hn]at hq;apply hne;rw[get2,if_neg (by omega)];rcases qo o5 p1 with⟨q2,hq2⟩|⟨L3,e3,s3⟩
    ·rw[hq2]
     cases q2 with
     | none=>rfl
     | some L4 =>
      obtain⟨cs4,e4,_⟩:=oldD q hq L4 hq2;rw[d5]at e4;cases e4
    ·obtain⟨cs3,e4,_⟩:=s3
     rw[d5]at e4;cases e4
  refine⟨by rw[next2];exact hnl,?_,?_,?_⟩
  ·rintro id (hd|hd)
   ·have:=hR.lt id hd;rw[next2];rw[hn]at this;omega
   ·exact hd.2
  ·intro id o hd e
   rcases part id o hd e with⟨L,rfl,p1,p2,p3,p4⟩|⟨g1,g2,g3,g4⟩
   ·obtain⟨cs,e2,_⟩:=_root_.id p2
    have hrel:=hR1.rel _ _ p1 e2;exact Same.rel (by rw[<-e2];exact p2) (Same.of_lit L) idD hrel
   ·have hag:Agree D ρ (ρ1.pull k.rn):=λi hi=>by
     have hlt:=hR.lt i hi;rw[hn]at hlt;have:=mv.agree i hi;simp only[Env.pull,rnlt i hlt];exact this
    rcases stays id o g1 g2 g3 g4 with⟨L,s1,s2⟩|hp
    ·obtain⟨cs,e2,_⟩:=_root_.id s2
     have hrel:=hR1.rel id _ (.inl g2) e2;have h3:=Same.rel (r:=idr) (E:=Dx D k.h0 h1) (b:=id) (by rw[<-e2];exact s2) s1 (λ_ hh=>hh) hrel;have h4:=Same.rel (r:=k.rn) (ρ:=ρ1) (D:=Dx D k.h0 h1) (E:=Dx D h (k.after h)) (b:=id) (L:=L) (o:=o) (o':=o) (x:=w'.heap[ρ1.blk id]?);have h5:=hR.rel id o g2 g3;obtain⟨cs',e',q1,q2⟩:=s1;cases e';obtain⟨c,ee,fz,hx,r1,r2,r3⟩:=h3;obtain⟨_,_,_,_,_,r5,_⟩:=h5;have hb:(ρ1.pull k.rn).blk id=ρ1.blk id:=by simp only[Env.pull,rnlt id g1]
     rw[hb];refine⟨c,ee,fz,hx,λi v hv=>?_,λi v hv=>V.In_mono xZ _ (r5 i v hv),?_⟩
     ·have:=r1 i v hv
      have hvD:=r5 i v hv;rw[V.conc_agree hag v hvD,<-V.conc_agree mv.agree v hvD];simp only[Env.pull,rnlt id g1];exact this
     ·simp only[Env.pull,rnlt id g1]
      exact λ_=>r3 rfl
    ·have hsame:w'.heap[ρ.blk id]? = w.heap[ρ.blk id]?:=by
      refine mv.frame _ (hR.lt_size g2 g3) λj o' d1 d2 d3 heq=>?_
      obtain⟨L2,o2',p1,rfl,p3,p4⟩:=pre0 j o' d2;have:=hR.inj j id _ _ d1 g2 p3 g3 p4.wr heq;subst this;rw[hp]at p1;cases p1
     rw[oldblk id g2,hsame];exact(hR.rel id o g2 g3).agree g2 xZ hag
  ·intro i j oi oj di dj gi gj wi hij
   rcases part i oi di gi with⟨L,rfl,p1,p2,p3,p4⟩|⟨g1,g2,g3,g4⟩
   ·rcases part j oj dj gj with⟨L',rfl,p1',p2',p3',p4'⟩|⟨g1',g2',g3',g4'⟩
    ·obtain⟨cs,e2,_⟩:=_root_.id p2
     obtain⟨cs',e2',_⟩:=_root_.id p2';have hr:=hR1.inj _ _ _ _ p1 p1' e2 e2' rfl hij;rcases Nat.lt_or_ge i k.n with a|a
     ·rcases Nat.lt_or_ge j k.n with b|b
      ·rw[rnlt i a,rnlt j b]at hr;exact hr
      ·obtain⟨_,m,_,_,a3,a4,_,_⟩:=rnge j b p4'
       rw[rnlt i a,a3]at hr;omega
     ·obtain⟨_,m,_,b2,a3,a4,_,_⟩:=rnge i a p4
      rcases Nat.lt_or_ge j k.n with b|b
      ·rw[rnlt j b,a3]at hr;omega
      ·obtain⟨_,m',_,b2',a3',_,_,_⟩:=rnge j b p4'
       rw[a3,a3']at hr;subst hr;have:=m2 _ _ _ b2 b2';omega
    ·rw[oldblk j g2']at hij
     rcases Nat.lt_or_ge i k.n with a|a
     ·have hDi:=p3 a
      rw[oldblk i hDi]at hij;obtain⟨cs,e2,_⟩:=_root_.id p2;rw[rnlt i a]at e2;obtain⟨L2,o,e3,e4,_⟩:=wr1 i _ a e2;exact hR.inj i j _ _ hDi g2' e3 g3' e4.wr hij
     ·exact absurd hij (newblk i L a p4 p2 j oj g2' g3' (by rw[gj];simp))
   ·rcases part j oj dj gj with⟨L',rfl,p1',p2',p3',p4'⟩|⟨g1',g2',g3',g4'⟩
    ·rw[oldblk i g2]at hij
     rcases Nat.lt_or_ge j k.n with b|b
     ·have hDj:=p3' b
      rw[oldblk j hDj]at hij;obtain⟨cs,e2,_⟩:=_root_.id p2';rw[rnlt j b]at e2;obtain⟨L2,o,e3,e4,_⟩:=wr1 j _ b e2;exact hR.inj i j _ _ g2 hDj g3 e3 wi hij
     ·exact absurd hij.symm (newblk j L' b p4' p2' i oi g2 g3 (by rw[gi];simp))
    ·rw[oldblk i g2,oldblk j g2']at hij
     exact hR.inj i j _ _ g2 g2' g3 g3' wi hij
def orc:List Chunk->Nat->List V->H->Option (V×H)
 | [],_,_,_=>none
 | k::l,f,args,h=>cond (k.is f args h) (some (k.ret,k.after h)) (orc l f args h)
def Holds (P:Program) (c:Ctx) (k:Chunk):Prop:=(∃fi,c.fn.get k.f=some fi)/\∀(f:Nat) (args:List V) (h:H),k.is f args h=true->SimF P f args h (.ret k.ret (k.after h))
theorem z4z {k:Chunk}{f:Nat}{args:List V}{h:H}(e:k.is f args h=true):f=k.f:=by
 unfold is at e;simp only[oG]at e;exact oF e.1
theorem zG1 {P:Program}{c:Ctx}:∀{l:List Chunk},(∀k∈l,Holds P c k)->yg P c (orc l):=by
 intro l
 induction l with
 | nil=>intro _ f args h v h' e;cases e
 | cons k l ih =>
  intro hl f args h v h' e;simp only[orc]at e;cases hk:k.is f args h with
  | true =>
   rw[hk,oK]at e;simp only[oA,oB]at e;obtain⟨rfl,rfl⟩:=e;obtain⟨h1,h2⟩:=hl k (List.mem_cons_self ..);exact⟨by rw[z4z hk];exact h1,h2 f args h hk⟩
  | false =>
   rw[hk,oL]at e;exact ih (λk hm=>hl k (oH _ hm)) f args h v h' e
def z5A:V->Nat
 | .int _ (.ofNat n)=>n
 | .slice b o n _=>b*64+o+n
 | .ptr b o=>b*64+o
 | _=>1
def z0E:List V->Nat->Nat
 | [],n=>n % 262139
 | v::l,n=>z0E l (n*31+z5A v)
def tblK:List (Nat×List Chunk)->T (List Chunk)
 | []=>.leaf
 | (i,l)::r=>cond (Nat.blt i 262143) ((tblK r).set i (some l)) (tblK r)
def orcT (fs:List Nat) (t:T (List Chunk)) (f:Nat) (args:List V) (h:H):Option (V×H) :=
 cond (YJ f fs) (match t.get (z0E args 0)with|some l=>orc l f args h|none=>none) none
theorem zLW {l:List Chunk}{i:Nat}:∀{r:List (Nat×List Chunk)},(tblK r).get i=some l->∃x∈r,x.2=l:=by
 intro r
 induction r with
 | nil=>intro e;rw[tblK,T.get_leaf]at e;cases e
 | cons x r ih =>
  intro e;obtain⟨j,q⟩:=x;simp only[tblK]at e;cases hb:Nat.blt j 262143 with
  | false =>
   rw[hb,oL]at e;obtain⟨x,h1,h2⟩:=ih e;exact⟨x,oH _ h1,h2⟩
  | true =>
   rw[hb,oK,T.get_set _ _ _ _ ((z8 _ _).1 hb)]at e;split at e
   ·simp only[oA]at e
    exact⟨(j,q),List.mem_cons_self ..,e⟩
   ·obtain⟨x,h1,h2⟩:=ih e
    exact⟨x,oH _ h1,h2⟩
def All (P:Program) (c:Ctx) (l:List Chunk):Prop:=∀k∈l,Holds P c k
def zKQ (P:Program) (c:Ctx) (r:List (Nat×List Chunk)):Prop:=∀x∈r,All P c x.2
theorem nil {P:Program}{c:Ctx}:All P c []:=λ_ h=>by simp at h
theorem cons {P:Program}{c:Ctx}{k:Chunk}{l:List Chunk}(h1:Holds P c k) (h2:All P c l):All P c (k::l):=λq hq=>(oY.1 hq).elim (λe=>e ▸ h1) (h2 q)
theorem nilK {P:Program}{c:Ctx}:zKQ P c []:=λ_ h=>by simp at h
theorem consK {P:Program}{c:Ctx}{i:Nat}{l:List Chunk}{r:List (Nat×List Chunk)}(h1:All P c l) (h2:zKQ P c r):zKQ P c ((i,l)::r):=λq hq=>(oY.1 hq).elim (λe=>e ▸ h1) (h2 q)
theorem orcT_ok {P:Program}{c:Ctx}{fs:List Nat}{r:List (Nat×List Chunk)}(h:zKQ P c r):yg P c (orcT fs (tblK r)):=by
 intro f args h0 v h' e;unfold orcT at e;cases hf:YJ f fs with
 | false=>rw[hf]at e;cases e
 | true =>
  rw[hf,oK]at e;split at e
  ·rename_i l hl
   obtain⟨x,hx,rfl⟩:=zLW hl;exact zG1 (h x hx) f args h0 v h' e
  ·cases e
def zTi (c:Ctx) (f:Nat):Bool:=match c.fn.get f with|some _=>true|none=>false
noncomputable def check (c:Ctx) (fs:List Nat) (r:List (Nat×List Chunk)) (n:Nat) (k:Chunk):Bool:=zTi c k.f && k.okRun (X.run c (orcT fs (tblK r)) n k.f k.args k.h0)
theorem holds {P:Program}{c:Ctx}(ok:CtxOK P c) {fs:List Nat}{r:List (Nat×List Chunk)}(hr:zKQ P c r) {n:Nat}{k:Chunk}(e:check c fs r n k=true):Holds P c k:=by
 unfold check at e;simp only[oG]at e;obtain⟨e1,e2⟩:=e;refine⟨?_,λf args h his=>sound k e2 (λout ho=>X.sound ok (orcT_ok hr) ho) his⟩
 unfold zTi at e1;split at e1
 ·rename_i fi hfi;exact⟨fi,hfi⟩
 ·cases e1
end Chunk
def ip (n:Nat):V:=.int .i64 (.ofNat n)
def il (l:List Nat):List V:=l.map λn=>.int .i64 (.ofNat n)
def sb (l:List Nat):V:=.str (l.map λn=>UInt8.ofNat n)
end Go.Sim
