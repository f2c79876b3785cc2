/- TJ. No condition. -/
import Derived.Test.YtnpeieeomokomaaGreatZTG
import Derived.Test.YtnpeieeomokomaaGreatZCG
set_option maxRecDepth 100000
namespace Go.Proofs.YtnpeieeomokomaaGreat
open Go.Sim
variable {h:H}{Q:Uc}
theorem kc{v:V}{l:Ub}{i:Nat}(sl:Sl h v 1 l.length (zV l))(hi:i<l.length):∃b o,yo zB 23 v (dd (i:Nat))=some (.ptr b o)/\zo zB 3 h (.ptr b o)=some (dd l[i]) :=
 sl.at1 (u:=dd l[i]) hi z7 rfl zm rfl rfl (by rw[oh,oU hi];rfl)
theorem xj{α:Type}{l:List α}{i:Nat}(hi:i<l.length):l.take (i+1)=l.take i++[l[i]]:=by rw[List.take_add_one,oU hi];rfl
theorem xP{i:Nat}(h:i<9223372036854775807:=by omega):zG ((i:Int)+1)=((i+1:Nat):Int):=by rw[zD oy oy];rfl
def grt(l:Ub):Int:=l.foldl max 0
theorem zEu(l:Ub)(x:Int):grt (l++[x])=max (grt l) x:=by simp[grt]
theorem ji{l:Ub}(h:wg l=true){x:Int}(a:x∈l):0<=x/\x<=11:=by have:=List.all_eq_true.1 h x a;simpa using this
theorem zDO{l:Ub}{a m:Int}(b:a<=m)(h:∀x∈l,x<=m):l.foldl max a<=m:=by
 induction l generalizing a with
 | nil=>exact b
 | cons x l ih=>exact ih (Int.max_le.2 ⟨b,h x (by simp)⟩) λy c=>h y (by simp[c])
theorem Xf{l:Ub}{a:Int}:a<=l.foldl max a/\∀x∈l,x<=l.foldl max a:=by
 induction l generalizing a with
 | nil=>exact⟨Int.le_refl _,λx c=>by cases c⟩
 | cons x l ih =>
  have h1:=(ih (a:=max a x)).1;refine⟨Int.le_trans (Int.le_max_left a x) h1,λy b=>?_⟩;rcases oq.1 b with rfl|b
  .exact Int.le_trans (Int.le_max_right a y) h1
  exact(ih (a:=max a x)).2 y b
def xS(l:Ub):Nat:=(grt l).toNat
theorem zDR{l:Ub}:grt l=(xS l:Nat):=by have h1:=(Xf (l:=l) (a:=0)).1;unfold xS grt at *;omega
theorem Zz{l:Ub}(h:wg l=true):xS l<=11:=by
 have h1:=zDO (l:=l) (a:=0) (m:=11) db λx b=>(ji h b).2
 unfold xS grt;omega
theorem qj{l:Ub}{x:Int}(b:x∈l):x<=(xS l:Nat):=by have h1:=(Xf (l:=l) (a:=0)).2 x b;rw[<-zDR];exact h1
def lone(m:Nat)(x:Int):Nat:=if x≠0 then 2^(m-x.toNat) else 0
def xZ(m:Nat)(l:Ub):Nat:=(l.map (lone m)).sum
theorem zQp{m:Nat}(hm:m<=11)(x:Int):lone m x<=2048:=by
 unfold lone;split
 .exact oW (Nat.pow_le_pow_right db (show m-x.toNat<=11 by omega)) db
 omega
theorem zDZ{g:Int->Nat}{m:Nat}(a:∀x,g x<=m):∀l:Ub,(l.map g).sum<=m*l.length
 | []=>by simp
 | x::l=>by have h1:=a x;have b:=zDZ a l;rw[List.map_cons,List.sum_cons,og,Nat.mul_succ];omega
abbrev zCb:TI:=⟨5,.int .u8,1,1,some (.int .u8 (.ofNat 0)),true,false,false,[]⟩
abbrev byv(b:UInt8):V:=.int .u8 ((b.toNat:Nat):Int)
abbrev bys(l:Ua):Ug:=l.map byv
theorem zDD(l m:Ua):bys (l++m)=bys l++bys m:=List.map_append ..
theorem zIc(l:Ua):(bys l).length=l.length:=ox ..
theorem KX:∀l:Ua,xq (bys l)=some l
 | []=>rfl
 | b::l=>by show(match xq (bys l)with|some r=>some (UInt8.ofNat b.toNat::r)|none=>none)=_;rw[KX l];simp
theorem zJ4(cs:Cs)(o:Nat)(h:cs.range o 0=some []\/True):cs.range 0 0=some []:=by
 cases cs with
 | ls l=>cases l<;>rfl
 | tb t n=>rfl
 | big d t n=>rfl
theorem Oh{v:V}{l:Ua}{k:Uc}(s:Sl h v 1 l.length (bys l))(h0:0<l.length)(c:k (.str l) h):qo zB 71 9 h v k:=by
 obtain⟨_,⟨rfl,g⟩|⟨b,o,a,cs,kk,w,op,rfl,hb,d,f⟩⟩:=s
 .omega
 have e:xz zB 71 9 h (.slice b o l.length a)=some (.str l,h):=by
  unfold xz;rw[zBa,kO];have hr:cs.range o l.length=some (bys l):=Cs.range_is h0 (zIc l) λi hi=>f i oy
  simp only[ty5,d,hr,KX]
 show ∃m h',xz zB 71 9 h (.slice b o l.length a)=some (.str m,h')/\k (.str m) h';exact⟨l,h,e,c⟩
theorem zIb(n:Int)(a:h.nx<T.top):∃h',zJ zB 71 1 [(0,.int .u8 n)] h=some (.slice h.nx 0 1 (.exact 1),h')/\Sl h' (.slice h.nx 0 1 (.exact 1)) 1 1 [.int .u8 n]/\Ext h h' 1:=by
 have e:zJ zB 71 1 [(0,.int .u8 n)] h=(match (cond (Nat.blt h.nx T.top) (some (h.nx,h.new (.cells (.ls [.int .u8 n]) ⟨0,5+1,0⟩ true false))) none:Option (Nat×H))with|some (b,h')=>some (.slice b 0 1 (.exact 1),h')|none=>none):=da
 rw[(zY _ _).2 a,oS]at e;exact⟨_,e,⟨rfl,.inr ⟨h.nx,0,_,_,_,_,_,rfl,by rw[z8];omega,zM _ a,λi hi=>by
  have:i=0:=oy
  subst this;rfl⟩⟩,Ext.new _ a⟩
theorem ko(m:Nat)(l:Ub)(x:Int):xZ m (l++[x])=xZ m l+lone m x:=by simp[xZ]
theorem Zn(l:Ub)(x:Int):wy (l++[x])=wy l+(if x≠0 then 1 else 0):=by
 rw[YV];by_cases c:x≠0
 .rw[if_pos c];simp[wy,c]
 rw[if_neg c];have:x=0:=oy
 subst this;rfl
theorem zDS{tm:Tm}{a:Nat}{v:V}(c:Nat.blt a 511=true):∀{l:Kn},Has tm l->(l.all λp=>!(Nat.beq p.1 a))=true->Has (Tb.set tm a v) l
 | [],_,_=>trivial
 | p::l,h,b=>by
  rw[List.all_cons,oM]at b;refine⟨?_,zDS c h.2 b.2⟩;rw[wV _ _ _ _ (show a<Tb.top from(zY _ _).1 c),if_neg ?_]
  .exact h.1
  intro e;rw[e]at b;simp at b
theorem _root_.Go.Sim.Has.self{tm:Tm}{a:Nat}{v:V}(b:Nat.blt a 511=true):zI (Tb.set tm a v) a=v:=by rw[wV _ _ _ _ (show a<Tb.top from(zY _ _).1 b),if_pos rfl]
theorem _root_.Go.Sim.Vw.range{S:Nat->Prop}{hb:H}{c:Nat}{L:List (Nat×O)}{f:Go.Operand}{ps:Array Nat}{a body:Code}{s:St}{Q:Ud}{g:Nat}{captured:Ug}(w:Vw S hb s.heap c L)(m:zx s.tm f=some (.func (.func g) [] captured))(t:s.heap.nx+2<=T.top)(n:∀h1,Vw S hb h1 (c+2) ((s.heap.nx+1,.loop .ready none s.n s.tm ps a body s.heap.nx)::(s.heap.nx,.deferred true)::L)->h1.nx=s.heap.nx+2 ->
   RF P zB g (.yield (s.heap.nx+1)::captured) h1 λ_ d=>∃c' L',Vw S hb d c' ((s.heap.nx+1,.loop .ready none s.n s.tm ps a body s.heap.nx)::L')/\d.nx<=T.top /\
    ∀e o,Vw S hb e c' ((s.heap.nx+1,o)::L')->e.nx=d.nx->(∀b,b≠s.heap.nx+1->e.get b=d.get b)->Q .normal ⟨s.n,s.tm,.coll s.heap.nx::s.dfr,e⟩):RC P false (.rangeFunc f ps a body) s Q:=by
 refine RC.rangeFunc yA m oy ?_;have p:=w.new (h':=s.heap.new (.deferred true)) rfl oy;have j:(s.heap.new (.deferred true)).nx=s.heap.nx+1:=z8 _ _;have k:=p.new (h':=(s.heap.new (.deferred true)).new (.loop .ready none s.n s.tm ps a body s.heap.nx)) rfl oy;rw[j]at k;have q:((s.heap.new (.deferred true)).new (.loop .ready none s.n s.tm ps a body s.heap.nx)).nx=s.heap.nx+2:=by rw[z8,j]
 refine RF.mono (n _ k q) ?_;rintro v d ⟨c',L',i,l,r⟩;have hl:s.heap.nx+1<T.top:=oO (i.lt 0 rfl) l;simp only[qI,i.get 0 rfl];exact r _ _ (i.upd 0 rfl l) rfl λb hb=>zS _ hb hl
theorem _root_.Go.Sim.Vw.ends{S:Nat->Prop}{hb h:H}{c i d:Nat}{L:List (Nat×O)}(w:Vw S hb h c L)(hL:L[i]? = some (d,.deferred true))(a:h.nx<=T.top){k:H->Prop}(e:∀h',Vw S hb h' c (L.set i (d,.deferred false))->h'.nx=h.nx->(∀b,b≠d->h'.get b=h.get b)->k h'):wpD [.coll d] h k:=by have f:d<T.top:=oO (w.lt i hL) a;simp only[wpD,w.get i hL];exact e _ (w.upd i hL a) rfl λb hb=>zS _ hb f
theorem zW0{v:V}{k n:Nat}{xs:Ug}(s:Sl h v k n xs):V.one v=true:=by have:=s.one1.2;simpa [za]using this
open Go (Oper)
section
variable {c:Ctx}
end
section
variable (tm:Tm) (v:V) (b:Int) (x y i:Int) (p q o:Nat)
variable (h:H) (a:V) (z:Int)
end
end Go.Proofs.YtnpeieeomokomaaGreat
namespace Go.Proofs.YtnpeieeomokomaaGreat
open Go.Sim
variable {h:H}{Q:Uc}
def wl(l:Ub)(s:Nat):Nat:=(l.filter λx=>decide (x=(s:Int))).length
theorem zLK(l:Ub)(x:Int)(s:Nat):wl (l++[x]) s=wl l s+(if x=s then 1 else 0):=by unfold wl;rw[List.filter_append,oe];congr 1;by_cases c:x=(s:Int)<;>simp[c]
theorem OQ(l:Ub)(s:Nat):wl l s<=l.length:=List.length_filter_le _ _
def zE4(n:Nat)(l:Ub):Ub:=(List.range n).map λs=>((wl l s:Nat):Int)
abbrev Zo(l:Ub):Ub:=zE4 12 l
theorem Og(n:Nat)(l:Ub):(zE4 n l).length=n:=by simp[zE4]
theorem OE{n:Nat}{l:Ub}{s:Nat}(h:s<n):(zE4 n l)[s]? = some ((wl l s:Nat):Int):=by unfold zE4;rw[oh,List.getElem?_range h];rfl
theorem zMK{n:Nat}{l:Ub}{s:Nat}(h:s<n):(zE4 n l).set s ((wl l s+1:Nat):Int)=zE4 n (l++[(s:Int)]):=by
 apply List.ext_getElem?;intro i;by_cases c:i<n
 .rw[OE c,zLK];by_cases e:s=i
  .subst e;rw[List.getElem?_set_self (by rw[Og];exact h),if_pos rfl]
  rw[om e,OE c,if_neg oy];rfl
 rw[ov (by rw[List.length_set,Og];omega),ov (by rw[Og];omega)]
end Go.Proofs.YtnpeieeomokomaaGreat
