/- W. No condition. -/
import Derived.Test.YtnpeieeomokomaaGreatZS
import Derived.ProofKit
import Derived.ChangeSlices
import Derived.Carry
import Derived.ChangeOld
noncomputable section
namespace Go.Sim
namespace Cs
def wf:Cs->Prop
 | .ls _=>True
 | .tb _ n=>n<=511
 | .big _ _ n=>n<=262143
theorem zKh:∀{vs l:Ug},vs.length<=l.length->∃r,zB4 vs l=some r:=by
 intro vs;induction vs with
 | nil=>intro l _;exact⟨l,rfl⟩
 | cons v vs ih =>
  intro l h;rcases l with _|⟨x,l⟩
  .simp at h
  obtain⟨r,hr⟩:=ih (l:=l) (by simpa using h);exact⟨v::r,by simp only[zB4,hr]⟩
theorem splice_some:∀{n:Nat}{vs l:Ug},n+vs.length<=l.length->∃r,kd n vs l=some r:=by
 intro n;induction n with
 | zero=>intro vs l h;exact zKh oy
 | succ n ih =>
  intro vs l h;rcases l with _|⟨x,l⟩
  .simp at h
  obtain⟨r,hr⟩:=ih (vs:=vs) (l:=l) (by simp at h;omega);exact⟨x::r,by simp only[kd,hr]⟩
theorem put_some{cs:Cs}(a:cs.wf){o:Nat}{vs:Ug}(h:o+vs.length<=cs.len):∃c',cs.put o vs=some c'/\c'.wf:=by
 cases cs with
 | ls l =>
  have h:o+vs.length<=l.length:=by simpa [len,yB]using h
  obtain⟨r,hr⟩:=splice_some h;exact⟨.ls r,by simp only[put,zW7,hr],trivial⟩
 | tb t n=>have h:o+vs.length<=n:=h;refine⟨.tb (Z8 vs o t) n,?_,a⟩;have b:Nat.ble (wM vs o) n=true:=oG (by rw[yB];omega);have c:Nat.ble n 511=true:=oG a;simp only[put,b,c,Bool.and_self,oS]
 | big d t n=>have h:o+vs.length<=n:=h;refine⟨.big d (jc vs o t) n,?_,a⟩;have b:Nat.ble (wM vs o) n=true:=oG (by rw[yB];omega);have c:Nat.ble n 262143=true:=oG a;simp only[put,b,c,Bool.and_self,oS]
theorem zH2{l:Ug}{m:Nat}(h:m<=262143):∃c,zFP l m=some c/\c.wf:=by
 unfold zFP;cases h1:Nat.ble m 511 with
 | true=>exact⟨_,rfl,oH h1⟩
 | false=>have a:Nat.ble m 262143=true:=oG h;simp only[a,oS,oT];exact⟨_,rfl,h⟩
theorem zBf{l vs:Ug}{m:Nat}(h:m<=262143):∃c,zJz l vs m=some c/\c.wf:=by
 unfold zJz;cases h1:Nat.ble m 16 with
 | true=>exact⟨_,rfl,trivial⟩
 | false=>exact zH2 h
theorem ofL_some{l:Ug}(h:l.length<=262143):∃c,ofL l=some c/\c.wf:=zBf (by rw[yB];omega)
theorem app_some{cs:Cs}{vs:Ug}(h:cs.len+vs.length<=262143):∃c',cs.app vs=some c'/\c'.wf:=by
 cases cs with
 | ls l=>exact zBf (by have:(Cs.ls l).len=l.length:=(by simp[len,yB]);rw[yB,yB];omega)
 | tb t n =>
  have h:n+vs.length<=262143:=h;show ∃c',zQZ t n vs (wM vs n)=some c'/\_;unfold zQZ;cases h1:Nat.ble (wM vs n) 511 with
  | true=>exact⟨_,rfl,oH h1⟩
  | false=>have a:Nat.ble (wM vs n) 262143=true:=oG (by rw[yB];omega);simp only[a,oS,oT];exact⟨_,rfl,oH a⟩
 | big d t n=>have h:n+vs.length<=262143:=h;have a:Nat.ble (wM vs n) 262143=true:=oG (by rw[yB];omega);exact⟨.big d (jc vs n t) (wM vs n),by simp only[app,a,oS],oH a⟩
theorem rep_some{v:V}{n:Nat}(h:n<=262143):∃c,rep v n=some c/\c.wf:=by
 unfold rep;cases h1:Nat.ble n 511 with
 | true=>exact⟨_,rfl,oH h1⟩
 | false=>have a:Nat.ble n 262143=true:=oG h;simp only[a,oS,oT];exact⟨_,rfl,h⟩
theorem range_is{cs:Cs}{o k:Nat}{x:Ug}(c:0<k)(d:x.length=k)(h:∀i,i<k->cs.get? (o+i)=x[i]?):cs.range o k=some x:=by
 have hl:o+k<=cs.len:=by have h1:=h (k-1) oy;rw[oU oy]at h1;have:=get_lt h1;omega
 obtain⟨y,a⟩:=range_some hl;obtain⟨h1,_,b⟩:=range_eq a;rw[a];congr 1;apply List.ext_getElem?;intro i;by_cases hi:i<k
 .rw[b i hi,h i hi]
 rw[ov,ov]
end Cs
theorem zD{n:Int}(h1 : -9223372036854775808<=n)(a:n<9223372036854775808):zG n=n:=by unfold zG;rw[xk];simp only[IntKind.wrap,IntKind.bits,IntKind.signed];simp;split<;>omega
theorem qM{tm:Tm}{a:Nat}{v1:V}(hb:([a].all λt=>Nat.blt t 511)=true)(h1:zI tm a=v1):tm=(Tb.set tm a v1):=by simp only[List.all_cons,List.all_nil,Bool.and_true]at hb;rw[xw ((zY _ _).1 hb) h1]
theorem wH{tm:Tm}{a b c d:Nat}{v1 v2 v3 v4:V}(hb:([a,b,c,d].all λt=>Nat.blt t 511)=true)(h1:zI tm a=v1)(e:zI tm b=v2)(f:zI tm c=v3)(g:zI tm d=v4):tm=(Tb.set (Tb.set (Tb.set (Tb.set tm a v1) b v2) c v3) d v4):=by simp only[List.all_cons,List.all_nil,Bool.and_true,oM]at hb;rw[xw ((zY _ _).1 hb.1) h1,xw ((zY _ _).1 hb.2.1) e,xw ((zY _ _).1 hb.2.2.1) f,xw ((zY _ _).1 hb.2.2.2) g]
theorem Km{tm:Tm}{a b c d e:Nat}{v1 v2 v3 v4 f:V}(hb:([a,b,c,d,e].all λt=>Nat.blt t 511)=true)(h1:zI tm a=v1)(g:zI tm b=v2)(h:zI tm c=v3)(i:zI tm d=v4)(j:zI tm e=f):tm=(Tb.set (Tb.set (Tb.set (Tb.set (Tb.set tm a v1) b v2) c v3) d v4) e f):=by simp only[List.all_cons,List.all_nil,Bool.and_true,oM]at hb;rw[xw ((zY _ _).1 hb.1) h1,xw ((zY _ _).1 hb.2.1) g,xw ((zY _ _).1 hb.2.2.1) h,xw ((zY _ _).1 hb.2.2.2.1) i,xw ((zY _ _).1 hb.2.2.2.2) j]
theorem tm8{tm:Tm}{a b c d e f g h:Nat}{v1 v2 v3 v4 i v6 j v8:V}(hb:([a,b,c,d,e,f,g,h].all λt=>Nat.blt t 511)=true)(h1:zI tm a=v1)(k:zI tm b=v2)(l:zI tm c=v3)(m:zI tm d=v4)(n:zI tm e=i)(o:zI tm f=v6)(p:zI tm g=j)(q:zI tm h=v8):tm=(Tb.set (Tb.set (Tb.set (Tb.set (Tb.set (Tb.set (Tb.set (Tb.set tm a v1) b v2) c v3) d v4) e i) f v6) g j) h v8):=by simp only[List.all_cons,List.all_nil,Bool.and_true,oM]at hb;rw[xw ((zY _ _).1 hb.1) h1,xw ((zY _ _).1 hb.2.1) k,xw ((zY _ _).1 hb.2.2.1) l,xw ((zY _ _).1 hb.2.2.2.1) m,xw ((zY _ _).1 hb.2.2.2.2.1) n,xw ((zY _ _).1 hb.2.2.2.2.2.1) o,xw ((zY _ _).1 hb.2.2.2.2.2.2.1) p,xw ((zY _ _).1 hb.2.2.2.2.2.2.2) q]
structure Ext (h h':H) (n:Nat):Prop where
 le:h.nx<=h'.nx
 top:h'.nx<=h.nx+n
 get:∀b,b<h.nx->h'.get b=h.get b
 low:h'.low<=h.low
 lo:min h.low h.nx<=h'.low
theorem Ext.refl(h:H):Ext h h 0:=⟨oV _,oV _,λ_ _=>rfl,oV _,Nat.min_le_left _ _⟩
theorem Ext.trans{h h1 c:H}{m n:Nat}(a:Ext h h1 m)(b:Ext h1 c n):Ext h c (m+n) :=
 ⟨oW a.le b.le,by have:=a.top;have:=b.top;omega,λi hi=>(b.get i (oO hi a.le)).trans (a.get i hi),oW b.low a.low,by have:=a.lo;have:=b.lo;have:=a.le;omega⟩
theorem Ext.mono{h h':H}{m n:Nat}(a:Ext h h' m)(hm:m<=n):Ext h h' n:=⟨a.le,by have:=a.top;omega,a.get,a.low,a.lo⟩
theorem z8(h:H)(o:O):(h.new o).nx=h.nx+1:=by rw[H.new_eq]
theorem zM{h:H}(o:O)(a:h.nx<T.top):(h.new o).get h.nx=some o:=by rw[H.get_new _ _ _ a,if_pos rfl]
theorem xJ{h:H}(o:O)(a:h.nx<T.top){b:Nat}(hb:b<h.nx):(h.new o).get b=h.get b:=by rw[H.get_new _ _ _ a,if_neg oy]
theorem Ext.new{h:H}(o:O)(a:h.nx<T.top):Ext h (h.new o) 1:=⟨by rw[z8];omega,by rw[z8];omega,λb hb=>xJ o a hb,oV _,Nat.min_le_left _ _⟩
theorem zF{h:H}{b:Nat}(o:Option O)(hb:b<T.top:=by omega):(h.upd b o).get b=o:=by rw[H.get_upd _ _ _ _ hb,if_pos rfl]
theorem zS{h:H}{b i:Nat}(o:Option O)(hi:i≠b:=by omega)(hb:b<T.top:=by omega):(h.upd b o).get i=h.get i:=by rw[H.get_upd _ _ _ _ hb,if_neg hi]
theorem Ext.upd{h0 h:H}{n b:Nat}(e:Ext h0 h n)(o:Option O)(hb:b<T.top)(a:h0.nx<=b):Ext h0 (h.upd b o) n :=
 ⟨e.le,e.top,λi hi=>by rw[zS o oy hb];exact e.get i hi,by rw[H.low_upd];have:=e.low;omega,by rw[H.low_upd];have:=e.lo;omega⟩
theorem zZz(h:H)(b:Nat):(zX h).get b=h.get b:=rfl
theorem zYQ(h:H):(zX h).nx=h.nx:=rfl
theorem zZ6(h h':H)(b:Nat):(yN h h').get b=h'.get b:=rfl
theorem zK3(h h':H):(yN h h').nx=h'.nx:=rfl
theorem zAF(h h':H):(yN h h').low=min h.low h'.low:=by
 show cond (Nat.ble h.low h'.low) h.low h'.low=_;cases hb:Nat.ble h.low h'.low with
 | true=>have:=oH hb;simp only[oS];omega
 | false =>
  have:¬h.low<=h'.low:=λe=>by rw[oG e]at hb;cases hb
  simp only[oT];omega
theorem Ext.drawn{h h':H}{n:Nat}(e:Ext (zX h) h' n)(b:h.nx<=T.top):h.nx<=h'.low/\Ext h (yN h h') n :=
  ⟨by have:=e.lo;have h1:(zX h).low=T.top:=rfl;have a:(zX h).nx=h.nx:=rfl;omega,
   e.le,e.top,e.get,by rw[zAF];omega,by rw[zAF];have:=e.lo;have h1:(zX h).low=T.top:=rfl;have a:(zX h).nx=h.nx:=rfl;omega⟩
section
variable {c:Ctx}
theorem zK{t b o:Nat}{ti:TI}{h:H}{cs:Cs}{k:Rk}{w op:Bool}{v:V}(a:c.ty.get t=some ti)(d:jk ti.desc=false)(e:h.get b=some (.cells cs k w op))(f:cs.get? o=some v):zo c t h (.ptr b o)=some v:=by unfold zo;simp only[e,a,d,oT,f]
theorem zO{t b o:Nat}{ti:TI}{h:H}{cs:Cs}{k:Rk}{w op:Bool}{x:Ug}(a:c.ty.get t=some ti)(d:jk ti.desc=true)(e:h.get b=some (.cells cs k w op))(f:cs.range o ti.size=some x):zo c t h (.ptr b o)=some (.agg x):=by unfold zo;simp only[e,a,d,oS,f]
theorem z6{t b o:Nat}{ti:TI}{h:H}{cs cs':Cs}{k:Rk}{op:Bool}{v:V}(a:c.ty.get t=some ti)(d:h.get b=some (.cells cs k true op))(e:cs.put o v.cells=some cs')(hl:wn v.cells ti.size=true:=by exact rfl)(f:k.fz<=o:=by exact Nat.zero_le _)(g:za v.cells=true:=by exact rfl):zZ c t h (.ptr b o) v=some (h.upd b (some (.cells cs' k true op))):=by unfold zZ;simp only[d,a,hl,oS,oG f,g,e]
structure ExtX (S:Nat->Prop) (h h':H) (n:Nat):Prop where
 le:h.nx<=h'.nx
 top:h'.nx<=h.nx+n
 get:∀b,b<h.nx->¬S b->h'.get b=h.get b
 low:h'.low<=h.low
 lo:∀m,m<=h.low->m<=h.nx->(∀b,S b->m<=b)->m<=h'.low
theorem ExtX.of{S:Nat->Prop}{h h':H}{n:Nat}(e:Ext h h' n):ExtX S h h' n:=⟨e.le,e.top,λb hb _=>e.get b hb,e.low,λ_ h1 a _=>oW (Nat.le_min.2 ⟨h1,a⟩) e.lo⟩
theorem ExtX.trans{S:Nat->Prop}{h h1 d:H}{m n:Nat}(a:ExtX S h h1 m)(b:ExtX S h1 d n):ExtX S h d (m+n) :=
 ⟨oW a.le b.le,by have:=a.top;have:=b.top;omega,λi hi hs=>(b.get i (oO hi a.le) hs).trans (a.get i hi hs),oW b.low a.low,λk h1 d e=>b.lo k (a.lo k h1 d e) (oW d a.le) e⟩
theorem ExtX.upd{S:Nat->Prop}{h h':H}{n b:Nat}(e:ExtX S h h' n)(o:Option O)(hb:b<T.top)(hs:S b\/h.nx<=b):ExtX S h (h'.upd b o) n :=
 ⟨e.le,e.top,λi hi a=>by
   rw[zS o (λg=>by subst g;exact hs.elim (λq=>a q) (λq=>oy)) hb];exact e.get i hi a,by rw[H.low_upd];have:=e.low;omega,λm h1 f d=>by
   rw[H.low_upd];have:=e.lo m h1 f d;rcases hs with q|q
   .have:=d b q;omega
   omega⟩
theorem ExtX.ext{S:Nat->Prop}{h0 h h':H}{m n:Nat}(e:Ext h0 h m)(a:ExtX S h h' n)(d:∀b,S b->h0.nx<=b):Ext h0 h' (m+n) :=
 ⟨oW e.le a.le,by have:=a.top;have:=e.top;omega,λi hi=>(a.get i (oO hi e.le) (λq=>by have:=d i q;omega)).trans (e.get i hi),oW a.low e.low,a.lo _ e.lo (oW (Nat.min_le_right _ _) e.le) λb hb=>oW (Nat.min_le_right _ _) (d b hb)⟩
def Sl(h:H)(v:V)(esz n:Nat)(xs:Ug):Prop :=
 xs.length=n*esz/\((v = .nilslice/\n=0)\/∃b o a cs k w op,v = .slice b o n a/\b<h.nx/\h.get b=some (.cells cs k w op)/\∀i,i<n*esz->cs.get? (o+i)=xs[i]?)
theorem Sl.ext{h h':H}{v:V}{esz n m:Nat}{xs:Ug}(s:Sl h v esz n xs)(e:Ext h h' m):Sl h' v esz n xs:=by obtain⟨h1,d⟩:=s;refine⟨h1,d.imp id ?_⟩;rintro⟨b,o,f,cs,k,w,op,rfl,a,g,i⟩;exact⟨b,o,f,cs,k,w,op,rfl,oO a e.le,by rw[e.get b a];exact g,i⟩
theorem Sl.len{h:H}{v:V}{esz n:Nat}{xs:Ug}(s:Sl h v esz n xs){t e:Nat}{ti:TI}(a:c.ty.get t=some ti)(d:ti.desc = .slice e):Yf c t h v=some (dd n):=by
 obtain⟨_,⟨rfl,rfl⟩|⟨b,o,f,cs,k,w,op,rfl,_⟩⟩:=s
 .unfold Yf;rw[a];simp only[d];rfl
 unfold Yf;rw[a];simp only[d];rfl
theorem Sl.at{h:H}{v:V}{esz n i:Nat}{xs:Ug}(s:Sl h v esz n xs)(hi:i<n){t e:Nat}{ti te:TI}(a:c.ty.get t=some ti)(d:ti.desc = .slice e)(f:c.ty.get e=some te)(hs:te.size=esz):
  ∃b o,yo c t v (dd i)=some (.ptr b o)/\∃cs k w op,h.get b=some (.cells cs k w op)/\∀j,j<esz->cs.get? (o+j)=xs[i*esz+j]?:=by
 obtain⟨_,⟨_,rfl⟩|⟨b,o,m,cs,k,w,op,rfl,hb,g,l⟩⟩:=s
 .omega
 refine⟨b,o+i*te.size,?_,cs,k,w,op,g,λj p=>?_⟩
 .unfold yo;show(match yj (Int.ofNat i),c.ty.get t with|some i,some ti=>_|_,_=>_)=_;simp only[yj,a,d,f,(zY _ _).2 hi,oS]
 rw[hs,Nat.add_assoc];refine l _ ?_
 calc i*esz+j<i*esz+esz:=oy
  _=(i+1)*esz:=by rw[Nat.succ_mul]
  _<=n*esz:=Nat.mul_le_mul_right _ hi
theorem Sl.at1{h:H}{v:V}{n i:Nat}{xs:Ug}(s:Sl h v 1 n xs)(hi:i<n){t e:Nat}{ti te:TI}(d:c.ty.get t=some ti)(f:ti.desc = .slice e)(a:c.ty.get e=some te)(hs:te.size=1)(g:jk te.desc=false){u:V}(j:xs[i]? = some u):
  ∃b o,yo c t v (dd i)=some (.ptr b o)/\zo c e h (.ptr b o)=some u:=by
 obtain⟨b,o,h1,cs,k,w,op,l,m⟩:=s.at hi d f a hs;refine⟨b,o,h1,zK a g l ?_⟩;have:=m 0 oy;rw[Nat.mul_one]at this;simpa [j]using this
def Ow(h:H)(v:V)(te:TI)(n:Nat)(xs:Ug):Prop :=
 xs.length=n*te.size/\((v = .nilslice/\n=0)\/∃b cs,v = .slice b 0 n (.skip 0)/\b<h.nx/\h.get b=some (.cells cs (jC te) true true)/\cs.wf/\cs.len=n*te.size/\∀i,i<n*te.size->cs.get? i=xs[i]?)
theorem Ow.sl{h:H}{v:V}{te:TI}{n:Nat}{xs:Ug}(s:Ow h v te n xs):Sl h v te.size n xs:=by obtain⟨h1,a⟩:=s;refine⟨h1,a.imp id ?_⟩;rintro⟨b,cs,rfl,d,e,_,_,f⟩;exact⟨b,0,_,cs,_,_,_,rfl,d,e,λi hi=>by rw[Nat.zero_add];exact f i hi⟩
def yG:V->Option Nat
 | .slice b _ _ _=>some b
 | _=>none
theorem Ow.keep{h h':H}{v:V}{te:TI}{n:Nat}{xs:Ug}(s:Ow h v te n xs)(a:h.nx<=h'.nx)(d:∀b,yG v=some b->h'.get b=h.get b):Ow h' v te n xs:=by obtain⟨h1,e⟩:=s;refine⟨h1,e.imp id ?_⟩;rintro⟨b,cs,rfl,f,g,i⟩;exact⟨b,cs,rfl,oO f a,by rw[d b rfl];exact g,i⟩
theorem Ow.ext{h h':H}{v:V}{te:TI}{n m:Nat}{xs:Ug}(s:Ow h v te n xs)(e:Ext h h' m):Ow h' v te n xs:=by
 refine s.keep e.le λb hb=>e.get b ?_
 obtain⟨_,⟨rfl,_⟩|⟨d,cs,rfl,a,_⟩⟩:=s
 .cases hb
 cases hb;exact a
theorem Ow.nil(h:H)(te:TI):Ow h .nilslice te 0 []:=⟨by simp,.inl ⟨rfl,rfl⟩⟩
theorem Sl.src{h:H}{v:V}{esz n:Nat}{xs:Ug}(s:Sl h v esz n xs)(a:0<esz)(d:0<n):yr esz h v=some (n,xs):=by
 obtain⟨e,⟨rfl,rfl⟩|⟨b,o,i,cs,k,w,op,rfl,hb,f,g⟩⟩:=s
 .omega
 unfold yr;simp only[f];rw[Cs.range_is (Nat.mul_pos d a) e g]
theorem zOM{cs:Cs}{o:Nat}{vs:Ug}(h:cs.len<o+vs.length):cs.put o vs=none:=by
 rcases a:cs.put o vs with _|b
 .rfl
 have:=(Cs.put_eq a).1;omega
theorem ky{k:Rk}{te:TI}{h:H}{cs:Cs}{a:Nat}(hb:a*te.bytes<=1099511627776)(b:h.nx<T.top):
  js k te h (some cs) a=some (.slice h.nx 0 a (.skip 0),h.new (.cells cs k true true)):=by
 unfold js qG;rw[oG hb,oS,(zY _ _).2 b,oS]
theorem Ow.appTo{h:H}{v:V}{te:TI}{n m:Nat}{xs ys:Ug}(s:Ow h v te n xs)(a:ys.length=m*te.size)(hm:0<m)(g:qn te=true)(D:za ys=true)(u:(n+m)*te.size<=262143)(p:(n+m)*te.bytes<=1099511627776)(t:h.nx<T.top):
  ∃v' h',Go.Sim.appTo te h m ys v=some (v',h')/\Ow h' v' te (n+m) (xs++ys)/\h.nx<=h'.nx/\h'.nx<=h.nx+1/\(∀b,b<h.nx->yG v≠some b->h'.get b=h.get b)/\yG v'=some h.nx/\h'.low<=h.low/\(∀m,m<=h.low->(∀b,yG v=some b->m<=b)->m<=h'.low):=by
 have w:0<te.size:=by unfold qn at g;simp only[oM]at g;exact(zY _ _).1 g.1.1
 have f:(n+m)*te.size=n*te.size+m*te.size:=Nat.add_mul _ _ _;obtain⟨q,⟨rfl,rfl⟩|⟨b,cs,rfl,hb,F,M,hl,G⟩⟩:=s
 .have x:xs=[]:=List.eq_nil_of_length_eq_zero (by rw[q];simp);subst x;obtain⟨cs,h1,y⟩:=Cs.ofL_some (l:=ys) (by rw[a];simp at u;omega);obtain⟨z,A⟩:=Cs.ofL_eq h1;refine⟨.slice h.nx 0 m (.skip 0),h.new (.cells cs (jC te) true true),?_,?_,by rw[z8];omega,by rw[z8];omega,λb hb _=>xJ _ t hb,rfl,oV _,λm hm _=>hm⟩
  .unfold Go.Sim.appTo;have:Nat.beq m 0=false:=by cases j:Nat.beq m 0 with
    | false=>rfl
    | true=>have:=oL j;omega
   rw[this,oT,D,oS,h1];exact ky (by simpa using p) t
  refine⟨by simp[a],.inr ⟨h.nx,cs,by rw[Nat.zero_add],by rw[z8];omega,zM _ t,y,by rw[z,a,Nat.zero_add],λi _=>by rw[A];rfl⟩⟩
 obtain⟨r,h1,y⟩:=Cs.app_some (cs:=cs) (vs:=ys) (by rw[hl,a];omega);obtain⟨z,A⟩:=Cs.app_eq h1;have B:b<T.top:=oy
 have k:(Xq h b).nx<T.top:=t;refine⟨.slice (Xq h b).nx 0 (n+m) (.skip 0),(Xq h b).new (.cells r (jC te) true true),?_,?_,by rw[z8];exact Nat.le_succ _,by rw[z8];exact oV _,λi hi o=>?_,rfl,(by show(h.upd b none).low<=_;rw[H.low_upd];exact Nat.min_le_left _ _),λm hm C=>(by show m<=(h.upd b none).low;rw[H.low_upd];exact Nat.le_min.2 ⟨hm,C b rfl⟩)⟩
 .unfold Go.Sim.appTo;simp only[F];unfold OC;have I:(true && true && Nat.beq te.size (jC te).n && Nat.beq 0 (0*te.size) && za ys && Nat.ble (0+n*te.size) cs.len)=true:=by
   simp[jC,D,hl]
  rw[I,oS];have J:Nat.beq m 0=false:=by cases j:Nat.beq m 0 with
   | false=>rfl
   | true=>have:=oL j;omega
  rw[J,oT];have K:KU h b 0 n (.skip 0) te.size (n+m) cs (jC te) true ys=none:=by unfold KU;have E:0<m*te.size:=Nat.mul_pos hm w;rw[zOM (by rw[hl,a];omega)]
  rw[K];simp only;unfold zGo;have L:(Nat.beq 0 0 && Nat.beq cs.len (0+n*te.size) && Nat.ble (jC te).fz (0+n*te.size) && (Nat.beq (jC te).ty 0 || Nat.beq (jC te).ty (te.id+1)))=true:=by simp[jC,hl]
  rw[L,oS,h1];exact ky p k
 .refine⟨by rw[oe,q,a,f],.inr ⟨(Xq h b).nx,r,rfl,by rw[z8];exact Nat.lt_succ_self _,zM _ k,y,by rw[z,hl,a,f],λi hi=>?_⟩⟩;rw[A,hl];by_cases d:i<n*te.size
  .rw[if_pos d,G i d,List.getElem?_append_left (by rw[q];exact d)]
  rw[if_neg d,List.getElem?_append_right (by rw[q];omega),q]
 have o:i≠b:=λe=>o (by rw[e];rfl)
 rw[xJ _ k (show i<(Xq h b).nx from hi)];exact zS _ o B
theorem Ow.append{h:H}{v x:V}{te ti:TI}{n m t e:Nat}{xs ys:Ug}(s:Ow h v te n xs)(j:Sl h x te.size m ys)(hm:0<m)(k:c.ty.get t=some ti)(l:ti.desc = .slice e)(o:c.ty.get e=some te)(a:qn te=true)(p:za ys=true)(d:(n+m)*te.size<=262143)(f:(n+m)*te.bytes<=1099511627776)(q:h.nx<T.top):
  ∃v' h',zn c t h v x=some (v',h')/\Ow h' v' te (n+m) (xs++ys)/\h.nx<=h'.nx/\h'.nx<=h.nx+1/\(∀b,b<h.nx->yG v≠some b->h'.get b=h.get b)/\yG v'=some h.nx/\h'.low<=h.low/\(∀m,m<=h.low->(∀b,yG v=some b->m<=b)->m<=h'.low):=by
 have g:0<te.size:=by unfold qn at a;simp only[oM]at a;exact(zY _ _).1 a.1.1
 have i:zn c t h v x=Go.Sim.appTo te h m ys v:=by unfold zn;rw[k];simp only[l,o,a,oS,j.src g hm]
 rw[i];exact s.appTo j.1 hm a p d f q
theorem Ow.zeros{h:H}{v u z:V}{te ti:TI}{n m t e:Nat}{xs:Ug}(s:Ow h v te n xs)(hm:0<m)(i:c.ty.get t=some ti)(j:ti.desc = .slice e)(k:c.ty.get e=some te)(a:qn te=true)(l:te.zero=some z)(f:z.cells=[u])(h1:te.size=1)(o:u.one=true)(p:n+m<=262143)(d:(n+m)*te.bytes<=1099511627776)(q:h.nx<T.top):
  ∃v' h',X5 c t h v (dd (m:Int))=some (v',h')/\Ow h' v' te (n+m) (xs++List.replicate m u)/\h.nx<=h'.nx/\h'.nx<=h.nx+1/\(∀b,b<h.nx->yG v≠some b->h'.get b=h.get b)/\yG v'=some h.nx/\h'.low<=h.low/\(∀m,m<=h.low->(∀b,yG v=some b->m<=b)->m<=h'.low):=by
 have g:X5 c t h v (dd (m:Int))=Go.Sim.appTo te h m (List.replicate m u) v:=by
  unfold X5;rw[i];have hb:m*te.bytes<=1099511627776:=oW (Nat.mul_le_mul_right _ (Nat.le_add_left _ _)) d;have r:Nat.beq te.size 1=true:=by rw[h1];rfl
  simp only[j,k,a,r,Bool.and_self,oS,l,f];show cond (Nat.ble (m*te.bytes) 1099511627776) _ none=_;rw[oG hb,oS]
 rw[g];exact s.appTo (by rw[List.length_replicate,h1,Nat.mul_one]) hm a (yY.2 λw x=>by rw[List.eq_of_mem_replicate x];exact o) (by rw[h1];omega) d q
theorem Ow.zeros0{h:H}{v u z:V}{te ti:TI}{n t e:Nat}{xs:Ug}(s:Ow h v te n xs)(g:c.ty.get t=some ti)(i:ti.desc = .slice e)(j:c.ty.get e=some te)(a:qn te=true)(k:te.zero=some z)(d:z.cells=[u])(h1:te.size=1):X5 c t h v (dd 0)=some (v,h):=by
 have f:Nat.beq te.size 1=true:=by rw[h1];rfl
 unfold X5;rw[g];simp only[i,j,a,f,Bool.and_self,oS,k,d];show cond (Nat.ble (0*te.bytes) 1099511627776) _ none=_;rw[Nat.zero_mul,show Nat.ble 0 1099511627776=true from rfl,oS];obtain⟨m,⟨rfl,rfl⟩|⟨b,cs,rfl,hb,l,o,hl,p⟩⟩:=s
 .rfl
 unfold Go.Sim.appTo;simp only[l];unfold OC;have f:(true && true && Nat.beq te.size (jC te).n && Nat.beq 0 (0*te.size) && za ([]:Ug) && Nat.ble (0+n*te.size) cs.len)=true:=by simp[jC,hl,za]
 rw[show List.replicate 0 u=[]from rfl,f,oS];rfl
theorem jK{h:H}{t e:Nat}{ti te:TI}{z u:V}{ys:Ug}(g:c.ty.get t=some ti)(j:ti.desc = .slice e)(k:c.ty.get e=some te)(m:te.zero=some z)(a:wn z.cells te.size=true)(o:u.cells=ys)(hl:ys.length=te.size)(hs:te.size<=16)(p:za ys=true)(d:h.nx<T.top):∃v h',zJ c t 1 [(0,u)] h=some (v,h')/\Sl h' v te.size 1 ys/\Ext h h' 1/\yG v=some h.nx:=by
 obtain⟨cs,h1,x⟩:=Cs.ofL_some (l:=ys) (by rw[hl];omega);obtain⟨y,q⟩:=Cs.ofL_eq h1;refine⟨.slice h.nx 0 1 (.exact 1),h.new (.cells cs ⟨0,e+1,0⟩ true false),?_,⟨by rw[hl,Nat.one_mul],.inr ⟨h.nx,0,_,cs,_,_,_,rfl,by rw[z8];omega,zM _ d,λi _=>by rw[q,Nat.zero_add]⟩⟩,Ext.new _ d,rfl⟩;have b:=xL.1 a;have s:Yl c (λi=>some (i*te.size,te.size)) (xD z.cells 1) [(0,u)]=some ys:=by
  unfold Yl;simp only[Nat.zero_mul,o];have:wn ys te.size=true:=xL.2 hl;rw[this,oS];have f:xD z.cells 1=z.cells:=by simp[xD]
  rw[f];obtain⟨r,hr⟩:=Cs.splice_some (n:=0) (vs:=ys) (l:=z.cells) (by rw[hl,b];omega);rw[hr];simp only[Yl];congr 1;obtain⟨A,B,w⟩:=ZL hr;apply List.ext_getElem?;intro i;rw[w i];by_cases hi:i<ys.length
  .rw[if_pos ⟨oQ _,oy⟩];rfl
  rw[if_neg oy,ov,ov]
 unfold zJ;rw[g];simp only[j,k,m];have hb:Nat.ble (1*te.size) 1048576=true:=oG;rw[hb,oS,a,oS,s];simp only;unfold qu qG;rw[p,oS,(zY _ _).2 d,oS,h1]
def Ex(h:H)(v:V)(esz n k:Nat)(xs:Ug):Prop :=
 xs.length=n*esz/\n<=k/\∃b cs,v = .slice b 0 n (.exact k)/\b<h.nx/\h.get b=some (.cells cs ⟨0,0,0⟩ true false)/\cs.wf/\cs.len=k*esz/\∀i,i<n*esz->cs.get? i=xs[i]?
theorem Ex.make{h:H}{te ti:TI}{k t e:Nat}{z:V}(f:c.ty.get t=some ti)(g:ti.desc = .slice e)(j:c.ty.get e=some te)(l:te.zero=some z)(a:z.cells=[z])(hs:te.size=1)(m:k<=262143)(hb:te.bytes*k<=1099511627776)(b:h.nx<T.top):
  ∃v h',jJ c t (dd 0) (dd k) h=some (v,h')/\Ex h' v 1 0 k []/\Ext h h' 1/\yG v=some h.nx:=by
 obtain⟨cs,h1,n⟩:=Cs.rep_some (v:=z) m;obtain⟨o,r⟩:=Cs.rep_eq h1;refine⟨.slice h.nx 0 0 (.exact k),h.new (.cells cs ⟨0,0,0⟩ true false),?_,⟨by simp,oy,h.nx,cs,rfl,by rw[z8];omega,zM _ b,n,by rw[o,Nat.mul_one],λi hi=>oy⟩,Ext.new _ b,rfl⟩;unfold jJ;have p:yj 0=some 0:=rfl;have q:yj (k:Int)=some k:=rfl;simp only[p,q,f,g,j,l];have d:wn z.cells te.size=true:=xL.2 (by rw[a,hs];rfl);rw[oG (oQ k),oG (show k<=4294967296 by omega),oG hb,d];simp only[Bool.and_self,oS];unfold zBJ qG;rw[a];simp only[h1,(zY _ _).2 b,oS]
end
end Go.Sim
namespace Go.Sim
theorem X1(D:Nat->Prop)(h:H):Dx D h h=D:=by funext id;exact propext ⟨λe=>e.elim (λq=>q) (λq=>oy),.inl⟩
theorem SimF.frame{P:Program}{f:Nat}{b:Bool}{h0 h:H}(s:SimF P f [] H0 (.ret (.bool b) h0)):SimF P f [] h (.ret (.bool b) h):=by
 intro ρ D w hr _;have h1:=s zDL (λ_=>False) w (Kz _ _) (by simp);refine CallsIn.mono h1 ?_;rintro e w' ⟨ρ',rfl,m,_,_⟩;have d:∀r,r<w.heap.size->w'.heap[r]? = w.heap[r]?:=λk g=>m.frame k g λ_ _ i=>i.elim
 refine⟨ρ,rfl,⟨oV _,m.size,m.os,m.tape,m.output,λ_ _=>⟨rfl,rfl,rfl⟩,λid o' _ a=>⟨o',a,rfl⟩,λid o' l n _=>oy,λr hr _=>d r hr,oV _,λ_ _ _=>rfl⟩,?_,trivial⟩;rw[X1];refine⟨hr.cap,hr.lt,λid o j a=>?_,hr.inj⟩;have c:=hr.rel id o j a;rcases Nat.lt_or_ge (ρ.blk id) w.heap.size with q|q
 .rw[d _ q];exact c
 exfalso;rw[Array.getElem?_eq_none q]at c;cases o<;>simp[ORel]at c
def Plain(x:V):Prop:=(∀ρ,x.conc ρ=x.conc zDL)/\∀D,x.In D
theorem zL(k:IntKind)(n:Int):Plain (.int k n):=⟨λ_=>by simp[V.conc],λ_=>by simp[V.In]⟩
theorem XQ(b:Bool):Plain (.bool b):=⟨λ_=>by simp[V.conc],λ_=>by simp[V.In]⟩
theorem yx(l:Ua):Plain (.str l):=⟨λ_=>by simp[V.conc],λ_=>by simp[V.In]⟩
theorem xM{l:Ug}(h:∀x∈l,Plain x):Plain (.agg l) :=
 ⟨λρ=>by
  simp only[V.conc,V.concL_eq];rw[List.map_congr_left λx a=>(h x a).1 ρ],λD=>by
  simp only[V.In];exact V.InL_iff.2 λx a=>(h x a).2 D⟩
theorem kE{l:Ug}(h:∀x∈l,Plain x):Plain (.tuple l) :=
 ⟨λρ=>by
  simp only[V.conc,V.concL_eq];rw[List.map_congr_left λx a=>(h x a).1 ρ],λD=>by
  simp only[V.In];exact V.InL_iff.2 λx a=>(h x a).2 D⟩
theorem SimF.plain{P:Program}{f:Nat}{args:Ug}{v:V}{h0 h:H}(s:SimF P f args H0 (.ret v h0))(g:∀a∈args,Plain a)(b:Plain v):SimF P f args h (.ret v h):=by
 intro ρ D w hr _;have h1:=s zDL (λ_=>False) w (Kz _ _) (λa q=>(g a q).2 _);have j:args.map (V.conc ρ)=args.map (V.conc zDL):=List.map_congr_left λa q=>(g a q).1 ρ
 rw[j];refine CallsIn.mono h1 ?_;rintro e w' ⟨ρ',rfl,m,_,_⟩;have i:∀r,r<w.heap.size->w'.heap[r]? = w.heap[r]?:=λk l=>m.frame k l λ_ _ n=>n.elim
 refine⟨ρ,by rw[b.1 ρ',b.1 ρ],⟨oV _,m.size,m.os,m.tape,m.output,λ_ _=>⟨rfl,rfl,rfl⟩,λid o' _ c=>⟨o',c,rfl⟩,λid o' t u _=>oy,λr hr _=>i r hr,oV _,λ_ _ _=>rfl⟩,?_,b.2 _⟩;rw[X1];refine⟨hr.cap,hr.lt,λid o p c=>?_,hr.inj⟩;have d:=hr.rel id o p c;rcases Nat.lt_or_ge (ρ.blk id) w.heap.size with q|q
 .rw[i _ q];exact d
 exfalso;rw[Array.getElem?_eq_none q]at d;cases o<;>simp[ORel]at d
theorem RF.plain{P:Program}{c:Ctx}{f:Nat}{args:Ug}{h:H}{Q:Uc}(r:RF P c f args H0 λv _=>Plain v/\Q v h)(b:∀a∈args,Plain a):RF P c f args h Q:=by obtain⟨v,h',⟨d,s⟩,e,g⟩:=r;exact⟨v,h,⟨d,s.plain b e⟩,g⟩
open Go.RowKit Go.ChangeShapes Go.WideShapes Go.ChangeAt
def hRO(l:Ug):H:=H0.new (.cells (.ls l) ⟨0,0,0⟩ false false)
def zEi(b off:Nat):Env:={ blk:=λ_=>b,off:=λ_=>off,cap:=λ_=>0 }
theorem j6(l:Ug):(hRO l).nx=1:=z8 _ _
theorem Xm(l:Ug):(hRO l).get 0=some (.cells (.ls l) ⟨0,0,0⟩ false false):=zM (h:=H0) _ db
theorem zYS{l:Ug}{b off:Nat}{c:Array Value}{e:TypeId}{fz:Nat×Nat}{W:World}(hb:W.heap[b]? = some (.cells c e fz))(g:∀i v,l[i]? = some v->c[off+i]? = some (v.conc zDL))(k:∀v∈l,v.conc (zEi b off)=v.conc zDL)(a:∀v∈l,v.In (λi=>i=0)):
  HR (zEi b off) (λi=>i=0) (hRO l) W:=by
 refine⟨by rw[j6];decide,λi hi=>by rw[j6];omega,λi o hi f=>?_,λi j oi oj hi n d _ m=>?_⟩
 .subst hi;rw[Xm]at f;cases f;refine⟨c,e,fz,hb,λi v h=>?_,λi v h=>a v (List.mem_of_getElem? ((Cs.getL_eq l i).symm.trans h)),λh=>by cases h⟩;have h':l[i]? = some v:=(Cs.getL_eq l i).symm.trans h;rw[k v (List.mem_of_getElem? h')];exact g i v h'
 subst hi;rw[Xm]at d;cases d;cases m
variable {P:Program}{c:Ctx}{f:Nat}
end Go.Sim
namespace Go.Sim
open Go.RowKit Go.ChangeShapes Go.WideShapes Go.ChangeAt
def Rd(W:World)(v:Value)(esz n:Nat)(xs:Ug):Prop :=
 xs.length=n*esz/\((v = .slice none 0 0/\n=0)\/∃b off cap cs e fz,v = .slice (some ⟨b,off,none⟩) n cap/\n<=cap/\W.heap[b]? = some (.cells cs e fz)/\∀i x,xs[i]? = some x->cs[off+i]? = some (x.conc zDL))
def ab(i n:Nat):Value->V
 | .slice (some _) _ cap=>.slice i 0 n (.exact cap)
 | _=>.nilslice
def pb:Value->Bool
 | .slice (some _) _ _=>true
 | _=>false
def zVa:Value->Nat
 | .slice (some a) _ _=>a.block
 | _=>0
def zVf:Value->Nat
 | .slice (some a) _ _=>a.off
 | _=>0
def ZE(xs ys:Ug):H:=(hRO xs).new (.cells (.ls ys) ⟨0,0,0⟩ false false)
def zMS(v w:Value):Env:={ blk:=λi=>cond (Nat.beq i 0) (zVa v) (zVa w),off:=λi=>cond (Nat.beq i 0) (zVf v) (zVf w),cap:=λ_=>0 }
def D2(v w:Value)(i:Nat):Prop:=(i=0/\pb v=true)\/(i=1/\pb w=true)
theorem ZU(xs ys:Ug):(ZE xs ys).nx=2:=by unfold ZE;rw[z8,j6]
theorem qA(xs ys:Ug):(ZE xs ys).get 0=some (.cells (.ls xs) ⟨0,0,0⟩ false false):=by unfold ZE;rw[xJ _ (by rw[j6];decide) (by rw[j6];decide),Xm]
theorem XJ(xs ys:Ug):(ZE xs ys).get 1=some (.cells (.ls ys) ⟨0,0,0⟩ false false):=by
 unfold ZE;have:=zM (h:=hRO xs) (.cells (.ls ys) ⟨0,0,0⟩ false false) (by rw[j6];decide)
 rwa [j6]at this
theorem zYM(xs ys:Ug):(ZE xs ys).low=T.top:=rfl
theorem zVV{W:World}{v w:Value}{m n p q:Nat}{xs ys:Ug}(r1:Rd W v m n xs)(r2:Rd W w p q ys)(g:∀x∈xs,Plain x)(k:∀x∈ys,Plain x):HR (zMS v w) (D2 v w) (ZE xs ys) W:=by
 refine⟨by rw[ZU];decide,λi hi=>by rw[ZU];rcases hi with⟨rfl,_⟩|⟨rfl,_⟩<;>decide,λi o hi d=>?_,λi j oi oj hi r a _ l=>?_⟩
 .rcases hi with⟨rfl,c⟩|⟨rfl,c⟩
  .rw[qA]at d;cases d;obtain⟨_,⟨rfl,_⟩|⟨b,off,cap,cs,e,fz,rfl,_,hb,f⟩⟩:=r1
   .cases c
   refine⟨cs,e,fz,hb,λi x h=>?_,λi x h=>(g x (List.mem_of_getElem? ((Cs.getL_eq xs i).symm.trans h))).2 _,λh=>by cases h⟩;have h':xs[i]? = some x:=(Cs.getL_eq xs i).symm.trans h;rw[(g x (List.mem_of_getElem? h')).1];exact f i x h'
  rw[XJ]at d;cases d;obtain⟨_,⟨rfl,_⟩|⟨b,off,cap,cs,e,fz,rfl,_,hb,f⟩⟩:=r2
  .cases c
  refine⟨cs,e,fz,hb,λi x h=>?_,λi x h=>(k x (List.mem_of_getElem? ((Cs.getL_eq ys i).symm.trans h))).2 _,λh=>by cases h⟩;have h':ys[i]? = some x:=(Cs.getL_eq ys i).symm.trans h;rw[(k x (List.mem_of_getElem? h')).1];exact f i x h'
 rcases hi with⟨rfl,c⟩|⟨rfl,c⟩
 .rw[qA]at a;cases a;cases l
 rw[XJ]at a;cases a;cases l
theorem zLu{W:World}{v w:Value}{c a:Nat}{xs:Ug}(r1:Rd W v c a xs):(ab 0 a v).conc (zMS v w)=v:=by
 obtain⟨_,⟨rfl,rfl⟩|⟨b,off,cap,cs,e,fz,rfl,_,hb,d⟩⟩:=r1
 .simp[ab,V.conc]
 simp[ab,V.conc,zMS,zVa,zVf,Cap.val]
theorem zV8{W:World}{v w:Value}{c a:Nat}{xs:Ug}(r1:Rd W v c a xs):(ab 0 a v).In (D2 v w):=by
 obtain⟨_,⟨rfl,rfl⟩|⟨b,off,cap,cs,e,fz,rfl,_,hb,d⟩⟩:=r1
 .simp[ab,V.In]
 simp[ab,V.In,D2,pb]
theorem zUA{W:World}{v:Value}{i c a:Nat}{xs:Ug}(r1:Rd W v c a xs):(ab i a v = .nilslice/\a=0)\/∃cap,a<=cap/\ab i a v = .slice i 0 a (.exact cap):=by
 obtain⟨_,⟨rfl,rfl⟩|⟨b,off,cap,cs,e,fz,rfl,hl,hb,d⟩⟩:=r1
 .exact .inl ⟨rfl,rfl⟩
 exact .inr ⟨cap,hl,rfl⟩
theorem zV9{W:World}{v:Value}{b a:Nat}{xs:Ug}(r1:Rd W v b a xs)(ys:Ug):Sl (ZE xs ys) (ab 0 a v) b a xs:=by
 refine⟨r1.1,?_⟩;rcases zUA (i:=0) r1 with⟨h1,c⟩|⟨cap,_,h1⟩
 .exact .inl ⟨h1,c⟩
 exact .inr ⟨0,0,_,_,_,_,_,h1,by rw[ZU];decide,qA _ _,λi _=>by rw[Nat.zero_add];exact Cs.getL_eq xs i⟩
theorem SimF.calls2{P:Program}{f:Nat}{args:Ug}{h:H}{xs ys:Ug}{v w:Value}{W:World}(s:SimF P f args (ZE xs ys) (.ret (.bool true) h))(hr:HR (zMS v w) (D2 v w) (ZE xs ys) W)(b:∀x∈args,x.In (D2 v w)):
  Calls P f (args.map (V.conc (zMS v w))).toArray W λe W'=>e = .returned (.bool true)/\Below W.heap.size W W':=by
 have h1:=s _ _ W hr b;refine CallsIn.calls (F:=Fx none) (CallsIn.mono h1 ?_) (zIX none);rintro e W' ⟨ρ,rfl,m,_,_⟩;refine⟨rfl,m.os,m.tape.1,m.output,m.size,λk d=>m.frame k d λj o g a c=>?_⟩;rcases g with⟨rfl,i⟩|⟨rfl,i⟩
 .rw[qA]at a;cases a;cases c
 rw[XJ]at a;cases a;cases c
theorem Ym{H:Type}{enc:TypeId×Value->H}{P:Program}(hl:laidOutB P=true){W W':World}(hb:Below W.heap.size W W'):
  ∀{c:List TypeId}{vs:List Value}{f:List (DataW H)}{ps:List MemPlace},(c.all λt=>P.readableRec t && decide (t<P.types.size))=true->DataW.TrodAll enc P W 0 (λ_=>true) true c vs f ps->(∀x∈ps,x.block<W.heap.size) ->
   DataW.TrodAll enc P W' 0 (λb=>decide (b<W.heap.size)) true c vs f ps
 | [],[],[],_,_,h,_=>h
 | _::_,_::_,_::_,_,a,⟨p,q,h1,i,e⟩,g=>by simp only[List.all_cons,oM]at a;exact⟨p,q,Below.trod hl a.1.1 (of_decide_eq_true a.1.2) h1 hb (λx d=>g x (by rw[e];exact List.mem_append_left _ d)),Ym hl hb a.2 i (λx d=>g x (by rw[e];exact List.mem_append_right _ d)),e⟩
theorem zKm{H:Type}{enc:TypeId×Value->H}{P:Program}{f:Func}{s:ChangeSpec}{W W':World}{args:Array Value}{c d:List (DataW H)}{a:List MemPlace}{j:TypeId}(hl:laidOutB P=true)(e:(f.params.toList.all λt=>P.readableRec t && decide (t<P.types.size))=true)(g:DataW.Whole enc P f.params.toList s.vars false W args.toList c d a)(hb:Below W.heap.size W W')(hr:f.resultTypes = #[j])(k:P.underlying j=some .bool)(l:(s.fn H (c++d)).results=[.lit (.bool true)])(m:(s.fn H (c++d)).args=c)(n:DataW.TrodVars enc P W' (λb=>decide (b<W.heap.size)) s.vars (s.fn H (c++d)).vars []):
  s.post enc P f false true false false W args (.bool true) W':=by
 have h:=g.lt;have i:=g;obtain⟨p,q,o,_,rfl,_,_⟩:=g;exact zKn (pa:=p) (pv:=[]) i hb hr k l (by rw[m];exact Ym hl hb e o λx r=>h x (List.mem_append_left _ r)) n
section
variable {H:Type}{enc:TypeId×Value->H}{P:Program}{W:World}{base:Nat}
theorem zGG{t e:TypeId}{a:Addr}{len cap:Nat}(d:P.underlying t=some (.slice e))(c:Value.okWide P W .any base t (.slice (some a) len cap)):a.spot=none/\∃cs e fz,W.heap[a.block]? = some (.cells cs e fz):=by
 simp only[Value.okWide,d,Cell.okWide,Cell.ok]at c;obtain⟨_,_,_,f,row,cells,b,_⟩:=c;refine⟨f,?_⟩;unfold World.shape? at b;split at b
 .rename_i cs e fz g;exact⟨cs,e,fz,g⟩
 cases b
theorem zRU{t e:TypeId}{v:Value}{d:DataW H}{p:List MemPlace}(k:P.underlying t=some (.slice e))(s:P.underlying e=some (.int .i64))(u:P.cellsOf e=1)(r:Value.okWide P W .any base t v)(h:DataW.Trod enc P W 0 (λ_=>true) true t v d p):
  ∃zs:Ub,Rd W v 1 zs.length (zs.map λn=>V.int .i64 n)/\zs.length<9223372036854775808:=by
 obtain⟨a0,l0,j,rfl⟩:=okWide_slice k r;obtain⟨f,w⟩:=h;have l:DataW.trod enc P W 0 (λ_=>true) true f t [.slice a0 l0 j]=some (d,p):=by simpa [Value.cells]using w
 rcases open_ints k s u l with⟨m,y⟩|⟨a,len,cap,zs,m,_,hl,hm,A,y,c,E⟩
 .cases m;exact⟨[],⟨rfl,.inl ⟨rfl,rfl⟩⟩,db⟩
 cases m;have B:zs.length=j:=by simpa using A
 obtain⟨o,cs,e,fz,hb⟩:=zGG k r;obtain⟨b,off,sp⟩:=a;cases o;have g:(zs.take l0).length=l0:=by simp;omega
 have C:j<=2^63-1:=hm;refine⟨zs.take l0,⟨by simp,.inr ⟨b,off,j,cs,e,fz,by rw[g],oy,hb,λi x hi=>?_⟩⟩,oy⟩;rw[oh]at hi;obtain⟨z,h1,rfl⟩:=Option.map_eq_some_iff.1 hi;have q:i<l0:=by have:=(List.getElem?_eq_some_iff.1 h1).1;omega
 have D:zs.getD i 0=z:=by rw[List.getElem?_take_of_lt q]at h1;simp[List.getD,h1]
 have:=c i oy;rw[add_plain,D]at this;simpa [World.cell?,hb,V.conc]using this
end
end Go.Sim
namespace Go.Sim
variable (P:Program) (c:Ctx)
variable {P c}
end Go.Sim
namespace Go.Sim
theorem zb{n:Nat}(h:n<18446744073709551616):zU .u64 (n:Int)=(n:Int):=by rw[xk];simp only[IntKind.wrap,IntKind.bits,IntKind.signed];simp;omega
theorem JY{n:Nat}:zU .u8 (n:Int)=((n % 256:Nat):Int):=by rw[xk];simp only[IntKind.wrap,IntKind.bits,IntKind.signed];simp
theorem zCk{n:Nat}(h:n<18446744073709551616):IntKind.u64.wrap (n:Int)=(n:Int):=by rw[<-xk];exact zb h
theorem zCj{n:Nat}(h:n<9223372036854775808):IntKind.i64.wrap (n:Int)=(n:Int):=by rw[<-xk];exact zD (Int.le_trans db (Int.natCast_nonneg _)) (Int.ofNat_lt.2 h)
theorem ZK{a n:Nat}(b:n<=64)(h:a*2^n<18446744073709551616):zj .shl .u64 (a:Int) (n:Int)=some (.int .u64 ((a*2^n:Nat):Int)):=by
 show cond (ltF (n:Int) 0) none (some (V.int .u64 (zU .u64 (zP9 (a:Int) (cond (Nat.ble n 64) n 64)))))=_;rw[oG b,oS,xa,zDr];have c:decide ((n:Int)<0)=false:=by simp
 rw[c,oT];have e:(a:Int)*2^n=((a*2^n:Nat):Int):=by rw[Int.natCast_mul,Int.natCast_pow];rfl
 rw[e,zb h]
theorem zz{a n:Nat}(b:n<=64)(h:a*2^n<9223372036854775808):zj .shl .i64 (a:Int) (n:Int)=some (dd ((a*2^n:Nat):Int)):=by
 show cond (ltF (n:Int) 0) none (some (dd (zU .i64 (zP9 (a:Int) (cond (Nat.ble n 64) n 64)))))=_;rw[oG b,oS,xa,zDr];have c:decide ((n:Int)<0)=false:=by simp
 rw[c,oT];have e:(a:Int)*2^n=((a*2^n:Nat):Int):=by rw[Int.natCast_mul,Int.natCast_pow];rfl
 rw[e];exact congrArg _ (congrArg _ (zD (Int.le_trans db (Int.natCast_nonneg _)) (Int.ofNat_lt.2 h)))
theorem YL{a n:Nat}(h:n<=64:=by omega):zj .shr .u64 (a:Int) (n:Int)=some (.int .u64 ((a/2^n:Nat):Int)):=by
 show cond (ltF (n:Int) 0) none (some (V.int .u64 (zHv (a:Int) (cond (Nat.ble n 64) n 64))))=_;rw[oG h,oS,xa];have b:decide ((n:Int)<0)=false:=by simp
 rw[b,oT];congr 2;show Int.ofNat (Nat.shiftRight a n)=_;rw[show Nat.shiftRight a n=a >>> n from rfl,Nat.shiftRight_eq_div_pow];rfl
theorem kJ{a n:Nat}(h:n<=64):zj .shr .i64 (a:Int) (n:Int)=some (dd ((a/2^n:Nat):Int)):=by
 show cond (ltF (n:Int) 0) none (some (dd (zHv (a:Int) (cond (Nat.ble n 64) n 64))))=_;rw[oG h,oS,xa];have b:decide ((n:Int)<0)=false:=by simp
 rw[b,oT];congr 2;show Int.ofNat (Nat.shiftRight a n)=_;rw[show Nat.shiftRight a n=a >>> n from rfl,Nat.shiftRight_eq_div_pow];rfl
theorem wJ{w n:Nat}(h:n<2^w):(BitVec.ofInt w (n:Int)).toNat=n:=by rw[BitVec.ofInt_natCast,BitVec.toNat_ofNat,ou h]
theorem zD2{a b:Nat}(hb:b<18446744073709551616)(c:a<18446744073709551616:=by omega):zj .or .u64 (a:Int) (b:Int)=some (.int .u64 ((a ||| b:Nat):Int)):=by show some (V.int .u64 (IntKind.u64.wrap (((BitVec.ofInt 64 (a:Int) ||| BitVec.ofInt 64 (b:Int)).toNat:Nat):Int)))=_;rw[BitVec.toNat_or,wJ (show a<2^64 from c),wJ (show b<2^64 from hb)];rw[zCk (show a ||| b<2^64 from Nat.or_lt_two_pow c hb)]
theorem zEV{a b:Nat}(c:a<18446744073709551616)(hb:b<18446744073709551616):zj .and .u64 (a:Int) (b:Int)=some (.int .u64 ((a &&& b:Nat):Int)):=by show some (V.int .u64 (IntKind.u64.wrap (((BitVec.ofInt 64 (a:Int) &&& BitVec.ofInt 64 (b:Int)).toNat:Nat):Int)))=_;rw[BitVec.toNat_and,wJ (show a<2^64 from c),wJ (show b<2^64 from hb)];rw[zCk (Nat.lt_of_le_of_lt Nat.and_le_left c)]
theorem qt{a b:Nat}(c:a<9223372036854775808)(hb:b<9223372036854775808):zj .and .i64 (a:Int) (b:Int)=some (dd ((a &&& b:Nat):Int)):=by show some (dd (IntKind.i64.wrap (((BitVec.ofInt 64 (a:Int) &&& BitVec.ofInt 64 (b:Int)).toNat:Nat):Int)))=_;rw[BitVec.toNat_and,wJ (show a<2^64 by omega),wJ (show b<2^64 by omega)];rw[zCj (Nat.lt_of_le_of_lt Nat.and_le_left c)]
theorem wz(a n:Nat):a &&& (2^n-1)=a % 2^n:=Nat.and_two_pow_sub_one_eq_mod a n
theorem zAS{a b i:Nat}(h:a<2^i):a ||| b*2^i=a+b*2^i:=by rw[Nat.mul_comm,Nat.or_comm,<-Nat.two_pow_add_eq_or_of_lt h];omega
def wQ:Ua->Nat
 | []=>0
 | b::l=>b.toNat+256*wQ l
theorem Y8(l:Ua):wQ l<256^l.length:=by
 induction l with
 | nil=>simp[wQ]
 | cons b l ih=>have hb:=b.toNat_lt;simp only[wQ,og,Nat.pow_succ];omega
theorem zPs(l:Ua)(b:UInt8):wQ (l++[b])=wQ l+b.toNat*256^l.length:=by
 induction l with
 | nil=>simp[wQ]
 | cons a l ih=>simp only[List.cons_append,wQ,ih,og,Nat.pow_succ];rw[Nat.mul_add,<-Nat.add_assoc];congr 1;rw[Nat.mul_comm 256,Nat.mul_assoc]
variable (P:Program) (c:Ctx)
def zVt(fi:FI)(k:H->Prop):AX->St->Prop
 | .normal,s=>s.dfr=[]/\(match leave c fi.results s.tm s.heap fi.results []with|some _=>k s.heap|none=>False)
 | .ret,s=>s.dfr=[]/\(match leave c fi.results s.tm s.heap fi.results []with|some _=>k s.heap|none=>False)
 | _,_=>False
def RV(n f:Nat)(args:Ug)(h:H)(k:H->Prop):Prop :=
 ∃fi,(c.fn.get f).map xG=some fi/\args.length<=fi.n/\fi.n<=511/\fi.n≠n/\wpC P c false fi.body ⟨fi.n,ze args 0 (Tb.leaf zC),[],h⟩ (zVt c fi k)
def zYG(n:Nat):List AD->H->(H->Prop)->Prop
 | [],h,k=>k h
 | [.fn f cap args],h,k=>RV P c n f (args++cap) h k
 | _,_,_=>False
def endQ(fi:FI)(Q:Uc)(s:St)(h:H):Prop:=match leave c fi.results s.tm h fi.results []with|some vs=>Q (yP vs) h|none=>False
def endW1(fi:FI)(Q:Uc):AX->St->Prop
 | .normal,s=>zYG P c fi.n s.dfr s.heap (endQ c fi Q s)
 | .ret,s=>zYG P c fi.n s.dfr s.heap (endQ c fi Q s)
 | _,_=>False
variable {P c}
open Classical in
def ih2(a b:Ue):Bool->Code->St->Option Out:=λx y z=>match a x y z with|some o=>some o|none=>b x y z
theorem zWL{a b:Ue}(d:jU P a)(hb:jU P b):jU P (ih2 a b):=by
 intro rd code s x f e;unfold ih2 at e;cases h:a rd.isSome code s with
 | some o=>rw[h]at e;simp only[oA]at e;subst e;exact d _ _ _ _ _ h
 | none=>rw[h]at e;exact hb _ _ _ _ _ e
theorem zQi{b:Bool}{code:Code}{s s':St}{x:AX}{d:Bool}{e:Code}{a:St}(h:a.n≠s.n):ih1 b code s x s' d e a=none:=by unfold ih1;rw[if_neg];rintro⟨_,_,rfl⟩;exact h rfl
theorem RF.enterD(ok:CtxOK P c){f:Nat}{fi:FI}{args:Ug}{h:H}{Q:Uc}(t:(c.fn.get f).map xG=some fi)(I:args.length<=fi.n)(J:fi.n<=511)(K:wpC P c false fi.body ⟨fi.n,ze args 0 (Tb.leaf zC),[],h⟩ (endW1 P c fi Q)):RF P c f args h Q:=by
 rcases x:c.fn.get f with _|a
 .rw[x]at t;cases t
 rw[x]at t;simp only[oo,oA]at t;subst t;obtain⟨e,s1,h1,z⟩:=RC.of_wp ok a.body K;have A:∀ih,ih false a.body ⟨a.n,ze args 0 (Tb.leaf zC),[],h⟩=some (.done e s1)->ka ih a args h=some (.done e s1):=by
  intro ih k;unfold ka;have B:Nat.ble (wM args 0) a.n=true:=by rw[zFE];exact oG I
  have j:Nat.ble a.n 511=true:=oG J;rw[B,j];exact k
 have m:=Ov false a.body ⟨a.n,ze args 0 (Tb.leaf zC),[],h⟩ e s1;have n:jU P (ih1 false a.body ⟨a.n,ze args 0 (Tb.leaf zC),[],h⟩ e s1):=Ox h1;have last:∀(ih:Ue) (h':H),jU P ih->ih false a.body ⟨a.n,ze args 0 (Tb.leaf zC),[],h⟩=some (.done e s1)->xi (Zl c ih) s1.dfr s1.heap=some h'->endQ c (xG a) Q s1 h'->(e = .normal\/e = .ret)->RF P c f args h Q:=by
  intro ih h' hih k q s y;unfold endQ at s;change (match leave c a.results s1.tm h' a.results []with|some vs=>Q (yP vs) h'|none=>False)at s;rcases hl:leave c a.results s1.tm h' a.results [] with _|vs
  .rw[hl]at s;exact s.elim
  rw[hl]at s;refine⟨yP vs,h',⟨⟨a,x⟩,Zm ok hih ?_⟩,s⟩;have o:zEh c ih a s1=some (.ret (yP vs) h'):=by unfold zEh;rw[q];show(match leave c a.results s1.tm h' a.results []with|some vs=>some (CallOut.ret (yP vs) h')|none=>none)=_;rw[hl]
  unfold zBk;rw[x];simp only[A ih k];rcases y with rfl|rfl<;>exact o
 have fin:zYG P c a.n s1.dfr s1.heap (endQ c (xG a) Q s1)->(e = .normal\/e = .ret)->RF P c f args h Q:=by
  intro q y;cases hs:s1.dfr with
  | nil=>rw[hs]at q;exact last _ s1.heap n m (by rw[hs];rfl) q y
  | cons d l =>
   rw[hs]at q;cases d with
   | coll id=>cases l<;>exact q.elim
   | fn g cap as =>
    cases l with
    | cons d2 l=>exact q.elim
    | nil =>
     obtain⟨R,u,L,M,N,O⟩:=q;rcases r:c.fn.get g with _|b
     .rw[r]at u;cases u
     rw[r]at u;simp only[oo,oA]at u;subst u;obtain⟨j,i,r1,r2⟩:=RC.of_wp ok b.body O;have p:=Ov false b.body ⟨b.n,ze (as++cap) 0 (Tb.leaf zC),[],s1.heap⟩ j i;have hih:jU P (ih2 (ih1 false a.body ⟨a.n,ze args 0 (Tb.leaf zC),[],h⟩ e s1) (ih1 false b.body ⟨b.n,ze (as++cap) 0 (Tb.leaf zC),[],s1.heap⟩ j i)):=zWL n (Ox r1);have E:ih2 (ih1 false a.body ⟨a.n,ze args 0 (Tb.leaf zC),[],h⟩ e s1) (ih1 false b.body ⟨b.n,ze (as++cap) 0 (Tb.leaf zC),[],s1.heap⟩ j i) false a.body ⟨a.n,ze args 0 (Tb.leaf zC),[],h⟩=some (.done e s1):=by unfold ih2;rw[m]
     have F:ih2 (ih1 false a.body ⟨a.n,ze args 0 (Tb.leaf zC),[],h⟩ e s1) (ih1 false b.body ⟨b.n,ze (as++cap) 0 (Tb.leaf zC),[],s1.heap⟩ j i) false b.body ⟨b.n,ze (as++cap) 0 (Tb.leaf zC),[],s1.heap⟩=some (.done j i):=by unfold ih2;rw[zQi (show b.n≠a.n from N)];exact p
     generalize ih2 (ih1 false a.body ⟨a.n,ze args 0 (Tb.leaf zC),[],h⟩ e s1) (ih1 false b.body ⟨b.n,ze (as++cap) 0 (Tb.leaf zC),[],s1.heap⟩ j i)=ih at hih E F;have v:ka ih b (as++cap) s1.heap=some (.done j i):=by
      unfold ka;have B:Nat.ble (wM (as++cap) 0) b.n=true:=by rw[zFE];exact oG L
      have j:Nat.ble b.n 511=true:=oG M;rw[B,j];exact F
     have call:∀(G:i.dfr=[]) (w:match leave c b.results i.tm i.heap b.results []with|some _=>endQ c (xG a) Q s1 i.heap|none=>False),(j = .normal\/j = .ret)->RF P c f args h Q:=by
      intro G w C;rcases hl:leave c b.results i.tm i.heap b.results [] with _|vs
      .rw[hl]at w;exact w.elim
      rw[hl]at w;have o:Go.Sim.endD c b i=some (.ret (yP vs) i.heap):=by unfold Go.Sim.endD;rw[G];simp only[hl]
      have D:Zl c ih g (as++cap) s1.heap=some (.ret (yP vs) i.heap):=by unfold Zl;rw[r];simp only[v];rcases C with rfl|rfl<;>exact o
      refine last ih i.heap hih E ?_ w y;rw[hs];show(match Zl c ih g (as++cap) s1.heap with|some (.ret _ h')=>xi (Zl c ih) [] h'|_=>none)=_;rw[D];rfl
     cases j with
     | normal=>exact call r2.1 r2.2 (.inl rfl)
     | ret=>exact call r2.1 r2.2 (.inr rfl)
     | _=>exact r2.elim
 cases e with
 | normal=>exact fin z (.inl rfl)
 | ret=>exact fin z (.inr rfl)
 | _=>exact z.elim
theorem RF.enterDE(ok:CtxOK P c){f:Nat}{fi:FI}{args:Ug}{h:H}{Q:Uc}{w:Prop}(a:(c.fn.get f).map xG=some fi)(b:args.length<=fi.n)(d:fi.n<=511)(e:wpC P c false fi.body ⟨fi.n,ze args 0 (Tb.leaf zC),[],h⟩ (endW1 P c fi Q)=w)(g:w):RF P c f args h Q:=RF.enterD ok a b d (e ▸ g)
end Go.Sim
namespace Go.Sim
open Go (Code Oper Op)
def nEx(i:Nat):Code->Nat
 | .seq a b=>nEx i a+nEx i b
 | .cond _ a b=>nEx i a+nEx i b
 | .block _ b=>nEx i b
 | .scope b=>nEx i b
 | .exit j=>cond (Nat.beq i j) 1 0
 | _=>0
def zOF:List Oper->Nat
 | []=>1
 | o::l=>match o.op with
  | .pick ..=>2*zOF l
  | _=>zOF l
def zAJ:Code->Nat
 | .region _ ops _=>zOF ops.toList
 | .seq a b=>zAJ a*zAJ b
 | .cond _ a b=>zAJ a+zAJ b
 | .block i b=>zAJ b+nEx i b
 | .scope b=>zAJ b
 | .exit _=>0
 | .ret=>0
 | _=>1
def zZ5{α:Type}:List α->Nat
 | []=>0
 | _::l=>zZ5 l+1
def zFM:Code->Nat
 | .region _ ops _=>zZ5 ops.toList
 | .seq a b=>zFM a+zFM b
 | .cond _ a b=>zFM a+zFM b
 | .block _ b=>zFM b
 | .scope b=>zFM b
 | .loop b=>zFM b
 | _=>0
def zNf(c:Nat)(a b:Code):Bool:=cond (Nat.ble 2 (zAJ a)) (Nat.ble c (zFM b)) false
def sealK(a:Uf)(k:St->Prop):St->Prop:=λs=>∀b,zAi s.tm b a (k ⟨s.n,b,s.dfr,s.heap⟩)
theorem KK{a:Uf}{k:St->Prop}{s:St}(h:sealK a k s):k s:=zC5 (h s.tm)
theorem zHs{tm a:Tm}{q b:Prop}(c:q->b):∀{l:Uf},zAi tm a l q->zAi tm a l b:=by
 intro l;induction l with
 | nil=>exact c
 | cons t l ih=>exact λh e=>ih (h e)
theorem XV{a:Uf}{k k':St->Prop}(c:∀s,k s->k' s){s:St}(h:sealK a k s):sealK a k' s:=λb=>zHs (c _) (h b)
variable (P:Program) (c:Ctx)
def wpS(a:Uf)(d:Nat)(b:Bool):Code->St->Ud->Prop
 | .seq x y,s,Q=>wpS a d b x s (thenC (cond (zNf d x y) (sealK a λs1=>wpS a d b y s1 Q) (λs1=>wpS a d b y s1 Q)) Q)
 | .cond o x y,s,Q=>match zx s.tm o with
  | some v=>wO v λt=>match t with|true=>wpS a d b x s Q|false=>wpS a d b y s Q
  | none=>False
 | .block id x,s,Q=>wpS a d b x s (λe s1=>Q (exitB id e) s1)
 | .scope x,s,Q=>wpS a d b x s Q
 | .loop x,s,Q=>sealK a (λs1=>wpC P c b (.loop x) s1 Q) s
 | .rangeFunc f ps g body,s,Q=>sealK a (λs1=>RC P b (.rangeFunc f ps g body) s1 Q) s
 | x,s,Q=>wpC P c b x s Q
variable {P c}
theorem zAu{k k':St->Prop}{Q Q':Ud}(h1:∀s,k s->k' s)(a:∀x s,Q x s->Q' x s):∀x s,thenC k Q x s->thenC k' Q' x s:=by intro x s h;cases x<;>first|exact h1 _ h|exact a _ _ h
theorem zQC{d:Uf}{j:Nat}{b:Bool}:∀(code:Code) {s:St}{Q Q':Ud},(∀x s',Q x s'->Q' x s')->wpS P c d j b code s Q->wpS P c d j b code s Q':=by
 intro code;induction code with
 | seq x y i g =>
  intro s Q Q' a h;refine i (zAu (λs1 h1=>?_) a) h;revert h1;cases zNf j x y with
  | true=>exact λh1=>XV (k:=λs1=>wpS P c d j b y s1 Q) (λ_ h=>g a h) h1
  | false=>exact λh1=>g a h1
 | cond o x y i g =>
  intro s Q Q' a h;simp only[wpS]at h ⊢;rcases l:zx s.tm o with _|v
  .rw[l]at h;exact h
  rw[l]at h;refine qd (λt m=>?_) h;cases t with
  | true=>exact i a m
  | false=>exact g a m
 | block id x ih=>intro s Q Q' a h;exact ih (λe s1=>a _ _) h
 | scope x ih=>intro s Q Q' a h;exact ih a h
 | loop x ih=>intro s Q Q' a h;exact XV (λ_ h=>ZM _ a h) h
 | rangeFunc f ps n body=>intro s Q Q' a h;exact XV (λ_ h=>RC.mono h a) h
 | _=>intro s Q Q' a h;exact ZM _ a h
theorem Yc{d:Uf}{g:Nat}{b:Bool}:∀(code:Code) {s:St}{Q:Ud},wpS P c d g b code s Q->wpC P c b code s Q:=by
 intro code;induction code with
 | seq x y e a =>
  intro s Q h;refine ZM x (zAu (λs1 h1=>?_) λ_ _ h=>h) (e h);revert h1;cases zNf g x y with
  | true=>exact λh1=>a (KK (k:=λs1=>wpS P c d g b y s1 Q) h1)
  | false=>exact λh1=>a h1
 | cond o x y e a =>
  intro s Q h;simp only[wpS,wpC]at h ⊢;rcases i:zx s.tm o with _|v
  .rw[i]at h;exact h
  rw[i]at h;refine qd (λt j=>?_) h;cases t with
  | true=>exact e j
  | false=>exact a j
 | block id x ih=>intro s Q h;exact ih h
 | scope x ih=>intro s Q h;exact ih h
 | loop x ih=>intro s Q h;exact KK h
 | rangeFunc f ps l body=>intro s Q h;exact KK h
 | _=>intro s Q h;exact h
theorem wpS.slt{a:Uf}{d:Nat}{b:Bool}{code:Code}{s:St}{Q:Ud}{w:Prop}(e:wpS P c a d b code s (zp a Q)=w)(h:w):wpS P c a d b code s Q:=zQC _ (λ_ _=>zC6) (e ▸ h)
theorem wpC.sealS{a:Uf}{d:Nat}{b:Bool}{code:Code}{s:St}{Q:Ud}{w:Prop}(e:wpS P c a d b code s (zp a Q)=w)(h:w):wpC P c b code s Q:=Yc _ (wpS.slt e h)
theorem RF.enterS(ok:CtxOK P c){a:Uf}{b:Nat}{f:Nat}{fi:FI}{args:Ug}{h:H}{Q:Uc}{w:Prop}(d:(c.fn.get f).map xG=some fi)(g:args.length<=fi.n)(i:fi.n<=511)(e:wpS P c a b false fi.body ⟨fi.n,ze args 0 (Tb.leaf zC),[],h⟩ (endW c fi Q)=w)(j:w):RF P c f args h Q:=RF.enter ok d g i (Yc _ (e ▸ j))
theorem RF.enterDS(ok:CtxOK P c){a:Uf}{b:Nat}{f:Nat}{fi:FI}{args:Ug}{h:H}{Q:Uc}{w:Prop}(d:(c.fn.get f).map xG=some fi)(g:args.length<=fi.n)(i:fi.n<=511)(e:wpS P c a b false fi.body ⟨fi.n,ze args 0 (Tb.leaf zC),[],h⟩ (endW1 P c fi Q)=w)(j:w):RF P c f args h Q:=RF.enterD ok d g i (Yc _ (e ▸ j))
end Go.Sim
namespace Go.Sim
abbrev Kn:=List (Nat×V)
def lk:Kn->Nat->Ui
 | [],_=>none
 | p::l,t=>cond (Nat.beq p.1 t) (some p.2) (lk l t)
def Has(tm:Tm):Kn->Prop
 | []=>True
 | p::l=>zI tm p.1=p.2/\Has tm l
theorem Has.nil{tm:Tm}:Has tm []:=trivial
theorem Has.get{tm:Tm}:∀{l:Kn}{t:Nat}{v:V},Has tm l->lk l t=some v->zI tm t=v
 | p::l,t,v,h,e=>by
  unfold lk at e;cases hb:Nat.beq p.1 t with
  | true=>rw[hb,oS]at e;rw[<-oL hb,h.1];exact Option.some.inj e
  | false=>rw[hb,oT]at e;exact Has.get h.2 e
def zW:Tm->Kn->Tm
 | tm,[]=>tm
 | tm,p::l=>zW (Tb.set tm p.1 p.2) l
theorem xn:∀{l:Kn}{tm:Tm},Has tm l->(l.all λp=>Nat.blt p.1 511)=true->zW tm l=tm
 | [],_,_,_=>rfl
 | p::l,tm,h,a=>by rw[List.all_cons,oM]at a;show zW (Tb.set tm p.1 p.2) l=tm;rw[xw ((zY _ _).1 a.1) h.1];exact xn h.2 a.2
theorem Has.sub{tm:Tm}{l:Kn}(h:Has tm l):∀{l':Kn},(l'.map λp=>lk l p.1)=(l'.map λp=>some p.2)->Has tm l'
 | [],_=>trivial
 | p::l',e=>by rw[List.map_cons,List.map_cons]at e;exact⟨h.get (List.cons.inj e).1,h.sub (List.cons.inj e).2⟩
abbrev kk(t:Nat):Nat×Ui:=(t,none)
abbrev ss(t:Nat)(v:V):Nat×Ui:=(t,some v)
def kB(tm a:Tm):List (Nat×Ui)->Prop->Prop
 | [],q=>q
 | (t,some v)::l,q=>zI a t=v->kB tm a l q
 | (t,none)::l,q=>zI a t=zI tm t->kB tm a l q
def kz(L:Uf)(ch:Kn):List (Nat×Ui):=L.map λt=>(t,lk ch t)
def kp(L:Uf)(ch:Kn):Kn->Kn
 | []=>[]
 | p::l=>cond (Xs p.1 L && (lk ch p.1).isNone) (p::kp L ch l) (kp L ch l)
def fl(ch r:Kn):Uf->Kn
 | []=>r
 | t::L=>match lk ch t with
  | some v=>(t,v)::fl ch r L
  | none=>fl ch r L
theorem zEk{tm a:Tm}{ch:Kn}{q:Prop}:∀{L:Uf},((∀t∈L,zI a t=(lk ch t).getD (zI tm t))->q)->kB tm a (kz L ch) q
 | [],h=>h λ_ m=>(by cases m)
 | t::L,h=>by
  show kB tm a ((t,lk ch t)::kz L ch) q;have key:∀e:zI a t=(lk ch t).getD (zI tm t),kB tm a (kz L ch) q:=λe=>zEk λk=>h λs m=>(oq.1 m).elim (λg=>by rw[g];exact e) (k s)
  cases e:lk ch t with
  | some v=>exact λg=>key (by rw[e];exact g)
  | none=>exact λg=>key (by rw[e];exact g)
theorem zFL{n:Nat}:∀{L:Uf},Xs n L=true->n∈L
 | m::L,h=>by
  unfold Xs at h;cases e:Nat.beq n m with
  | true=>rw[oL e];exact List.mem_cons_self
  | false=>rw[e,oT]at h;exact oN _ (zFL h)
theorem hfl{a :Tm}{ch r:Kn}{f:Nat->V}(hr:Has a r):∀{L:Uf},(∀t∈L,zI a t=(lk ch t).getD (f t))->Has a (fl ch r L)
 | [],_=>hr
 | t::L,k=>by
  have ih:=hfl (L:=L) hr λs m=>k s (oN _ m)
  unfold fl;cases e:lk ch t with
  | some v=>exact⟨by have:=k t List.mem_cons_self;rw[e]at this;exact this,ih⟩
  | none=>exact ih
theorem hkp{tm a:Tm}{L:Uf}{ch:Kn}(k:∀t∈L,zI a t=(lk ch t).getD (zI tm t)):∀{l:Kn},Has tm l->Has a (kp L ch l)
 | [],_=>trivial
 | p::l,h=>by
  have ih:=hkp (l:=l) k h.2;unfold kp;cases e:Xs p.1 L && (lk ch p.1).isNone with
  | true=>rw[oM]at e;refine⟨?_,ih⟩;have:=k p.1 (zFL e.1);rw[Option.isNone_iff_eq_none.1 e.2]at this;exact this.trans h.1
  | false=>exact ih
theorem Has.on{tm:Tm}{l:Kn}{L:Uf}{ch:Kn}{q:Tm->Prop}(hs:Has tm l)(h:∀a,Has a (fl ch (kp L ch l) L)->q a):∀a,kB tm a (kz L ch) (q a):=λa=>zEk λk=>h a (hfl (hkp k hs) k)
theorem zAj{tm a:Tm}{q:Prop}:∀{L:Uf},((∀t∈L,zI a t=zI tm t)->q)->zAi tm a L q
 | [],h=>h λ_ m=>(by cases m)
 | t::L,h=>λe=>zAj λk=>h λs m=>(oq.1 m).elim (λg=>by rw[g];exact e) (k s)
theorem Has.slt{tm:Tm}{l:Kn}{b:Uf}{Q:Ud}{x:AX}{n:Nat}{d:List AD}{c:H}(hs:Has tm l)(h:∀a,Has a (kp b [] l)->Q x ⟨n,a,d,c⟩):zp b Q x ⟨n,tm,d,c⟩:=λa=>zAj λk=>h a (hkp (ch:=[]) k hs)
theorem Has.sealK{tm:Tm}{l:Kn}{b:Uf}{K:St->Prop}{n:Nat}{d:List AD}{c:H}(hs:Has tm l)(h:∀a,Has a (kp b [] l)->K ⟨n,a,d,c⟩):sealK b K ⟨n,tm,d,c⟩:=λa=>zAj λk=>h a (hkp (ch:=[]) k hs)
variable {P:Program}{c:Ctx}
theorem wpS.at{a:Uf}{g:Nat}{b:Bool}{code:Code}{n:Nat}{tm:Tm}{d:List AD}{h:H}{Q:Ud}{l l':Kn}{w:Prop}(hs:Has tm l)(e:wpS P c a g b code ⟨n,zW tm l',d,h⟩ (zp a Q)=w)(f:(l'.map λp=>lk l p.1)=(l'.map λp=>some p.2))(i:(l'.all λp=>Nat.blt p.1 511)=true)(j:w):wpS P c a g b code ⟨n,tm,d,h⟩ Q:=by rw[xn (hs.sub f) i]at e;exact wpS.slt e j
theorem wpC.at{a:Uf}{g:Nat}{b:Bool}{code:Code}{n:Nat}{tm:Tm}{d:List AD}{h:H}{Q:Ud}{l l':Kn}{w:Prop}(hs:Has tm l)(e:wpS P c a g b code ⟨n,zW tm l',d,h⟩ (zp a Q)=w)(f:(l'.map λp=>lk l p.1)=(l'.map λp=>some p.2))(i:(l'.all λp=>Nat.blt p.1 511)=true)(j:w):wpC P c b code ⟨n,tm,d,h⟩ Q :=
 Yc _ (wpS.at hs e f i j)
abbrev Gz(L:Uf)(tm:Tm)(ch:Kn)(q:Tm->Prop):Prop:=∀u,kB tm u (kz L ch) (q u)
abbrev Tx(W:Code->St->Ud->Prop)(r:Code)(q:Ud):AX->St->Prop:=thenC (λs1=>W r s1 q) q
abbrev Kx(W:Code->St->Ud->Prop)(r:Code)(i:Nat)(q:Ud):AX->St->Prop:=λe s1=>thenC (λs1=>W r s1 q) q (exitB i e) s1
abbrev Bz:=List AD->H->Ud->(Kn->AX->H->Prop)->(Kn->Code->H->Prop)->(Kn->Code->H->Ud->Prop)->Ud->Tm->Prop
def Vw0(P2:Program)(C2:Ctx)(a:Nat)(b:Bool)(n:Nat)(L:Uf)(code:Code)(K:Kn):List AD->H->Ud->Tm->Prop:=λd h Q tm=>wpS P2 C2 L a b code ⟨n,zW tm K,d,h⟩ (zp L Q)
def Vw1(P2:Program)(C2:Ctx)(a:Nat)(b:Bool)(n:Nat)(L:Uf)(K:Kn)(B:Bz):List AD->H->Ud->Tm->Prop:=λd h Q tm=>B d h Q (λc e h=>∀u,kB (zW tm K) u (kz L c) (Q e ⟨n,u,d,h⟩)) (λc r h=>∀u,kB (zW tm K) u (kz L c) (wpS P2 C2 L a b r ⟨n,u,d,h⟩ (zp L Q))) (λc r h X=>∀u,kB (zW tm K) u (kz L c) (wpC P2 C2 false (.loop r) ⟨n,u,d,h⟩ X)) (zp L Q) (zW tm K)
def Vz(P2:Program)(C2:Ctx)(a:Nat)(b:Bool)(n:Nat)(L:Uf)(code:Code)(K:Kn)(B:Bz):Prop:=Vw0 P2 C2 a b n L code K=Vw1 P2 C2 a b n L K B
theorem wpS.av{a:Uf}{g:Nat}{b:Bool}{code:Code}{n:Nat}{tm:Tm}{d:List AD}{h:H}{Q:Ud}{l l':Kn}{B:Bz}(hs:Has tm l)(e:Vz P c g b n a code l' B)(f:(l'.map λp=>lk l p.1)=(l'.map λp=>some p.2))(i:(l'.all λp=>Nat.blt p.1 511)=true)(j:B d h Q (λc e h=>∀u,kB tm u (kz a c) (Q e ⟨n,u,d,h⟩)) (λk r h=>∀u,kB tm u (kz a k) (wpS P c a g b r ⟨n,u,d,h⟩ (zp a Q))) (λch r h X=>∀u,kB tm u (kz a ch) (wpC P c false (.loop r) ⟨n,u,d,h⟩ X)) (zp a Q) tm):wpS P c a g b code ⟨n,tm,d,h⟩ Q:=by have q:=congrFun (congrFun (congrFun (congrFun e d) h) Q) tm;unfold Vw0 Vw1 at q;rw[xn (hs.sub f) i]at q;exact wpS.slt q j
theorem wpC.av{a:Uf}{g:Nat}{b:Bool}{code:Code}{n:Nat}{tm:Tm}{d:List AD}{h:H}{Q:Ud}{l l':Kn}{B:Bz}(hs:Has tm l)(e:Vz P c g b n a code l' B)(f:(l'.map λp=>lk l p.1)=(l'.map λp=>some p.2))(i:(l'.all λp=>Nat.blt p.1 511)=true)(j:B d h Q (λc e h=>∀u,kB tm u (kz a c) (Q e ⟨n,u,d,h⟩)) (λk r h=>∀u,kB tm u (kz a k) (wpS P c a g b r ⟨n,u,d,h⟩ (zp a Q))) (λch r h X=>∀u,kB tm u (kz a ch) (wpC P c false (.loop r) ⟨n,u,d,h⟩ X)) (zp a Q) tm):wpC P c b code ⟨n,tm,d,h⟩ Q :=
 Yc _ (wpS.av hs e f i j)
theorem wpC.round{b:Bool}{x:Code}{n:Nat}{tm:Tm}{d:List AD}{h:H}{Q:Ud}(I:Nat->Tm->H->Prop)(k:Nat)(h0:I k tm h)(a:∀k tm h,I k tm h->wpC P c b x ⟨n,tm,d,h⟩ (thenC (λs1=>s1.n=n/\s1.dfr=d/\∃j,j<k/\I j s1.tm s1.heap) Q)):wpC P c b (.loop x) ⟨n,tm,d,h⟩ Q:=⟨I,⟨k,h0⟩,a⟩
theorem j5(i:Nat):exitB i (.exit i) = .normal:=by simp[exitB]
theorem thenC.left{i:Nat}{K I:St->Prop}{R:Ud}{s:St}(h:K s):thenC I (λe s1=>thenC K R (exitB i e) s1) (.exit i) s:=by show thenC K R (exitB i (.exit i)) s;rw[j5];exact h
theorem thenC.out{i:Nat}{K:St->Prop}{R:Ud}{s:St}(h:K s):thenC K R (exitB i (.exit i)) s:=by rw[j5];exact h
section
variable {n m a1 a2 a3 a4:Nat}{tm:Tm}{h:H}{Q:Uc}{v1 v2 v3 v4:V}{body:Code}
theorem endW.r1(h1:zI tm a1=v1)(a:Q v1 h):endW c ⟨n,[.tmp a1],body⟩ Q .ret ⟨m,tm,[],h⟩:=by subst h1;exact a
theorem endW.r2(h1:zI tm a1=v1)(a:zI tm a2=v2)(b:Q (.tuple [v1,v2]) h):endW c ⟨n,[.tmp a1,.tmp a2],body⟩ Q .ret ⟨m,tm,[],h⟩:=by subst h1 a;exact b
theorem endW.r3(h1:zI tm a1=v1)(a:zI tm a2=v2)(b:zI tm a3=v3)(d:Q (.tuple [v1,v2,v3]) h):endW c ⟨n,[.tmp a1,.tmp a2,.tmp a3],body⟩ Q .ret ⟨m,tm,[],h⟩:=by subst h1 a b;exact d
end
theorem leave.tmp{rs l:List ResultVar}{tm:Tm}{h:H}{t:Nat}{v:V}{acc:Ug}{r:Option Ug}(a:zI tm t=v)(hr:leave c rs tm h l (v::acc)=r):leave c rs tm h (.tmp t::l) acc=r:=by subst a;exact hr
theorem leave.cell{rs l:List ResultVar}{tm:Tm}{h:H}{a t:Nat}{p v:V}{acc:Ug}{r:Option Ug}(b:zI tm a=p)(d:zo c t h p=some v)(hr:leave c rs tm h l (v::acc)=r):leave c rs tm h (.cell a t::l) acc=r:=by subst b;show(match zo c t h (zI tm a)with|some v=>leave c rs tm h l (v::acc)|none=>none)=_;rw[d];exact hr
theorem endW.ok{n m:Nat}{rs:List ResultVar}{body:Code}{tm:Tm}{h:H}{vs:Ug}{Q:Uc}(e:leave c rs tm h rs []=some vs)(a:Q (yP vs) h):endW c ⟨n,rs,body⟩ Q .ret ⟨m,tm,[],h⟩:=by show(match leave c rs tm h rs []with|some vs=>Q (yP vs) h|none=>False);rw[e];exact a
def leaveL(c:Ctx)(h:H):List (ResultVar×V)->Ug->Option Ug
 | [],acc=>some acc.reverse
 | (.tmp _,v)::l,acc=>leaveL c h l (v::acc)
 | (.cell _ t,p)::l,acc=>match zo c t h p with
  | some v=>leaveL c h l (v::acc)
  | none=>none
def endL(c:Ctx)(h:H)(l:List (ResultVar×V))(Q:Uc):Prop:=match leaveL c h l []with
 | some vs=>Q (yP vs) h
 | none=>False
theorem leaveL.cell{h:H}{a t:Nat}{p v:V}{l:List (ResultVar×V)}{acc r:Ug}(b:zo c t h p=some v)(hr:leaveL c h l (v::acc)=r):leaveL c h ((.cell a t,p)::l) acc=r:=by show(match zo c t h p with|some v=>leaveL c h l (v::acc)|none=>none)=_;rw[b];exact hr
theorem endL.ok{h:H}{l:List (ResultVar×V)}{vs:Ug}{Q:Uc}(e:leaveL c h l []=some vs)(a:Q (yP vs) h):endL c h l Q:=by unfold endL;rw[e];exact a
theorem ExtX.andThen{S S2:Nat->Prop}{h0 h h':H}{m n:Nat}(a:ExtX S h0 h m)(b:ExtX S2 h h' n)(e:∀b,S2 b->S b\/h0.nx<=b):ExtX S h0 h' (m+n) :=
 ⟨oW a.le b.le,by have:=a.top;have:=b.top;omega,λi hi f=>(b.get i (oO hi a.le) λq=>(e i q).elim f λg=>oy).trans (a.get i hi f),oW b.low a.low,λk h1 d j=>b.lo k (a.lo k h1 d j) (oW d a.le) λi hi=>(e i hi).elim (j i) λg=>oW d g⟩
theorem ExtX.append{h h':H}{v:V}(h1:h.nx<=h'.nx)(a:h'.nx<=h.nx+1)(d:∀b,b<h.nx->yG v≠some b->h'.get b=h.get b)(e:h'.low<=h.low)(f:∀m,m<=h.low->(∀b,yG v=some b->m<=b)->m<=h'.low):ExtX (λb=>yG v=some b) h h' 1 :=
 ⟨h1,a,d,e,λm g _ i=>f m g i⟩
theorem zq{h h':H}{o:O}(e:h'=h.new o)(a:h.nx<T.top:=by omega):h'.nx=h.nx+1/\Ext h h' 1/\h'.get h.nx=some o:=by subst e;exact⟨z8 _ _,Ext.new _ a,zM _ a⟩
end Go.Sim
namespace Go.Sim
structure One (A:V->Ug):Prop where
 conc:∀ρ ρ' v v',V.conc ρ v=V.conc ρ' v'->(A v).map (V.conc ρ)=(A v').map (V.conc ρ')
 get:∀D v,(∀a∈A v,a.In D)->v.In D
 put:∀D v,v.In D->∀a∈A v,a.In D
theorem One.struct{pre post:Ug}(h1:∀a∈pre,Plain a)(c:∀a∈post,Plain a):One λv=>.agg (pre++[v])::post:=by
 refine⟨λρ ρ' v v' e=>?_,λD v h=>?_,λD v h a b=>?_⟩
 .have f:pre.map (V.conc ρ)=pre.map (V.conc ρ'):=List.map_congr_left λa b=>((h1 a b).1 ρ).trans ((h1 a b).1 ρ').symm
  rw[List.map_cons,List.map_cons,List.map_congr_left λa b=>((c a b).1 ρ).trans ((c a b).1 ρ').symm];simp only[V.conc,V.concL_eq,List.map_append,List.map_cons,List.map_nil,e,f]
 .have d:=h _ (List.mem_cons_self ..);simp only[V.In]at d;exact V.InL_iff.1 d v (by simp)
 rcases oq.1 b with rfl|b
 .simp only[V.In];refine V.InL_iff.2 λa b=>?_
  rcases List.mem_append.1 b with b|b
  .exact(h1 a b).2 D
  rw[List.mem_singleton.1 b];exact h
 exact(c a b).2 D
theorem SimF.ro{P:Program}{f:Nat}{A:V->Ug}(u:One A){b o n:Nat}{cp:Cap}{esz:Nat}{xs:Ug}{r:V}{h:H}{cs:Cs}{k:Rk}{w op:Bool}(a:h.get b=some (.cells cs k w op))(G:∀i,i<n*esz->cs.get? (o+i)=xs[i]?)(hl:xs.length=n*esz)(t:∀x∈xs,Plain x)(hr:Plain r)(s:∀cap,∃h1,SimF P f (A (.slice 0 0 n (.exact cap))) (hRO xs) (.ret r h1)):SimF P f (A (.slice b o n cp)) h (.ret r h):=by
 intro ρ D l p y;have z:D b:=by have:=u.get D _ y;simpa [V.In]using this
 obtain⟨c,e,fz,hb,g,_,_⟩:=p.rel b _ z a;obtain⟨h1,s1⟩:=s (cp.val ρ b);have B:HR (zEi (ρ.blk b) (ρ.off b+o)) (λi=>i=0) (hRO xs) l:=by
  refine zYS hb (λi v d=>?_) (λv d=>((t v d).1 _).trans ((t v d).1 _).symm) λv d=>(t v d).2 _
  have hi:i<n*esz:=by have:=(List.getElem?_eq_some_iff.1 d).1;omega
  have:=g (o+i) v (by rw[G i hi];exact d);rw[(t v (List.mem_of_getElem? d)).1 ρ]at this;rw[Nat.add_assoc];exact this
 have E:=s1 _ _ l B (u.put _ _ (by simp[V.In]));rw[u.conc (zEi (ρ.blk b) (ρ.off b+o)) ρ (.slice 0 0 n (.exact (cp.val ρ b))) (.slice b o n cp) (by simp[V.conc,zEi,Cap.val])]at E;refine CallsIn.mono E ?_;rintro M w' ⟨ρ',rfl,m,_,_⟩;have F:∀r,r<l.heap.size->w'.heap[r]? = l.heap[r]?:=λk I=>m.frame k I λj N J a K=>by subst J;rw[Xm]at a;cases a;cases K
 refine⟨ρ,by rw[hr.1 ρ',hr.1 ρ],⟨oV _,m.size,m.os,m.tape,m.output,λ_ _=>⟨rfl,rfl,rfl⟩,λid o' _ a=>⟨o',a,rfl⟩,λid o' O Q _=>oy,λr hr _=>F r hr,oV _,λ_ _ _=>rfl⟩,?_,hr.2 _⟩;rw[X1];refine⟨p.cap,p.lt,λid o L a=>?_,p.inj⟩;have C:=p.rel id o L a;rcases Nat.lt_or_ge (ρ.blk id) l.heap.size with q|q
 .rw[F _ q];exact C
 exfalso;rw[Array.getElem?_eq_none q]at C;cases o<;>simp[ORel]at C
theorem zWk{xs:Ug}{esz n cap:Nat}(hl:xs.length=n*esz):Sl (hRO xs) (.slice 0 0 n (.exact cap)) esz n xs :=
 ⟨hl,.inr ⟨0,0,_,_,_,_,_,rfl,by rw[j6];decide,Xm _,λi _=>by rw[Nat.zero_add];exact Cs.getL_eq xs i⟩⟩
theorem zQf(xs:Ug):(hRO xs).low=T.top:=rfl
theorem RF.ro{P:Program}{c:Ctx}{f:Nat}{A:V->Ug}(l:One A){v r:V}{esz n:Nat}{xs:Ug}{h:H}{Q:Uc}(sl:Sl h v esz n xs)(y:∀x∈xs,Plain x)(hr:Plain r)(rf:∀v0 h0,Sl h0 v0 esz n xs->h0.nx<=1->h0.low=T.top->RF P c f (A v0) h0 λg _=>g=r)(t:Q r h):RF P c f (A v) h Q:=by
 obtain⟨hl,⟨rfl,rfl⟩|⟨b,o,G,cs,k,w,op,rfl,hb,a,z⟩⟩:=sl
 .obtain⟨g,h',⟨d,s⟩,rfl⟩:=rf .nilslice H0 ⟨hl,.inl ⟨rfl,rfl⟩⟩ (oQ _) rfl;refine⟨g,h,⟨d,?_⟩,t⟩;intro ρ D i j B;have h1:=s zDL (λ_=>False) i (Kz _ _) (l.put _ _ (by simp[V.In]));rw[l.conc zDL ρ .nilslice .nilslice (by simp[V.conc])]at h1;refine CallsIn.mono h1 ?_;rintro e w' ⟨ρ',rfl,m,_,_⟩;have u:∀r,r<i.heap.size->w'.heap[r]? = i.heap[r]?:=λk C=>m.frame k C λ_ _ E=>E.elim
  refine⟨ρ,by rw[hr.1 ρ',hr.1 ρ],⟨oV _,m.size,m.os,m.tape,m.output,λ_ _=>⟨rfl,rfl,rfl⟩,λid o' _ a=>⟨o',a,rfl⟩,λid o' I J _=>oy,λr hr _=>u r hr,oV _,λ_ _ _=>rfl⟩,?_,hr.2 _⟩;rw[X1];refine⟨j.cap,j.lt,λid o F a=>?_,j.inj⟩;have p:=j.rel id o F a;rcases Nat.lt_or_ge (ρ.blk id) i.heap.size with q|q
  .rw[u _ q];exact p
  exfalso;rw[Array.getElem?_eq_none q]at p;cases o<;>simp[ORel]at p
 have rs:∀cap,∃h1,(∃fi,c.fn.get f=some fi)/\SimF P f (A (.slice 0 0 n (.exact cap))) (hRO xs) (.ret r h1):=λcap=>by obtain⟨g,h',⟨d,s⟩,rfl⟩:=rf (.slice 0 0 n (.exact cap)) (hRO xs) (zWk hl) (by rw[j6];decide) (zQf _);exact⟨h',d,s⟩
 obtain⟨_,d,_⟩:=rs 0;exact⟨r,h,⟨d,SimF.ro l a z hl y hr λcap=>by obtain⟨h1,_,s⟩:=rs cap;exact⟨h1,s⟩⟩,t⟩
theorem zFX{t:TypeId}{v:V}(h:Plain v):Plain (.iface t v):=⟨λρ=>by simp only[V.conc,h.1 ρ],λD=>by simp only[V.In];exact h.2 D⟩
theorem zD6:Plain .nilptr:=⟨λ_=>by simp[V.conc],λ_=>by simp[V.In]⟩
theorem YD:Plain .nilslice:=⟨λ_=>by simp[V.conc],λ_=>by simp[V.In]⟩
theorem zAV:Plain .nilIface:=⟨λ_=>by simp[V.conc],λ_=>by simp[V.In]⟩
def j9:V->Bool
 | .int _ _=>true
 | .bool _=>true
 | .str _=>true
 | .nilptr=>true
 | .nilslice=>true
 | .nilIface=>true
 | .iface _ v=>j9 v
 | .agg l=>plainL l
 | .tuple l=>plainL l
 | _=>false
where
 plainL:Ug->Bool
  | []=>true
  | v::l=>j9 v && plainL l
mutual
theorem yc:∀{v:V},j9 v=true->Plain v
 | .int _ _,_=>zL _ _
 | .bool _,_=>XQ _
 | .str _,_=>yx _
 | .nilptr,_=>zD6
 | .nilslice,_=>YD
 | .nilIface,_=>zAV
 | .iface _ v,h=>zFX (yc (v:=v) (by simpa [j9]using h))
 | .agg l,h=>xM (zk (l:=l) (by simpa [j9]using h))
 | .tuple l,h=>kE (zk (l:=l) (by simpa [j9]using h))
 | .ptr ..,h=>by simp[j9]at h
 | .slice ..,h=>by simp[j9]at h
 | .map ..,h=>by simp[j9]at h
 | .nilmap,h=>by simp[j9]at h
 | .func ..,h=>by simp[j9]at h
 | .yield ..,h=>by simp[j9]at h
 | .nilFunc,h=>by simp[j9]at h
theorem zk:∀{l:Ug},j9.plainL l=true->∀x∈l,Plain x
 | [],_=>λ_ h=>by cases h
 | v::l,h=>λx a=>by
  simp only[j9.plainL,oM]at h;rcases oq.1 a with e|a
  .rw[e];exact yc h.1
  exact zk h.2 x a
end
theorem jI(l:Ub):∀x∈l.map (λn=>dd n),Plain x:=λx a=>by obtain⟨_,_,rfl⟩:=List.mem_map.1 a;exact zL _ _
open Go (TypeDesc)
def j3:List Ent->Int->Ui
 | [],_=>none
 | e::es,k=>match e.key with
  | .int .i64 n=>if k=n then some e.val else j3 es k
  | _=>j3 es k
def MapI(h:H)(r:Nat)(f:Int->Ui):Prop:=∃es clock,h.get r=some (.map es clock)/\(∀e∈es,∃n,e.key = dd n)/\∀k,j3 es k=f k
theorem YX(a b:Int):Oj a b=decide (a=b):=by
 cases a with
 | ofNat a=>cases b with
  | ofNat b =>
   show Nat.beq a b=_;cases h:Nat.beq a b with
   | true=>rw[oL h];simp
   | false=>have:=Nat.ne_of_beq_eq_false h;exact(decide_eq_false λe=>this (Int.ofNat.inj e)).symm
  | negSucc b=>exact(decide_eq_false λe=>by cases e).symm
 | negSucc a=>cases b with
  | ofNat b=>exact(decide_eq_false λe=>by cases e).symm
  | negSucc b =>
   show Nat.beq a b=_;cases h:Nat.beq a b with
   | true=>rw[oL h];simp
   | false=>have:=Nat.ne_of_beq_eq_false h;exact(decide_eq_false λe=>this (Int.negSucc.inj e)).symm
section
variable {c:Ctx}{t kt et:Nat}{ti tk te:TI}{z:V}
theorem zQU(d:c.ty.get kt=some tk)(f:tk.desc = .int .i64)(a b:Int):J5 c 30 kt (dd a) (dd b)=some (decide (a=b)):=by
 have e:J5 c 30 kt (dd a) (dd b)=some (Oj a b):=by show(match c.ty.get kt with|none=>none|some ti=>_)=_;rw[d];simp only[f];rfl
 rw[e,YX]
theorem J6(o:c.ty.get kt=some tk)(p:tk.desc = .int .i64)(k:Int):∀(es:List Ent) (i:Nat),(∀e∈es,∃n,e.key = dd n) ->
  (j3 es k=none->xe c kt (dd k) es i=some none) /\
  (∀v,j3 es k=some v->∃j e,xe c kt (dd k) es i=some (some (i+j,e))/\e.val=v/\e.key = dd k /\
   ∀v',(∀e∈Yj es j (dd k) v',∃n,e.key = dd n)/\∀k',j3 (Yj es j (dd k) v') k'=if k'=k then some v' else j3 es k')
 | [],i,_=>⟨λ_=>rfl,λv h=>by cases h⟩
 | e::es,i,hi=>by
  obtain⟨n,f⟩:=hi e (List.mem_cons_self ..);have hr:=λe s=>hi e (oN _ s)
  obtain⟨ih1,ih2⟩:=J6 o p k es (i+1) hr;have d:∀k',j3 (e::es) k'=if k'=n then some e.val else j3 es k':=λk'=>by show(match e.key with | .int .i64 n=>_|_=>_)=_;rw[f]
  have q:xe c kt (dd k) (e::es) i=(match some (decide (k=n))with|some true=>some (some (i,e))|some false=>xe c kt (dd k) es (i+1)|none=>none):=by show(match J5 c 30 kt (dd k) e.key with|some true=>_|some false=>_|none=>_)=_;rw[f,zQU o p]
  by_cases l:k=n
  .subst l;refine⟨λh=>?_,λv h=>?_⟩
   .rw[d,if_pos rfl]at h;cases h
   rw[d,if_pos rfl]at h;cases h;refine⟨0,e,by rw[q,decide_eq_true rfl];rfl,rfl,f,λv'=>⟨λu a=>?_,λk'=>?_⟩⟩
   .rcases oq.1 a with rfl|a
    .exact⟨_,rfl⟩
    exact hr _ a
   show(if k'=k then some v' else j3 es k')=_;rw[d];by_cases b:k'=k
   .rw[if_pos b,if_pos b]
   rw[if_neg b,if_neg b,if_neg b]
  have m:xe c kt (dd k) (e::es) i=xe c kt (dd k) es (i+1):=by rw[q,decide_eq_false l]
  refine⟨λh=>?_,λv h=>?_⟩
  .rw[d,if_neg l]at h;rw[m];exact ih1 h
  rw[d,if_neg l]at h;obtain⟨j,w,h1,x,y,r⟩:=ih2 v h;refine⟨j+1,w,by rw[m,h1,Nat.add_assoc,Nat.add_comm 1 j],x,y,λv'=>⟨λu a=>?_,λk'=>?_⟩⟩
  .rcases oq.1 a with rfl|a
   .exact⟨_,f⟩
   exact(r v').1 _ a
  show(match e.key with | .int .i64 n=>if k'=n then some e.val else j3 (Yj es j (dd k) v') k'|_=>_)=_;rw[f];simp only;rw[(r v').2,d];by_cases b:k'=n
  .rw[if_pos b,if_pos b,if_neg (λg=>l (g.symm.trans b))]
  rw[if_neg b,if_neg b]
theorem zKM(es:List Ent)(e:Ent)(k:Int)(h:j3 es k=none):j3 (es++[e]) k=j3 [e] k:=by
 induction es with
 | nil=>rfl
 | cons x es ih =>
  simp only[List.cons_append];unfold j3 at h ⊢;split at h
  .rename_i n b;split at h
   .cases h
   rename_i a;rw[if_neg a];exact ih h
  exact ih h
theorem zHA(es:List Ent)(e:Ent)(k:Int)(v:V)(h:j3 es k=some v):j3 (es++[e]) k=some v:=by
 induction es with
 | nil=>cases h
 | cons x es ih =>
  simp only[List.cons_append];unfold j3 at h ⊢;split at h
  .rename_i n b;split at h
   .rename_i a;rw[if_pos a];exact h
   rename_i a;rw[if_neg a];exact ih h
  exact ih h
theorem zER(a:c.ty.get kt=some tk)(b:tk.desc = .int .i64)(k:Int):Ye c kt (dd k)=true:=by unfold Ye;simp only[a,b]
theorem MapI.look{h:H}{r:Nat}{f:Int->Ui}(m:MapI h r f)(i:c.ty.get t=some ti)(hm:ti.desc = .map kt et)(b:c.ty.get kt=some tk)(d:tk.desc = .int .i64)(l:c.ty.get et=some te)(n:te.zero=some z)(k:Int)(ok:Bool):
  ke c t h (.map r) (dd k) ok=some (match f k with|some v=>qC ok v true|none=>qC ok z false):=by
 obtain⟨es,clock,o,hi,g⟩:=m;obtain⟨p,q⟩:=J6 b d k es 0 hi;unfold ke zJB;simp only[i,hm,o];unfold X7;rw[zER b d,oS];cases a:f k with
 | none=>rw[p ((g k).trans a)];simp only[l,n]
 | some v=>obtain⟨j,e,h1,s,_⟩:=q v ((g k).trans a);rw[h1];simp only[s]
theorem MapI.upd{h:H}{r:Nat}{f:Int->Ui}(m:MapI h r f)(w:c.ty.get t=some ti)(hm:ti.desc = .map kt et)(o:c.ty.get kt=some tk)(p:tk.desc = .int .i64)(hr:r<T.top)(k:Int)(v:V):
  ∃es clock,Yg c t h (.map r) (dd k) v=some (h.upd r (some (.map es clock)))/\MapI (h.upd r (some (.map es clock))) r (λj=>if j=k then some v else f j):=by
 obtain⟨es,clock,x,hi,d⟩:=m;obtain⟨y,A⟩:=J6 o p k es 0 hi;have q:Yg c t h (.map r) (dd k) v=(match xe c kt (dd k) es 0 with
     | some (some (i,e))=>cond (Zb e.key (dd k)) (some (h.upd r (some (.map (Yj es i (dd k) v) clock)))) none
     | some none=>some (h.upd r (some (.map (es++[⟨dd k,v,clock⟩]) (clock+1))))
     | none=>none):=by
  unfold Yg;simp only[w,hm,x];rw[zER o p,oS];rfl
 cases l:f k with
 | none =>
  have s:=(d k).trans l;refine⟨es++[⟨dd k,v,clock⟩],clock+1,by rw[q,y s],_,_,zF _ hr,λe n=>?_,λb=>?_⟩
  .rcases List.mem_append.1 n with n|n
   .exact hi e n
   rw[List.mem_singleton.1 n];exact⟨_,rfl⟩
  cases a:j3 es b with
  | none =>
   rw[zKM _ _ _ a];show(if b=k then some v else none)=if b=k then some v else f b
   rw[<-d b,a]
  | some v' =>
   rw[zHA _ _ _ _ a];have:b≠k:=λg=>by rw[g,s]at a;cases a
   show some v'=if b=k then some v else f b
   rw[if_neg this,<-d b,a]
 | some v0 =>
  obtain⟨j,e,h1,C,B,u⟩:=A v0 ((d k).trans l);rw[Nat.zero_add]at h1;refine⟨Yj es j (dd k) v,clock,?_,_,_,zF _ hr,(u v).1,λb=>by rw[(u v).2,d]⟩;have:Zb e.key (dd k)=true:=by rw[B];show(wv .i64 .i64 && Oj k k)=true;rw[YX];simp;rfl
  rw[q,h1];simp only[this,oS]
theorem qN{o:Oper}{m:Nat}{e:Uh}{h:H}(a:o.op = .makeMap m none)(b:h.nx<T.top:=by omega):yD c o e h=some (.val (.map h.nx) (h.new (.map [] 0))):=by unfold yD;simp only[a];unfold OB;rw[show Nat.blt h.nx T.top=true from(zY _ _).2 b];rfl
theorem MapI.new{h:H}(a:h.nx<T.top):MapI (h.new (.map [] 0)) h.nx (λ_=>none):=⟨[],0,zM _ a,λ_ h=>(by cases h),λ_=>rfl⟩
theorem MapI.mono{h h':H}{r:Nat}{f:Int->Ui}(m:MapI h r f)(e:h'.get r=h.get r):MapI h' r f:=by obtain⟨es,clock,a,b⟩:=m;exact⟨es,clock,e.trans a,b⟩
end
end Go.Sim
namespace Go.Sim
theorem zPa{a:Int}{n:Nat}(h:n<=64):zj .shr .i64 a (n:Int)=some (dd (a/((2^n:Nat):Int))):=by
 show cond (ltF (n:Int) 0) none (some (dd (zHv a (cond (Nat.ble n 64) n 64))))=_;rw[oG h,oS,xa];have b:decide ((n:Int)<0)=false:=by simp
 rw[b,oT,zJa];have h1:((2:Int)^n)=((2^n:Nat):Int):=by simp
 rw[h1,Int.fdiv_eq_ediv_of_nonneg _ (Int.natCast_nonneg _)]
theorem zDs{a n:Nat}(h:n<=8:=by omega):zj .shr .u8 (a:Int) (n:Int)=some (.int .u8 ((a/2^n:Nat):Int)):=by
 show cond (ltF (n:Int) 0) none (some (V.int .u8 (zHv (a:Int) (cond (Nat.ble n 8) n 8))))=_;rw[oG h,oS,xa];have b:decide ((n:Int)<0)=false:=by simp
 rw[b,oT];congr 2;show Int.ofNat (Nat.shiftRight a n)=_;rw[show Nat.shiftRight a n=a >>> n from rfl,Nat.shiftRight_eq_div_pow];rfl
theorem zQE{n:Nat}(h:n<256):IntKind.u8.wrap (n:Int)=(n:Int):=by rw[<-xk,JY,ou h]
theorem zCw{a b:Nat}(c:a<256)(hb:b<256):zj .and .u8 (a:Int) (b:Int)=some (.int .u8 ((a &&& b:Nat):Int)):=by show some (V.int .u8 (IntKind.u8.wrap (((BitVec.ofInt 8 (a:Int) &&& BitVec.ofInt 8 (b:Int)).toNat:Nat):Int)))=_;rw[BitVec.toNat_and,wJ (show a<2^8 from c),wJ (show b<2^8 from hb)];rw[zQE (Nat.lt_of_le_of_lt Nat.and_le_left c)]
theorem zJH{a b:Nat}(c:a<9223372036854775808:=by omega)(hb:b<9223372036854775808:=by omega):zj .or .i64 (a:Int) (b:Int)=some (dd ((a ||| b:Nat):Int)):=by show some (dd (IntKind.i64.wrap (((BitVec.ofInt 64 (a:Int) ||| BitVec.ofInt 64 (b:Int)).toNat:Nat):Int)))=_;rw[BitVec.toNat_or,wJ (show a<2^64 by omega),wJ (show b<2^64 by omega)];rw[zCj (show a ||| b<2^63 from Nat.or_lt_two_pow c hb)]
theorem KY{a:Int}{n:Nat}(h:0<n):0<a/(n:Int)↔(n:Int)<=a:=by
 constructor
 .intro h1;have d:(1:Int)<=a/(n:Int):=h1;have:=(Int.le_ediv_iff_mul_le (by omega:(0:Int)<n)).1 d;omega
 intro h1;have:=(Int.le_ediv_iff_mul_le (c:=(n:Int)) (a:=1) (b:=a) oy).2 oy;omega
def hi(n:Int):Int:=if 0<n then (n.toNat.log2:Int) else -1
def hiU(n:Int)(i:Nat):Int:=if 0<n/\0<i then ((min n.toNat.log2 (i-1):Nat):Int) else -1
theorem JE(i:Nat):0<2^i:=Nat.pow_pos db
theorem zEx(n:Int)(i:Nat):hiU n (i+1)=if ((2^i:Nat):Int)<=n then (i:Int) else hiU n i:=by
 have d:=JE i;unfold hiU;by_cases h:0<n
 .have a:n.toNat≠0:=oy
  by_cases c:((2^i:Nat):Int)<=n
  .have:i<=n.toNat.log2:=(Nat.le_log2 a).2 oy;rw[if_pos c,if_pos ⟨h,oy⟩];omega
  have:¬i<=n.toNat.log2:=λg=>c (by have:=(Nat.le_log2 a).1 g;omega)
  rw[if_neg c,if_pos ⟨h,oy⟩];by_cases b:0<i
  .rw[if_pos ⟨h,b⟩];omega
  exfalso;omega
 rw[if_neg oy,if_neg oy,if_neg oy]
theorem zWH{n:Int}(h:n<9223372036854775808):hiU n 63=hi n:=by
 unfold hiU hi;by_cases c:0<n
 .have a:n.toNat≠0:=oy
  have:n.toNat.log2<63:=(Nat.log2_lt a).2 oy;rw[if_pos c,if_pos ⟨c,db⟩];omega
 rw[if_neg c,if_neg oy]
theorem zWI{n:Nat}(h:n≠0):hi n=n.log2:=by unfold hi;rw[if_pos oy];rfl
def zT(n:Nat):Nat:=if n=0 then 0 else n.log2+1
theorem Zw(n:Nat):hi n+1=zT n:=by
 unfold zT;by_cases h:n=0
 .subst h;rfl
 rw[zWI h,if_neg h];rfl
theorem jB(n:Nat):n<2^zT n:=by
 unfold zT;split
 .rename_i h;subst h;exact JE _
 exact Nat.lt_log2_self
theorem zAK{n:Nat}(h:n≠0):2^(zT n-1)<=n:=by unfold zT;rw[if_neg h];exact Nat.log2_self_le h
theorem yK{n k:Nat}(h:n<2^k:=by omega):zT n<=k:=by
 unfold zT;split
 .exact oQ _
 rename_i a;exact(Nat.log2_lt a).2 h
theorem zFZ{n:Nat}(h:n≠0:=by omega):n &&& (n-1)=0↔n=2^n.log2:=by
 rw[Nat.and_sub_one_eq_zero_iff_isPowerOfTwo h];constructor
 .rintro⟨k,rfl⟩;rw[Nat.log2_two_pow]
 intro e;exact⟨_,e⟩
def wY(s:Ua)(i:Nat):Nat:=match s[i/8]? with
 | some b=>b.toNat/2^(i % 8) % 2
 | none=>0
theorem Z5(s:Ua)(i:Nat):wY s i<2:=by
 unfold wY;split
 .exact Nat.mod_lt _ db
 decide
theorem Y7{s:Ua}{i:Nat}{b:UInt8}(h:s[i/8]? = some b):wY s i=b.toNat/2^(i % 8) % 2:=by unfold wY;rw[h]
theorem zC4{s:Ua}{i:Nat}(h:8*s.length<=i:=by omega):wY s i=0:=by unfold wY;rw[ov]
def zu(s:Ua)(p:Nat):Nat->Nat
 | 0=>0
 | n+1=>zu s p n+wY s (p+n)*2^n
theorem jE(s:Ua)(p n:Nat):zu s p n<2^n:=by
 induction n with
 | zero=>simp[zu]
 | succ n ih=>have h1:=Z5 s (p+n);have a:wY s (p+n)*2^n<=1*2^n:=Nat.mul_le_mul_right _ oy;show zu s p n+wY s (p+n)*2^n<2^(n+1);rw[Nat.pow_succ];omega
def yI(s:Ua)(left:Nat):Nat->Nat
 | 0=>0
 | n+1=>2*yI s left n+(if n<left then wY s (left-1-n) else 0)
theorem jX(s:Ua)(left n:Nat):yI s left n<2^n:=by
 induction n with
 | zero=>simp[yI]
 | succ n ih =>
  have a:(if n<left then wY s (left-1-n) else 0)<2:=by
   split
   .exact Z5 _ _
   decide
  show 2*yI s left n+_<2^(n+1);rw[Nat.pow_succ];omega
abbrev Qy:=(Nat×Ug)×(H×V)
variable (c:Ctx)
def zC8(o:Oper)(s:St)(a:Ug):Option (List Qy×St×Ug) :=
 match yD c o (zx s.tm) s.heap with
 | some (.val v h)=>match yk s o.dst v h with|some d=>some ([],d,a)|none=>none
 | some (.skip h)=>match yk s o.dst zC h with|some d=>some ([],d,a)|none=>none
 | some (.call f args) =>
  match a with
  | v::b=>match yk s o.dst v s.heap with|some d=>some ([((f,args),(s.heap,v))],d,b)|none=>none
  | []=>none
 | _=>none
def zH5(ops:List Oper):List Oper->St->Ug->Option (List Qy×St)
 | [],s,_=>some ([],s)
 | o::l,s,a =>
  cond (zh ops s.tm o)
   (match zC8 c o s a with
   | some (f,d,b)=>(match zH5 ops l d b with|some (e,g)=>some (f++e,g)|none=>none)
   | none=>none)
   (match yk s o.dst zC s.heap with|some d=>zH5 ops l d a|none=>none)
def Yn(ops : List Oper)(bs : Uf)(m : Nat): Nat -> Nat -> List Oper -> St -> Ug -> Option (List Qy × St)
  | _, _, [], s, _ => some ([], s)
  | 0, _, l, s, vals => zH5 c ops l s vals
  | r + 1, k, o::l, s, vals =>
    cond (zh ops s.tm o)
      (match zC8 c o { s with heap := { s.heap with low := T.top } } vals with
      | some (qs, s', vals') =>
        cond (Nat.ble s.heap.nx s'.heap.low || yq ops bs m k s.tm o)
          (cond (xv s.dfr s'.dfr)
            (match Yn ops bs m r (k + 1) l { s' with heap := { s'.heap with low := cond (Nat.ble s.heap.low s'.heap.low) s.heap.low s'.heap.low } } vals' with|some (qs2, s2) => some (qs ++ qs2, s2)|none => none) none) none
      | none => none)
      (match yk s o.dst zC s.heap with|some s' => Yn ops bs m r (k + 1) l s' vals|none => none)
variable {c}
def Ans(orc:Nat->Ug->H->Option (V×H))(a:List Qy):Prop:=∀q∈a,orc q.1.1 q.1.2 q.2.1=some (q.2.2,q.2.1)
theorem Kj{orc:Nat->Ug->H->Option (V×H)}{rd:Bool}{ih:Ue}{o:Oper}{s s':St}{b d:Ug}{i:List Qy}(e:zC8 c o s b=some (i,s',d))(k:Ans orc i):zc c orc rd ih o s=some (.normal,s'):=by
 unfold zC8 at e;unfold zc;rcases j:yD c o (zx s.tm) s.heap with _|l
 .rw[j]at e;cases e
 rw[j]at e;cases l with
 | val v h =>
  simp only at e ⊢;rcases a:yk s o.dst v h with _|s1
  .rw[a]at e;cases e
  rw[a]at e;simp only[oA,oB]at e ⊢;exact⟨trivial,e.2.1⟩
 | skip h =>
  simp only at e ⊢;rcases a:yk s o.dst zC h with _|s1
  .rw[a]at e;cases e
  rw[a]at e;simp only[oA,oB]at e ⊢;exact⟨trivial,e.2.1⟩
 | call f args =>
  simp only at e ⊢;rcases b with _|⟨v,g⟩
  .cases e
  simp only at e;rcases a:yk s o.dst v s.heap with _|s1
  .rw[a]at e;cases e
  rw[a]at e;simp only[oA,oB]at e;obtain⟨rfl,rfl,rfl⟩:=e;have:=k _ (List.mem_cons_self ..);unfold jY;simp only at this;rw[this];simp only[a]
 | _=>cases e
theorem zH6{orc:Nat->Ug->H->Option (V×H)}{rd:Bool}{ih:Ue}{ops:List Oper}:∀(l:List Oper) {s s':St}{a:Ug}{d:List Qy},zH5 c ops l s a=some (d,s')->Ans orc d->wX c orc rd ih ops l s=some (.done .normal s'):=by
 intro l;induction l with
 | nil=>intro s s' a d e _;simp only[zH5,oA,oB]at e;rw[wX,e.2]
 | cons o l hi =>
  intro s s' a d e f;rw[zH5]at e;rw[wX];cases h:zh ops s.tm o with
  | true =>
   rw[h,oS]at e;rw[oS];rcases hs:zC8 c o s a with _|⟨j,s1,b⟩
   .rw[hs]at e;cases e
   rw[hs]at e;simp only at e;rcases hl:zH5 c ops l s1 b with _|⟨k,m⟩
   .rw[hl]at e;cases e
   rw[hl]at e;simp only[oA,oB]at e;obtain⟨rfl,rfl⟩:=e;rw[Kj hs λq g=>f q (List.mem_append_left _ g)];exact hi hl λq g=>f q (List.mem_append_right _ g)
  | false =>
   rw[h,oT]at e;rw[oT];rcases i:yk s o.dst zC s.heap with _|s1
   .rw[i]at e;cases e
   rw[i]at e;exact hi e f
theorem zEf{orc:Nat->Ug->H->Option (V×H)}{rd:Bool}{ih:Ue}{ops:List Oper}{bs:Uf}{m:Nat}:∀(l:List Oper) (r k:Nat) {s s':St}{a:Ug}{d:List Qy},Yn c ops bs m r k l s a=some (d,s')->Ans orc d->yJ c orc rd ih ops bs m r k l s=some (.done .normal s'):=by
 intro l;induction l with
 | nil=>intro r k s s' a d e _;cases r<;>(simp only[Yn,oA,oB]at e;rw[yJ,e.2])
 | cons o l hi =>
  intro r k s s' a d e f;rcases r with _|r
  .exact zH6 _ e f
  rw[Yn]at e;rw[yJ];cases i:zh ops s.tm o with
  | true =>
   rw[i,oS]at e;rw[oS];rcases hs:zC8 c o { s with heap:={ s.heap with low:=T.top } } a with _|⟨n,s1,b⟩
   .rw[hs]at e;cases e
   rw[hs]at e;simp only at e;rcases h1:(Nat.ble s.heap.nx s1.heap.low || yq ops bs m k s.tm o) with _|_
   .rw[h1,oT]at e;cases e
   rw[h1,oS]at e;rcases g:xv s.dfr s1.dfr with _|_
   .rw[g,oT]at e;cases e
   rw[g,oS]at e;rcases hl:Yn c ops bs m r (k+1) l { s1 with heap:={ s1.heap with low:=cond (Nat.ble s.heap.low s1.heap.low) s.heap.low s1.heap.low } } b with _|⟨p,t⟩
   .rw[hl]at e;cases e
   rw[hl]at e;simp only[oA,oB]at e;obtain⟨rfl,rfl⟩:=e;rw[Kj hs λq h=>f q (List.mem_append_left _ h)];simp only;rw[h1,oS,g,oS];exact hi r (k+1) hl λq h=>f q (List.mem_append_right _ h)
  | false =>
   rw[i,oT]at e;rw[oT];rcases j:yk s o.dst zC s.heap with _|s1
   .rw[j]at e;cases e
   rw[j]at e;exact hi r (k+1) e f
open Classical in
def zM6(f:Nat)(args:Ug)(h:H)(q:Qy):Bool:=decide (q.1=(f,args)/\q.2.1=h)
open Classical in
theorem Ot{f:Nat}{args:Ug}{h:H}{q:Qy}:zM6 f args h q=true↔q.1=(f,args)/\q.2.1=h:=by unfold zM6;exact decide_eq_true_iff
def zNs(a:List Qy):Nat->Ug->H->Option (V×H):=λf args h=>(a.find? (zM6 f args h)).map λq=>(q.2.2,h)
variable {P:Program}
theorem zRG{b:List Qy}(i:∀q∈b,(∃fi,c.fn.get q.1.1=some fi)/\SimF P q.1.1 q.1.2 q.2.1 (.ret q.2.2 q.2.1)):xE P c (zNs b):=by
 intro f args h v h' e;unfold zNs at e;rcases a:b.find? (zM6 f args h) with _|q
 .rw[a]at e;cases e
 rw[a]at e;simp only[oo,oA,oB]at e;obtain⟨rfl,rfl⟩:=e;have j:=Ot.1 (List.find?_some a);have:=i q (List.mem_of_find?_eq_some a);obtain⟨d,g⟩:=j;rw[d,g]at this;exact this
theorem zNt{d:List Qy}(g:∀a∈d,∀b∈d,a.1=b.1->a.2.2=b.2.2):Ans (zNs d) d:=by
 intro q f;unfold zNs;cases e:d.find? (zM6 q.1.1 q.1.2 q.2.1)with
 | none=>exact absurd (Ot.2 ⟨rfl,rfl⟩) (List.find?_eq_none.1 e q f)
 | some h=>have i:=Ot.1 (List.find?_some e);have h1:=g h (List.mem_of_find?_eq_some e) q f i.1;simp only[oo,h1]
theorem wpDr.ans{b:Bool}{ops:List Oper}{m:Nat}{s s':St}{d:Ug}{f:List Qy}{Q:Ud}(hm:ya ops=some m)(e:Yn c ops (zi ops []) m m 0 ops s d=some (f,s'))(g:∀q∈f,(∃fi,c.fn.get q.1.1=some fi)/\SimF P q.1.1 q.1.2 q.2.1 (.ret q.2.2 q.2.1))(i:∀a∈f,∀b∈f,a.1=b.1->a.2.2=b.2.2)(h:Q .normal s'):wpDr P c b ops s Q :=
 ⟨zNs f,m,.normal,s',zRG g,hm,zEf _ _ _ e (zNt i),h⟩
theorem RF.same{f:Nat}{args:Ug}{h:H}{v:V}(r:RF P c f args h λv' h'=>v'=v/\h'=h):(∃fi,c.fn.get f=some fi)/\SimF P f args h (.ret v h):=by obtain⟨v',h',⟨h1,a⟩,rfl,rfl⟩:=r;exact⟨h1,a⟩
end Go.Sim
namespace Go.Sim
def Blk(S:Nat->Prop)(a:Nat)(h:H):Nat->List (Nat×O)->Prop
 | _,[]=>True
 | top,(p,o)::l=>p<top/\(S p\/a<=p)/\h.get p=some o/\Blk S a h p l
theorem Blk.lt{S:Nat->Prop}{b:Nat}{h:H}:∀{top:Nat}{l:List (Nat×O)},Blk S b h top l->∀q∈l,q.1<top
 | _,[],_=>λq a=>by cases a
 | top,(p,o)::l,⟨h1,_,_,c⟩=>λq a=>by
  rcases oq.1 a with rfl|a
  .exact h1
  exact Nat.lt_trans (c.lt q a) h1
theorem Blk.up{S:Nat->Prop}{b:Nat}{h:H}{top a:Nat}(c:top<=a):∀{l:List (Nat×O)},Blk S b h top l->Blk S b h a l
 | [],_=>trivial
 | (_,_)::_,⟨h1,d,e,f⟩=>⟨oO h1 c,d,e,f⟩
theorem Blk.keep{S:Nat->Prop}{a:Nat}{h h':H}:∀{top:Nat}{l:List (Nat×O)},Blk S a h top l->(∀q∈l,h'.get q.1=h.get q.1)->Blk S a h' top l
 | _,[],_,_=>trivial
 | _,(_,_)::_,⟨h1,c,d,e⟩,b=>⟨h1,c,(b _ (List.mem_cons_self ..)).trans d,e.keep λq f=>b q (oN _ f)⟩
theorem Blk.at{S:Nat->Prop}{d:Nat}{h:H}:∀{top:Nat}{l:List (Nat×O)}(i:Nat) {p:Nat}{o:O},Blk S d h top l->l[i]? = some (p,o)->p<top/\(S p\/d<=p)/\h.get p=some o
 | _,[],i,_,_,_,e=>by cases e
 | top,(_,_)::l,0,p,o,⟨h1,f,g,j⟩,e=>by cases e;exact⟨h1,f,g⟩
 | top,(_,_)::l,i+1,p,o,⟨h1,f,g,j⟩,e=>by obtain⟨a,b,c⟩:=j.at i e;exact⟨Nat.lt_trans a h1,b,c⟩
theorem Blk.put{S:Nat->Prop}{j:Nat}{h h':H}:∀{top:Nat}{l:List (Nat×O)}(i:Nat) {p:Nat}{o o':O},Blk S j h top l->l[i]? = some (p,o)->h'.get p=some o'->(∀q∈l,q.1≠p->h'.get q.1=h.get q.1)->Blk S j h' top (l.set i (p,o'))
 | _,[],i,_,_,_,_,e,_,_=>by cases e
 | top,(_,_)::l,0,p,o,o',⟨h1,d,k,a⟩,e,f,b=>by cases e;exact⟨h1,d,f,a.keep λq c=>b q (oN _ c) (Nat.ne_of_lt (a.lt q c))⟩
 | top,(m,_)::l,i+1,p,o,o',⟨h1,d,k,a⟩,e,f,b=>by have g:=(a.at i e).1;exact⟨h1,d,(b _ (List.mem_cons_self ..) (Nat.ne_of_gt g)).trans k,a.put i e f λq c=>b q (oN _ c)⟩
structure Vw (S:Nat->Prop) (hb h:H) (c:Nat) (l:List (Nat×O)):Prop where
 ex:ExtX S hb h c
 bk:Blk S hb.nx h h.nx l
section
variable {S:Nat->Prop}{hb h h':H}{c m i p:Nat}{l:List (Nat×O)}{o:O}
theorem ExtX.refl0(S:Nat->Prop)(h:H):ExtX S h h 0:=⟨oV _,oV _,λ_ _ _=>rfl,oV _,λ_ h1 _ _=>h1⟩
theorem Vw.nil:Vw S h h 0 []:=⟨ExtX.refl0 _ _,trivial⟩
theorem Vw.one(a:h.get p=some o)(b:p<h.nx)(hs:S p):Vw S h h 0 [(p,o)]:=⟨ExtX.refl0 _ _,b,.inl hs,a,trivial⟩
theorem Vw.top(v:Vw S hb h c l):h.nx<=hb.nx+c:=v.ex.top
theorem Vw.le(v:Vw S hb h c l):hb.nx<=h.nx:=v.ex.le
theorem Vw.low(v:Vw S hb h c l):h.low<=hb.low:=v.ex.low
theorem Vw.more(v:Vw S hb h c l)(hm:c<=m):Vw S hb h m l:=⟨⟨v.ex.le,by have:=v.ex.top;omega,v.ex.get,v.ex.low,v.ex.lo⟩,v.bk⟩
theorem Vw.get(v:Vw S hb h c l)(i:Nat)(e:l[i]? = some (p,o)):h.get p=some o:=(v.bk.at i e).2.2
theorem Vw.lt(v:Vw S hb h c l)(i:Nat)(e:l[i]? = some (p,o)):p<h.nx:=(v.bk.at i e).1
theorem Vw.own(v:Vw S hb h c l)(i:Nat)(e:l[i]? = some (p,o)):S p\/hb.nx<=p:=(v.bk.at i e).2.1
theorem Vw.new(v:Vw S hb h c l)(e:h'=h.new o)(b:h.nx<T.top):Vw S hb h' (c+1) ((h.nx,o)::l):=by obtain⟨d,a,f⟩:=zq e b;exact⟨v.ex.andThen (ExtX.of (S:=λ_=>False) a) (λ_ g=>g.elim),by rw[d];exact Nat.lt_succ_self _,.inr v.le,f,v.bk.keep λq j=>a.get _ (v.bk.lt q j)⟩
theorem Vw.upd(v:Vw S hb h c l)(i:Nat){o':O}(e:l[i]? = some (p,o))(b:h.nx<=T.top):Vw S hb (h.upd p (some o')) c (l.set i (p,o')):=by have a:p<T.top:=oO (v.lt i e) b;exact⟨v.ex.upd _ a (v.own i e),v.bk.put i e (zF _ a) λq _ d=>zS _ d a⟩
theorem Vw.ext(v:Vw S hb h c l)(x:Ext h h' m):Vw S hb h' (c+m) l :=
 ⟨v.ex.trans (ExtX.of x),(v.bk.keep λq a=>x.get _ (v.bk.lt q a)).up x.le⟩
theorem Vw.extX(v:Vw S hb h c l)(i:Nat){o':O}(e:l[i]? = some (p,o))(x:ExtX (· = p) h h' m)(g:h'.get p=some o'):Vw S hb h' (c+m) (l.set i (p,o')):=by
 have y:=v.ex.andThen x λb hb=>by subst hb;exact v.own i e
 exact⟨y,(v.bk.put i e g λq a d=>x.get _ (v.bk.lt q a) d).up x.le⟩
theorem Vw.apart{S2:Nat->Prop}(v:Vw S hb h c l)(x:ExtX S2 h h' m)(d:∀b,S2 b->S b\/hb.nx<=b)(hl:∀q∈l,¬S2 q.1):Vw S hb h' (c+m) l :=
 ⟨v.ex.andThen x d,(v.bk.keep λq a=>x.get _ (v.bk.lt q a) (hl q a)).up x.le⟩
theorem Blk.drop{a:Nat}:∀{top:Nat}{l:List (Nat×O)}(n:Nat),Blk S a h top l->Blk S a h top (l.drop n)
 | _,_,0,b=>b
 | _,[],_+1,_=>trivial
 | _,(_,_)::_,n+1,⟨h1,_,_,d⟩=>(d.drop n).up (Nat.le_of_lt h1)
theorem Vw.drop(v:Vw S hb h c l)(n:Nat):Vw S hb h c (l.drop n):=⟨v.ex,v.bk.drop n⟩
theorem Vw.toExt(v:Vw S hb h c l)(a:∀b,S b->hb.nx<=b):Ext hb h c:=by have:=ExtX.ext (Ext.refl hb) v.ex a;exact this.mono oy
abbrev zN:Nat->Prop:=λ_=>False
theorem Vw.ex0(v:Vw zN hb h c l):Ext hb h c:=v.toExt λ_ g=>g.elim
variable {cx:Ctx}
theorem Vw.st(v:Vw S hb h c l)(i:Nat){t f:Nat}{ti:TI}{cs cs':Cs}{k:Rk}{op:Bool}{u:V}(e:l[i]? = some (p,.cells cs k true op))(a:h.nx<=T.top)(d:cx.ty.get t=some ti)(g:cs.put f u.cells=some cs')(hl:wn u.cells ti.size=true:=by exact rfl)(j:k.fz<=f:=by exact Nat.zero_le _)(n:za u.cells=true:=by exact rfl):∃h',zZ cx t h (.ptr p f) u=some h'/\Vw S hb h' c (l.set i (p,.cells cs' k true op))/\h'.nx=h.nx/\∀b,b≠p->h'.get b=h.get b :=
 ⟨_,z6 d (v.get i e) g hl j n,v.upd i e a,rfl,λ_ hb=>zS _ hb (oO (v.lt i e) a)⟩
theorem Vw.ld1(v:Vw S hb h c l)(i:Nat){t f:Nat}{ti:TI}{cs:Cs}{k:Rk}{w op:Bool}{u:V}(e:l[i]? = some (p,.cells cs k w op))(a:cx.ty.get t=some ti)(b:cs.get? f=some u)(d:jk ti.desc=false:=by exact rfl):zo cx t h (.ptr p f)=some u:=zK a d (v.get i e) b
theorem Vw.ldA(v:Vw S hb h c l)(i:Nat){t f:Nat}{ti:TI}{cs:Cs}{k:Rk}{w op:Bool}{x:Ug}(e:l[i]? = some (p,.cells cs k w op))(a:cx.ty.get t=some ti)(b:cs.range f ti.size=some x)(d:jk ti.desc=true:=by exact rfl):zo cx t h (.ptr p f)=some (.agg x):=zO a d (v.get i e) b
def Sep(S:Nat->Prop)(a:Nat)(l:List (Nat×O))(v:V):Prop:=∀b,yG v=some b->(S b\/a<=b)/\∀q∈l,q.1≠b
theorem Ow.blk{h:H}{v:V}{te:TI}{n:Nat}{xs:Ug}(s:Ow h v te n xs){b:Nat}(hb:yG v=some b):b<h.nx:=by
 obtain⟨_,⟨rfl,_⟩|⟨d,cs,rfl,a,_⟩⟩:=s
 .cases hb
 cases hb;exact a
theorem Ow.one1{h:H}{v:V}{te:TI}{n:Nat}{xs:Ug}(s:Ow h v te n xs):v.cells=[v]/\za [v]=true:=by
 obtain⟨_,⟨rfl,_⟩|⟨a,cs,rfl,b,_⟩⟩:=s
 .exact⟨rfl,rfl⟩
 exact⟨rfl,rfl⟩
theorem Sl.one1{h:H}{v:V}{k n:Nat}{xs:Ug}(s:Sl h v k n xs):v.cells=[v]/\za [v]=true:=by
 obtain⟨_,⟨rfl,_⟩|⟨b,o,a,cs,k,w,op,rfl,_⟩⟩:=s
 .exact⟨rfl,rfl⟩
 exact⟨rfl,rfl⟩
theorem Vw.grow{v v':V}{te:TI}{k:Nat}{xs:Ug}(w:Vw S hb h c l)(sp:Sep S hb.nx l v)(a:Ow h' v' te k xs/\h.nx<=h'.nx/\h'.nx<=h.nx+1/\(∀b,b<h.nx->yG v≠some b->h'.get b=h.get b)/\yG v'=some h.nx/\h'.low<=h.low/\(∀m,m<=h.low->(∀b,yG v=some b->m<=b)->m<=h'.low)):
  Vw S hb h' (c+1) l/\Ow h' v' te k xs/\Sep S hb.nx l v':=by
 obtain⟨a1,a2,a3,a4,a5,a6,a7⟩:=a;refine⟨w.apart (ExtX.append a2 a3 a4 a6 a7) (λb g=>(sp b g).1) (λq d g=>(sp _ g).2 q d rfl),a1,λb g=>?_⟩;rw[a5]at g;cases g;exact⟨.inr w.le,λq d=>Nat.ne_of_lt (w.bk.lt q d)⟩
end
def Row(cs:Cs)(n:Nat)(xs:Ug):Prop:=cs.wf/\cs.len=n/\xs.length=n/\∀i,i<n->cs.get? i=xs[i]?
abbrev Zf(cs:Cs):O:=.cells cs ⟨0,0,0⟩ true false
theorem Row.sl{h:H}{b n:Nat}{cp:Cap}{cs:Cs}{k:Rk}{w op:Bool}{xs:Ug}(r:Row cs n xs)(hb:b<h.nx)(a:h.get b=some (.cells cs k w op)):Sl h (.slice b 0 n cp) 1 n xs :=
 ⟨by rw[r.2.2.1,Nat.mul_one],.inr ⟨b,0,cp,cs,k,w,op,rfl,hb,a,λi hi=>by rw[Nat.zero_add];exact r.2.2.2 i oy⟩⟩
section
variable {S:Nat->Prop}{hb h h':H}{c m i p:Nat}{l:List (Nat×O)}{o:O}{cx:Ctx}
theorem Row.make{te ti:TI}{k t e:Nat}{z:V}(d:cx.ty.get t=some ti)(f:ti.desc = .slice e)(g:cx.ty.get e=some te)(j:te.zero=some z)(a:z.cells=[z])(hs:te.size=1)(n:k<=262143)(hb:te.bytes*k<=1099511627776)(q:h.nx<T.top):
  ∃cs,jJ cx t (dd k) (dd k) h=some (.slice h.nx 0 k (.exact k),h.new (Zf cs))/\Row cs k (List.replicate k z):=by
 obtain⟨cs,h1,r⟩:=Cs.rep_some (v:=z) n;obtain⟨s,u⟩:=Cs.rep_eq h1;refine⟨cs,?_,r,s,by rw[List.length_replicate],λi hi=>by rw[u,if_pos hi,List.getElem?_replicate,if_pos hi]⟩;unfold jJ;have w:yj (k:Int)=some k:=rfl;simp only[w,d,f,g,j];have b:wn z.cells te.size=true:=xL.2 (by rw[a,hs];rfl);rw[oG (oV k),oG (show k<=4294967296 by omega),oG hb,b];simp only[Bool.and_self,oS];unfold zBJ qG;rw[a];simp only[h1,(zY _ _).2 q,oS]
theorem Vw.set(v:Vw S hb h c l)(i:Nat){e n j:Nat}{te:TI}{cs:Cs}{k:Rk}{op:Bool}{u:V}{xs:Ug}(r:Row cs n xs)(hi:l[i]? = some (p,.cells cs k true op))(s:h.nx<=T.top)(x:j<n)(y:cx.ty.get e=some te)(hs:te.size=1)(z:k.fz=0)(b:u.cells=[u])(A:u.one=true):
  ∃h' cs',zZ cx e h (.ptr p j) u=some h'/\Row cs' n (xs.set j u)/\Vw S hb h' c (l.set i (p,.cells cs' k true op))/\h'.nx=h.nx:=by
 obtain⟨cs',d,B⟩:=Cs.put_some (cs:=cs) r.1 (o:=j) (vs:=[u]) (by rw[r.2.1];simp;omega);obtain⟨_,C,D⟩:=Cs.put_eq d;obtain⟨h',E,w,F,_⟩:=v.st (cx:=cx) i (t:=e) (f:=j) (u:=u) (cs':=cs') hi s y (by rw[b];exact d) (xL.2 (by rw[b,hs];rfl)) (by rw[z];exact oQ _) (by rw[b];simp[za,A]);refine⟨h',cs',E,⟨B,by rw[C,r.2.1],by rw[List.length_set,r.2.2.1],λa G=>?_⟩,w,F⟩;rw[D];by_cases g:a=j
 .subst g;rw[if_pos ⟨oV _,by simp⟩,Nat.sub_self,List.getElem?_set_self (by rw[r.2.2.1];exact x)];rfl
 rw[if_neg (by simp;omega),om (λq=>g q.symm)];exact r.2.2.2 a G
theorem jx{t e b n j:Nat}{cp:Cap}{ti te:TI}(a:cx.ty.get t=some ti)(d:ti.desc = .slice e)(f:cx.ty.get e=some te)(hs:te.size=1)(g:j<n:=by omega):yo cx t (.slice b 0 n cp) (dd j)=some (.ptr b j):=by unfold yo;show(match yj (Int.ofNat j),cx.ty.get t with|some i,some ti=>_|_,_=>_)=_;simp only[yj,a,d,f,(zY _ _).2 g,oS,hs,Nat.mul_one,Nat.zero_add]
end
def RowE(cs:Cs)(esz n k:Nat)(xs:Ug):Prop:=cs.wf/\cs.len=k*esz/\xs.length=n*esz/\n<=k/\∀i,i<n*esz->cs.get? i=xs[i]?
theorem RowE.sl{h:H}{b esz n m:Nat}{cp:Cap}{cs:Cs}{k:Rk}{w op:Bool}{xs:Ug}(r:RowE cs esz n m xs)(hb:b<h.nx)(a:h.get b=some (.cells cs k w op)):Sl h (.slice b 0 n cp) esz n xs :=
 ⟨r.2.2.1,.inr ⟨b,0,cp,cs,k,w,op,rfl,hb,a,λi hi=>by rw[Nat.zero_add];exact r.2.2.2.2 i hi⟩⟩
theorem Vw.app{S:Nat->Prop}{hb h:H}{c p:Nat}{l:List (Nat×O)}{cx:Ctx}(v:Vw S hb h c l)(i:Nat){te ti:TI}{n m k t e:Nat}{cs:Cs}{kk:Rk}{op:Bool}{x:V}{xs ys:Ug}(hi:l[i]? = some (p,.cells cs kk true op))(r:RowE cs te.size n k xs)(w:Sl h x te.size m ys)(hm:0<m)(z:cx.ty.get t=some ti)(A:ti.desc = .slice e)(B:cx.ty.get e=some te)(a:qn te=true)(C:za ys=true)(q:n+m<=k)(D:kk.fz=0)(E:h.nx<=T.top):
  ∃h' cs',zn cx t h (.slice p 0 n (.exact k)) x=some (.slice p 0 (n+m) (.exact k),h')/\RowE cs' te.size (n+m) k (xs++ys)/\Vw S hb h' c (l.set i (p,.cells cs' kk true op))/\h'.nx=h.nx:=by
 have s:0<te.size:=by unfold qn at a;simp only[oM]at a;exact(zY _ _).1 a.1.1
 have b:ys.length=m*te.size:=w.1;have u:zn cx t h (.slice p 0 n (.exact k)) x=appTo te h m ys (.slice p 0 n (.exact k)):=by unfold zn;rw[z];simp only[A,B,a,oS,w.src s hm]
 have d:(n+m)*te.size=n*te.size+m*te.size:=Nat.add_mul _ _ _;have F:(n+m)*te.size<=k*te.size:=Nat.mul_le_mul_right _ q;obtain⟨G,hl,g,I,J⟩:=r;obtain⟨cs',y,K⟩:=Cs.put_some (cs:=cs) G (o:=0+n*te.size) (vs:=ys) (by rw[hl,b];omega);obtain⟨_,L,M⟩:=Cs.put_eq y;refine⟨h.upd p (some (.cells cs' kk true op)),cs',?_,⟨K,by rw[L,hl],by rw[oe,g,b,d],q,λj N=>?_⟩,v.upd i hi E,rfl⟩
 .rw[u];unfold appTo;simp only[v.get i hi];unfold qv;rw[oG q,oS,C];simp only[Bool.and_true,oS];unfold KU;rw[y];simp only[D,oG (oQ _),oS]
 rw[M];by_cases f:j<n*te.size
 .rw[if_neg oy,J j f,List.getElem?_append_left (by rw[g];exact f)]
 rw[if_pos oy,List.getElem?_append_right (by rw[g];omega),g,Nat.zero_add]
end Go.Sim
namespace Go.Sim
open Go (Oper)
variable {c:Ctx}{orc:Nat->Ug->H->Option (V×H)}{b:Bool}{ih:Ue}
theorem xF{o:Oper}{t:Nat}{a:Operand}{e:Uh}{h:H}{p v:V}(d:o.op = .load t a)(f:e a=some p)(hl:zo c t h p=some v):yD c o e h=some (.val v h):=by unfold yD;simp only[d,f,hl];rfl
theorem yg{o:Oper}{t:Nat}{a x:Operand}{e:Uh}{h h':H}{p v:V}(d:o.op = .store t a x)(f:e a=some p)(g:e x=some v)(hs:zZ c t h p v=some h'):yD c o e h=some (.skip h'):=by unfold yD;simp only[d,f,g,hs]
theorem zFH{h:H}(hl:h.low<=T.top):yN h (zX h)=h:=by show(⟨h.tbl,h.nx,cond (Nat.ble h.low T.top) h.low T.top⟩:H)=h;rw[oG hl,oS]
theorem zQ{o:Oper}{l ops:List Oper}{bs:Uf}{m r k n t:Nat}{tm:Tm}{d:List AD}{h:H}{v:V}{a:Option Out}(g:o.guard=none)(i:yD c o (zx tm) (zX h)=some (.val v (zX h)))(j:o.dst=some t)(p:Nat.blt t n=true)(q:h.nx<=T.top)(hl:h.low<=T.top)(e:yJ c orc b ih ops bs m r (k+1) l ⟨n,Tb.set tm t v,d,h⟩=a):yJ c orc b ih ops bs m (r+1) k (o::l) ⟨n,tm,d,h⟩=a:=by
 have s:zh ops tm o=true:=by unfold zh;rw[g]
 have f:zc c orc b ih o ⟨n,tm,d,zX h⟩=some (.normal,⟨n,Tb.set tm t v,d,zX h⟩):=by unfold zc;simp only[i];unfold yk;simp only[j,p,oS]
 show cond (zh ops tm o) (match zc c orc b ih o ⟨n,tm,d,zX h⟩with|some (.normal,u)=>_|_=>none) _=_;rw[s,oS,f];show cond (Nat.ble h.nx T.top || _) (cond (xv d d) (yJ c orc b ih ops bs m r (k+1) l ⟨n,Tb.set tm t v,d,yN h (zX h)⟩) none) none=_;rw[oG q,Bool.true_or,oS,wh,oS,zFH hl];exact e
theorem jZ{o:Oper}{l ops:List Oper}{bs:Uf}{m r k n:Nat}{tm:Tm}{d:List AD}{h h1:H}{a:Option Out}(g:o.guard=none)(i:yD c o (zx tm) (zX h)=some (.skip h1))(j:o.dst=none)(hs:yq ops bs m k tm o=true)(e:yJ c orc b ih ops bs m r (k+1) l ⟨n,tm,d,yN h h1⟩=a):yJ c orc b ih ops bs m (r+1) k (o::l) ⟨n,tm,d,h⟩=a:=by
 have p:zh ops tm o=true:=by unfold zh;rw[g]
 have f:zc c orc b ih o ⟨n,tm,d,zX h⟩=some (.normal,⟨n,tm,d,h1⟩):=by unfold zc;simp only[i];unfold yk;simp only[j]
 show cond (zh ops tm o) (match zc c orc b ih o ⟨n,tm,d,zX h⟩with|some (.normal,q)=>_|_=>none) _=_;rw[p,oS,f];show cond (_ || yq ops bs m k tm o) (cond (xv d d) (yJ c orc b ih ops bs m r (k+1) l ⟨n,tm,d,yN h h1⟩) none) none=_;rw[hs,Bool.or_true,oS,wh,oS];exact e
theorem qW{o:Oper}{ops:List Oper}{n:Nat}{tm:Tm}{d:List AD}{h h1:H}(e:o.guard=none)(f:yD c o (zx tm) h=some (.skip h1))(g:o.dst=none):wX c orc b ih ops [o] ⟨n,tm,d,h⟩=some (.done .normal ⟨n,tm,d,h1⟩):=by
 have i:zh ops tm o=true:=by unfold zh;rw[e]
 have a:zc c orc b ih o ⟨n,tm,d,h⟩=some (.normal,⟨n,tm,d,h1⟩):=by unfold zc;simp only[f];unfold yk;simp only[g]
 show cond (zh ops tm o) (match zc c orc b ih o ⟨n,tm,d,h⟩with|some (.normal,j)=>_|some (x,j)=>_|none=>none) _=_;rw[i,oS,a];rfl
theorem j7{h:H}{p:Nat}{o:Option O}(a:p<T.top:=by omega):yN h ((zX h).upd p o)=h.upd p o:=by
 cases h with
 | mk t n l =>
  show(⟨t.set p o,n,cond (Nat.ble l (cond (Nat.ble T.top p) T.top p)) l (cond (Nat.ble T.top p) T.top p)⟩:H)=⟨t.set p o,n,cond (Nat.ble l p) l p⟩;have:Nat.ble T.top p=false:=by
   rcases hb:Nat.ble T.top p with _|_
   .rfl
   have:=oH hb;omega
  rw[this,oT]
theorem qf{a b:Nat}(h:a≠b):Nat.beq a b=false:=by
 rcases hb:Nat.beq a b with _|_
 .rfl
 exact absurd (oL hb) h
end Go.Sim
