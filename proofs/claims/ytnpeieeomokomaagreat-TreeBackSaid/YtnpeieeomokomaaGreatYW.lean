/- W. No condition. -/
import Derived.Test.YtnpeieeomokomaaGreatYS
import Derived.ProofKit
import Derived.ChangeSlices
import Derived.Carry
import Derived.ChangeOld
noncomputable section
namespace Go.Sim
namespace Cs
def wf:Cs->Prop
 | .ls _=>True
 | .tb _ n=>n<=511
 | .big _ _ n=>n<=262143
theorem zLM:∀{vs l:List V},vs.length<=l.length->∃r,zB2 vs l=some r:=by
 intro vs
 induction vs with
 | nil=>intro l _;exact⟨l,rfl⟩
 | cons v vs ih =>
  intro l h;cases l with
  | nil=>simp at h
  | cons x l =>
   obtain⟨r,hr⟩:=ih (l:=l) (by simpa using h);exact⟨v::r,by simp only[zB2,hr]⟩
theorem splice_some:∀{n:Nat}{vs l:List V},n+vs.length<=l.length->∃r,jx n vs l=some r:=by
 intro n
 induction n with
 | zero=>intro vs l h;exact zLM (by omega)
 | succ n ih =>
  intro vs l h;cases l with
  | nil=>simp at h
  | cons x l =>
   obtain⟨r,hr⟩:=ih (vs:=vs) (l:=l) (by simp at h;omega);exact⟨x::r,by simp only[jx,hr]⟩
theorem put_some{cs:Cs}(hw:cs.wf){o:Nat}{vs:List V}(h:o+vs.length<=cs.len):∃c',cs.put o vs=some c'/\c'.wf:=by
 cases cs with
 | ls l =>
  have h:o+vs.length<=l.length:=by simpa [len,zz]using h
  obtain⟨r,hr⟩:=splice_some h;exact⟨.ls r,by simp only[put,zYC,hr],trivial⟩
 | tb t n =>
  have h:o+vs.length<=n:=h;refine⟨.tb (ZP vs o t) n,?_,hw⟩;have e1:Nat.ble (wG vs o) n=true:=oC (by rw[zz];omega);have e2:Nat.ble n 511=true:=oC hw;simp only[put,e1,e2,Bool.and_self,oK]
 | big d t n =>
  have h:o+vs.length<=n:=h;refine⟨.big d (jQ vs o t) n,?_,hw⟩;have e1:Nat.ble (wG vs o) n=true:=oC (by rw[zz];omega);have e2:Nat.ble n 262143=true:=oC hw;simp only[put,e1,e2,Bool.and_self,oK]
theorem zH8{l:List V}{m:Nat}(h:m<=262143):∃c,zFh l m=some c/\c.wf:=by
 unfold zFh;cases h1:Nat.ble m 511 with
 | true=>exact⟨_,rfl,oE h1⟩
 | false =>
  have h2:Nat.ble m 262143=true:=oC h;simp only[h2,oK,oM];exact⟨_,rfl,h⟩
theorem zBe{l vs:List V}{m:Nat}(h:m<=262143):∃c,zKD l vs m=some c/\c.wf:=by
 unfold zKD;cases h1:Nat.ble m 16 with
 | true=>exact⟨_,rfl,trivial⟩
 | false=>exact zH8 h
theorem ofL_some{l:List V}(h:l.length<=262143):∃c,ofL l=some c/\c.wf:=zBe (by rw[zz];omega)
theorem app_some{cs:Cs}{vs:List V}(h:cs.len+vs.length<=262143):∃c',cs.app vs=some c'/\c'.wf:=by
 cases cs with
 | ls l=>exact zBe (by have:(Cs.ls l).len=l.length:=(by simp[len,zz]);rw[zz,zz];omega)
 | tb t n =>
  have h:n+vs.length<=262143:=h;show ∃c',zRS t n vs (wG vs n)=some c'/\_;unfold zRS;cases h1:Nat.ble (wG vs n) 511 with
  | true=>exact⟨_,rfl,oE h1⟩
  | false =>
   have h2:Nat.ble (wG vs n) 262143=true:=oC (by rw[zz];omega);simp only[h2,oK,oM];exact⟨_,rfl,oE h2⟩
 | big d t n =>
  have h:n+vs.length<=262143:=h;have h2:Nat.ble (wG vs n) 262143=true:=oC (by rw[zz];omega);exact⟨.big d (jQ vs n t) (wG vs n),by simp only[app,h2,oK],oE h2⟩
theorem rep_some{v:V}{n:Nat}(h:n<=262143):∃c,rep v n=some c/\c.wf:=by
 unfold rep;cases h1:Nat.ble n 511 with
 | true=>exact⟨_,rfl,oE h1⟩
 | false =>
  have h2:Nat.ble n 262143=true:=oC h;simp only[h2,oK,oM];exact⟨_,rfl,h⟩
theorem range_is{cs:Cs}{o k:Nat}{x:List V}(hk:0<k)(hx:x.length=k)(h:∀i,i<k->cs.get? (o+i)=x[i]?):cs.range o k=some x:=by
 have hl:o+k<=cs.len:=by
  have h1:=h (k-1) (by omega);rw[oO (by omega)]at h1;have:=zXc h1;omega
 obtain⟨y,hy⟩:=range_some hl;obtain⟨h1,_,h2⟩:=range_eq hy;rw[hy]
 congr 1
 apply List.ext_getElem?;intro i;by_cases hi:i<k
 ·rw[h2 i hi,h i hi]
 ·rw[og (by omega),og (by omega)]
end Cs
theorem zD{n:Int}(h1 : -9223372036854775808<=n)(h2:n<9223372036854775808):zG n=n:=by
 unfold zG;rw[xZ];simp only[IntKind.wrap,IntKind.bits,IntKind.signed];simp;split<;>omega
structure Ext (h h':H) (n:Nat):Prop where
 le:h.nx<=h'.nx
 top:h'.nx<=h.nx+n
 get:∀b,b<h.nx->h'.get b=h.get b
 low:h'.low<=h.low
 lo:min h.low h.nx<=h'.low
theorem Ext.refl(h:H):Ext h h 0:=⟨oP _,oP _,λ_ _=>rfl,oP _,Nat.min_le_left _ _⟩
theorem Ext.trans{h h1 h2:H}{m n:Nat}(a:Ext h h1 m)(b:Ext h1 h2 n):Ext h h2 (m+n) :=
 ⟨oQ a.le b.le,by have:=a.top;have:=b.top;omega,λi hi=>(b.get i (oI hi a.le)).trans (a.get i hi),oQ b.low a.low,by have:=a.lo;have:=b.lo;have:=a.le;omega⟩
theorem Ext.mono{h h':H}{m n:Nat}(a:Ext h h' m)(hm:m<=n):Ext h h' n:=⟨a.le,by have:=a.top;omega,a.get,a.low,a.lo⟩
theorem zH(h:H)(o:O):(h.new o).nx=h.nx+1:=by rw[H.new_eq]
theorem zZ{h:H}(o:O)(hn:h.nx<T.top):(h.new o).get h.nx=some o:=by rw[H.get_new _ _ _ hn,if_pos rfl]
theorem yT{h:H}(o:O)(hn:h.nx<T.top){b:Nat}(hb:b<h.nx):(h.new o).get b=h.get b:=by rw[H.get_new _ _ _ hn,if_neg (by omega)]
theorem Ext.new{h:H}(o:O)(hn:h.nx<T.top):Ext h (h.new o) 1:=⟨by rw[zH];omega,by rw[zH];omega,λb hb=>yT o hn hb,oP _,Nat.min_le_left _ _⟩
theorem zN{h:H}{b:Nat}(o:Option O)(hb:b<T.top):(h.upd b o).get b=o:=by rw[H.get_upd _ _ _ _ hb,if_pos rfl]
theorem zQ{h:H}{b i:Nat}(o:Option O)(hb:b<T.top)(hi:i≠b):(h.upd b o).get i=h.get i:=by rw[H.get_upd _ _ _ _ hb,if_neg hi]
theorem Ext.upd{h0 h:H}{n b:Nat}(e:Ext h0 h n)(o:Option O)(hb:b<T.top)(hn:h0.nx<=b):Ext h0 (h.upd b o) n :=
 ⟨e.le,e.top,λi hi=>by rw[zQ o hb (by omega)];exact e.get i hi,by rw[H.low_upd];have:=e.low;omega,by rw[H.low_upd];have:=e.lo;omega⟩
theorem z2E(h:H)(b:Nat):(zM h).get b=h.get b:=rfl
theorem zZR(h:H):(zM h).nx=h.nx:=rfl
theorem z1p(h h':H)(b:Nat):(yL h h').get b=h'.get b:=rfl
theorem zZN(h h':H):(yL h h').nx=h'.nx:=rfl
theorem zF5(h h':H):(yL h h').low=min h.low h'.low:=by
 show cond (Nat.ble h.low h'.low) h.low h'.low=_;cases hb:Nat.ble h.low h'.low with
 | true=>have:=oE hb;simp only[oK];omega
 | false =>
  have:¬h.low<=h'.low:=λe=>by rw[oC e]at hb;cases hb
  simp only[oM];omega
theorem Ext.drawn{h h':H}{n:Nat}(e:Ext (zM h) h' n)(hn:h.nx<=T.top):h.nx<=h'.low/\Ext h (yL h h') n :=
  ⟨by have:=e.lo;have h1:(zM h).low=T.top:=rfl;have h2:(zM h).nx=h.nx:=rfl;omega,
   e.le,e.top,e.get,by rw[zF5];omega,by rw[zF5];have:=e.lo;have h1:(zM h).low=T.top:=rfl;have h2:(zM h).nx=h.nx:=rfl;omega⟩
section
variable {c:Ctx}
theorem zX{t b o:Nat}{ti:TI}{h:H}{cs:Cs}{k:Rk}{w op:Bool}{v:V}(ht:c.ty.get t=some ti)(hd:jZ ti.desc=false)(hg:h.get b=some (.cells cs k w op))(hv:cs.get? o=some v):zK c t h (.ptr b o)=some v:=by
 unfold zK;simp only[hg,ht,hd,oM,hv]
theorem zu{t b o:Nat}{ti:TI}{h:H}{cs:Cs}{k:Rk}{w op:Bool}{x:List V}(ht:c.ty.get t=some ti)(hd:jZ ti.desc=true)(hg:h.get b=some (.cells cs k w op))(hv:cs.range o ti.size=some x):zK c t h (.ptr b o)=some (.agg x):=by
 unfold zK;simp only[hg,ht,hd,oK,hv]
theorem zo{t b o:Nat}{ti:TI}{h:H}{cs cs':Cs}{k:Rk}{op:Bool}{v:V}(ht:c.ty.get t=some ti)(hg:h.get b=some (.cells cs k true op))(hl:wU v.cells ti.size=true)(hf:k.fz<=o)(ho:zL v.cells=true)(hp:cs.put o v.cells=some cs'):zg c t h (.ptr b o) v=some (h.upd b (some (.cells cs' k true op))):=by
 unfold zg;simp only[hg,ht,hl,oK,oC hf,ho,hp]
structure ExtX (S:Nat->Prop) (h h':H) (n:Nat):Prop where
 le:h.nx<=h'.nx
 top:h'.nx<=h.nx+n
 get:∀b,b<h.nx->¬S b->h'.get b=h.get b
 low:h'.low<=h.low
 lo:∀m,m<=h.low->m<=h.nx->(∀b,S b->m<=b)->m<=h'.low
theorem ExtX.of{S:Nat->Prop}{h h':H}{n:Nat}(e:Ext h h' n):ExtX S h h' n:=⟨e.le,e.top,λb hb _=>e.get b hb,e.low,λ_ h1 h2 _=>oQ (Nat.le_min.2 ⟨h1,h2⟩) e.lo⟩
theorem ExtX.trans{S:Nat->Prop}{h h1 h2:H}{m n:Nat}(a:ExtX S h h1 m)(b:ExtX S h1 h2 n):ExtX S h h2 (m+n) :=
 ⟨oQ a.le b.le,by have:=a.top;have:=b.top;omega,λi hi hs=>(b.get i (oI hi a.le) hs).trans (a.get i hi hs),oQ b.low a.low,λk h1 h2 h3=>b.lo k (a.lo k h1 h2 h3) (oQ h2 a.le) h3⟩
theorem ExtX.upd{S:Nat->Prop}{h h':H}{n b:Nat}(e:ExtX S h h' n)(o:Option O)(hb:b<T.top)(hs:S b\/h.nx<=b):ExtX S h (h'.upd b o) n :=
 ⟨e.le,e.top,λi hi hn=>by
   rw[zQ o hb (λg=>by subst g;exact hs.elim (λq=>hn q) (λq=>by omega))];exact e.get i hi hn,by rw[H.low_upd];have:=e.low;omega,λm h1 h2 h3=>by
   rw[H.low_upd];have:=e.lo m h1 h2 h3;rcases hs with q|q
   ·have:=h3 b q;omega
   ·omega⟩
theorem ExtX.ext{S:Nat->Prop}{h0 h h':H}{m n:Nat}(e:Ext h0 h m)(a:ExtX S h h' n)(hS:∀b,S b->h0.nx<=b):Ext h0 h' (m+n) :=
 ⟨oQ e.le a.le,by have:=a.top;have:=e.top;omega,λi hi=>(a.get i (oI hi e.le) (λq=>by have:=hS i q;omega)).trans (e.get i hi),oQ a.low e.low,a.lo _ e.lo (oQ (Nat.min_le_right _ _) e.le) λb hb=>oQ (Nat.min_le_right _ _) (hS b hb)⟩
def Sl(h:H)(v:V)(esz n:Nat)(xs:List V):Prop :=
 xs.length=n*esz/\((v = .nilslice/\n=0)\/∃b o cp cs k w op,v = .slice b o n cp/\b<h.nx/\h.get b=some (.cells cs k w op)/\∀i,i<n*esz->cs.get? (o+i)=xs[i]?)
theorem Sl.ext{h h':H}{v:V}{esz n m:Nat}{xs:List V}(s:Sl h v esz n xs)(e:Ext h h' m):Sl h' v esz n xs:=by
 obtain⟨h1,h2⟩:=s;refine⟨h1,h2.imp id ?_⟩;rintro⟨b,o,cp,cs,k,w,op,rfl,h3,h4,h5⟩;exact⟨b,o,cp,cs,k,w,op,rfl,oI h3 e.le,by rw[e.get b h3];exact h4,h5⟩
theorem Sl.len{h:H}{v:V}{esz n:Nat}{xs:List V}(s:Sl h v esz n xs){t e:Nat}{ti:TI}(ht:c.ty.get t=some ti)(hd:ti.desc = .slice e):zp c t h v=some (.int .i64 n):=by
 obtain⟨_,⟨rfl,rfl⟩|⟨b,o,cp,cs,k,w,op,rfl,_⟩⟩:=s
 ·unfold zp;rw[ht];simp only[hd];rfl
 ·unfold zp;rw[ht];simp only[hd];rfl
theorem Sl.at{h:H}{v:V}{esz n i:Nat}{xs:List V}(s:Sl h v esz n xs)(hi:i<n){t e:Nat}{ti te:TI}(ht:c.ty.get t=some ti)(hd:ti.desc = .slice e)(he:c.ty.get e=some te)(hs:te.size=esz):
  ∃b o,z8 c t v (.int .i64 i)=some (.ptr b o)/\∃cs k w op,h.get b=some (.cells cs k w op)/\∀j,j<esz->cs.get? (o+j)=xs[i*esz+j]?:=by
 obtain⟨_,⟨_,rfl⟩|⟨b,o,cp,cs,k,w,op,rfl,hb,hg,hc⟩⟩:=s
 ·omega
 ·refine⟨b,o+i*te.size,?_,cs,k,w,op,hg,λj hj=>?_⟩
  ·unfold z8
   show(match yx (Int.ofNat i),c.ty.get t with|some i,some ti=>_|_,_=>_)=_
   simp only[yx,ht,hd,he,(zY _ _).2 hi,oK]
  ·rw[hs,Nat.add_assoc]
   refine hc _ ?_
   calc i*esz+j<i*esz+esz:=by omega
    _=(i+1)*esz:=by rw[Nat.succ_mul]
    _<=n*esz:=Nat.mul_le_mul_right _ hi
theorem Sl.at1{h:H}{v:V}{n i:Nat}{xs:List V}(s:Sl h v 1 n xs)(hi:i<n){t e:Nat}{ti te:TI}(ht:c.ty.get t=some ti)(hd:ti.desc = .slice e)(he:c.ty.get e=some te)(hs:te.size=1)(ha:jZ te.desc=false){u:V}(hu:xs[i]? = some u):
  ∃b o,z8 c t v (.int .i64 i)=some (.ptr b o)/\zK c e h (.ptr b o)=some u:=by
 obtain⟨b,o,h1,cs,k,w,op,hg,hc⟩:=s.at hi ht hd he hs;refine⟨b,o,h1,zX he ha hg ?_⟩;have:=hc 0 (by omega);rw[Nat.mul_one]at this;simpa [hu]using this
def Ow(h:H)(v:V)(te:TI)(n:Nat)(xs:List V):Prop :=
 xs.length=n*te.size/\((v = .nilslice/\n=0)\/∃b cs,v = .slice b 0 n (.skip 0)/\b<h.nx/\h.get b=some (.cells cs (j7 te) true true)/\cs.wf/\cs.len=n*te.size/\∀i,i<n*te.size->cs.get? i=xs[i]?)
theorem Ow.sl{h:H}{v:V}{te:TI}{n:Nat}{xs:List V}(s:Ow h v te n xs):Sl h v te.size n xs:=by
 obtain⟨h1,h2⟩:=s;refine⟨h1,h2.imp id ?_⟩;rintro⟨b,cs,rfl,h3,h4,_,_,h5⟩;exact⟨b,0,_,cs,_,_,_,rfl,h3,h4,λi hi=>by rw[Nat.zero_add];exact h5 i hi⟩
def zy:V->Option Nat
 | .slice b _ _ _=>some b
 | _=>none
theorem Ow.keep{h h':H}{v:V}{te:TI}{n:Nat}{xs:List V}(s:Ow h v te n xs)(hn:h.nx<=h'.nx)(hg:∀b,zy v=some b->h'.get b=h.get b):Ow h' v te n xs:=by
 obtain⟨h1,h2⟩:=s;refine⟨h1,h2.imp id ?_⟩;rintro⟨b,cs,rfl,h3,h4,h5⟩;exact⟨b,cs,rfl,oI h3 hn,by rw[hg b rfl];exact h4,h5⟩
theorem Ow.ext{h h':H}{v:V}{te:TI}{n m:Nat}{xs:List V}(s:Ow h v te n xs)(e:Ext h h' m):Ow h' v te n xs:=by
 refine s.keep e.le λb hb=>e.get b ?_
 obtain⟨_,⟨rfl,_⟩|⟨b',cs,rfl,h3,_⟩⟩:=s
 ·cases hb
 ·cases hb;exact h3
theorem Ow.nil(h:H)(te:TI):Ow h .nilslice te 0 []:=⟨by simp,.inl ⟨rfl,rfl⟩⟩
theorem Sl.src{h:H}{v:V}{esz n:Nat}{xs:List V}(s:Sl h v esz n xs)(he:0<esz)(hn:0<n):wg esz h v=some (n,xs):=by
 obtain⟨h0,⟨rfl,rfl⟩|⟨b,o,cp,cs,k,w,op,rfl,hb,hg,hc⟩⟩:=s
 ·omega
 ·unfold wg
  simp only[hg];rw[Cs.range_is (Nat.mul_pos hn he) h0 hc]
theorem zA3{cs:Cs}{o:Nat}{vs:List V}(h:cs.len<o+vs.length):cs.put o vs=none:=by
 cases hp:cs.put o vs with
 | none=>rfl
 | some c'=>have:=(Cs.put_eq hp).1;omega
theorem wF{k:Rk}{te:TI}{h:H}{cs:Cs}{need:Nat}(hb:need*te.bytes<=1099511627776)(hn:h.nx<T.top):
  jK k te h (some cs) need=some (.slice h.nx 0 need (.skip 0),h.new (.cells cs k true true)):=by
 unfold jK qg;rw[oC hb,oK,(zY _ _).2 hn,oK]
theorem Ow.appTo{h:H}{v:V}{te:TI}{n m:Nat}{xs ys:List V}(s:Ow h v te n xs)(hys:ys.length=m*te.size)(hm:0<m)(hok:kH te=true)(ho:zL ys=true)(hsz:(n+m)*te.size<=262143)(hby:(n+m)*te.bytes<=1099511627776)(hn:h.nx<T.top):
  ∃v' h',Go.Sim.appTo te h m ys v=some (v',h')/\Ow h' v' te (n+m) (xs++ys)/\h.nx<=h'.nx/\h'.nx<=h.nx+1/\(∀b,b<h.nx->zy v≠some b->h'.get b=h.get b)/\zy v'=some h.nx/\h'.low<=h.low/\(∀m,m<=h.low->(∀b,zy v=some b->m<=b)->m<=h'.low):=by
 have hs0:0<te.size:=by
  unfold kH at hok;simp only[oG]at hok;exact(zY _ _).1 hok.1.1
 have hmul:(n+m)*te.size=n*te.size+m*te.size:=Nat.add_mul _ _ _;obtain⟨h0,⟨rfl,rfl⟩|⟨b,cs,rfl,hb,hg,hw,hl,hc⟩⟩:=s
 ·have hx0:xs=[]:=List.eq_nil_of_length_eq_zero (by rw[h0];simp)
  subst hx0;obtain⟨cs,h1,h2⟩:=Cs.ofL_some (l:=ys) (by rw[hys];simp at hsz;omega);obtain⟨h3,h4⟩:=Cs.ofL_eq h1;refine⟨.slice h.nx 0 m (.skip 0),h.new (.cells cs (j7 te) true true),?_,?_,by rw[zH];omega,by rw[zH];omega,λb hb _=>yT _ hn hb,rfl,oP _,λm hm _=>hm⟩
  ·unfold Go.Sim.appTo
   have:Nat.beq m 0=false:=by cases hm0:Nat.beq m 0 with
    | false=>rfl
    | true=>have:=oF hm0;omega
   rw[this,oM,ho,oK,h1];exact wF (by simpa using hby) hn
  ·refine⟨by simp[hys],.inr ⟨h.nx,cs,by rw[Nat.zero_add],by rw[zH];omega,zZ _ hn,h2,by rw[h3,hys,Nat.zero_add],λi _=>by rw[h4];rfl⟩⟩
 ·obtain⟨cs',h1,h2⟩:=Cs.app_some (cs:=cs) (vs:=ys) (by rw[hl,hys];omega)
  obtain⟨h3,h4⟩:=Cs.app_eq h1;have hbt:b<T.top:=by omega
  have hn2:(qB h b).nx<T.top:=hn;refine⟨.slice (qB h b).nx 0 (n+m) (.skip 0),(qB h b).new (.cells cs' (j7 te) true true),?_,?_,by rw[zH];exact Nat.le_succ _,by rw[zH];exact oP _,λi hi hne=>?_,rfl,(by show(h.upd b none).low<=_;rw[H.low_upd];exact Nat.min_le_left _ _),λm hm hb2=>(by show m<=(h.upd b none).low;rw[H.low_upd];exact Nat.le_min.2 ⟨hm,hb2 b rfl⟩)⟩
  ·unfold Go.Sim.appTo
   simp only[hg];unfold ko;have e1:(true && true && Nat.beq te.size (j7 te).n && Nat.beq 0 (0*te.size) && zL ys && Nat.ble (0+n*te.size) cs.len)=true:=by
    simp[j7,ho,hl]
   rw[e1,oK];have e2:Nat.beq m 0=false:=by cases hm0:Nat.beq m 0 with
    | false=>rfl
    | true=>have:=oF hm0;omega
   rw[e2,oM];have e3:qQ h b 0 n (.skip 0) te.size (n+m) cs (j7 te) true ys=none:=by
    unfold qQ;have hpos:0<m*te.size:=Nat.mul_pos hm hs0;rw[zA3 (by rw[hl,hys];omega)]
   rw[e3];simp only;unfold Yq;have e4:(Nat.beq 0 0 && Nat.beq cs.len (0+n*te.size) && Nat.ble (j7 te).fz (0+n*te.size) && (Nat.beq (j7 te).ty 0 || Nat.beq (j7 te).ty (te.id+1)))=true:=by
    simp[j7,hl]
   rw[e4,oK,h1];exact wF hby hn2
  ·refine⟨by rw[oU,h0,hys,hmul],.inr ⟨(qB h b).nx,cs',rfl,by rw[zH];exact oc _,zZ _ hn2,h2,by rw[h3,hl,hys,hmul],λi hi=>?_⟩⟩
   rw[h4,hl];by_cases hi2:i<n*te.size
   ·rw[if_pos hi2,hc i hi2,List.getElem?_append_left (by rw[h0];exact hi2)]
   ·rw[if_neg hi2,List.getElem?_append_right (by rw[h0];omega),h0]
  ·have hne:i≠b:=λe=>hne (by rw[e];rfl)
   rw[yT _ hn2 (show i<(qB h b).nx from hi)];exact zQ _ hbt hne
theorem Ow.append{h:H}{v x:V}{te ti:TI}{n m t e:Nat}{xs ys:List V}(s:Ow h v te n xs)(hx:Sl h x te.size m ys)(hm:0<m)(ht:c.ty.get t=some ti)(hd:ti.desc = .slice e)(he:c.ty.get e=some te)(hok:kH te=true)(ho:zL ys=true)(hsz:(n+m)*te.size<=262143)(hby:(n+m)*te.bytes<=1099511627776)(hn:h.nx<T.top):
  ∃v' h',zc c t h v x=some (v',h')/\Ow h' v' te (n+m) (xs++ys)/\h.nx<=h'.nx/\h'.nx<=h.nx+1/\(∀b,b<h.nx->zy v≠some b->h'.get b=h.get b)/\zy v'=some h.nx/\h'.low<=h.low/\(∀m,m<=h.low->(∀b,zy v=some b->m<=b)->m<=h'.low):=by
 have hs0:0<te.size:=by
  unfold kH at hok;simp only[oG]at hok;exact(zY _ _).1 hok.1.1
 have hap:zc c t h v x=Go.Sim.appTo te h m ys v:=by
  unfold zc;rw[ht];simp only[hd,he,hok,oK,hx.src hs0 hm]
 rw[hap];exact s.appTo hx.1 hm hok ho hsz hby hn
theorem Ow.zeros{h:H}{v u z:V}{te ti:TI}{n m t e:Nat}{xs:List V}(s:Ow h v te n xs)(hm:0<m)(ht:c.ty.get t=some ti)(hd:ti.desc = .slice e)(he:c.ty.get e=some te)(hok:kH te=true)(hz:te.zero=some z)(hzc:z.cells=[u])(h1:te.size=1)(hu:u.one=true)(hsz:n+m<=262143)(hby:(n+m)*te.bytes<=1099511627776)(hn:h.nx<T.top):
  ∃v' h',X1 c t h v (.int .i64 (m:Int))=some (v',h')/\Ow h' v' te (n+m) (xs++List.replicate m u)/\h.nx<=h'.nx/\h'.nx<=h.nx+1/\(∀b,b<h.nx->zy v≠some b->h'.get b=h.get b)/\zy v'=some h.nx/\h'.low<=h.low/\(∀m,m<=h.low->(∀b,zy v=some b->m<=b)->m<=h'.low):=by
 have hap:X1 c t h v (.int .i64 (m:Int))=Go.Sim.appTo te h m (List.replicate m u) v:=by
  unfold X1;rw[ht];have hb:m*te.bytes<=1099511627776:=oQ (Nat.mul_le_mul_right _ (Nat.le_add_left _ _)) hby;have e1:Nat.beq te.size 1=true:=by rw[h1];rfl
  simp only[hd,he,hok,e1,Bool.and_self,oK,hz,hzc];show cond (Nat.ble (m*te.bytes) 1099511627776) _ none=_;rw[oC hb,oK]
 rw[hap];exact s.appTo (by rw[List.length_replicate,h1,Nat.mul_one]) hm hok (ye.2 λw hw=>by rw[List.eq_of_mem_replicate hw];exact hu) (by rw[h1];omega) hby hn
theorem Ow.zeros0{h:H}{v u z:V}{te ti:TI}{n t e:Nat}{xs:List V}(s:Ow h v te n xs)(ht:c.ty.get t=some ti)(hd:ti.desc = .slice e)(he:c.ty.get e=some te)(hok:kH te=true)(hz:te.zero=some z)(hzc:z.cells=[u])(h1:te.size=1):X1 c t h v (.int .i64 0)=some (v,h):=by
 have e1:Nat.beq te.size 1=true:=by rw[h1];rfl
 unfold X1;rw[ht];simp only[hd,he,hok,e1,Bool.and_self,oK,hz,hzc];show cond (Nat.ble (0*te.bytes) 1099511627776) _ none=_;rw[Nat.zero_mul,show Nat.ble 0 1099511627776=true from rfl,oK];obtain⟨h0,⟨rfl,rfl⟩|⟨b,cs,rfl,hb,hg,hw,hl,hc⟩⟩:=s
 ·rfl
 ·unfold Go.Sim.appTo
  simp only[hg];unfold ko;have e1:(true && true && Nat.beq te.size (j7 te).n && Nat.beq 0 (0*te.size) && zL ([]:List V) && Nat.ble (0+n*te.size) cs.len)=true:=by
   simp[j7,hl,zL]
  rw[show List.replicate 0 u=[]from rfl,e1,oK];rfl
theorem jf{h:H}{t e:Nat}{ti te:TI}{z u:V}{ys:List V}(ht:c.ty.get t=some ti)(hd:ti.desc = .slice e)(he:c.ty.get e=some te)(hz:te.zero=some z)(hzl:wU z.cells te.size=true)(hu:u.cells=ys)(hl:ys.length=te.size)(hs:te.size<=16)(ho:zL ys=true)(hn:h.nx<T.top):∃v h',zF c t 1 [(0,u)] h=some (v,h')/\Sl h' v te.size 1 ys/\Ext h h' 1/\zy v=some h.nx:=by
 obtain⟨cs,h1,h2⟩:=Cs.ofL_some (l:=ys) (by rw[hl];omega);obtain⟨h3,h4⟩:=Cs.ofL_eq h1;refine⟨.slice h.nx 0 1 (.exact 1),h.new (.cells cs ⟨0,e+1,0⟩ true false),?_,⟨by rw[hl,Nat.one_mul],.inr ⟨h.nx,0,_,cs,_,_,_,rfl,by rw[zH];omega,zZ _ hn,λi _=>by rw[h4,Nat.zero_add]⟩⟩,Ext.new _ hn,rfl⟩
 have hzl2:=yl.1 hzl;have hf:Ya c (λi=>some (i*te.size,te.size)) (xD z.cells 1) [(0,u)]=some ys:=by
  unfold Ya;simp only[Nat.zero_mul,hu];have:wU ys te.size=true:=yl.2 hl;rw[this,oK];have hz1:xD z.cells 1=z.cells:=by simp[xD]
  rw[hz1];obtain⟨r,hr⟩:=Cs.splice_some (n:=0) (vs:=ys) (l:=z.cells) (by rw[hl,hzl2];omega);rw[hr];simp only[Ya]
  congr 1
  obtain⟨g1,g2,g3⟩:=qo hr;apply List.ext_getElem?;intro i;rw[g3 i];by_cases hi:i<ys.length
  ·rw[if_pos ⟨oJ _,by omega⟩];rfl
  ·rw[if_neg (by omega),og (by omega),og (by omega)]
 unfold zF;rw[ht];simp only[hd,he,hz];have hb:Nat.ble (1*te.size) 1048576=true:=oC (by omega);rw[hb,oK,hzl,oK,hf];simp only;unfold Z2 qg;rw[ho,oK,(zY _ _).2 hn,oK,h1]
end
end Go.Sim
namespace Go.Sim
theorem Kw(D:Nat->Prop)(h:H):Dx D h h=D:=by
 funext id
 exact propext ⟨λe=>e.elim (λq=>q) (λq=>by omega),.inl⟩
theorem SimF.frame{P:Program}{f:Nat}{b:Bool}{h0 h:H}(s:SimF P f [] H0 (.ret (.bool b) h0)):SimF P f [] h (.ret (.bool b) h):=by
 intro ρ D w hr _;have h1:=s zDG (λ_=>False) w (zC9 _ _) (by simp);refine CallsIn.mono h1 ?_;rintro e w' ⟨ρ',rfl,m,_,_⟩;have fr:∀r,r<w.heap.size->w'.heap[r]? = w.heap[r]?:=λk hk=>m.frame k hk λ_ _ hj=>hj.elim
 refine⟨ρ,rfl,⟨oP _,m.size,m.os,m.tape,m.output,λ_ _=>⟨rfl,rfl,rfl⟩,λid o' _ hg=>⟨o',hg,rfl⟩,λid o' g1 g2 _=>by omega,λr hr _=>fr r hr,oP _,λ_ _ _=>rfl⟩,?_,trivial⟩
 rw[Kw];refine⟨hr.cap,hr.lt,λid o hd hg=>?_,hr.inj⟩
 have h2:=hr.rel id o hd hg;rcases Nat.lt_or_ge (ρ.blk id) w.heap.size with q|q
 ·rw[fr _ q];exact h2
 ·exfalso
  rw[Array.getElem?_eq_none q]at h2;cases o<;>simp[ORel]at h2
def Plain(x:V):Prop:=(∀ρ,x.conc ρ=x.conc zDG)/\∀D,x.In D
theorem ym(k:IntKind)(n:Int):Plain (.int k n):=⟨λ_=>by simp[V.conc],λ_=>by simp[V.In]⟩
theorem XN(b:Bool):Plain (.bool b):=⟨λ_=>by simp[V.conc],λ_=>by simp[V.In]⟩
theorem Jh(l:List UInt8):Plain (.str l):=⟨λ_=>by simp[V.conc],λ_=>by simp[V.In]⟩
theorem zLN{l:List V}(h:∀x∈l,Plain x):Plain (.agg l) :=
 ⟨λρ=>by
  simp only[V.conc,V.concL_eq];rw[List.map_congr_left λx hx=>(h x hx).1 ρ],λD=>by
  simp only[V.In];exact V.InL_iff.2 λx hx=>(h x hx).2 D⟩
theorem zFo{l:List V}(h:∀x∈l,Plain x):Plain (.tuple l) :=
 ⟨λρ=>by
  simp only[V.conc,V.concL_eq];rw[List.map_congr_left λx hx=>(h x hx).1 ρ],λD=>by
  simp only[V.In];exact V.InL_iff.2 λx hx=>(h x hx).2 D⟩
theorem SimF.plain{P:Program}{f:Nat}{args:List V}{v:V}{h0 h:H}(s:SimF P f args H0 (.ret v h0))(ha:∀a∈args,Plain a)(hv:Plain v):SimF P f args h (.ret v h):=by
 intro ρ D w hr _;have h1:=s zDG (λ_=>False) w (zC9 _ _) (λa q=>(ha a q).2 _)
 have he:args.map (V.conc ρ)=args.map (V.conc zDG):=List.map_congr_left λa q=>(ha a q).1 ρ
 rw[he];refine CallsIn.mono h1 ?_;rintro e w' ⟨ρ',rfl,m,_,_⟩;have fr:∀r,r<w.heap.size->w'.heap[r]? = w.heap[r]?:=λk hk=>m.frame k hk λ_ _ hj=>hj.elim
 refine⟨ρ,by rw[hv.1 ρ',hv.1 ρ],⟨oP _,m.size,m.os,m.tape,m.output,λ_ _=>⟨rfl,rfl,rfl⟩,λid o' _ hg=>⟨o',hg,rfl⟩,λid o' g1 g2 _=>by omega,λr hr _=>fr r hr,oP _,λ_ _ _=>rfl⟩,?_,hv.2 _⟩
 rw[Kw];refine⟨hr.cap,hr.lt,λid o hd hg=>?_,hr.inj⟩
 have h2:=hr.rel id o hd hg;rcases Nat.lt_or_ge (ρ.blk id) w.heap.size with q|q
 ·rw[fr _ q];exact h2
 ·exfalso
  rw[Array.getElem?_eq_none q]at h2;cases o<;>simp[ORel]at h2
theorem RF.plain{P:Program}{c:Ctx}{f:Nat}{args:List V}{h:H}{Q:V->H->Prop}(r:RF P c f args H0 λv _=>Plain v/\Q v h)(ha:∀a∈args,Plain a):RF P c f args h Q:=by
 obtain⟨v,h',⟨hf,s⟩,hp,hq⟩:=r;exact⟨v,h,⟨hf,s.plain ha hp⟩,hq⟩
open Go.RowKit Go.ChangeShapes Go.WideShapes Go.ChangeAt
def hRO(l:List V):H:=H0.new (.cells (.ls l) ⟨0,0,0⟩ false false)
def zFF(b off:Nat):Env:={ blk:=λ_=>b,off:=λ_=>off,cap:=λ_=>0 }
theorem jL(l:List V):(hRO l).nx=1:=zH _ _
theorem Xl(l:List V):(hRO l).get 0=some (.cells (.ls l) ⟨0,0,0⟩ false false):=zZ (h:=H0) _ (by decide)
theorem zZU{l:List V}{b off:Nat}{c:Array Value}{e:TypeId}{fz:Nat×Nat}{W:World}(hb:W.heap[b]? = some (.cells c e fz))(hc:∀i v,l[i]? = some v->c[off+i]? = some (v.conc zDG))(hv:∀v∈l,v.conc (zFF b off)=v.conc zDG)(hin2:∀v∈l,v.In (λi=>i=0)):
  HR (zFF b off) (λi=>i=0) (hRO l) W:=by
 refine⟨by rw[jL];decide,λi hi=>by rw[jL];omega,λi o hi hg=>?_,λi j oi oj hi hj hgi _ hw=>?_⟩
 ·subst hi
  rw[Xl]at hg;cases hg;refine⟨c,e,fz,hb,λi v h=>?_,λi v h=>hin2 v (List.mem_of_getElem? ((Cs.getL_eq l i).symm.trans h)),λh=>by cases h⟩
  have h':l[i]? = some v:=(Cs.getL_eq l i).symm.trans h;rw[hv v (List.mem_of_getElem? h')];exact hc i v h'
 ·subst hi
  rw[Xl]at hgi;cases hgi;cases hw
variable {P:Program}{c:Ctx}{f:Nat}
end Go.Sim
namespace Go.Sim
open Go.RowKit Go.ChangeShapes Go.WideShapes Go.ChangeAt
def Rd(W:World)(v:Value)(esz n:Nat)(xs:List V):Prop :=
 xs.length=n*esz/\((v = .slice none 0 0/\n=0)\/∃b off cap cs e fz,v = .slice (some ⟨b,off,none⟩) n cap/\n<=cap/\W.heap[b]? = some (.cells cs e fz)/\∀i x,xs[i]? = some x->cs[off+i]? = some (x.conc zDG))
def ab(i n:Nat):Value->V
 | .slice (some _) _ cap=>.slice i 0 n (.exact cap)
 | _=>.nilslice
def pb:Value->Bool
 | .slice (some _) _ _=>true
 | _=>false
def zW2:Value->Nat
 | .slice (some a) _ _=>a.block
 | _=>0
def zW5:Value->Nat
 | .slice (some a) _ _=>a.off
 | _=>0
def ZS(xs ys:List V):H:=(hRO xs).new (.cells (.ls ys) ⟨0,0,0⟩ false false)
def zMu(v w:Value):Env:={ blk:=λi=>cond (Nat.beq i 0) (zW2 v) (zW2 w),off:=λi=>cond (Nat.beq i 0) (zW5 v) (zW5 w),cap:=λ_=>0 }
def D2(v w:Value)(i:Nat):Prop:=(i=0/\pb v=true)\/(i=1/\pb w=true)
theorem qz(xs ys:List V):(ZS xs ys).nx=2:=by unfold ZS;rw[zH,jL]
theorem qy(xs ys:List V):(ZS xs ys).get 0=some (.cells (.ls xs) ⟨0,0,0⟩ false false):=by
 unfold ZS;rw[yT _ (by rw[jL];decide) (by rw[jL];decide),Xl]
theorem XE(xs ys:List V):(ZS xs ys).get 1=some (.cells (.ls ys) ⟨0,0,0⟩ false false):=by
 unfold ZS;have:=zZ (h:=hRO xs) (.cells (.ls ys) ⟨0,0,0⟩ false false) (by rw[jL];decide)
 rwa [jL]at this
theorem zZM(xs ys:List V):(ZS xs ys).low=T.top:=rfl
theorem zWC{W:World}{v w:Value}{e1 n1 e2 n2:Nat}{xs ys:List V}(r1:Rd W v e1 n1 xs)(r2:Rd W w e2 n2 ys)(px:∀x∈xs,Plain x)(py:∀x∈ys,Plain x):HR (zMu v w) (D2 v w) (ZS xs ys) W:=by
 refine⟨by rw[qz];decide,λi hi=>by rw[qz];rcases hi with⟨rfl,_⟩|⟨rfl,_⟩<;>decide,λi o hi hg=>?_,λi j oi oj hi hj hgi _ hw=>?_⟩
 ·rcases hi with⟨rfl,hp⟩|⟨rfl,hp⟩
  ·rw[qy]at hg
   cases hg;obtain⟨_,⟨rfl,_⟩|⟨b,off,cap,cs,e,fz,rfl,_,hb,hc⟩⟩:=r1
   ·cases hp
   ·refine⟨cs,e,fz,hb,λi x h=>?_,λi x h=>(px x (List.mem_of_getElem? ((Cs.getL_eq xs i).symm.trans h))).2 _,λh=>by cases h⟩
    have h':xs[i]? = some x:=(Cs.getL_eq xs i).symm.trans h;rw[(px x (List.mem_of_getElem? h')).1];exact hc i x h'
  ·rw[XE]at hg
   cases hg;obtain⟨_,⟨rfl,_⟩|⟨b,off,cap,cs,e,fz,rfl,_,hb,hc⟩⟩:=r2
   ·cases hp
   ·refine⟨cs,e,fz,hb,λi x h=>?_,λi x h=>(py x (List.mem_of_getElem? ((Cs.getL_eq ys i).symm.trans h))).2 _,λh=>by cases h⟩
    have h':ys[i]? = some x:=(Cs.getL_eq ys i).symm.trans h;rw[(py x (List.mem_of_getElem? h')).1];exact hc i x h'
 ·rcases hi with⟨rfl,hp⟩|⟨rfl,hp⟩
  ·rw[qy]at hgi
   cases hgi;cases hw
  ·rw[XE]at hgi
   cases hgi;cases hw
theorem zML{W:World}{v w:Value}{e1 n1:Nat}{xs:List V}(r1:Rd W v e1 n1 xs):(ab 0 n1 v).conc (zMu v w)=v:=by
 obtain⟨_,⟨rfl,rfl⟩|⟨b,off,cap,cs,e,fz,rfl,_,hb,hc⟩⟩:=r1
 ·simp[ab,V.conc]
 ·simp[ab,V.conc,zMu,zW2,zW5,Cap.val]
theorem zW0{W:World}{v w:Value}{e1 n1:Nat}{xs:List V}(r1:Rd W v e1 n1 xs):(ab 0 n1 v).In (D2 v w):=by
 obtain⟨_,⟨rfl,rfl⟩|⟨b,off,cap,cs,e,fz,rfl,_,hb,hc⟩⟩:=r1
 ·simp[ab,V.In]
 ·simp[ab,V.In,D2,pb]
theorem zZl{W:World}{v:Value}{i e1 n1:Nat}{xs:List V}(r1:Rd W v e1 n1 xs):(ab i n1 v = .nilslice/\n1=0)\/∃cap,n1<=cap/\ab i n1 v = .slice i 0 n1 (.exact cap):=by
 obtain⟨_,⟨rfl,rfl⟩|⟨b,off,cap,cs,e,fz,rfl,hl,hb,hc⟩⟩:=r1
 ·exact .inl ⟨rfl,rfl⟩
 ·exact .inr ⟨cap,hl,rfl⟩
theorem zW1{W:World}{v:Value}{e1 n1:Nat}{xs:List V}(r1:Rd W v e1 n1 xs)(ys:List V):Sl (ZS xs ys) (ab 0 n1 v) e1 n1 xs:=by
 refine⟨r1.1,?_⟩;rcases zZl (i:=0) r1 with⟨h1,h2⟩|⟨cap,_,h1⟩
 ·exact .inl ⟨h1,h2⟩
 ·exact .inr ⟨0,0,_,_,_,_,_,h1,by rw[qz];decide,qy _ _,λi _=>by rw[Nat.zero_add];exact Cs.getL_eq xs i⟩
theorem SimF.calls2{P:Program}{f:Nat}{args:List V}{h:H}{xs ys:List V}{v w:Value}{W:World}(s:SimF P f args (ZS xs ys) (.ret (.bool true) h))(hr:HR (zMu v w) (D2 v w) (ZS xs ys) W)(hin:∀x∈args,x.In (D2 v w)):
  Calls P f (args.map (V.conc (zMu v w))).toArray W λe W'=>e = .returned (.bool true)/\Below W.heap.size W W':=by
 have h1:=s _ _ W hr hin;refine CallsIn.calls (F:=Fx none) (CallsIn.mono h1 ?_) (zI2 none);rintro e W' ⟨ρ,rfl,m,_,_⟩;refine⟨rfl,m.os,m.tape,m.output,m.size,λk hk=>m.frame k hk λj o hj hg hw=>?_⟩
 rcases hj with⟨rfl,hp⟩|⟨rfl,hp⟩
 ·rw[qy]at hg
  cases hg;cases hw
 ·rw[XE]at hg
  cases hg;cases hw
theorem Yb{H:Type}{enc:TypeId×Value->H}{P:Program}(hl:laidOutB P=true){W W':World}(hb:Below W.heap.size W W'):
  ∀{ts:List TypeId}{vs:List Value}{ds:List (DataW H)}{ps:List MemPlace},(ts.all λt=>P.readableRec t && decide (t<P.types.size))=true->DataW.TrodAll enc P W 0 (λ_=>true) true ts vs ds ps->(∀x∈ps,x.block<W.heap.size) ->
   DataW.TrodAll enc P W' 0 (λb=>decide (b<W.heap.size)) true ts vs ds ps
 | [],[],[],_,_,h,_=>h
 | _::_,_::_,_::_,_,ht,⟨p,q,h1,h2,e⟩,hp=>by
  simp only[List.all_cons,oG]at ht;exact⟨p,q,Below.trod hl ht.1.1 (of_decide_eq_true ht.1.2) h1 hb (λx hx=>hp x (by rw[e];exact List.mem_append_left _ hx)),Yb hl hb ht.2 h2 (λx hx=>hp x (by rw[e];exact List.mem_append_right _ hx)),e⟩
theorem zLT{H:Type}{enc:TypeId×Value->H}{P:Program}{f:Func}{s:ChangeSpec}{W W':World}{args:Array Value}{ds gs:List (DataW H)}{before:List MemPlace}{bt:TypeId}(hl:laidOutB P=true)(hts:(f.params.toList.all λt=>P.readableRec t && decide (t<P.types.size))=true)(hW:DataW.Whole enc P f.params.toList s.vars false W args.toList ds gs before)(hb:Below W.heap.size W W')(hr:f.resultTypes = #[bt])(ht:P.underlying bt=some .bool)(er:(s.fn H (ds++gs)).results=[.lit (.bool true)])(ea:(s.fn H (ds++gs)).args=ds)(hv:DataW.TrodVars enc P W' (λb=>decide (b<W.heap.size)) s.vars (s.fn H (ds++gs)).vars []):
  s.post enc P f false true false false W args (.bool true) W':=by
 have hlt:=hW.lt;have hW':=hW;obtain⟨p,q,hA,_,rfl,_,_⟩:=hW;exact zLU (pa:=p) (pv:=[]) hW' hb hr ht er (by rw[ea];exact Yb hl hb hts hA λx hx=>hlt x (List.mem_append_left _ hx)) hv
section
variable {H:Type}{enc:TypeId×Value->H}{P:Program}{W:World}{base:Nat}
theorem zGQ{t e:TypeId}{a:Addr}{len cap:Nat}(ht:P.underlying t=some (.slice e))(hv:Value.okWide P W .any base t (.slice (some a) len cap)):a.spot=none/\∃cs e fz,W.heap[a.block]? = some (.cells cs e fz):=by
 simp only[Value.okWide,ht,Cell.okWide,Cell.ok]at hv;obtain⟨_,_,_,h2,row,cells,h3,_⟩:=hv;refine⟨h2,?_⟩;unfold World.shape? at h3;split at h3
 ·rename_i cs e fz h4;exact⟨cs,e,fz,h4⟩
 ·cases h3
theorem zS8{t e:TypeId}{v:Value}{d:DataW H}{p:List MemPlace}(ht:P.underlying t=some (.slice e))(he:P.underlying e=some (.int .i64))(hc:P.cellsOf e=1)(hv:Value.okWide P W .any base t v)(h:DataW.Trod enc P W 0 (λ_=>true) true t v d p):
  ∃zs:List Int,Rd W v 1 zs.length (zs.map λn=>V.int .i64 n)/\zs.length<9223372036854775808:=by
 obtain⟨a0,l0,c0,rfl⟩:=okWide_slice ht hv;obtain⟨fuel,hx⟩:=h;have hx':DataW.trod enc P W 0 (λ_=>true) true fuel t [.slice a0 l0 c0]=some (d,p):=by simpa [Value.cells]using hx
 rcases open_ints ht he hc hx' with⟨e1,e2⟩|⟨a,len,cap,zs,e1,_,hl,hm,hz,e2,hcell,hw⟩
 ·cases e1
  exact⟨[],⟨rfl,.inl ⟨rfl,rfl⟩⟩,by decide⟩
 ·cases e1
  have hz':zs.length=c0:=by simpa using hz
  obtain⟨hsp,cs,e,fz,hb⟩:=zGQ ht hv;obtain⟨b,off,sp⟩:=a;cases hsp;have hlen:(zs.take l0).length=l0:=by simp;omega
  have hml:c0<=2^63-1:=hm;refine⟨zs.take l0,⟨by simp,.inr ⟨b,off,c0,cs,e,fz,by rw[hlen],by omega,hb,λi x hi=>?_⟩⟩,by omega⟩
  rw[oW]at hi;obtain⟨z,h1,rfl⟩:=Option.map_eq_some_iff.1 hi;have hil:i<l0:=by have:=(List.getElem?_eq_some_iff.1 h1).1;omega
  have h2:zs.getD i 0=z:=by
   rw[List.getElem?_take_of_lt hil]at h1;simp[List.getD,h1]
  have:=hcell i (by omega);rw[add_plain,h2]at this;simpa [World.cell?,hb,V.conc]using this
end
end Go.Sim
namespace Go.Sim
variable (P:Program) (c:Ctx)
def wpT(b:Bool)(ops:List Oper)(o:Oper)(l:List Oper)(s:St)(Q:AX->St->Prop):Prop :=
 match o.op with
 | .call cl =>
  (match cl.callee with
  | .value x=>(match yF s.tm x with
   | some (.func (.func _) _ _)=>zU ops s.tm o=true/\zEA c P o (yF s.tm) s.heap λv h=>jA o.dst v s h λs'=>Y5 P c b ops l s' Q
   | _=>False)
  | _=>False)
 | _=>False
variable {P c}
theorem zDX(ok:CtxOK P c){b:Bool}{ops:List Oper}{o:Oper}{l:List Oper}{s:St}{Q:AX->St->Prop}(ht:l.all wq=true)(hc:yG l=[])(h:wpT P c b ops o l s Q):
  ∃orc,xk P c orc/\∃x s',we c orc b jC ops (o::l) s=some (.done x s')/\Q x s':=by
 unfold wpT at h;split at h
 ·rename_i cl ho
  split at h
  ·rename_i x hcal
   split at h
   ·rename_i g first captured hx
    obtain⟨hw,h⟩:=h;have hk:=qq h;have rest:∀{orc orc':Nat->List V->H->Option (V×H)}{s1:St},we c orc b jC ops l s1=we c orc' b jC ops l s1:=λ{_ _ _}=>zAo l ht λf hf=>by rw[hc]at hf;cases hf
    have plain:∀s1,zV c XM b jC o s=some (.normal,s1)->Y5 P c b ops l s1 Q->∃orc,xk P c orc/\∃x s',we c orc b jC ops (o::l) s=some (.done x s')/\Q x s':=by
     intro s1 hs hk;obtain⟨orc,h1,_,x,s',h3,h4⟩:=ON ok l (b:=b) (ops:=ops) ht (by rw[hc];rfl) hk;refine⟨XM,kF,x,s',?_,h4⟩;simp only[we,hw,oK,hs];rw[rest (orc':=orc)];exact h3
    cases ha:zh c o (yF s.tm) s.heap with
    | none=>rw[ha]at hk;exact hk.elim
    | some an =>
     rw[ha]at hk;cases an with
     | val v h' =>
      have hk:jA o.dst v s h' (λs'=>Y5 P c b ops l s' Q):=hk;obtain⟨s1,hp,hk⟩:=yV hk;exact plain s1 (by unfold zV;simp only[ha,hp]) hk
     | skip h' =>
      have hk:jA o.dst zB s h' (λs'=>Y5 P c b ops l s' Q):=hk;obtain⟨s1,hp,hk⟩:=yV hk;exact plain s1 (by unfold zV;simp only[ha,hp]) hk
     | round lp args =>
      exfalso
      unfold zh at ha;simp only[ho]at ha;unfold xR at ha;cases hl:ZW (yF s.tm) cl.args.toList with
      | none=>simp[hl]at ha
      | some as =>
       simp only[hl,hcal,hx]at ha;unfold qt at ha;cases hi:YS c g with
       | true =>
        rw[hi,oK]at ha;split at ha<;>cases ha
       | false =>
        rw[hi,oM]at ha;split at ha
        ·rename_i el _
         revert ha;generalize zRP el s.heap first as captured=q
         cases q<;>(intro e;cases e)
        ·cases ha
     | call f args =>
      obtain⟨v,h',⟨hfn,hs⟩,hq⟩:=hk;obtain⟨s1,hp,hk⟩:=yV hq;obtain⟨orc,h1,_,x,s',h3,h4⟩:=ON ok l (b:=b) (ops:=ops) ht (by rw[hc];rfl) hk;refine⟨zB1 f args s.heap v h',Xz hfn hs,x,s',?_,h4⟩;have hs':zV c (zB1 f args s.heap v h') b jC o s=some (.normal,s1):=by
       unfold zV;simp only[ha];unfold jG;rw[Xy];simp only[hp]
      simp only[we,hw,oK,hs'];rw[rest (orc':=orc)];exact h3
     | _=>exact hk.elim
   ·exact h.elim
  ·exact h.elim
 ·exact h.elim
end Go.Sim
namespace Go.Sim
theorem zW{n:Nat}(h:n<18446744073709551616):zT .u64 (n:Int)=(n:Int):=by
 rw[xZ];simp only[IntKind.wrap,IntKind.bits,IntKind.signed];simp;omega
theorem jr{n:Nat}:zT .u8 (n:Int)=((n % 256:Nat):Int):=by
 rw[xZ];simp only[IntKind.wrap,IntKind.bits,IntKind.signed];simp
theorem zC6{n:Nat}(h:n<18446744073709551616):IntKind.u64.wrap (n:Int)=(n:Int):=by
 rw[<-xZ];exact zW h
theorem zC5{n:Nat}(h:n<9223372036854775808):IntKind.i64.wrap (n:Int)=(n:Int):=by
 rw[<-xZ];exact zD (Int.le_trans (by decide) (Int.natCast_nonneg _)) (Int.ofNat_lt.2 h)
theorem Zx{a n:Nat}(hn:n<=64)(h:a*2^n<18446744073709551616):zq .shl .u64 (a:Int) (n:Int)=some (.int .u64 ((a*2^n:Nat):Int)):=by
 show cond (JU (n:Int) 0) none (some (V.int .u64 (zT .u64 (zL8 (a:Int) (cond (Nat.ble n 64) n 64)))))=_;rw[oC hn,oK,yi,OS];have h3:decide ((n:Int)<0)=false:=by simp
 rw[h3,oM];have e:(a:Int)*2^n=((a*2^n:Nat):Int):=by rw[Int.natCast_mul,Int.natCast_pow];rfl
 rw[e,zW h]
theorem yH{a n:Nat}(hn:n<=64)(h:a*2^n<9223372036854775808):zq .shl .i64 (a:Int) (n:Int)=some (.int .i64 ((a*2^n:Nat):Int)):=by
 show cond (JU (n:Int) 0) none (some (V.int .i64 (zT .i64 (zL8 (a:Int) (cond (Nat.ble n 64) n 64)))))=_;rw[oC hn,oK,yi,OS];have h3:decide ((n:Int)<0)=false:=by simp
 rw[h3,oM];have e:(a:Int)*2^n=((a*2^n:Nat):Int):=by rw[Int.natCast_mul,Int.natCast_pow];rfl
 rw[e];exact congrArg _ (congrArg _ (zD (Int.le_trans (by decide) (Int.natCast_nonneg _)) (Int.ofNat_lt.2 h)))
theorem JM{a n:Nat}(h:n<=64):zq .shr .u64 (a:Int) (n:Int)=some (.int .u64 ((a/2^n:Nat):Int)):=by
 show cond (JU (n:Int) 0) none (some (V.int .u64 (zB6 (a:Int) (cond (Nat.ble n 64) n 64))))=_;rw[oC h,oK,yi];have h3:decide ((n:Int)<0)=false:=by simp
 rw[h3,oM]
 congr 2
 show Int.ofNat (Nat.shiftRight a n)=_;rw[show Nat.shiftRight a n=a >>> n from rfl,Nat.shiftRight_eq_div_pow];rfl
theorem qn{a n:Nat}(h:n<=64):zq .shr .i64 (a:Int) (n:Int)=some (.int .i64 ((a/2^n:Nat):Int)):=by
 show cond (JU (n:Int) 0) none (some (V.int .i64 (zB6 (a:Int) (cond (Nat.ble n 64) n 64))))=_;rw[oC h,oK,yi];have h3:decide ((n:Int)<0)=false:=by simp
 rw[h3,oM]
 congr 2
 show Int.ofNat (Nat.shiftRight a n)=_;rw[show Nat.shiftRight a n=a >>> n from rfl,Nat.shiftRight_eq_div_pow];rfl
theorem xE{w n:Nat}(h:n<2^w):(BitVec.ofInt w (n:Int)).toNat=n:=by
 rw[BitVec.ofInt_natCast,BitVec.toNat_ofNat,oe h]
theorem zJK{a b:Nat}(ha:a<18446744073709551616)(hb:b<18446744073709551616):zq .or .u64 (a:Int) (b:Int)=some (.int .u64 ((a ||| b:Nat):Int)):=by
 show some (V.int .u64 (IntKind.u64.wrap (((BitVec.ofInt 64 (a:Int) ||| BitVec.ofInt 64 (b:Int)).toNat:Nat):Int)))=_;rw[BitVec.toNat_or,xE (show a<2^64 from ha),xE (show b<2^64 from hb)];rw[zC6 (show a ||| b<2^64 from Nat.or_lt_two_pow ha hb)]
theorem zE2{a b:Nat}(ha:a<18446744073709551616)(hb:b<18446744073709551616):zq .and .u64 (a:Int) (b:Int)=some (.int .u64 ((a &&& b:Nat):Int)):=by
 show some (V.int .u64 (IntKind.u64.wrap (((BitVec.ofInt 64 (a:Int) &&& BitVec.ofInt 64 (b:Int)).toNat:Nat):Int)))=_;rw[BitVec.toNat_and,xE (show a<2^64 from ha),xE (show b<2^64 from hb)];rw[zC6 (Nat.lt_of_le_of_lt Nat.and_le_left ha)]
theorem Z1{a b:Nat}(ha:a<9223372036854775808)(hb:b<9223372036854775808):zq .and .i64 (a:Int) (b:Int)=some (.int .i64 ((a &&& b:Nat):Int)):=by
 show some (V.int .i64 (IntKind.i64.wrap (((BitVec.ofInt 64 (a:Int) &&& BitVec.ofInt 64 (b:Int)).toNat:Nat):Int)))=_;rw[BitVec.toNat_and,xE (show a<2^64 by omega),xE (show b<2^64 by omega)];rw[zC5 (Nat.lt_of_le_of_lt Nat.and_le_left ha)]
theorem qP(a n:Nat):a &&& (2^n-1)=a % 2^n:=Nat.and_two_pow_sub_one_eq_mod a n
theorem zAX{a b i:Nat}(h:a<2^i):a ||| b*2^i=a+b*2^i:=by
 rw[Nat.mul_comm,Nat.or_comm,<-Nat.two_pow_add_eq_or_of_lt h];omega
variable (P:Program) (c:Ctx)
def zZu(fi:FI)(k:H->Prop):AX->St->Prop
 | .normal,s=>s.dfr=[]/\(match leave c fi.results s.tm s.heap fi.results []with|some _=>k s.heap|none=>False)
 | .ret,s=>s.dfr=[]/\(match leave c fi.results s.tm s.heap fi.results []with|some _=>k s.heap|none=>False)
 | _,_=>False
def RV(n f:Nat)(args:List V)(h:H)(k:H->Prop):Prop :=
 ∃fi,(c.fn.get f).map zI=some fi/\args.length<=fi.n/\fi.n<=511/\fi.n≠n/\wpC P c false fi.body ⟨fi.n,zC args 0 (Tb.leaf zB),[],h⟩ (zZu c fi k)
def zYz(n:Nat):List AD->H->(H->Prop)->Prop
 | [],h,k=>k h
 | [.fn f cap args],h,k=>RV P c n f (args++cap) h k
 | _,_,_=>False
def endQ(fi:FI)(Q:V->H->Prop)(s:St)(h:H):Prop:=match leave c fi.results s.tm h fi.results []with|some vs=>Q (yO vs) h|none=>False
def endW1(fi:FI)(Q:V->H->Prop):AX->St->Prop
 | .normal,s=>zYz P c fi.n s.dfr s.heap (endQ c fi Q s)
 | .ret,s=>zYz P c fi.n s.dfr s.heap (endQ c fi Q s)
 | _,_=>False
variable {P c}
open Classical in
def ih2(a b:Bool->Code->St->Option Out):Bool->Code->St->Option Out:=λx y z=>match a x y z with|some o=>some o|none=>b x y z
theorem zXk{a b:Bool->Code->St->Option Out}(ha:je P a)(hb:je P b):je P (ih2 a b):=by
 intro rd code s x s' e;unfold ih2 at e;cases h:a rd.isSome code s with
 | some o=>rw[h]at e;simp only[oA]at e;subst e;exact ha _ _ _ _ _ h
 | none=>rw[h]at e;exact hb _ _ _ _ _ e
theorem zRt{b:Bool}{code:Code}{s s':St}{x:AX}{b2:Bool}{c2:Code}{s2:St}(h:s2.n≠s.n):ih1 b code s x s' b2 c2 s2=none:=by
 unfold ih1;rw[if_neg];rintro⟨_,_,rfl⟩;exact h rfl
theorem RF.enterD(ok:CtxOK P c){f:Nat}{fi:FI}{args:List V}{h:H}{Q:V->H->Prop}(hf:(c.fn.get f).map zI=some fi)(ha:args.length<=fi.n)(hn:fi.n<=511)(hw:wpC P c false fi.body ⟨fi.n,zC args 0 (Tb.leaf zB),[],h⟩ (endW1 P c fi Q)):RF P c f args h Q:=by
 cases hg:c.fn.get f with
 | none=>rw[hg]at hf;cases hf
 | some fj =>
  rw[hg]at hf;simp only[oZ,oA]at hf;subst hf;obtain⟨e,s1,h1,h2⟩:=RC.of_wp ok fj.body hw;have ent:∀ih,ih false fj.body ⟨fj.n,zC args 0 (Tb.leaf zB),[],h⟩=some (.done e s1)->jv ih fj args h=some (.done e s1):=by
   intro ih hrun;unfold jv;have e1:Nat.ble (wG args 0) fj.n=true:=by rw[zJA];exact oC ha
   have e2:Nat.ble fj.n 511=true:=oC hn;rw[e1,e2];exact hrun
  have main1:=zAL false fj.body ⟨fj.n,zC args 0 (Tb.leaf zB),[],h⟩ e s1;have main2:je P (ih1 false fj.body ⟨fj.n,zC args 0 (Tb.leaf zB),[],h⟩ e s1):=zAM h1;have last:∀(ih:Bool->Code->St->Option Out) (h':H),je P ih->ih false fj.body ⟨fj.n,zC args 0 (Tb.leaf zB),[],h⟩=some (.done e s1)->xX (Z4 c ih) s1.dfr s1.heap=some h'->endQ c (zI fj) Q s1 h'->(e = .normal\/e = .ret)->RF P c f args h Q:=by
   intro ih h' hih hrun hd hq he;unfold endQ at hq
   change (match leave c fj.results s1.tm h' fj.results []with|some vs=>Q (yO vs) h'|none=>False)at hq
   cases hl:leave c fj.results s1.tm h' fj.results []with
   | none=>rw[hl]at hq;exact hq.elim
   | some vs =>
    rw[hl]at hq;refine⟨yO vs,h',⟨⟨fj,hg⟩,Z5 ok hih ?_⟩,hq⟩;have hend:zFE c ih fj s1=some (.ret (yO vs) h'):=by
     unfold zFE;rw[hd];show(match leave c fj.results s1.tm h' fj.results []with|some vs=>some (CallOut.ret (yO vs) h')|none=>none)=_
     rw[hl]
    unfold zBj;rw[hg];simp only[ent ih hrun];rcases he with rfl|rfl<;>exact hend
  have fin:zYz P c fj.n s1.dfr s1.heap (endQ c (zI fj) Q s1)->(e = .normal\/e = .ret)->RF P c f args h Q:=by
   intro hd he;cases hs:s1.dfr with
   | nil =>
    rw[hs]at hd;exact last _ s1.heap main2 main1 (by rw[hs];rfl) hd he
   | cons d l =>
    rw[hs]at hd;cases d with
    | coll id=>cases l<;>exact hd.elim
    | fn g cap as =>
     cases l with
     | cons d2 l=>exact hd.elim
     | nil =>
      obtain⟨fg,g1,g2,g3,g4,g5⟩:=hd;cases hg2:c.fn.get g with
      | none=>rw[hg2]at g1;cases g1
      | some fk =>
       rw[hg2]at g1;simp only[oZ,oA]at g1;subst g1;obtain⟨e2,s2,r1,r2⟩:=RC.of_wp ok fk.body g5;have second1:=zAL false fk.body ⟨fk.n,zC (as++cap) 0 (Tb.leaf zB),[],s1.heap⟩ e2 s2;have hih:je P (ih2 (ih1 false fj.body ⟨fj.n,zC args 0 (Tb.leaf zB),[],h⟩ e s1) (ih1 false fk.body ⟨fk.n,zC (as++cap) 0 (Tb.leaf zB),[],s1.heap⟩ e2 s2)):=zXk main2 (zAM r1);have k1:ih2 (ih1 false fj.body ⟨fj.n,zC args 0 (Tb.leaf zB),[],h⟩ e s1) (ih1 false fk.body ⟨fk.n,zC (as++cap) 0 (Tb.leaf zB),[],s1.heap⟩ e2 s2) false fj.body ⟨fj.n,zC args 0 (Tb.leaf zB),[],h⟩=some (.done e s1):=by
        unfold ih2;rw[main1]
       have k2:ih2 (ih1 false fj.body ⟨fj.n,zC args 0 (Tb.leaf zB),[],h⟩ e s1) (ih1 false fk.body ⟨fk.n,zC (as++cap) 0 (Tb.leaf zB),[],s1.heap⟩ e2 s2) false fk.body ⟨fk.n,zC (as++cap) 0 (Tb.leaf zB),[],s1.heap⟩=some (.done e2 s2):=by
        unfold ih2;rw[zRt (show fk.n≠fj.n from g4)];exact second1
       generalize ih2 (ih1 false fj.body ⟨fj.n,zC args 0 (Tb.leaf zB),[],h⟩ e s1) (ih1 false fk.body ⟨fk.n,zC (as++cap) 0 (Tb.leaf zB),[],s1.heap⟩ e2 s2)=ih at hih k1 k2;have hent:jv ih fk (as++cap) s1.heap=some (.done e2 s2):=by
        unfold jv;have e1:Nat.ble (wG (as++cap) 0) fk.n=true:=by rw[zJA];exact oC g2
        have e2:Nat.ble fk.n 511=true:=oC g3;rw[e1,e2];exact k2
       have call:∀(q1:s2.dfr=[]) (q2:match leave c fk.results s2.tm s2.heap fk.results []with|some _=>endQ c (zI fj) Q s1 s2.heap|none=>False),(e2 = .normal\/e2 = .ret)->RF P c f args h Q:=by
        intro q1 q2 he2;cases hl:leave c fk.results s2.tm s2.heap fk.results []with
        | none=>rw[hl]at q2;exact q2.elim
        | some vs =>
         rw[hl]at q2;have hend:Go.Sim.endD c fk s2=some (.ret (yO vs) s2.heap):=by
          unfold Go.Sim.endD;rw[q1];simp only[hl]
         have hcd:Z4 c ih g (as++cap) s1.heap=some (.ret (yO vs) s2.heap):=by
          unfold Z4;rw[hg2];simp only[hent];rcases he2 with rfl|rfl<;>exact hend
         refine last ih s2.heap hih k1 ?_ q2 he;rw[hs];show(match Z4 c ih g (as++cap) s1.heap with|some (.ret _ h')=>xX (Z4 c ih) [] h'|_=>none)=_
         rw[hcd];rfl
       cases e2 with
       | normal=>exact call r2.1 r2.2 (.inl rfl)
       | ret=>exact call r2.1 r2.2 (.inr rfl)
       | _=>exact r2.elim
  cases e with
  | normal=>exact fin h2 (.inl rfl)
  | ret=>exact fin h2 (.inr rfl)
  | _=>exact h2.elim
end Go.Sim
namespace Go.Sim
open Go (Code Oper Op)
def nEx(i:Nat):Code->Nat
 | .seq a b=>nEx i a+nEx i b
 | .cond _ a b=>nEx i a+nEx i b
 | .block _ b=>nEx i b
 | .scope b=>nEx i b
 | .exit j=>cond (Nat.beq i j) 1 0
 | _=>0
def zOb:List Oper->Nat
 | []=>1
 | o::l=>match o.op with
  | .pick ..=>2*zOb l
  | _=>zOb l
def zAU:Code->Nat
 | .region _ ops _=>zOb ops.toList
 | .seq a b=>zAU a*zAU b
 | .cond _ a b=>zAU a+zAU b
 | .block i b=>zAU b+nEx i b
 | .scope b=>zAU b
 | .exit _=>0
 | .ret=>0
 | _=>1
def z1o{α:Type}:List α->Nat
 | []=>0
 | _::l=>z1o l+1
def zF9:Code->Nat
 | .region _ ops _=>z1o ops.toList
 | .seq a b=>zF9 a+zF9 b
 | .cond _ a b=>zF9 a+zF9 b
 | .block _ b=>zF9 b
 | .scope b=>zF9 b
 | .loop b=>zF9 b
 | _=>0
def zOT(jn:Nat)(a b:Code):Bool:=cond (Nat.ble 2 (zAU a)) (Nat.ble jn (zF9 b)) false
def sealK(live:List Nat)(k:St->Prop):St->Prop:=λs=>∀tm',zAe s.tm tm' live (k ⟨s.n,tm',s.dfr,s.heap⟩)
theorem Ju{live:List Nat}{k:St->Prop}{s:St}(h:sealK live k s):k s:=zCT (h s.tm)
theorem zHw{tm tm':Tm}{q q':Prop}(hq:q->q'):∀{l:List Nat},zAe tm tm' l q->zAe tm tm' l q':=by
 intro l
 induction l with
 | nil=>exact hq
 | cons t l ih=>exact λh e=>ih (h e)
theorem XS{live:List Nat}{k k':St->Prop}(hk:∀s,k s->k' s){s:St}(h:sealK live k s):sealK live k' s:=λtm'=>zHw (hk _) (h tm')
variable (P:Program) (c:Ctx)
def wpS(live:List Nat)(jn:Nat)(b:Bool):Code->St->(AX->St->Prop)->Prop
 | .seq x y,s,Q=>wpS live jn b x s (thenC (cond (zOT jn x y) (sealK live λs1=>wpS live jn b y s1 Q) (λs1=>wpS live jn b y s1 Q)) Q)
 | .cond o x y,s,Q=>match yF s.tm o with
  | some v=>xM v λt=>match t with|true=>wpS live jn b x s Q|false=>wpS live jn b y s Q
  | none=>False
 | .block id x,s,Q=>wpS live jn b x s (λe s1=>Q (ze id e) s1)
 | .scope x,s,Q=>wpS live jn b x s Q
 | .loop x,s,Q=>sealK live (λs1=>wpC P c b (.loop x) s1 Q) s
 | .rangeFunc f ps asg body,s,Q=>sealK live (λs1=>RC P b (.rangeFunc f ps asg body) s1 Q) s
 | x,s,Q=>wpC P c b x s Q
variable {P c}
theorem zAr{k k':St->Prop}{Q Q':AX->St->Prop}(h1:∀s,k s->k' s)(h2:∀x s,Q x s->Q' x s):∀x s,thenC k Q x s->thenC k' Q' x s:=by
 intro x s h;cases x<;>first|exact h1 _ h|exact h2 _ _ h
theorem zQX{live:List Nat}{jn:Nat}{b:Bool}:∀(code:Code) {s:St}{Q Q':AX->St->Prop},(∀x s',Q x s'->Q' x s')->wpS P c live jn b code s Q->wpS P c live jn b code s Q':=by
 intro code
 induction code with
 | seq x y ihx ihy =>
  intro s Q Q' hq h;refine ihx (zAr (λs1 h1=>?_) hq) h;revert h1;cases zOT jn x y with
  | true=>exact λh1=>XS (k:=λs1=>wpS P c live jn b y s1 Q) (λ_ h=>ihy hq h) h1
  | false=>exact λh1=>ihy hq h1
 | cond o x y ihx ihy =>
  intro s Q Q' hq h;simp only[wpS]at h ⊢;cases ho:yF s.tm o with
  | none=>rw[ho]at h;exact h
  | some v =>
   rw[ho]at h;refine qD (λt ht=>?_) h;cases t with
   | true=>exact ihx hq ht
   | false=>exact ihy hq ht
 | block id x ih=>intro s Q Q' hq h;exact ih (λe s1=>hq _ _) h
 | scope x ih=>intro s Q Q' hq h;exact ih hq h
 | loop x ih=>intro s Q Q' hq h;exact XS (λ_ h=>YF _ hq h) h
 | rangeFunc f ps asg body=>intro s Q Q' hq h;exact XS (λ_ h=>RC.mono h hq) h
 | _=>intro s Q Q' hq h;exact YF _ hq h
theorem Y7{live:List Nat}{jn:Nat}{b:Bool}:∀(code:Code) {s:St}{Q:AX->St->Prop},wpS P c live jn b code s Q->wpC P c b code s Q:=by
 intro code
 induction code with
 | seq x y ihx ihy =>
  intro s Q h;refine YF x (zAr (λs1 h1=>?_) λ_ _ h=>h) (ihx h)
  revert h1;cases zOT jn x y with
  | true=>exact λh1=>ihy (Ju (k:=λs1=>wpS P c live jn b y s1 Q) h1)
  | false=>exact λh1=>ihy h1
 | cond o x y ihx ihy =>
  intro s Q h;simp only[wpS,wpC]at h ⊢;cases ho:yF s.tm o with
  | none=>rw[ho]at h;exact h
  | some v =>
   rw[ho]at h;refine qD (λt ht=>?_) h;cases t with
   | true=>exact ihx ht
   | false=>exact ihy ht
 | block id x ih=>intro s Q h;exact ih h
 | scope x ih=>intro s Q h;exact ih h
 | loop x ih=>intro s Q h;exact Ju h
 | rangeFunc f ps asg body=>intro s Q h;exact Ju h
 | _=>intro s Q h;exact h
theorem wpS.slt{live:List Nat}{jn:Nat}{b:Bool}{code:Code}{s:St}{Q:AX->St->Prop}{w:Prop}(e:wpS P c live jn b code s (yE live Q)=w)(h:w):wpS P c live jn b code s Q:=zQX _ (λ_ _=>Y1) (e ▸ h)
theorem wpC.sealS{live:List Nat}{jn:Nat}{b:Bool}{code:Code}{s:St}{Q:AX->St->Prop}{w:Prop}(e:wpS P c live jn b code s (yE live Q)=w)(h:w):wpC P c b code s Q:=Y7 _ (wpS.slt e h)
theorem RF.enterS(ok:CtxOK P c){live:List Nat}{jn:Nat}{f:Nat}{fi:FI}{args:List V}{h:H}{Q:V->H->Prop}{w:Prop}(hf:(c.fn.get f).map zI=some fi)(ha:args.length<=fi.n)(hn:fi.n<=511)(e:wpS P c live jn false fi.body ⟨fi.n,zC args 0 (Tb.leaf zB),[],h⟩ (endW c fi Q)=w)(hw:w):RF P c f args h Q:=RF.enter ok hf ha hn (Y7 _ (e ▸ hw))
theorem RF.enterDS(ok:CtxOK P c){live:List Nat}{jn:Nat}{f:Nat}{fi:FI}{args:List V}{h:H}{Q:V->H->Prop}{w:Prop}(hf:(c.fn.get f).map zI=some fi)(ha:args.length<=fi.n)(hn:fi.n<=511)(e:wpS P c live jn false fi.body ⟨fi.n,zC args 0 (Tb.leaf zB),[],h⟩ (endW1 P c fi Q)=w)(hw:w):RF P c f args h Q:=RF.enterD ok hf ha hn (Y7 _ (e ▸ hw))
end Go.Sim
namespace Go.Sim
abbrev Kn:=List (Nat×V)
def lk:Kn->Nat->Option V
 | [],_=>none
 | p::l,t=>cond (Nat.beq p.1 t) (some p.2) (lk l t)
def Has(tm:Tm):Kn->Prop
 | []=>True
 | p::l=>zk tm p.1=p.2/\Has tm l
theorem Has.nil{tm:Tm}:Has tm []:=trivial
theorem Has.get{tm:Tm}:∀{l:Kn}{t:Nat}{v:V},Has tm l->lk l t=some v->zk tm t=v
 | p::l,t,v,h,e=>by
  unfold lk at e;cases hb:Nat.beq p.1 t with
  | true=>rw[hb,oK]at e;rw[<-oF hb,h.1];exact Option.some.inj e
  | false=>rw[hb,oM]at e;exact Has.get h.2 e
def yu:Tm->Kn->Tm
 | tm,[]=>tm
 | tm,p::l=>yu (Tb.set tm p.1 p.2) l
theorem xc:∀{l:Kn}{tm:Tm},Has tm l->(l.all λp=>Nat.blt p.1 511)=true->yu tm l=tm
 | [],_,_,_=>rfl
 | p::l,tm,h,hk=>by
  rw[List.all_cons,oG]at hk;show yu (Tb.set tm p.1 p.2) l=tm;rw[zYT ((zY _ _).1 hk.1) h.1];exact xc h.2 hk.2
theorem Has.sub{tm:Tm}{l:Kn}(h:Has tm l):∀{l':Kn},(l'.map λp=>lk l p.1)=(l'.map λp=>some p.2)->Has tm l'
 | [],_=>trivial
 | p::l',e=>by
  rw[List.map_cons,List.map_cons]at e;exact⟨h.get (List.cons.inj e).1,h.sub (List.cons.inj e).2⟩
abbrev kk(t:Nat):Nat×Option V:=(t,none)
abbrev ss(t:Nat)(v:V):Nat×Option V:=(t,some v)
def ww(tm tm':Tm):List (Nat×Option V)->Prop->Prop
 | [],q=>q
 | (t,some v)::l,q=>zk tm' t=v->ww tm tm' l q
 | (t,none)::l,q=>zk tm' t=zk tm t->ww tm tm' l q
def kz(L:List Nat)(ch:Kn):List (Nat×Option V):=L.map λt=>(t,lk ch t)
def kp(L:List Nat)(ch:Kn):Kn->Kn
 | []=>[]
 | p::l=>cond (Xq p.1 L && (lk ch p.1).isNone) (p::kp L ch l) (kp L ch l)
def fl(ch r:Kn):List Nat->Kn
 | []=>r
 | t::L=>match lk ch t with
  | some v=>(t,v)::fl ch r L
  | none=>fl ch r L
theorem zFK{tm tm':Tm}{ch:Kn}{q:Prop}:∀{L:List Nat},((∀t∈L,zk tm' t=(lk ch t).getD (zk tm t))->q)->ww tm tm' (kz L ch) q
 | [],h=>h λ_ m=>(by cases m)
 | t::L,h=>by
  show ww tm tm' ((t,lk ch t)::kz L ch) q;have key:∀e:zk tm' t=(lk ch t).getD (zk tm t),ww tm tm' (kz L ch) q:=λe=>zFK λk=>h λs m=>(od.1 m).elim (λg=>by rw[g];exact e) (k s)
  cases e:lk ch t with
  | some v=>exact λg=>key (by rw[e];exact g)
  | none=>exact λg=>key (by rw[e];exact g)
theorem zF8{n:Nat}:∀{L:List Nat},Xq n L=true->n∈L
 | m::L,h=>by
  unfold Xq at h;cases e:Nat.beq n m with
  | true=>rw[oF e];exact List.mem_cons_self
  | false=>rw[e,oM]at h;exact oH _ (zF8 h)
theorem hfl{tm' :Tm}{ch r:Kn}{f:Nat->V}(hr:Has tm' r):∀{L:List Nat},(∀t∈L,zk tm' t=(lk ch t).getD (f t))->Has tm' (fl ch r L)
 | [],_=>hr
 | t::L,k=>by
  have ih:=hfl (L:=L) hr λs m=>k s (oH _ m)
  unfold fl;cases e:lk ch t with
  | some v=>exact⟨by have:=k t List.mem_cons_self;rw[e]at this;exact this,ih⟩
  | none=>exact ih
theorem hkp{tm tm':Tm}{L:List Nat}{ch:Kn}(k:∀t∈L,zk tm' t=(lk ch t).getD (zk tm t)):∀{l:Kn},Has tm l->Has tm' (kp L ch l)
 | [],_=>trivial
 | p::l,h=>by
  have ih:=hkp (l:=l) k h.2;unfold kp;cases e:Xq p.1 L && (lk ch p.1).isNone with
  | true=>
   rw[oG]at e;refine⟨?_,ih⟩;have:=k p.1 (zF8 e.1);rw[Option.isNone_iff_eq_none.1 e.2]at this;exact this.trans h.1
  | false=>exact ih
theorem Has.on{tm:Tm}{l:Kn}{L:List Nat}{ch:Kn}{q:Tm->Prop}(hs:Has tm l)(h:∀tm',Has tm' (fl ch (kp L ch l) L)->q tm'):∀tm',ww tm tm' (kz L ch) (q tm'):=λtm'=>zFK λk=>h tm' (hfl (hkp k hs) k)
theorem zAf{tm tm':Tm}{q:Prop}:∀{L:List Nat},((∀t∈L,zk tm' t=zk tm t)->q)->zAe tm tm' L q
 | [],h=>h λ_ m=>(by cases m)
 | t::L,h=>λe=>zAf λk=>h λs m=>(od.1 m).elim (λg=>by rw[g];exact e) (k s)
theorem Has.slt{tm:Tm}{l:Kn}{live:List Nat}{Q:AX->St->Prop}{x:AX}{n:Nat}{d:List AD}{hp:H}(hs:Has tm l)(h:∀tm',Has tm' (kp live [] l)->Q x ⟨n,tm',d,hp⟩):yE live Q x ⟨n,tm,d,hp⟩:=λtm'=>zAf λk=>h tm' (hkp (ch:=[]) k hs)
theorem Has.sealK{tm:Tm}{l:Kn}{live:List Nat}{K:St->Prop}{n:Nat}{d:List AD}{hp:H}(hs:Has tm l)(h:∀tm',Has tm' (kp live [] l)->K ⟨n,tm',d,hp⟩):sealK live K ⟨n,tm,d,hp⟩:=λtm'=>zAf λk=>h tm' (hkp (ch:=[]) k hs)
variable {P:Program}{c:Ctx}
theorem wpS.at{live:List Nat}{jn:Nat}{b:Bool}{code:Code}{n:Nat}{tm:Tm}{d:List AD}{h:H}{Q:AX->St->Prop}{l l':Kn}{w:Prop}(hs:Has tm l)(e:wpS P c live jn b code ⟨n,yu tm l',d,h⟩ (yE live Q)=w)(hsub:(l'.map λp=>lk l p.1)=(l'.map λp=>some p.2))(hk:(l'.all λp=>Nat.blt p.1 511)=true)(hw:w):wpS P c live jn b code ⟨n,tm,d,h⟩ Q:=by
 rw[xc (hs.sub hsub) hk]at e;exact wpS.slt e hw
theorem wpC.at{live:List Nat}{jn:Nat}{b:Bool}{code:Code}{n:Nat}{tm:Tm}{d:List AD}{h:H}{Q:AX->St->Prop}{l l':Kn}{w:Prop}(hs:Has tm l)(e:wpS P c live jn b code ⟨n,yu tm l',d,h⟩ (yE live Q)=w)(hsub:(l'.map λp=>lk l p.1)=(l'.map λp=>some p.2))(hk:(l'.all λp=>Nat.blt p.1 511)=true)(hw:w):wpC P c b code ⟨n,tm,d,h⟩ Q :=
 Y7 _ (wpS.at hs e hsub hk hw)
abbrev Gz(L:List Nat)(tm:Tm)(ch:Kn)(q:Tm->Prop):Prop:=∀u,ww tm u (kz L ch) (q u)
abbrev Tx(W:Code->St->(AX->St->Prop)->Prop)(r:Code)(q:AX->St->Prop):AX->St->Prop:=thenC (λs1=>W r s1 q) q
abbrev Kx(W:Code->St->(AX->St->Prop)->Prop)(r:Code)(i:Nat)(q:AX->St->Prop):AX->St->Prop:=λe s1=>thenC (λs1=>W r s1 q) q (ze i e) s1
abbrev Bz:=(Kn->AX->H->Prop)->(Kn->Code->H->Prop)->(Kn->Code->H->(AX->St->Prop)->Prop)->(AX->St->Prop)->Tm->Prop
def Vz(P2:Program)(C2:Ctx)(W:Code->St->(AX->St->Prop)->Prop)(n:Nat)(L:List Nat)(code:Code)(K:Kn)(d:List AD)(h:H)(Q:AX->St->Prop)(B:Bz):Prop:=∀tm,W code ⟨n,yu tm K,d,h⟩ (yE L Q)=B (λc e h=>∀u,ww (yu tm K) u (kz L c) (Q e ⟨n,u,d,h⟩)) (λc r h=>∀u,ww (yu tm K) u (kz L c) (W r ⟨n,u,d,h⟩ (yE L Q))) (λc r h X=>∀u,ww (yu tm K) u (kz L c) (wpC P2 C2 false (.loop r) ⟨n,u,d,h⟩ X)) (yE L Q) (yu tm K)
theorem wpS.av{live:List Nat}{jn:Nat}{b:Bool}{code:Code}{n:Nat}{tm:Tm}{d:List AD}{h:H}{Q:AX->St->Prop}{l l':Kn}{B:Bz}(hs:Has tm l)(e:Vz P c (wpS P c live jn b) n live code l' d h Q B)(hsub:(l'.map λp=>lk l p.1)=(l'.map λp=>some p.2))(hk:(l'.all λp=>Nat.blt p.1 511)=true)(hw:B (λc e h=>∀u,ww tm u (kz live c) (Q e ⟨n,u,d,h⟩)) (λk r h=>∀u,ww tm u (kz live k) (wpS P c live jn b r ⟨n,u,d,h⟩ (yE live Q))) (λch r h X=>∀u,ww tm u (kz live ch) (wpC P c false (.loop r) ⟨n,u,d,h⟩ X)) (yE live Q) tm):wpS P c live jn b code ⟨n,tm,d,h⟩ Q:=by
 have q:=e tm;rw[xc (hs.sub hsub) hk]at q;exact wpS.slt q hw
theorem wpC.av{live:List Nat}{jn:Nat}{b:Bool}{code:Code}{n:Nat}{tm:Tm}{d:List AD}{h:H}{Q:AX->St->Prop}{l l':Kn}{B:Bz}(hs:Has tm l)(e:Vz P c (wpS P c live jn b) n live code l' d h Q B)(hsub:(l'.map λp=>lk l p.1)=(l'.map λp=>some p.2))(hk:(l'.all λp=>Nat.blt p.1 511)=true)(hw:B (λc e h=>∀u,ww tm u (kz live c) (Q e ⟨n,u,d,h⟩)) (λk r h=>∀u,ww tm u (kz live k) (wpS P c live jn b r ⟨n,u,d,h⟩ (yE live Q))) (λch r h X=>∀u,ww tm u (kz live ch) (wpC P c false (.loop r) ⟨n,u,d,h⟩ X)) (yE live Q) tm):wpC P c b code ⟨n,tm,d,h⟩ Q :=
 Y7 _ (wpS.av hs e hsub hk hw)
theorem wpC.round{b:Bool}{x:Code}{n:Nat}{tm:Tm}{d:List AD}{h:H}{Q:AX->St->Prop}(I:Nat->Tm->H->Prop)(k:Nat)(h0:I k tm h)(hI:∀k tm h,I k tm h->wpC P c b x ⟨n,tm,d,h⟩ (thenC (λs1=>s1.n=n/\s1.dfr=d/\∃j,j<k/\I j s1.tm s1.heap) Q)):wpC P c b (.loop x) ⟨n,tm,d,h⟩ Q:=⟨I,⟨k,h0⟩,hI⟩
theorem xG(i:Nat):ze i (.exit i) = .normal:=by simp[ze]
theorem thenC.left{i:Nat}{K I:St->Prop}{R:AX->St->Prop}{s:St}(h:K s):thenC I (λe s1=>thenC K R (ze i e) s1) (.exit i) s:=by
 show thenC K R (ze i (.exit i)) s;rw[xG];exact h
theorem thenC.out{i:Nat}{K:St->Prop}{R:AX->St->Prop}{s:St}(h:K s):thenC K R (ze i (.exit i)) s:=by
 rw[xG];exact h
section
variable {n m a1 a2 a3 a4:Nat}{tm:Tm}{h:H}{Q:V->H->Prop}{v1 v2 v3 v4:V}{body:Code}
theorem endW.r1(h1:zk tm a1=v1)(hq:Q v1 h):endW c ⟨n,[.tmp a1],body⟩ Q .ret ⟨m,tm,[],h⟩:=by
 subst h1;exact hq
theorem endW.r2(h1:zk tm a1=v1)(h2:zk tm a2=v2)(hq:Q (.tuple [v1,v2]) h):endW c ⟨n,[.tmp a1,.tmp a2],body⟩ Q .ret ⟨m,tm,[],h⟩:=by
 subst h1 h2;exact hq
theorem endW.r3(h1:zk tm a1=v1)(h2:zk tm a2=v2)(h3:zk tm a3=v3)(hq:Q (.tuple [v1,v2,v3]) h):endW c ⟨n,[.tmp a1,.tmp a2,.tmp a3],body⟩ Q .ret ⟨m,tm,[],h⟩:=by
 subst h1 h2 h3;exact hq
end
theorem leave.tmp{rs l:List ResultVar}{tm:Tm}{h:H}{t:Nat}{v:V}{acc:List V}{r:Option (List V)}(ht:zk tm t=v)(hr:leave c rs tm h l (v::acc)=r):leave c rs tm h (.tmp t::l) acc=r:=by
 subst ht;exact hr
theorem leave.cell{rs l:List ResultVar}{tm:Tm}{h:H}{a t:Nat}{p v:V}{acc:List V}{r:Option (List V)}(hp:zk tm a=p)(ha:zK c t h p=some v)(hr:leave c rs tm h l (v::acc)=r):leave c rs tm h (.cell a t::l) acc=r:=by
 subst hp;show(match zK c t h (zk tm a)with|some v=>leave c rs tm h l (v::acc)|none=>none)=_
 rw[ha];exact hr
theorem endW.ok{n m:Nat}{rs:List ResultVar}{body:Code}{tm:Tm}{h:H}{vs:List V}{Q:V->H->Prop}(e:leave c rs tm h rs []=some vs)(hq:Q (yO vs) h):endW c ⟨n,rs,body⟩ Q .ret ⟨m,tm,[],h⟩:=by
 show(match leave c rs tm h rs []with|some vs=>Q (yO vs) h|none=>False)
 rw[e];exact hq
def leaveL(c:Ctx)(h:H):List (ResultVar×V)->List V->Option (List V)
 | [],acc=>some acc.reverse
 | (.tmp _,v)::l,acc=>leaveL c h l (v::acc)
 | (.cell _ t,p)::l,acc=>match zK c t h p with
  | some v=>leaveL c h l (v::acc)
  | none=>none
def endL(c:Ctx)(h:H)(l:List (ResultVar×V))(Q:V->H->Prop):Prop:=match leaveL c h l []with
 | some vs=>Q (yO vs) h
 | none=>False
theorem leaveL.cell{h:H}{a t:Nat}{p v:V}{l:List (ResultVar×V)}{acc r:List V}(ha:zK c t h p=some v)(hr:leaveL c h l (v::acc)=r):leaveL c h ((.cell a t,p)::l) acc=r:=by
 show(match zK c t h p with|some v=>leaveL c h l (v::acc)|none=>none)=_
 rw[ha];exact hr
theorem endL.ok{h:H}{l:List (ResultVar×V)}{vs:List V}{Q:V->H->Prop}(e:leaveL c h l []=some vs)(hq:Q (yO vs) h):endL c h l Q:=by
 unfold endL;rw[e];exact hq
theorem ExtX.andThen{S S2:Nat->Prop}{h0 h h':H}{m n:Nat}(a:ExtX S h0 h m)(b:ExtX S2 h h' n)(hS:∀b,S2 b->S b\/h0.nx<=b):ExtX S h0 h' (m+n) :=
 ⟨oQ a.le b.le,by have:=a.top;have:=b.top;omega,λi hi hn=>(b.get i (oI hi a.le) λq=>(hS i q).elim hn λg=>by omega).trans (a.get i hi hn),oQ b.low a.low,λk h1 h2 h3=>b.lo k (a.lo k h1 h2 h3) (oQ h2 a.le) λi hi=>(hS i hi).elim (h3 i) λg=>oQ h2 g⟩
theorem ExtX.append{h h':H}{v:V}(h1:h.nx<=h'.nx)(h2:h'.nx<=h.nx+1)(h3:∀b,b<h.nx->zy v≠some b->h'.get b=h.get b)(h4:h'.low<=h.low)(h5:∀m,m<=h.low->(∀b,zy v=some b->m<=b)->m<=h'.low):ExtX (λb=>zy v=some b) h h' 1 :=
 ⟨h1,h2,h3,h4,λm m1 _ m3=>h5 m m1 m3⟩
theorem yA{h h':H}{o:O}(e:h'=h.new o)(hn:h.nx<T.top):h'.nx=h.nx+1/\Ext h h' 1/\h'.get h.nx=some o:=by
 subst e;exact⟨zH _ _,Ext.new _ hn,zZ _ hn⟩
end Go.Sim
namespace Go.Sim
structure One (A:V->List V):Prop where
 conc:∀ρ ρ' v v',V.conc ρ v=V.conc ρ' v'->(A v).map (V.conc ρ)=(A v').map (V.conc ρ')
 get:∀D v,(∀a∈A v,a.In D)->v.In D
 put:∀D v,v.In D->∀a∈A v,a.In D
theorem One.list{pre post:List V}(h1:∀a∈pre,Plain a)(h2:∀a∈post,Plain a):One λv=>pre++v::post:=by
 refine⟨λρ ρ' v v' e=>?_,λD v h=>h v (by simp),λD v h a ha=>?_⟩
 ·rw[List.map_append,List.map_append,List.map_cons,List.map_cons,e]
  rw[List.map_congr_left λa ha=>((h1 a ha).1 ρ).trans ((h1 a ha).1 ρ').symm,List.map_congr_left λa ha=>((h2 a ha).1 ρ).trans ((h2 a ha).1 ρ').symm]
 ·rcases List.mem_append.1 ha with ha|ha
  ·exact(h1 a ha).2 D
  ·rcases od.1 ha with rfl|ha
   ·exact h
   ·exact(h2 a ha).2 D
theorem One.struct{pre post:List V}(h1:∀a∈pre,Plain a)(h2:∀a∈post,Plain a):One λv=>.agg (pre++[v])::post:=by
 refine⟨λρ ρ' v v' e=>?_,λD v h=>?_,λD v h a ha=>?_⟩
 ·have e1:pre.map (V.conc ρ)=pre.map (V.conc ρ'):=List.map_congr_left λa ha=>((h1 a ha).1 ρ).trans ((h1 a ha).1 ρ').symm
  rw[List.map_cons,List.map_cons,List.map_congr_left λa ha=>((h2 a ha).1 ρ).trans ((h2 a ha).1 ρ').symm]
  simp only[V.conc,V.concL_eq,List.map_append,List.map_cons,List.map_nil,e,e1]
 ·have h3:=h _ (List.mem_cons_self ..)
  simp only[V.In]at h3;exact V.InL_iff.1 h3 v (by simp)
 ·rcases od.1 ha with rfl|ha
  ·simp only[V.In]
   refine V.InL_iff.2 λa ha=>?_
   rcases List.mem_append.1 ha with ha|ha
   ·exact(h1 a ha).2 D
   ·rw[List.mem_singleton.1 ha];exact h
  ·exact(h2 a ha).2 D
theorem SimF.ro{P:Program}{f:Nat}{A:V->List V}(hA:One A){b o n:Nat}{cp:Cap}{esz:Nat}{xs:List V}{r:V}{h:H}{cs:Cs}{k:Rk}{w op:Bool}(hg:h.get b=some (.cells cs k w op))(hc:∀i,i<n*esz->cs.get? (o+i)=xs[i]?)(hl:xs.length=n*esz)(hx:∀x∈xs,Plain x)(hr:Plain r)(s:∀cap,∃h1,SimF P f (A (.slice 0 0 n (.exact cap))) (hRO xs) (.ret r h1)):SimF P f (A (.slice b o n cp)) h (.ret r h):=by
 intro ρ D wd hR hin;have hDb:D b:=by have:=hA.get D _ hin;simpa [V.In]using this
 obtain⟨c,e,fz,hb,hcell,_,_⟩:=hR.rel b _ hDb hg;obtain⟨h1,s1⟩:=s (cp.val ρ b);have hR0:HR (zFF (ρ.blk b) (ρ.off b+o)) (λi=>i=0) (hRO xs) wd:=by
  refine zZU hb (λi v hv=>?_) (λv hv=>((hx v hv).1 _).trans ((hx v hv).1 _).symm) λv hv=>(hx v hv).2 _
  have hi:i<n*esz:=by have:=(List.getElem?_eq_some_iff.1 hv).1;omega
  have:=hcell (o+i) v (by rw[hc i hi];exact hv);rw[(hx v (List.mem_of_getElem? hv)).1 ρ]at this;rw[Nat.add_assoc];exact this
 have h2:=s1 _ _ wd hR0 (hA.put _ _ (by simp[V.In]));rw[hA.conc (zFF (ρ.blk b) (ρ.off b+o)) ρ (.slice 0 0 n (.exact (cp.val ρ b))) (.slice b o n cp) (by simp[V.conc,zFF,Cap.val])]at h2;refine CallsIn.mono h2 ?_;rintro e' w' ⟨ρ',rfl,m,_,_⟩;have fr:∀r,r<wd.heap.size->w'.heap[r]? = wd.heap[r]?:=λk hk=>m.frame k hk λj ob hj hg hw=>by
  subst hj;rw[Xl]at hg;cases hg;cases hw
 refine⟨ρ,by rw[hr.1 ρ',hr.1 ρ],⟨oP _,m.size,m.os,m.tape,m.output,λ_ _=>⟨rfl,rfl,rfl⟩,λid o' _ hg=>⟨o',hg,rfl⟩,λid o' g1 g2 _=>by omega,λr hr _=>fr r hr,oP _,λ_ _ _=>rfl⟩,?_,hr.2 _⟩
 rw[Kw];refine⟨hR.cap,hR.lt,λid o hd hg=>?_,hR.inj⟩
 have h3:=hR.rel id o hd hg;rcases Nat.lt_or_ge (ρ.blk id) wd.heap.size with q|q
 ·rw[fr _ q];exact h3
 ·exfalso
  rw[Array.getElem?_eq_none q]at h3;cases o<;>simp[ORel]at h3
theorem zYR{xs:List V}{esz n cap:Nat}(hl:xs.length=n*esz):Sl (hRO xs) (.slice 0 0 n (.exact cap)) esz n xs :=
 ⟨hl,.inr ⟨0,0,_,_,_,_,_,rfl,by rw[jL];decide,Xl _,λi _=>by rw[Nat.zero_add];exact Cs.getL_eq xs i⟩⟩
theorem zRn(xs:List V):(hRO xs).low=T.top:=rfl
theorem RF.ro{P:Program}{c:Ctx}{f:Nat}{A:V->List V}(hA:One A){v r:V}{esz n:Nat}{xs:List V}{h:H}{Q:V->H->Prop}(sl:Sl h v esz n xs)(hx:∀x∈xs,Plain x)(hr:Plain r)(rf:∀v0 h0,Sl h0 v0 esz n xs->h0.nx<=1->h0.low=T.top->RF P c f (A v0) h0 λr' _=>r'=r)(hq:Q r h):RF P c f (A v) h Q:=by
 obtain⟨hl,⟨rfl,rfl⟩|⟨b,o,cp,cs,k,w,op,rfl,hb,hg,hc⟩⟩:=sl
 ·obtain⟨r',h',⟨hf,s⟩,rfl⟩:=rf .nilslice H0 ⟨hl,.inl ⟨rfl,rfl⟩⟩ (oJ _) rfl
  refine⟨r',h,⟨hf,?_⟩,hq⟩;intro ρ D wd hR hin;have h1:=s zDG (λ_=>False) wd (zC9 _ _) (hA.put _ _ (by simp[V.In]));rw[hA.conc zDG ρ .nilslice .nilslice (by simp[V.conc])]at h1;refine CallsIn.mono h1 ?_;rintro e w' ⟨ρ',rfl,m,_,_⟩;have fr:∀r,r<wd.heap.size->w'.heap[r]? = wd.heap[r]?:=λk hk=>m.frame k hk λ_ _ hj=>hj.elim
  refine⟨ρ,by rw[hr.1 ρ',hr.1 ρ],⟨oP _,m.size,m.os,m.tape,m.output,λ_ _=>⟨rfl,rfl,rfl⟩,λid o' _ hg=>⟨o',hg,rfl⟩,λid o' g1 g2 _=>by omega,λr hr _=>fr r hr,oP _,λ_ _ _=>rfl⟩,?_,hr.2 _⟩
  rw[Kw];refine⟨hR.cap,hR.lt,λid o hd hg=>?_,hR.inj⟩
  have h2:=hR.rel id o hd hg;rcases Nat.lt_or_ge (ρ.blk id) wd.heap.size with q|q
  ·rw[fr _ q];exact h2
  ·exfalso
   rw[Array.getElem?_eq_none q]at h2;cases o<;>simp[ORel]at h2
 ·have rs:∀cap,∃h1,(∃fi,c.fn.get f=some fi)/\SimF P f (A (.slice 0 0 n (.exact cap))) (hRO xs) (.ret r h1):=λcap=>by
   obtain⟨r',h',⟨hf,s⟩,rfl⟩:=rf (.slice 0 0 n (.exact cap)) (hRO xs) (zYR hl) (by rw[jL];decide) (zRn _);exact⟨h',hf,s⟩
  obtain⟨_,hf,_⟩:=rs 0;exact⟨r,h,⟨hf,SimF.ro hA hg hc hl hx hr λcap=>by obtain⟨h1,_,s⟩:=rs cap;exact⟨h1,s⟩⟩,hq⟩
theorem zFn{t:TypeId}{v:V}(h:Plain v):Plain (.iface t v):=⟨λρ=>by simp only[V.conc,h.1 ρ],λD=>by simp only[V.In];exact h.2 D⟩
theorem zD1:Plain .nilptr:=⟨λ_=>by simp[V.conc],λ_=>by simp[V.In]⟩
theorem zAZ:Plain .nilslice:=⟨λ_=>by simp[V.conc],λ_=>by simp[V.In]⟩
theorem zAY:Plain .nilIface:=⟨λ_=>by simp[V.conc],λ_=>by simp[V.In]⟩
def j6:V->Bool
 | .int _ _=>true
 | .bool _=>true
 | .str _=>true
 | .nilptr=>true
 | .nilslice=>true
 | .nilIface=>true
 | .iface _ v=>j6 v
 | .agg l=>plainL l
 | .tuple l=>plainL l
 | _=>false
where
 plainL:List V->Bool
  | []=>true
  | v::l=>j6 v && plainL l
mutual
theorem zm:∀{v:V},j6 v=true->Plain v
 | .int _ _,_=>ym _ _
 | .bool _,_=>XN _
 | .str _,_=>Jh _
 | .nilptr,_=>zD1
 | .nilslice,_=>zAZ
 | .nilIface,_=>zAY
 | .iface _ v,h=>zFn (zm (v:=v) (by simpa [j6]using h))
 | .agg l,h=>zLN (zn (l:=l) (by simpa [j6]using h))
 | .tuple l,h=>zFo (zn (l:=l) (by simpa [j6]using h))
 | .ptr ..,h=>by simp[j6]at h
 | .slice ..,h=>by simp[j6]at h
 | .map ..,h=>by simp[j6]at h
 | .nilmap,h=>by simp[j6]at h
 | .func ..,h=>by simp[j6]at h
 | .yield ..,h=>by simp[j6]at h
 | .nilFunc,h=>by simp[j6]at h
theorem zn:∀{l:List V},j6.plainL l=true->∀x∈l,Plain x
 | [],_=>λ_ h=>by cases h
 | v::l,h=>λx hx=>by
  simp only[j6.plainL,oG]at h;rcases od.1 hx with e|hx
  ·rw[e];exact zm h.1
  ·exact zn h.2 x hx
end
theorem XO(l:List Int):∀x∈l.map (λn=>V.int .i64 n),Plain x:=λx hx=>by
 obtain⟨_,_,rfl⟩:=List.mem_map.1 hx;exact ym _ _
open Go (TypeDesc)
def jJ:List Ent->Int->Option V
 | [],_=>none
 | e::es,k=>match e.key with
  | .int .i64 n=>if k=n then some e.val else jJ es k
  | _=>jJ es k
def MapI(h:H)(r:Nat)(f:Int->Option V):Prop:=∃es clock,h.get r=some (.map es clock)/\(∀e∈es,∃n,e.key = .int .i64 n)/\∀k,jJ es k=f k
theorem zIq(a b:Int):eqF a b=decide (a=b):=by
 cases a with
 | ofNat a=>cases b with
  | ofNat b =>
   show Nat.beq a b=_;cases h:Nat.beq a b with
   | true=>rw[oF h];simp
   | false =>
    have:=Nat.ne_of_beq_eq_false h;exact(decide_eq_false λe=>this (Int.ofNat.inj e)).symm
  | negSucc b=>exact(decide_eq_false λe=>by cases e).symm
 | negSucc a=>cases b with
  | ofNat b=>exact(decide_eq_false λe=>by cases e).symm
  | negSucc b =>
   show Nat.beq a b=_;cases h:Nat.beq a b with
   | true=>rw[oF h];simp
   | false =>
    have:=Nat.ne_of_beq_eq_false h;exact(decide_eq_false λe=>this (Int.negSucc.inj e)).symm
section
variable {c:Ctx}{t kt et:Nat}{ti tk te:TI}{z:V}
theorem zRK(hk:c.ty.get kt=some tk)(hd:tk.desc = .int .i64)(a b:Int):aeq c 30 kt (.int .i64 a) (.int .i64 b)=some (decide (a=b)):=by
 have e:aeq c 30 kt (.int .i64 a) (.int .i64 b)=some (eqF a b):=by
  show(match c.ty.get kt with|none=>none|some ti=>_)=_;rw[hk];simp only[hd];rfl
 rw[e,zIq]
theorem JY(hk:c.ty.get kt=some tk)(hd:tk.desc = .int .i64)(k:Int):∀(es:List Ent) (i:Nat),(∀e∈es,∃n,e.key = .int .i64 n) ->
  (jJ es k=none->wu c kt (.int .i64 k) es i=some none) /\
  (∀v,jJ es k=some v->∃j e,wu c kt (.int .i64 k) es i=some (some (i+j,e))/\e.val=v/\e.key = .int .i64 k /\
   ∀v',(∀e∈Jw es j (.int .i64 k) v',∃n,e.key = .int .i64 n)/\∀k',jJ (Jw es j (.int .i64 k) v') k'=if k'=k then some v' else jJ es k')
 | [],i,_=>⟨λ_=>rfl,λv h=>by cases h⟩
 | e::es,i,hi=>by
  obtain⟨n,hn⟩:=hi e (List.mem_cons_self ..);have hr:=λe he=>hi e (oH _ he)
  obtain⟨ih1,ih2⟩:=JY hk hd k es (i+1) hr;have ea:∀k',jJ (e::es) k'=if k'=n then some e.val else jJ es k':=λk'=>by
   show(match e.key with | .int .i64 n=>_|_=>_)=_;rw[hn]
  have ef:wu c kt (.int .i64 k) (e::es) i=(match some (decide (k=n))with|some true=>some (some (i,e))|some false=>wu c kt (.int .i64 k) es (i+1)|none=>none):=by
   show(match aeq c 30 kt (.int .i64 k) e.key with|some true=>_|some false=>_|none=>_)=_
   rw[hn,zRK hk hd]
  by_cases c1:k=n
  ·subst c1
   refine⟨λh=>?_,λv h=>?_⟩
   ·rw[ea,if_pos rfl]at h;cases h
   ·rw[ea,if_pos rfl]at h
    cases h;refine⟨0,e,by rw[ef,decide_eq_true rfl];rfl,rfl,hn,λv'=>⟨λe' he'=>?_,λk'=>?_⟩⟩
    ·rcases od.1 he' with rfl|he'
     ·exact⟨_,rfl⟩
     ·exact hr _ he'
    ·show(if k'=k then some v' else jJ es k')=_
     rw[ea];by_cases c2:k'=k
     ·rw[if_pos c2,if_pos c2]
     ·rw[if_neg c2,if_neg c2,if_neg c2]
  ·have ef2:wu c kt (.int .i64 k) (e::es) i=wu c kt (.int .i64 k) es (i+1):=by rw[ef,decide_eq_false c1]
   refine⟨λh=>?_,λv h=>?_⟩
   ·rw[ea,if_neg c1]at h
    rw[ef2];exact ih1 h
   ·rw[ea,if_neg c1]at h
    obtain⟨j,e2,h1,h2,h3,h4⟩:=ih2 v h;refine⟨j+1,e2,by rw[ef2,h1,Nat.add_assoc,Nat.add_comm 1 j],h2,h3,λv'=>⟨λe' he'=>?_,λk'=>?_⟩⟩
    ·rcases od.1 he' with rfl|he'
     ·exact⟨_,hn⟩
     ·exact(h4 v').1 _ he'
    ·show(match e.key with | .int .i64 n=>if k'=n then some e.val else jJ (Jw es j (.int .i64 k) v') k'|_=>_)=_
     rw[hn];simp only;rw[(h4 v').2,ea];by_cases c2:k'=n
     ·rw[if_pos c2,if_pos c2,if_neg (λg=>c1 (g.symm.trans c2))]
     ·rw[if_neg c2,if_neg c2]
theorem zKh(es:List Ent)(e:Ent)(k:Int)(h:jJ es k=none):jJ (es++[e]) k=jJ [e] k:=by
 induction es with
 | nil=>rfl
 | cons x es ih =>
  simp only[List.cons_append];unfold jJ at h ⊢;split at h
  ·rename_i n hn
   split at h
   ·cases h
   ·rename_i hk
    rw[if_neg hk];exact ih h
  ·exact ih h
theorem zHM(es:List Ent)(e:Ent)(k:Int)(v:V)(h:jJ es k=some v):jJ (es++[e]) k=some v:=by
 induction es with
 | nil=>cases h
 | cons x es ih =>
  simp only[List.cons_append];unfold jJ at h ⊢;split at h
  ·rename_i n hn
   split at h
   ·rename_i hk;rw[if_pos hk];exact h
   ·rename_i hk;rw[if_neg hk];exact ih h
  ·exact ih h
theorem zEX(hk:c.ty.get kt=some tk)(hd:tk.desc = .int .i64)(k:Int):Kh c kt (.int .i64 k)=true:=by
 unfold Kh;simp only[hk,hd]
theorem MapI.look{h:H}{r:Nat}{f:Int->Option V}(m:MapI h r f)(ht:c.ty.get t=some ti)(hm:ti.desc = .map kt et)(hk:c.ty.get kt=some tk)(hd:tk.desc = .int .i64)(he:c.ty.get et=some te)(hz:te.zero=some z)(k:Int)(ok:Bool):
  ZQ c t h (.map r) (.int .i64 k) ok=some (match f k with|some v=>Zg ok v true|none=>Zg ok z false):=by
 obtain⟨es,clock,hg,hi,hf⟩:=m;obtain⟨i1,i2⟩:=JY hk hd k es 0 hi;unfold ZQ zOR;simp only[ht,hm,hg];unfold OB;rw[zEX hk hd,oK];cases hfk:f k with
 | none =>
  rw[i1 ((hf k).trans hfk)];simp only[he,hz]
 | some v =>
  obtain⟨j,e,h1,h2,_⟩:=i2 v ((hf k).trans hfk);rw[h1];simp only[h2]
theorem MapI.upd{h:H}{r:Nat}{f:Int->Option V}(m:MapI h r f)(ht:c.ty.get t=some ti)(hm:ti.desc = .map kt et)(hk:c.ty.get kt=some tk)(hd:tk.desc = .int .i64)(hr:r<T.top)(k:Int)(v:V):
  ∃es clock,Kj c t h (.map r) (.int .i64 k) v=some (h.upd r (some (.map es clock)))/\MapI (h.upd r (some (.map es clock))) r (λj=>if j=k then some v else f j):=by
 obtain⟨es,clock,hg,hi,hf⟩:=m;obtain⟨i1,i2⟩:=JY hk hd k es 0 hi;have e1:Kj c t h (.map r) (.int .i64 k) v=(match wu c kt (.int .i64 k) es 0 with
     | some (some (i,e))=>cond (K0 e.key (.int .i64 k)) (some (h.upd r (some (.map (Jw es i (.int .i64 k) v) clock)))) none
     | some none=>some (h.upd r (some (.map (es++[⟨.int .i64 k,v,clock⟩]) (clock+1))))
     | none=>none):=by
  unfold Kj;simp only[ht,hm,hg];rw[zEX hk hd,oK];rfl
 cases hfk:f k with
 | none =>
  have h0:=(hf k).trans hfk;refine⟨es++[⟨.int .i64 k,v,clock⟩],clock+1,by rw[e1,i1 h0],_,_,zN _ hr,λe he=>?_,λk'=>?_⟩
  ·rcases List.mem_append.1 he with he|he
   ·exact hi e he
   ·rw[List.mem_singleton.1 he];exact⟨_,rfl⟩
  ·cases hk':jJ es k' with
   | none =>
    rw[zKh _ _ _ hk'];show(if k'=k then some v else none)=if k'=k then some v else f k'
    rw[<-hf k',hk']
   | some v' =>
    rw[zHM _ _ _ _ hk'];have:k'≠k:=λg=>by rw[g,h0]at hk';cases hk'
    show some v'=if k'=k then some v else f k'
    rw[if_neg this,<-hf k',hk']
 | some v0 =>
  obtain⟨j,e,h1,h2,h3,h4⟩:=i2 v0 ((hf k).trans hfk);rw[Nat.zero_add]at h1;refine⟨Jw es j (.int .i64 k) v,clock,?_,_,_,zN _ hr,(h4 v).1,λk'=>by rw[(h4 v).2,hf]⟩
  have:K0 e.key (.int .i64 k)=true:=by
   rw[h3];show(wm .i64 .i64 && eqF k k)=true;rw[zIq];simp;rfl
  rw[e1,h1];simp only[this,oK]
theorem KI{o:Oper}{m:Nat}{e:Operand->Option V}{h:H}(ho:o.op = .makeMap m none)(hn:h.nx<T.top):zh c o e h=some (.val (.map h.nx) (h.new (.map [] 0))):=by
 unfold zh;simp only[ho];unfold OC;rw[show Nat.blt h.nx T.top=true from(zY _ _).2 hn];rfl
theorem MapI.new{h:H}(hn:h.nx<T.top):MapI (h.new (.map [] 0)) h.nx (λ_=>none):=⟨[],0,zZ _ hn,λ_ h=>(by cases h),λ_=>rfl⟩
theorem MapI.mono{h h':H}{r:Nat}{f:Int->Option V}(m:MapI h r f)(e:h'.get r=h.get r):MapI h' r f:=by
 obtain⟨es,clock,hg,h2⟩:=m;exact⟨es,clock,e.trans hg,h2⟩
end
end Go.Sim
namespace Go.Sim
theorem zGP{a:Int}{n:Nat}(h:n<=64):zq .shr .i64 a (n:Int)=some (.int .i64 (a/((2^n:Nat):Int))):=by
 show cond (JU (n:Int) 0) none (some (V.int .i64 (zB6 a (cond (Nat.ble n 64) n 64))))=_;rw[oC h,oK,yi];have h3:decide ((n:Int)<0)=false:=by simp
 rw[h3,oM,zJ0];have h1:((2:Int)^n)=((2^n:Nat):Int):=by simp
 rw[h1,Int.fdiv_eq_ediv_of_nonneg _ (Int.natCast_nonneg _)]
theorem zSc{a n:Nat}(h:n<=8):zq .shr .u8 (a:Int) (n:Int)=some (.int .u8 ((a/2^n:Nat):Int)):=by
 show cond (JU (n:Int) 0) none (some (V.int .u8 (zB6 (a:Int) (cond (Nat.ble n 8) n 8))))=_;rw[oC h,oK,yi];have h3:decide ((n:Int)<0)=false:=by simp
 rw[h3,oM]
 congr 2
 show Int.ofNat (Nat.shiftRight a n)=_;rw[show Nat.shiftRight a n=a >>> n from rfl,Nat.shiftRight_eq_div_pow];rfl
theorem zGc{n:Nat}(h:n<256):IntKind.u8.wrap (n:Int)=(n:Int):=by
 rw[<-xZ,jr,oe h]
theorem zRQ{a b:Nat}(ha:a<256)(hb:b<256):zq .and .u8 (a:Int) (b:Int)=some (.int .u8 ((a &&& b:Nat):Int)):=by
 show some (V.int .u8 (IntKind.u8.wrap (((BitVec.ofInt 8 (a:Int) &&& BitVec.ofInt 8 (b:Int)).toNat:Nat):Int)))=_;rw[BitVec.toNat_and,xE (show a<2^8 from ha),xE (show b<2^8 from hb)];rw[zGc (Nat.lt_of_le_of_lt Nat.and_le_left ha)]
theorem zJJ{a b:Nat}(ha:a<9223372036854775808)(hb:b<9223372036854775808):zq .or .i64 (a:Int) (b:Int)=some (.int .i64 ((a ||| b:Nat):Int)):=by
 show some (V.int .i64 (IntKind.i64.wrap (((BitVec.ofInt 64 (a:Int) ||| BitVec.ofInt 64 (b:Int)).toNat:Nat):Int)))=_;rw[BitVec.toNat_or,xE (show a<2^64 by omega),xE (show b<2^64 by omega)];rw[zC5 (show a ||| b<2^63 from Nat.or_lt_two_pow ha hb)]
theorem KN{a:Int}{n:Nat}(h:0<n):0<a/(n:Int)↔(n:Int)<=a:=by
 constructor
 ·intro h1
  have h2:(1:Int)<=a/(n:Int):=h1;have:=(Int.le_ediv_iff_mul_le (by omega:(0:Int)<n)).1 h2;omega
 ·intro h1
  have:=(Int.le_ediv_iff_mul_le (c:=(n:Int)) (a:=1) (b:=a) (by omega)).2 (by omega);omega
def hi(n:Int):Int:=if 0<n then (n.toNat.log2:Int) else -1
def hiU(n:Int)(i:Nat):Int:=if 0<n/\0<i then ((min n.toNat.log2 (i-1):Nat):Int) else -1
theorem JD(i:Nat):0<2^i:=Nat.pow_pos (by decide)
theorem zFU(n:Int)(i:Nat):hiU n (i+1)=if ((2^i:Nat):Int)<=n then (i:Int) else hiU n i:=by
 have hp:=JD i;unfold hiU;by_cases h:0<n
 ·have hn:n.toNat≠0:=by omega
  by_cases c:((2^i:Nat):Int)<=n
  ·have:i<=n.toNat.log2:=(Nat.le_log2 hn).2 (by omega)
   rw[if_pos c,if_pos ⟨h,by omega⟩];omega
  ·have:¬i<=n.toNat.log2:=λg=>c (by have:=(Nat.le_log2 hn).1 g;omega)
   rw[if_neg c,if_pos ⟨h,by omega⟩];by_cases h0:0<i
   ·rw[if_pos ⟨h,h0⟩];omega
   ·exfalso;omega
 ·rw[if_neg (by omega),if_neg (by omega),if_neg (by omega)]
theorem zXe{n:Int}(h:n<9223372036854775808):hiU n 63=hi n:=by
 unfold hiU hi;by_cases c:0<n
 ·have hn:n.toNat≠0:=by omega
  have:n.toNat.log2<63:=(Nat.log2_lt hn).2 (by omega);rw[if_pos c,if_pos ⟨c,by decide⟩];omega
 ·rw[if_neg c,if_neg (by omega)]
theorem zXf{n:Nat}(h:n≠0):hi n=n.log2:=by unfold hi;rw[if_pos (by omega)];rfl
def zO(n:Nat):Nat:=if n=0 then 0 else n.log2+1
theorem jj(n:Nat):hi n+1=zO n:=by
 unfold zO;by_cases h:n=0
 ·subst h;rfl
 ·rw[zXf h,if_neg h];rfl
theorem qe(n:Nat):n<2^zO n:=by
 unfold zO;split
 ·rename_i h;subst h;exact JD _
 ·exact Nat.lt_log2_self
theorem zFb{n:Nat}(h:n≠0):2^(zO n-1)<=n:=by
 unfold zO;rw[if_neg h];exact Nat.log2_self_le h
theorem zw{n k:Nat}(h:n<2^k):zO n<=k:=by
 unfold zO;split
 ·exact oJ _
 ·rename_i h0
  exact(Nat.log2_lt h0).2 h
theorem zFr{n:Nat}(h:n≠0):n &&& (n-1)=0↔n=2^n.log2:=by
 rw[Nat.and_sub_one_eq_zero_iff_isPowerOfTwo h];constructor
 ·rintro⟨k,rfl⟩
  rw[Nat.log2_two_pow]
 ·intro e
  exact⟨_,e⟩
def wI(s:List UInt8)(i:Nat):Nat:=match s[i/8]? with
 | some b=>b.toNat/2^(i % 8) % 2
 | none=>0
theorem JH(s:List UInt8)(i:Nat):wI s i<2:=by
 unfold wI;split
 ·exact Nat.mod_lt _ (by decide)
 ·decide
theorem Y0{s:List UInt8}{i:Nat}{b:UInt8}(h:s[i/8]? = some b):wI s i=b.toNat/2^(i % 8) % 2:=by unfold wI;rw[h]
theorem zL4{s:List UInt8}{i:Nat}(h:8*s.length<=i):wI s i=0:=by
 unfold wI;rw[og (by omega)]
def yD(s:List UInt8)(p:Nat):Nat->Nat
 | 0=>0
 | n+1=>yD s p n+wI s (p+n)*2^n
theorem qw(s:List UInt8)(p n:Nat):yD s p n<2^n:=by
 induction n with
 | zero=>simp[yD]
 | succ n ih =>
  have h1:=JH s (p+n);have h2:wI s (p+n)*2^n<=1*2^n:=Nat.mul_le_mul_right _ (by omega);show yD s p n+wI s (p+n)*2^n<2^(n+1);rw[Nat.pow_succ];omega
def wC(s:List UInt8)(left:Nat):Nat->Nat
 | 0=>0
 | n+1=>2*wC s left n+(if n<left then wI s (left-1-n) else 0)
theorem X4(s:List UInt8)(left n:Nat):wC s left n<2^n:=by
 induction n with
 | zero=>simp[wC]
 | succ n ih =>
  have h2:(if n<left then wI s (left-1-n) else 0)<2:=by
   split
   ·exact JH _ _
   ·decide
  show 2*wC s left n+_<2^(n+1);rw[Nat.pow_succ];omega
abbrev Qy:=(Nat×List V)×(H×V)
variable (c:Ctx)
def stepG(o:Oper)(s:St)(vals:List V):Option (List Qy×St×List V) :=
 match zh c o (yF s.tm) s.heap with
 | some (.val v h)=>match yY s o.dst v h with|some s'=>some ([],s',vals)|none=>none
 | some (.skip h)=>match yY s o.dst zB h with|some s'=>some ([],s',vals)|none=>none
 | some (.call f args) =>
  match vals with
  | v::vals'=>match yY s o.dst v s.heap with|some s'=>some ([((f,args),(s.heap,v))],s',vals')|none=>none
  | []=>none
 | _=>none
def Xx(ops:List Oper):List Oper->St->List V->Option (List Qy×St)
 | [],s,_=>some ([],s)
 | o::l,s,vals =>
  cond (zU ops s.tm o)
   (match stepG c o s vals with
   | some (qs,s',vals')=>(match Xx ops l s' vals' with|some (qs2,s2)=>some (qs++qs2,s2)|none=>none)
   | none=>none)
   (match yY s o.dst zB s.heap with|some s'=>Xx ops l s' vals|none=>none)
def wT(ops : List Oper)(bs : List Nat)(m : Nat): Nat -> Nat -> List Oper -> St -> List V -> Option (List Qy × St)
  | _, _, [], s, _ => some ([], s)
  | 0, _, l, s, vals => Xx c ops l s vals
  | r + 1, k, o::l, s, vals =>
    cond (zU ops s.tm o)
      (match stepG c o { s with heap := { s.heap with low := T.top } } vals with
      | some (qs, s', vals') =>
        cond (Nat.ble s.heap.nx s'.heap.low || wA ops bs m k s.tm o)
          (cond (xI s.dfr s'.dfr)
            (match wT ops bs m r (k + 1) l { s' with heap := { s'.heap with low := cond (Nat.ble s.heap.low s'.heap.low) s.heap.low s'.heap.low } } vals' with|some (qs2, s2) => some (qs ++ qs2, s2)|none => none) none) none
      | none => none)
      (match yY s o.dst zB s.heap with|some s' => wT ops bs m r (k + 1) l s' vals|none => none)
variable {c}
def Ans(orc:Nat->List V->H->Option (V×H))(qs:List Qy):Prop:=∀q∈qs,orc q.1.1 q.1.2 q.2.1=some (q.2.2,q.2.1)
theorem K8{orc:Nat->List V->H->Option (V×H)}{rd:Bool}{ih:Bool->Code->St->Option Out}{o:Oper}{s s':St}{vals vals':List V}{qs:List Qy}(e:stepG c o s vals=some (qs,s',vals'))(ho:Ans orc qs):zV c orc rd ih o s=some (.normal,s'):=by
 unfold stepG at e;unfold zV;cases ha:zh c o (yF s.tm) s.heap with
 | none=>rw[ha]at e;cases e
 | some an =>
  rw[ha]at e;cases an with
  | val v h =>
   simp only at e ⊢;cases hp:yY s o.dst v h with
   | none=>rw[hp]at e;cases e
   | some s1=>rw[hp]at e;simp only[oA,oB]at e ⊢;exact⟨trivial,e.2.1⟩
  | skip h =>
   simp only at e ⊢;cases hp:yY s o.dst zB h with
   | none=>rw[hp]at e;cases e
   | some s1=>rw[hp]at e;simp only[oA,oB]at e ⊢;exact⟨trivial,e.2.1⟩
  | call f args =>
   simp only at e ⊢;cases vals with
   | nil=>cases e
   | cons v vals1 =>
    simp only at e;cases hp:yY s o.dst v s.heap with
    | none=>rw[hp]at e;cases e
    | some s1 =>
     rw[hp]at e;simp only[oA,oB]at e;obtain⟨rfl,rfl,rfl⟩:=e;have:=ho _ (List.mem_cons_self ..);unfold jG;simp only at this;rw[this];simp only[hp]
  | _=>cases e
theorem zHa{orc:Nat->List V->H->Option (V×H)}{rd:Bool}{ih:Bool->Code->St->Option Out}{ops:List Oper}:∀(l:List Oper) {s s':St}{vals:List V}{qs:List Qy},Xx c ops l s vals=some (qs,s')->Ans orc qs->we c orc rd ih ops l s=some (.done .normal s'):=by
 intro l
 induction l with
 | nil=>intro s s' vals qs e _;simp only[Xx,oA,oB]at e;rw[we,e.2]
 | cons o l hi =>
  intro s s' vals qs e ho;rw[Xx]at e;rw[we];cases hw:zU ops s.tm o with
  | true =>
   rw[hw,oK]at e;rw[oK];cases hs:stepG c o s vals with
   | none=>rw[hs]at e;cases e
   | some x =>
    obtain⟨q1,s1,vals1⟩:=x;rw[hs]at e;simp only at e;cases hl:Xx c ops l s1 vals1 with
    | none=>rw[hl]at e;cases e
    | some y =>
     obtain⟨q2,s2⟩:=y;rw[hl]at e;simp only[oA,oB]at e;obtain⟨rfl,rfl⟩:=e;rw[K8 hs λq hq=>ho q (List.mem_append_left _ hq)]
     exact hi hl λq hq=>ho q (List.mem_append_right _ hq)
  | false =>
   rw[hw,oM]at e;rw[oM];cases hp:yY s o.dst zB s.heap with
   | none=>rw[hp]at e;cases e
   | some s1=>rw[hp]at e;exact hi e ho
theorem zEx{orc:Nat->List V->H->Option (V×H)}{rd:Bool}{ih:Bool->Code->St->Option Out}{ops:List Oper}{bs:List Nat}{m:Nat}:∀(l:List Oper) (r k:Nat) {s s':St}{vals:List V}{qs:List Qy},wT c ops bs m r k l s vals=some (qs,s')->Ans orc qs->yJ c orc rd ih ops bs m r k l s=some (.done .normal s'):=by
 intro l
 induction l with
 | nil =>
  intro r k s s' vals qs e _;cases r<;>(simp only[wT,oA,oB]at e;rw[yJ,e.2])
 | cons o l hi =>
  intro r k s s' vals qs e ho;cases r with
  | zero=>exact zHa _ e ho
  | succ r =>
   rw[wT]at e;rw[yJ];cases hw:zU ops s.tm o with
   | true =>
    rw[hw,oK]at e;rw[oK];cases hs:stepG c o { s with heap:={ s.heap with low:=T.top } } vals with
    | none=>rw[hs]at e;cases e
    | some x =>
     obtain⟨q1,s1,vals1⟩:=x;rw[hs]at e;simp only at e;cases h1:(Nat.ble s.heap.nx s1.heap.low || wA ops bs m k s.tm o)with
     | false=>rw[h1,oM]at e;cases e
     | true =>
      rw[h1,oK]at e;cases h2:xI s.dfr s1.dfr with
      | false=>rw[h2,oM]at e;cases e
      | true =>
       rw[h2,oK]at e;cases hl:wT c ops bs m r (k+1) l { s1 with heap:={ s1.heap with low:=cond (Nat.ble s.heap.low s1.heap.low) s.heap.low s1.heap.low } } vals1 with
       | none=>rw[hl]at e;cases e
       | some y =>
        obtain⟨q2,s2⟩:=y;rw[hl]at e;simp only[oA,oB]at e;obtain⟨rfl,rfl⟩:=e;rw[K8 hs λq hq=>ho q (List.mem_append_left _ hq)]
        simp only;rw[h1,oK,h2,oK];exact hi r (k+1) hl λq hq=>ho q (List.mem_append_right _ hq)
   | false =>
    rw[hw,oM]at e;rw[oM];cases hp:yY s o.dst zB s.heap with
    | none=>rw[hp]at e;cases e
    | some s1=>rw[hp]at e;exact hi r (k+1) e ho
open Classical in
def zNP(f:Nat)(args:List V)(h:H)(q:Qy):Bool:=decide (q.1=(f,args)/\q.2.1=h)
open Classical in
theorem zAJ{f:Nat}{args:List V}{h:H}{q:Qy}:zNP f args h q=true↔q.1=(f,args)/\q.2.1=h:=by unfold zNP;exact decide_eq_true_iff
def zO6(qs:List Qy):Nat->List V->H->Option (V×H):=λf args h=>(qs.find? (zNP f args h)).map λq=>(q.2.2,h)
variable {P:Program}
theorem zSN{qs:List Qy}(hq:∀q∈qs,(∃fi,c.fn.get q.1.1=some fi)/\SimF P q.1.1 q.1.2 q.2.1 (.ret q.2.2 q.2.1)):xk P c (zO6 qs):=by
 intro f args h v h' e;unfold zO6 at e;cases hf:qs.find? (zNP f args h)with
 | none=>rw[hf]at e;cases e
 | some q =>
  rw[hf]at e;simp only[oZ,oA,oB]at e;obtain⟨rfl,rfl⟩:=e;have hk:=zAJ.1 (List.find?_some hf);have:=hq q (List.mem_of_find?_eq_some hf);obtain⟨hk1,hk2⟩:=hk;rw[hk1,hk2]at this;exact this
theorem zO7{qs:List Qy}(hc:∀a∈qs,∀b∈qs,a.1=b.1->a.2.2=b.2.2):Ans (zO6 qs) qs:=by
 intro q hq;unfold zO6;cases hf:qs.find? (zNP q.1.1 q.1.2 q.2.1)with
 | none =>
  exact absurd (zAJ.2 ⟨rfl,rfl⟩) (List.find?_eq_none.1 hf q hq)
 | some q' =>
  have hk:=zAJ.1 (List.find?_some hf);have h1:=hc q' (List.mem_of_find?_eq_some hf) q hq hk.1;simp only[oZ,h1]
theorem wpDr.ans{b:Bool}{ops:List Oper}{m:Nat}{s s':St}{vals:List V}{qs:List Qy}{Q:AX->St->Prop}(hm:yb ops=some m)(e:wT c ops (za ops []) m m 0 ops s vals=some (qs,s'))(hq:∀q∈qs,(∃fi,c.fn.get q.1.1=some fi)/\SimF P q.1.1 q.1.2 q.2.1 (.ret q.2.2 q.2.1))(hc:∀a∈qs,∀b∈qs,a.1=b.1->a.2.2=b.2.2)(h:Q .normal s'):wpDr P c b ops s Q :=
 ⟨zO6 qs,m,.normal,s',zSN hq,hm,zEx _ _ _ e (zO7 hc),h⟩
theorem RF.same{f:Nat}{args:List V}{h:H}{v:V}(r:RF P c f args h λv' h'=>v'=v/\h'=h):(∃fi,c.fn.get f=some fi)/\SimF P f args h (.ret v h):=by
 obtain⟨v',h',⟨h1,h2⟩,rfl,rfl⟩:=r;exact⟨h1,h2⟩
end Go.Sim
namespace Go.Sim
def Blk(S:Nat->Prop)(b0:Nat)(h:H):Nat->List (Nat×O)->Prop
 | _,[]=>True
 | top,(p,o)::l=>p<top/\(S p\/b0<=p)/\h.get p=some o/\Blk S b0 h p l
theorem Blk.lt{S:Nat->Prop}{b0:Nat}{h:H}:∀{top:Nat}{l:List (Nat×O)},Blk S b0 h top l->∀q∈l,q.1<top
 | _,[],_=>λq hq=>by cases hq
 | top,(p,o)::l,⟨h1,_,_,h4⟩=>λq hq=>by
  rcases od.1 hq with rfl|hq
  ·exact h1
  ·exact Nat.lt_trans (h4.lt q hq) h1
theorem Blk.up{S:Nat->Prop}{b0:Nat}{h:H}{top top':Nat}(ht:top<=top'):∀{l:List (Nat×O)},Blk S b0 h top l->Blk S b0 h top' l
 | [],_=>trivial
 | (_,_)::_,⟨h1,h2,h3,h4⟩=>⟨oI h1 ht,h2,h3,h4⟩
theorem Blk.keep{S:Nat->Prop}{b0:Nat}{h h':H}:∀{top:Nat}{l:List (Nat×O)},Blk S b0 h top l->(∀q∈l,h'.get q.1=h.get q.1)->Blk S b0 h' top l
 | _,[],_,_=>trivial
 | _,(_,_)::_,⟨h1,h2,h3,h4⟩,hk=>⟨h1,h2,(hk _ (List.mem_cons_self ..)).trans h3,h4.keep λq hq=>hk q (oH _ hq)⟩
theorem Blk.at{S:Nat->Prop}{b0:Nat}{h:H}:∀{top:Nat}{l:List (Nat×O)}(i:Nat) {p:Nat}{o:O},Blk S b0 h top l->l[i]? = some (p,o)->p<top/\(S p\/b0<=p)/\h.get p=some o
 | _,[],i,_,_,_,e=>by cases e
 | top,(_,_)::l,0,p,o,⟨h1,h2,h3,h4⟩,e=>by cases e;exact⟨h1,h2,h3⟩
 | top,(_,_)::l,i+1,p,o,⟨h1,h2,h3,h4⟩,e=>by
  obtain⟨a,b,c⟩:=h4.at i e;exact⟨Nat.lt_trans a h1,b,c⟩
theorem Blk.put{S:Nat->Prop}{b0:Nat}{h h':H}:∀{top:Nat}{l:List (Nat×O)}(i:Nat) {p:Nat}{o o':O},Blk S b0 h top l->l[i]? = some (p,o)->h'.get p=some o'->(∀q∈l,q.1≠p->h'.get q.1=h.get q.1)->Blk S b0 h' top (l.set i (p,o'))
 | _,[],i,_,_,_,_,e,_,_=>by cases e
 | top,(_,_)::l,0,p,o,o',⟨h1,h2,h3,h4⟩,e,hp,hk=>by
  cases e;exact⟨h1,h2,hp,h4.keep λq hq=>hk q (oH _ hq) (Nat.ne_of_lt (h4.lt q hq))⟩
 | top,(p1,_)::l,i+1,p,o,o',⟨h1,h2,h3,h4⟩,e,hp,hk=>by
  have hlt:=(h4.at i e).1;exact⟨h1,h2,(hk _ (List.mem_cons_self ..) (Nat.ne_of_gt hlt)).trans h3,h4.put i e hp λq hq=>hk q (oH _ hq)⟩
structure Vw (S:Nat->Prop) (hb h:H) (c:Nat) (l:List (Nat×O)):Prop where
 ex:ExtX S hb h c
 bk:Blk S hb.nx h h.nx l
section
variable {S:Nat->Prop}{hb h h':H}{c m i p:Nat}{l:List (Nat×O)}{o:O}
theorem ExtX.refl0(S:Nat->Prop)(h:H):ExtX S h h 0:=⟨oP _,oP _,λ_ _ _=>rfl,oP _,λ_ h1 _ _=>h1⟩
theorem Vw.nil:Vw S h h 0 []:=⟨ExtX.refl0 _ _,trivial⟩
theorem Vw.one(hg:h.get p=some o)(hp:p<h.nx)(hs:S p):Vw S h h 0 [(p,o)]:=⟨ExtX.refl0 _ _,hp,.inl hs,hg,trivial⟩
theorem Vw.top(v:Vw S hb h c l):h.nx<=hb.nx+c:=v.ex.top
theorem Vw.le(v:Vw S hb h c l):hb.nx<=h.nx:=v.ex.le
theorem Vw.low(v:Vw S hb h c l):h.low<=hb.low:=v.ex.low
theorem Vw.more(v:Vw S hb h c l)(hm:c<=m):Vw S hb h m l:=⟨⟨v.ex.le,by have:=v.ex.top;omega,v.ex.get,v.ex.low,v.ex.lo⟩,v.bk⟩
theorem Vw.get(v:Vw S hb h c l)(i:Nat)(e:l[i]? = some (p,o)):h.get p=some o:=(v.bk.at i e).2.2
theorem Vw.lt(v:Vw S hb h c l)(i:Nat)(e:l[i]? = some (p,o)):p<h.nx:=(v.bk.at i e).1
theorem Vw.own(v:Vw S hb h c l)(i:Nat)(e:l[i]? = some (p,o)):S p\/hb.nx<=p:=(v.bk.at i e).2.1
theorem Vw.new(v:Vw S hb h c l)(e:h'=h.new o)(hn:h.nx<T.top):Vw S hb h' (c+1) ((h.nx,o)::l):=by
 obtain⟨n1,x1,g1⟩:=yA e hn;exact⟨v.ex.andThen (ExtX.of (S:=λ_=>False) x1) (λ_ g=>g.elim),by rw[n1];exact oc _,.inr v.le,g1,v.bk.keep λq hq=>x1.get _ (v.bk.lt q hq)⟩
theorem Vw.upd(v:Vw S hb h c l)(i:Nat){o':O}(e:l[i]? = some (p,o))(ht:h.nx<=T.top):Vw S hb (h.upd p (some o')) c (l.set i (p,o')):=by
 have hp:p<T.top:=oI (v.lt i e) ht;exact⟨v.ex.upd _ hp (v.own i e),v.bk.put i e (zN _ hp) λq _ hq=>zQ _ hp hq⟩
theorem Vw.ext(v:Vw S hb h c l)(x:Ext h h' m):Vw S hb h' (c+m) l :=
 ⟨v.ex.trans (ExtX.of x),(v.bk.keep λq hq=>x.get _ (v.bk.lt q hq)).up x.le⟩
theorem Vw.extX(v:Vw S hb h c l)(i:Nat){o':O}(e:l[i]? = some (p,o))(x:ExtX (· = p) h h' m)(g:h'.get p=some o'):Vw S hb h' (c+m) (l.set i (p,o')):=by
 have y:=v.ex.andThen x λb hb=>by subst hb;exact v.own i e
 exact⟨y,(v.bk.put i e g λq hq hn=>x.get _ (v.bk.lt q hq) hn).up x.le⟩
theorem Vw.apart{S2:Nat->Prop}(v:Vw S hb h c l)(x:ExtX S2 h h' m)(hS:∀b,S2 b->S b\/hb.nx<=b)(hl:∀q∈l,¬S2 q.1):Vw S hb h' (c+m) l :=
 ⟨v.ex.andThen x hS,(v.bk.keep λq hq=>x.get _ (v.bk.lt q hq) (hl q hq)).up x.le⟩
theorem Blk.drop{b0:Nat}:∀{top:Nat}{l:List (Nat×O)}(n:Nat),Blk S b0 h top l->Blk S b0 h top (l.drop n)
 | _,_,0,b=>b
 | _,[],_+1,_=>trivial
 | _,(_,_)::_,n+1,⟨h1,_,_,h4⟩=>(h4.drop n).up (Nat.le_of_lt h1)
theorem Vw.drop(v:Vw S hb h c l)(n:Nat):Vw S hb h c (l.drop n):=⟨v.ex,v.bk.drop n⟩
theorem Vw.toExt(v:Vw S hb h c l)(hS:∀b,S b->hb.nx<=b):Ext hb h c:=by
 have:=ExtX.ext (Ext.refl hb) v.ex hS;exact this.mono (by omega)
abbrev zS:Nat->Prop:=λ_=>False
theorem Vw.ex0(v:Vw zS hb h c l):Ext hb h c:=v.toExt λ_ g=>g.elim
variable {cx:Ctx}
theorem Vw.st(v:Vw S hb h c l)(i:Nat){t f:Nat}{ti:TI}{cs cs':Cs}{k:Rk}{op:Bool}{u:V}(e:l[i]? = some (p,.cells cs k true op))(hn:h.nx<=T.top)(ht:cx.ty.get t=some ti)(hl:wU u.cells ti.size=true)(hf:k.fz<=f)(ho:zL u.cells=true)(hp:cs.put f u.cells=some cs'):∃h',zg cx t h (.ptr p f) u=some h'/\Vw S hb h' c (l.set i (p,.cells cs' k true op))/\h'.nx=h.nx/\∀b,b≠p->h'.get b=h.get b :=
 ⟨_,zo ht (v.get i e) hl hf ho hp,v.upd i e hn,rfl,λ_ hb=>zQ _ (oI (v.lt i e) hn) hb⟩
theorem Vw.ld1(v:Vw S hb h c l)(i:Nat){t f:Nat}{ti:TI}{cs:Cs}{k:Rk}{w op:Bool}{u:V}(e:l[i]? = some (p,.cells cs k w op))(ht:cx.ty.get t=some ti)(hd:jZ ti.desc=false)(hv:cs.get? f=some u):zK cx t h (.ptr p f)=some u:=zX ht hd (v.get i e) hv
theorem Vw.ldA(v:Vw S hb h c l)(i:Nat){t f:Nat}{ti:TI}{cs:Cs}{k:Rk}{w op:Bool}{x:List V}(e:l[i]? = some (p,.cells cs k w op))(ht:cx.ty.get t=some ti)(hd:jZ ti.desc=true)(hv:cs.range f ti.size=some x):zK cx t h (.ptr p f)=some (.agg x):=zu ht hd (v.get i e) hv
def Sep(S:Nat->Prop)(b0:Nat)(l:List (Nat×O))(v:V):Prop:=∀b,zy v=some b->(S b\/b0<=b)/\∀q∈l,q.1≠b
theorem Ow.blk{h:H}{v:V}{te:TI}{n:Nat}{xs:List V}(s:Ow h v te n xs){b:Nat}(hb:zy v=some b):b<h.nx:=by
 obtain⟨_,⟨rfl,_⟩|⟨b',cs,rfl,h3,_⟩⟩:=s
 ·cases hb
 ·cases hb;exact h3
theorem Ow.one1{h:H}{v:V}{te:TI}{n:Nat}{xs:List V}(s:Ow h v te n xs):v.cells=[v]/\zL [v]=true:=by
 obtain⟨_,⟨rfl,_⟩|⟨b',cs,rfl,h3,_⟩⟩:=s
 ·exact⟨rfl,rfl⟩
 ·exact⟨rfl,rfl⟩
theorem Sl.one1{h:H}{v:V}{k n:Nat}{xs:List V}(s:Sl h v k n xs):v.cells=[v]/\zL [v]=true:=by
 obtain⟨_,⟨rfl,_⟩|⟨b,o,cp,cs,k,w,op,rfl,_⟩⟩:=s
 ·exact⟨rfl,rfl⟩
 ·exact⟨rfl,rfl⟩
theorem Vw.grow{v v':V}{te:TI}{k:Nat}{xs:List V}(w:Vw S hb h c l)(sp:Sep S hb.nx l v)(a:Ow h' v' te k xs/\h.nx<=h'.nx/\h'.nx<=h.nx+1/\(∀b,b<h.nx->zy v≠some b->h'.get b=h.get b)/\zy v'=some h.nx/\h'.low<=h.low/\(∀m,m<=h.low->(∀b,zy v=some b->m<=b)->m<=h'.low)):
  Vw S hb h' (c+1) l/\Ow h' v' te k xs/\Sep S hb.nx l v':=by
 obtain⟨a1,a2,a3,a4,a5,a6,a7⟩:=a;refine⟨w.apart (ExtX.append a2 a3 a4 a6 a7) (λb g=>(sp b g).1) (λq hq g=>(sp _ g).2 q hq rfl),a1,λb g=>?_⟩
 rw[a5]at g;cases g;exact⟨.inr w.le,λq hq=>Nat.ne_of_lt (w.bk.lt q hq)⟩
end
def Row(cs:Cs)(n:Nat)(xs:List V):Prop:=cs.wf/\cs.len=n/\xs.length=n/\∀i,i<n->cs.get? i=xs[i]?
abbrev xu(cs:Cs):O:=.cells cs ⟨0,0,0⟩ true false
theorem Row.sl{h:H}{b n:Nat}{cp:Cap}{cs:Cs}{k:Rk}{w op:Bool}{xs:List V}(r:Row cs n xs)(hb:b<h.nx)(hg:h.get b=some (.cells cs k w op)):Sl h (.slice b 0 n cp) 1 n xs :=
 ⟨by rw[r.2.2.1,Nat.mul_one],.inr ⟨b,0,cp,cs,k,w,op,rfl,hb,hg,λi hi=>by rw[Nat.zero_add];exact r.2.2.2 i (by omega)⟩⟩
section
variable {S:Nat->Prop}{hb h h':H}{c m i p:Nat}{l:List (Nat×O)}{o:O}{cx:Ctx}
theorem Row.make{te ti:TI}{k t e:Nat}{z:V}(ht:cx.ty.get t=some ti)(hd:ti.desc = .slice e)(he:cx.ty.get e=some te)(hz:te.zero=some z)(hzc:z.cells=[z])(hs:te.size=1)(hk:k<=262143)(hb:te.bytes*k<=1099511627776)(hn:h.nx<T.top):
  ∃cs,jy cx t (.int .i64 k) (.int .i64 k) h=some (.slice h.nx 0 k (.exact k),h.new (xu cs))/\Row cs k (List.replicate k z):=by
 obtain⟨cs,h1,h2⟩:=Cs.rep_some (v:=z) hk;obtain⟨h3,h4⟩:=Cs.rep_eq h1;refine⟨cs,?_,h2,h3,by rw[List.length_replicate],λi hi=>by rw[h4,if_pos hi,List.getElem?_replicate,if_pos hi]⟩
 unfold jy;have e2:yx (k:Int)=some k:=rfl;simp only[e2,ht,hd,he,hz];have hle:wU z.cells te.size=true:=yl.2 (by rw[hzc,hs];rfl);rw[oC (oP k),oC (show k<=4294967296 by omega),oC hb,hle];simp only[Bool.and_self,oK];unfold zEE qg;rw[hzc];simp only[h1,(zY _ _).2 hn,oK]
theorem Vw.set(v:Vw S hb h c l)(i:Nat){e n j:Nat}{te:TI}{cs:Cs}{k:Rk}{op:Bool}{u:V}{xs:List V}(r:Row cs n xs)(hi:l[i]? = some (p,.cells cs k true op))(hn:h.nx<=T.top)(hj:j<n)(he:cx.ty.get e=some te)(hs:te.size=1)(hf:k.fz=0)(hu:u.cells=[u])(ho:u.one=true):
  ∃h' cs',zg cx e h (.ptr p j) u=some h'/\Row cs' n (xs.set j u)/\Vw S hb h' c (l.set i (p,.cells cs' k true op))/\h'.nx=h.nx:=by
 obtain⟨cs',p1,p2⟩:=Cs.put_some (cs:=cs) r.1 (o:=j) (vs:=[u]) (by rw[r.2.1];simp;omega);obtain⟨_,p3,p4⟩:=Cs.put_eq p1;obtain⟨h',e1,w,n1,_⟩:=v.st (cx:=cx) i (t:=e) (f:=j) (u:=u) (cs':=cs') hi hn he (yl.2 (by rw[hu,hs];rfl)) (by rw[hf];exact oJ _) (by rw[hu];simp[zL,ho]) (by rw[hu];exact p1);refine⟨h',cs',e1,⟨p2,by rw[p3,r.2.1],by rw[oh,r.2.2.1],λa ha=>?_⟩,w,n1⟩
 rw[p4];by_cases c1:a=j
 ·subst c1
  rw[if_pos ⟨oP _,by simp⟩,Nat.sub_self,List.getElem?_set_self (by rw[r.2.2.1];exact hj)];rfl
 ·rw[if_neg (by simp;omega),oY (λq=>c1 q.symm)]
  exact r.2.2.2 a ha
theorem yd{t e b n j:Nat}{cp:Cap}{ti te:TI}(ht:cx.ty.get t=some ti)(hd:ti.desc = .slice e)(he:cx.ty.get e=some te)(hs:te.size=1)(hj:j<n):z8 cx t (.slice b 0 n cp) (.int .i64 j)=some (.ptr b j):=by
 unfold z8;show(match yx (Int.ofNat j),cx.ty.get t with|some i,some ti=>_|_,_=>_)=_
 simp only[yx,ht,hd,he,(zY _ _).2 hj,oK,hs,Nat.mul_one,Nat.zero_add]
end
def RowE(cs:Cs)(esz n k:Nat)(xs:List V):Prop:=cs.wf/\cs.len=k*esz/\xs.length=n*esz/\n<=k/\∀i,i<n*esz->cs.get? i=xs[i]?
theorem RowE.sl{h:H}{b esz n m:Nat}{cp:Cap}{cs:Cs}{k:Rk}{w op:Bool}{xs:List V}(r:RowE cs esz n m xs)(hb:b<h.nx)(hg:h.get b=some (.cells cs k w op)):Sl h (.slice b 0 n cp) esz n xs :=
 ⟨r.2.2.1,.inr ⟨b,0,cp,cs,k,w,op,rfl,hb,hg,λi hi=>by rw[Nat.zero_add];exact r.2.2.2.2 i hi⟩⟩
theorem Vw.app{S:Nat->Prop}{hb h:H}{c p:Nat}{l:List (Nat×O)}{cx:Ctx}(v:Vw S hb h c l)(i:Nat){te ti:TI}{n m k t e:Nat}{cs:Cs}{kk:Rk}{op:Bool}{x:V}{xs ys:List V}(hi:l[i]? = some (p,.cells cs kk true op))(r:RowE cs te.size n k xs)(hx:Sl h x te.size m ys)(hm:0<m)(ht:cx.ty.get t=some ti)(hd:ti.desc = .slice e)(he:cx.ty.get e=some te)(hok:kH te=true)(ho:zL ys=true)(hk:n+m<=k)(hf:kk.fz=0)(hn:h.nx<=T.top):
  ∃h' cs',zc cx t h (.slice p 0 n (.exact k)) x=some (.slice p 0 (n+m) (.exact k),h')/\RowE cs' te.size (n+m) k (xs++ys)/\Vw S hb h' c (l.set i (p,.cells cs' kk true op))/\h'.nx=h.nx:=by
 have hs0:0<te.size:=by
  unfold kH at hok;simp only[oG]at hok;exact(zY _ _).1 hok.1.1
 have hys:ys.length=m*te.size:=hx.1;have hap:zc cx t h (.slice p 0 n (.exact k)) x=appTo te h m ys (.slice p 0 n (.exact k)):=by
  unfold zc;rw[ht];simp only[hd,he,hok,oK,hx.src hs0 hm]
 have hmul:(n+m)*te.size=n*te.size+m*te.size:=Nat.add_mul _ _ _;have hkm:(n+m)*te.size<=k*te.size:=Nat.mul_le_mul_right _ hk;obtain⟨hw,hl,h0,hnk,hc⟩:=r;obtain⟨cs',p1,p2⟩:=Cs.put_some (cs:=cs) hw (o:=0+n*te.size) (vs:=ys) (by rw[hl,hys];omega);obtain⟨_,p3,p4⟩:=Cs.put_eq p1;refine⟨h.upd p (some (.cells cs' kk true op)),cs',?_,⟨p2,by rw[p3,hl],by rw[oU,h0,hys,hmul],hk,λj hj=>?_⟩,v.upd i hi hn,rfl⟩
 ·rw[hap]
  unfold appTo;simp only[v.get i hi];unfold kR;rw[oC hk,oK,ho];simp only[Bool.and_true,oK];unfold qQ;rw[p1];simp only[hf,oC (oJ _),oK]
 ·rw[p4]
  by_cases hi2:j<n*te.size
  ·rw[if_neg (by omega),hc j hi2,List.getElem?_append_left (by rw[h0];exact hi2)]
  ·rw[if_pos (by omega),List.getElem?_append_right (by rw[h0];omega),h0,Nat.zero_add]
end Go.Sim
namespace Go.Sim
open Go (Oper)
variable {c:Ctx}{orc:Nat->List V->H->Option (V×H)}{b:Bool}{ih:Bool->Code->St->Option Out}
theorem xS{o:Oper}{t:Nat}{a:Operand}{e:Operand->Option V}{h:H}{p v:V}(ho:o.op = .load t a)(he:e a=some p)(hl:zK c t h p=some v):zh c o e h=some (.val v h):=by
 unfold zh;simp only[ho,he,hl];rfl
theorem J1{o:Oper}{t:Nat}{a x:Operand}{e:Operand->Option V}{h h':H}{p v:V}(ho:o.op = .store t a x)(he:e a=some p)(hx:e x=some v)(hs:zg c t h p v=some h'):zh c o e h=some (.skip h'):=by
 unfold zh;simp only[ho,he,hx,hs]
theorem Xo{h:H}(hl:h.low<=T.top):yL h (zM h)=h:=by
 show(⟨h.tbl,h.nx,cond (Nat.ble h.low T.top) h.low T.top⟩:H)=h;rw[oC hl,oK]
theorem zx{o:Oper}{l ops:List Oper}{bs:List Nat}{m r k n t:Nat}{tm:Tm}{d:List AD}{h:H}{v:V}{res:Option Out}(hg:o.guard=none)(ha:zh c o (yF tm) (zM h)=some (.val v (zM h)))(hd:o.dst=some t)(ht:Nat.blt t n=true)(hn:h.nx<=T.top)(hl:h.low<=T.top)(e:yJ c orc b ih ops bs m r (k+1) l ⟨n,Tb.set tm t v,d,h⟩=res):yJ c orc b ih ops bs m (r+1) k (o::l) ⟨n,tm,d,h⟩=res:=by
 have hw:zU ops tm o=true:=by unfold zU;rw[hg]
 have hst:zV c orc b ih o ⟨n,tm,d,zM h⟩=some (.normal,⟨n,Tb.set tm t v,d,zM h⟩):=by
  unfold zV;simp only[ha];unfold yY;simp only[hd,ht,oK]
 show cond (zU ops tm o) (match zV c orc b ih o ⟨n,tm,d,zM h⟩with|some (.normal,s')=>_|_=>none) _=_
 rw[hw,oK,hst];show cond (Nat.ble h.nx T.top || _) (cond (xI d d) (yJ c orc b ih ops bs m r (k+1) l ⟨n,Tb.set tm t v,d,yL h (zM h)⟩) none) none=_;rw[oC hn,Bool.true_or,oK,xJ,oK,Xo hl];exact e
theorem zEw{o:Oper}{l ops:List Oper}{bs:List Nat}{m r k n:Nat}{tm:Tm}{d:List AD}{h h1:H}{res:Option Out}(hg:o.guard=none)(ha:zh c o (yF tm) (zM h)=some (.skip h1))(hd:o.dst=none)(hs:wA ops bs m k tm o=true)(e:yJ c orc b ih ops bs m r (k+1) l ⟨n,tm,d,yL h h1⟩=res):yJ c orc b ih ops bs m (r+1) k (o::l) ⟨n,tm,d,h⟩=res:=by
 have hw:zU ops tm o=true:=by unfold zU;rw[hg]
 have hst:zV c orc b ih o ⟨n,tm,d,zM h⟩=some (.normal,⟨n,tm,d,h1⟩):=by
  unfold zV;simp only[ha];unfold yY;simp only[hd]
 show cond (zU ops tm o) (match zV c orc b ih o ⟨n,tm,d,zM h⟩with|some (.normal,s')=>_|_=>none) _=_
 rw[hw,oK,hst];show cond (_ || wA ops bs m k tm o) (cond (xI d d) (yJ c orc b ih ops bs m r (k+1) l ⟨n,tm,d,yL h h1⟩) none) none=_;rw[hs,Bool.or_true,oK,xJ,oK];exact e
theorem zSI{o:Oper}{ops:List Oper}{n:Nat}{tm:Tm}{d:List AD}{h h1:H}(hg:o.guard=none)(ha:zh c o (yF tm) h=some (.skip h1))(hd:o.dst=none):we c orc b ih ops [o] ⟨n,tm,d,h⟩=some (.done .normal ⟨n,tm,d,h1⟩):=by
 have hw:zU ops tm o=true:=by unfold zU;rw[hg]
 have hst:zV c orc b ih o ⟨n,tm,d,h⟩=some (.normal,⟨n,tm,d,h1⟩):=by
  unfold zV;simp only[ha];unfold yY;simp only[hd]
 show cond (zU ops tm o) (match zV c orc b ih o ⟨n,tm,d,h⟩with|some (.normal,s')=>_|some (x,s')=>_|none=>none) _=_
 rw[hw,oK,hst];rfl
theorem kY{h:H}{p:Nat}{o:Option O}(hp:p<T.top):yL h ((zM h).upd p o)=h.upd p o:=by
 cases h with
 | mk t n l =>
  show(⟨t.set p o,n,cond (Nat.ble l (cond (Nat.ble T.top p) T.top p)) l (cond (Nat.ble T.top p) T.top p)⟩:H)=⟨t.set p o,n,cond (Nat.ble l p) l p⟩;have:Nat.ble T.top p=false:=by
   cases hb:Nat.ble T.top p with
   | false=>rfl
   | true=>have:=oE hb;omega
  rw[this,oM]
theorem zHC{a b:Nat}(h:a≠b):Nat.beq a b=false:=by
 cases hb:Nat.beq a b with
 | false=>rfl
 | true=>exact absurd (oF hb) h
end Go.Sim
