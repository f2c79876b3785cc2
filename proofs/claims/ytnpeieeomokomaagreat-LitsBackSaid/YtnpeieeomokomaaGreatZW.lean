/- W. No condition. -/
import Derived.Test.YtnpeieeomokomaaGreatZS
import Derived.ProofKit
import Derived.ChangeSlices
import Derived.Carry
import Derived.ChangeOld
noncomputable section
namespace Go.Sim
namespace Cs
def wf:Cs->Prop
 | .ls _=>True
 | .tb _ n=>n<=511
 | .big _ _ n=>n<=262143
theorem LG:∀{vs l:Ug},vs.length<=l.length->∃r,lq vs l=some r:=by
 intro vs;induction vs with
 | nil=>intro l _;exact⟨l,rfl⟩
 | cons v vs ih=>intro l h;cases l<;>grind[lq]
theorem splice_some:∀{n:Nat}{vs l:Ug},n+vs.length<=l.length->∃r,qz n vs l=some r:=by
 intro n;induction n with
 | zero=>intro vs l h;exact LG dd
 | succ n ih =>
  intro vs l h;rcases l with _|⟨x,l⟩
  .grind
  obtain⟨r,hr⟩:=ih (vs:=vs) (l:=l) (by simp at h;omega)<;>grind[qz]
theorem put_some{cs:Cs}(hw:cs.wf){o:Nat}{vs:Ug}(h:o+vs.length<=cs.len):∃c',cs.put o vs=some c'/\c'.wf:=by
 cases cs with
 | ls l =>
  have h:o+vs.length<=l.length:=by grind[len,yF]
  obtain⟨r,hr⟩:=splice_some h;exact⟨.ls r,by grind[put,zBH],trivial⟩
 | tb t n=>have h:o+vs.length<=n:=h;refine⟨.tb (Y0 vs o t) n,?_,hw⟩;have a:Nat.ble (ws vs o) n=true:=oE (by grind[yF]);have b:Nat.ble n 511=true:=oE hw;simp only[put,a,b,Bool.and_self,oN]
 | big d t n=>have h:o+vs.length<=n:=h;refine⟨.big d (kG vs o t) n,?_,hw⟩;have a:Nat.ble (ws vs o) n=true:=oE (by grind[yF]);have b:Nat.ble n 262143=true:=oE hw;simp only[put,a,b,Bool.and_self,oN]
theorem Sr{l:Ug}{m:Nat}(h:m<=262143):∃c,WL l m=some c/\c.wf:=by
 unfold WL;cases a:Nat.ble m 511 with
 | true=>exact⟨_,rfl,oG a⟩
 | false=>have h2:Nat.ble m 262143=true:=oE h;simp only[h2,oN,oO];exact⟨_,rfl,h⟩
theorem tO{l vs:Ug}{m:Nat}(h:m<=262143):∃c,Pk l vs m=some c/\c.wf:=by
 unfold Pk;cases a:Nat.ble m 16 with
 | true=>exact⟨_,rfl,trivial⟩
 | false=>exact Sr h
theorem ofL_some{l:Ug}(h:l.length<=262143):∃c,ofL l=some c/\c.wf:=tO (by grind[yF])
theorem app_some{cs:Cs}{vs:Ug}(h:cs.len+vs.length<=262143):∃c',cs.app vs=some c'/\c'.wf:=by
 cases cs with
 | ls l=>exact tO (by simp_all[len,yF])
 | tb t n =>
  have h:n+vs.length<=262143:=h;show ∃c',Eo t n vs (ws vs n)=some c'/\_;unfold Eo;cases a:Nat.ble (ws vs n) 511 with
  | true=>exact⟨_,rfl,oG a⟩
  | false=>have h2:Nat.ble (ws vs n) 262143=true:=oE (by grind[yF]);simp only[h2,oN,oO];exact⟨_,rfl,oG h2⟩
 | big d t n=>have h:n+vs.length<=262143:=h;have h2:Nat.ble (ws vs n) 262143=true:=oE (by grind[yF]);exact⟨.big d (kG vs n t) (ws vs n),by simp only[app,h2,oN],oG h2⟩
theorem rep_some{v:V}{n:Nat}(h:n<=262143):∃c,rep v n=some c/\c.wf:=by
 unfold rep;cases a:Nat.ble n 511 with
 | true=>exact⟨_,rfl,oG a⟩
 | false=>have h2:Nat.ble n 262143=true:=oE h;simp only[h2,oN,oO];exact⟨_,rfl,h⟩
theorem range_is{cs:Cs}{o k:Nat}{x:Ug}(c:0<k)(d:x.length=k)(h:∀i,i<k->cs.get? (o+i)=x[i]?):cs.range o k=some x:=by
 have hl:o+k<=cs.len:=by have a:=h (k-1) dd;rw[oQ dd]at a;have:=get_lt a;omega
 obtain⟨y,b⟩:=range_some hl;obtain⟨a,_,h2⟩:=range_eq b;rw[b];congr 1;apply List.ext_getElem?;intro i;by_cases hi:i<k
 .rw[h2 i hi,h i hi]
 rw[ov,ov]
end Cs
theorem zD{n:Int}(h1 : -9223372036854775808<=n)(h2:n<9223372036854775808):zb n=n:=by
 unfold zb
 grind[wH,IntKind.wrap,IntKind.bits,IntKind.signed]
structure Ext (h h':H) (n:Nat):Prop where
 le:h.nx<=h'.nx
 top:h'.nx<=h.nx+n
 get:∀b,b<h.nx->h'.get b=h.get b
 low:h'.low<=h.low
 lo:min h.low h.nx<=h'.low
theorem Ext.refl(h:H):Ext h h 0:=⟨oR _,oR _,λ_ _=>rfl,oR _,Nat.min_le_left _ _⟩
theorem Ext.trans{h h1 h2:H}{m n:Nat}(a:Ext h h1 m)(b:Ext h1 h2 n):Ext h h2 (m+n) :=
 ⟨oS a.le b.le,by have:=a.top;have:=b.top;omega,λi hi=>(b.get i (oL hi a.le)).trans (a.get i hi),oS b.low a.low,by have:=a.lo;have:=b.lo;have:=a.le;omega⟩
theorem Ext.mono{h h':H}{m n:Nat}(a:Ext h h' m)(hm:m<=n):Ext h h' n:=⟨a.le,by have:=a.top;omega,a.get,a.low,a.lo⟩
theorem zC(h:H)(o:O):(h.new o).nx=h.nx+1:=by rw[H.new_eq]
theorem zK{h:H}(o:O)(a:h.nx<T.top):(h.new o).get h.nx=some o:=by rw[H.get_new _ _ _ a,if_pos rfl]
theorem zn{h:H}(o:O)(a:h.nx<T.top){b:Nat}(hb:b<h.nx):(h.new o).get b=h.get b:=by rw[H.get_new _ _ _ a,if_neg dd]
theorem Ext.new{h:H}(o:O)(a:h.nx<T.top):Ext h (h.new o) 1:=⟨by grind[zC],by grind[zC],λb hb=>zn o a hb,oR _,Nat.min_le_left _ _⟩
theorem zF{h:H}{b:Nat}(o:Option O)(hb:b<T.top):(h.upd b o).get b=o:=by rw[H.get_upd _ _ _ _ hb,if_pos rfl]
theorem zL{h:H}{b i:Nat}(o:Option O)(hb:b<T.top)(hi:i≠b):(h.upd b o).get i=h.get i:=by simp_all[H.get_upd]
theorem Ext.upd{h0 h:H}{n b:Nat}(e:Ext h0 h n)(o:Option O)(hb:b<T.top)(a:h0.nx<=b):Ext h0 (h.upd b o) n :=
 ⟨e.le,e.top,λi hi=>by rw[zL o hb dd];exact e.get i hi,by rw[H.low_upd];have:=e.low;omega,by rw[H.low_upd];have:=e.lo;omega⟩
theorem zGd(h:H)(b:Nat):(z8 h).get b=h.get b:=rfl
theorem zBy(h:H):(z8 h).nx=h.nx:=rfl
theorem zGA(h h':H)(b:Nat):(wW h h').get b=h'.get b:=rfl
theorem Nq(h h':H):(wW h h').nx=h'.nx:=rfl
theorem jV(h h':H):(wW h h').low=min h.low h'.low:=by
 show cond (Nat.ble h.low h'.low) h.low h'.low=_;cases hb:Nat.ble h.low h'.low with
 | true=>simp_all
 | false =>
  have:¬h.low<=h'.low:=λe=>by grind[oE]
  grind
theorem Ext.drawn{h h':H}{n:Nat}(e:Ext (z8 h) h' n)(b:h.nx<=T.top):h.nx<=h'.low/\Ext h (wW h h') n :=
  ⟨by have:=e.lo;have a:(z8 h).low=T.top:=rfl;have h2:(z8 h).nx=h.nx:=rfl;omega,
   e.le,e.top,e.get,by rw[jV];omega,by rw[jV];have:=e.lo;have a:(z8 h).low=T.top:=rfl;have h2:(z8 h).nx=h.nx:=rfl;omega⟩
section
variable {c:Ctx}
theorem zJ{t b o:Nat}{ti:TI}{h:H}{cs:Cs}{k:Rk}{w op:Bool}{v:V}(a:c.ty.get t=some ti)(hd:jx ti.desc=false)(d:h.get b=some (.cells cs k w op))(e:cs.get? o=some v):ye c t h (.ptr b o)=some v:=by
 simp_all[ye]
theorem zT{t b o:Nat}{ti:TI}{h:H}{cs:Cs}{k:Rk}{w op:Bool}{x:Ug}(a:c.ty.get t=some ti)(hd:jx ti.desc=true)(d:h.get b=some (.cells cs k w op))(e:cs.range o ti.size=some x):ye c t h (.ptr b o)=some (.agg x):=by
 simp_all[ye]
theorem zY{t b o:Nat}{ti:TI}{h:H}{cs cs':Cs}{k:Rk}{op:Bool}{v:V}(a:c.ty.get t=some ti)(d:h.get b=some (.cells cs k true op))(hp:cs.put o v.cells=some cs')(hl:we v.cells ti.size=true:=by exact rfl)(e:k.fz<=o:=by exact Nat.zero_le _)(f:zU v.cells=true:=by exact rfl):jP c t h (.ptr b o) v=some (h.upd b (some (.cells cs' k true op))):=by unfold jP;simp only[d,a,hl,oN,oE e,f,hp]
structure ExtX (S:Nat->Prop) (h h':H) (n:Nat):Prop where
 le:h.nx<=h'.nx
 top:h'.nx<=h.nx+n
 get:∀b,b<h.nx->¬S b->h'.get b=h.get b
 low:h'.low<=h.low
 lo:∀m,m<=h.low->m<=h.nx->(∀b,S b->m<=b)->m<=h'.low
theorem ExtX.of{S:Nat->Prop}{h h':H}{n:Nat}(e:Ext h h' n):ExtX S h h' n:=⟨e.le,e.top,λb hb _=>e.get b hb,e.low,λ_ a h2 _=>oS (Nat.le_min.2 ⟨a,h2⟩) e.lo⟩
theorem ExtX.trans{S:Nat->Prop}{h h1 h2:H}{m n:Nat}(a:ExtX S h h1 m)(b:ExtX S h1 h2 n):ExtX S h h2 (m+n) :=
 ⟨oS a.le b.le,by have:=a.top;have:=b.top;omega,λi hi hs=>(b.get i (oL hi a.le) hs).trans (a.get i hi hs),oS b.low a.low,λk h1 h2 h3=>b.lo k (a.lo k h1 h2 h3) (oS h2 a.le) h3⟩
theorem ExtX.upd{S:Nat->Prop}{h h':H}{n b:Nat}(e:ExtX S h h' n)(o:Option O)(hb:b<T.top)(hs:S b\/h.nx<=b):ExtX S h (h'.upd b o) n :=
 ⟨e.le,e.top,λi hi a=>by
   rw[zL o hb (λg=>by grind)];exact e.get i hi a,by rw[H.low_upd];have:=e.low;omega,λm d h2 h3=>by
   rw[H.low_upd];have:=e.lo m d h2 h3
   grind⟩
theorem ExtX.ext{S:Nat->Prop}{h0 h h':H}{m n:Nat}(e:Ext h0 h m)(a:ExtX S h h' n)(d:∀b,S b->h0.nx<=b):Ext h0 h' (m+n) :=
 ⟨oS e.le a.le,by have:=a.top;have:=e.top;omega,λi hi=>(a.get i (oL hi e.le) (λq=>by have:=d i q;omega)).trans (e.get i hi),oS a.low e.low,a.lo _ e.lo (oS (Nat.min_le_right _ _) e.le) λb hb=>oS (Nat.min_le_right _ _) (d b hb)⟩
def Sl(h:H)(v:V)(esz n:Nat)(xs:Ug):Prop :=
 xs.length=n*esz/\((v = .nilslice/\n=0)\/∃b o a cs k w op,v = .slice b o n a/\b<h.nx/\h.get b=some (.cells cs k w op)/\∀i,i<n*esz->cs.get? (o+i)=xs[i]?)
theorem Sl.ext{h h':H}{v:V}{esz n m:Nat}{xs:Ug}(s:Sl h v esz n xs)(e:Ext h h' m):Sl h' v esz n xs:=by obtain⟨a,h2⟩:=s;refine⟨a,h2.imp id ?_⟩;rintro⟨b,o,d,cs,k,w,op,rfl,h3,h4,f⟩;exact⟨b,o,d,cs,k,w,op,rfl,oL h3 e.le,by rw[e.get b h3];exact h4,f⟩
theorem Sl.len{h:H}{v:V}{esz n:Nat}{xs:Ug}(s:Sl h v esz n xs){t e:Nat}{ti:TI}(a:c.ty.get t=some ti)(hd:ti.desc = .slice e):Yg c t h v=some (dh n):=by
 obtain⟨_,⟨rfl,rfl⟩|⟨b,o,d,cs,k,w,op,rfl,_⟩⟩:=s
 .grind[Yg]
 grind[Yg]
theorem Sl.at{h:H}{v:V}{esz n i:Nat}{xs:Ug}(s:Sl h v esz n xs)(hi:i<n){t e:Nat}{ti te:TI}(a:c.ty.get t=some ti)(hd:ti.desc = .slice e)(d:c.ty.get e=some te)(hs:te.size=esz):
  ∃b o,xK c t v (dh i)=some (.ptr b o)/\∃cs k w op,h.get b=some (.cells cs k w op)/\∀j,j<esz->cs.get? (o+j)=xs[i*esz+j]?:=by
 obtain⟨_,⟨_,rfl⟩|⟨b,o,l,cs,k,w,op,rfl,hb,f,g⟩⟩:=s
 .omega
 refine⟨b,o+i*te.size,?_,cs,k,w,op,f,λj m=>?_⟩
 .unfold xK;show(match ya (Int.ofNat i),c.ty.get t with|some i,some ti=>_|_,_=>_)=_;simp only[ya,a,hd,d,(zW _ _).2 hi,oN]
 rw[hs,Nat.add_assoc];refine g _ ?_
 calc i*esz+j<i*esz+esz:=dd
  _=(i+1)*esz:=by grind
  _<=n*esz:=Nat.mul_le_mul_right _ hi
theorem Sl.at1{h:H}{v:V}{n i:Nat}{xs:Ug}(s:Sl h v 1 n xs)(hi:i<n){t e:Nat}{ti te:TI}(d:c.ty.get t=some ti)(hd:ti.desc = .slice e)(a:c.ty.get e=some te)(hs:te.size=1)(f:jx te.desc=false){u:V}(g:xs[i]? = some u):
  ∃b o,xK c t v (dh i)=some (.ptr b o)/\ye c e h (.ptr b o)=some u:=by
 obtain⟨b,o,j,cs,k,w,op,l,m⟩:=s.at hi d hd a hs;refine⟨b,o,j,zJ a f l ?_⟩;have:=m 0 dd;rw[Nat.mul_one]at this;simpa [g]using this
def Ow(h:H)(v:V)(te:TI)(n:Nat)(xs:Ug):Prop :=
 xs.length=n*te.size/\((v = .nilslice/\n=0)\/∃b cs,v = .slice b 0 n (.skip 0)/\b<h.nx/\h.get b=some (.cells cs (xD te) true true)/\cs.wf/\cs.len=n*te.size/\∀i,i<n*te.size->cs.get? i=xs[i]?)
theorem Ow.sl{h:H}{v:V}{te:TI}{n:Nat}{xs:Ug}(s:Ow h v te n xs):Sl h v te.size n xs:=by
 obtain⟨a,h2⟩:=s;refine⟨a,h2.imp id ?_⟩
 grind
def z6:V->Option Nat
 | .slice b _ _ _=>some b
 | _=>none
theorem Ow.keep{h h':H}{v:V}{te:TI}{n:Nat}{xs:Ug}(s:Ow h v te n xs)(a:h.nx<=h'.nx)(d:∀b,z6 v=some b->h'.get b=h.get b):Ow h' v te n xs:=by obtain⟨e,h2⟩:=s;refine⟨e,h2.imp id ?_⟩;rintro⟨b,cs,rfl,h3,h4,f⟩;exact⟨b,cs,rfl,oL h3 a,by rw[d b rfl];exact h4,f⟩
theorem Ow.ext{h h':H}{v:V}{te:TI}{n m:Nat}{xs:Ug}(s:Ow h v te n xs)(e:Ext h h' m):Ow h' v te n xs:=by
 refine s.keep e.le λb hb=>e.get b ?_
 obtain⟨_,⟨rfl,_⟩|⟨a,cs,rfl,h3,_⟩⟩:=s
 .cases hb
 cases hb;exact h3
theorem Ow.nil(h:H)(te:TI):Ow h .nilslice te 0 []:=⟨by simp,.inl ⟨rfl,rfl⟩⟩
theorem Sl.src{h:H}{v:V}{esz n:Nat}{xs:Ug}(s:Sl h v esz n xs)(a:0<esz)(d:0<n):yT esz h v=some (n,xs):=by
 obtain⟨e,⟨rfl,rfl⟩|⟨b,o,i,cs,k,w,op,rfl,hb,f,g⟩⟩:=s
 .omega
 unfold yT;simp only[f];rw[Cs.range_is (Nat.mul_pos d a) e g]
theorem vg{cs:Cs}{o:Nat}{vs:Ug}(h:cs.len<o+vs.length):cs.put o vs=none:=by
 rcases hp:cs.put o vs with _|a
 .rfl
 have:=(Cs.put_eq hp).1;omega
theorem xg{k:Rk}{te:TI}{h:H}{cs:Cs}{a:Nat}(hb:a*te.bytes<=1099511627776)(b:h.nx<T.top):
  jD k te h (some cs) a=some (.slice h.nx 0 a (.skip 0),h.new (.cells cs k true true)):=by
 unfold jD kJ;rw[oE hb,oN,(zW _ _).2 b,oN]
theorem Ow.appTo{h:H}{v:V}{te:TI}{n m:Nat}{xs ys:Ug}(s:Ow h v te n xs)(a:ys.length=m*te.size)(hm:0<m)(xI:jo te=true)(A:zU ys=true)(u:(n+m)*te.size<=262143)(o:(n+m)*te.bytes<=1099511627776)(t:h.nx<T.top):
  ∃v' h',Go.Sim.appTo te h m ys v=some (v',h')/\Ow h' v' te (n+m) (xs++ys)/\h.nx<=h'.nx/\h'.nx<=h.nx+1/\(∀b,b<h.nx->z6 v≠some b->h'.get b=h.get b)/\z6 v'=some h.nx/\h'.low<=h.low/\(∀m,m<=h.low->(∀b,z6 v=some b->m<=b)->m<=h'.low):=by
 have w:0<te.size:=by unfold jo at xI;simp only[oI]at xI;exact(zW _ _).1 xI.1.1
 have f:(n+m)*te.size=n*te.size+m*te.size:=Nat.add_mul _ _ _;obtain⟨p,⟨rfl,rfl⟩|⟨b,cs,rfl,hb,C,hw,hl,D⟩⟩:=s
 .have x:xs=[]:=List.eq_nil_of_length_eq_zero (by rw[p];simp);subst x;obtain⟨cs,q,h2⟩:=Cs.ofL_some (l:=ys) (by rw[a];simp at u;omega);obtain⟨h3,h4⟩:=Cs.ofL_eq q;refine⟨.slice h.nx 0 m (.skip 0),h.new (.cells cs (xD te) true true),?_,?_,by rw[zC];omega,by rw[zC];omega,λb hb _=>zn _ t hb,rfl,oR _,λm hm _=>hm⟩
  .unfold Go.Sim.appTo;have:Nat.beq m 0=false:=by cases g:Nat.beq m 0 with
    | false=>rfl
    | true=>have:=oH g;omega
   rw[this,oO,A,oN,q];exact xg (by simpa using o) t
  refine⟨by simp[a],.inr ⟨h.nx,cs,by rw[Nat.zero_add],by rw[zC];omega,zK _ t,h2,by rw[h3,a,Nat.zero_add],λi _=>by rw[h4];rfl⟩⟩
 obtain⟨r,q,h2⟩:=Cs.app_some (cs:=cs) (vs:=ys) (by rw[hl,a];omega);obtain⟨h3,h4⟩:=Cs.app_eq q;have y:b<T.top:=dd
 have j:(qq h b).nx<T.top:=t;refine⟨.slice (qq h b).nx 0 (n+m) (.skip 0),(qq h b).new (.cells r (xD te) true true),?_,?_,by rw[zC];exact Nat.le_succ _,by rw[zC];exact oR _,λi hi k=>?_,rfl,(by show(h.upd b none).low<=_;rw[H.low_upd];exact Nat.min_le_left _ _),λm hm z=>(by show m<=(h.upd b none).low;rw[H.low_upd];exact Nat.le_min.2 ⟨hm,z b rfl⟩)⟩
 .unfold Go.Sim.appTo;simp only[C];unfold kX;have E:(true && true && Nat.beq te.size (xD te).n && Nat.beq 0 (0*te.size) && zU ys && Nat.ble (0+n*te.size) cs.len)=true:=by
   simp[xD,A,hl]
  rw[E,oN];have F:Nat.beq m 0=false:=by cases g:Nat.beq m 0 with
   | false=>rfl
   | true=>have:=oH g;omega
  rw[F,oO];have G:qh h b 0 n (.skip 0) te.size (n+m) cs (xD te) true ys=none:=by unfold qh;have B:0<m*te.size:=Nat.mul_pos hm w;rw[vg (by rw[hl,a];omega)]
  rw[G];simp only;unfold Yh;have I:(Nat.beq 0 0 && Nat.beq cs.len (0+n*te.size) && Nat.ble (xD te).fz (0+n*te.size) && (Nat.beq (xD te).ty 0 || Nat.beq (xD te).ty (te.id+1)))=true:=by simp[xD,hl]
  rw[I,oN,q];exact xg o j
 .refine⟨by rw[oW,p,a,f],.inr ⟨(qq h b).nx,r,rfl,by rw[zC];exact om _,zK _ j,h2,by rw[h3,hl,a,f],λi hi=>?_⟩⟩;rw[h4,hl];by_cases d:i<n*te.size
  .rw[if_pos d,D i d,List.getElem?_append_left (by rw[p];exact d)]
  rw[if_neg d,List.getElem?_append_right (by rw[p];omega),p]
 have k:i≠b:=λe=>k (by rw[e];rfl)
 rw[zn _ j (show i<(qq h b).nx from hi)];exact zL _ y k
theorem Ow.append{h:H}{v x:V}{te ti:TI}{n m t e:Nat}{xs ys:Ug}(s:Ow h v te n xs)(i:Sl h x te.size m ys)(hm:0<m)(j:c.ty.get t=some ti)(hd:ti.desc = .slice e)(k:c.ty.get e=some te)(xI:jo te=true)(l:zU ys=true)(a:(n+m)*te.size<=262143)(d:(n+m)*te.bytes<=1099511627776)(o:h.nx<T.top):
  ∃v' h',zi c t h v x=some (v',h')/\Ow h' v' te (n+m) (xs++ys)/\h.nx<=h'.nx/\h'.nx<=h.nx+1/\(∀b,b<h.nx->z6 v≠some b->h'.get b=h.get b)/\z6 v'=some h.nx/\h'.low<=h.low/\(∀m,m<=h.low->(∀b,z6 v=some b->m<=b)->m<=h'.low):=by
 have f:0<te.size:=by unfold jo at xI;simp only[oI]at xI;exact(zW _ _).1 xI.1.1
 have g:zi c t h v x=Go.Sim.appTo te h m ys v:=by unfold zi;rw[j];simp only[hd,k,xI,oN,i.src f hm]
 rw[g];exact s.appTo i.1 hm xI l a d o
theorem Ow.zeros{h:H}{v u z:V}{te ti:TI}{n m t e:Nat}{xs:Ug}(s:Ow h v te n xs)(hm:0<m)(g:c.ty.get t=some ti)(hd:ti.desc = .slice e)(i:c.ty.get e=some te)(xI:jo te=true)(j:te.zero=some z)(d:z.cells=[u])(h1:te.size=1)(k:u.one=true)(l:n+m<=262143)(a:(n+m)*te.bytes<=1099511627776)(o:h.nx<T.top):
  ∃v' h',Xs c t h v (dh (m:Int))=some (v',h')/\Ow h' v' te (n+m) (xs++List.replicate m u)/\h.nx<=h'.nx/\h'.nx<=h.nx+1/\(∀b,b<h.nx->z6 v≠some b->h'.get b=h.get b)/\z6 v'=some h.nx/\h'.low<=h.low/\(∀m,m<=h.low->(∀b,z6 v=some b->m<=b)->m<=h'.low):=by
 have f:Xs c t h v (dh (m:Int))=Go.Sim.appTo te h m (List.replicate m u) v:=by
  unfold Xs;rw[g];have hb:m*te.bytes<=1099511627776:=oS (Nat.mul_le_mul_right _ (Nat.le_add_left _ _)) a;have p:Nat.beq te.size 1=true:=by rw[h1];rfl
  simp only[hd,i,xI,p,Bool.and_self,oN,j,d];show cond (Nat.ble (m*te.bytes) 1099511627776) _ none=_;rw[oE hb,oN]
 rw[f];exact s.appTo (by rw[List.length_replicate,h1,Nat.mul_one]) hm xI (yP.2 λw hw=>by rw[List.eq_of_mem_replicate hw];exact k) (by rw[h1];omega) a o
theorem Ow.zeros0{h:H}{v u z:V}{te ti:TI}{n t e:Nat}{xs:Ug}(s:Ow h v te n xs)(f:c.ty.get t=some ti)(hd:ti.desc = .slice e)(g:c.ty.get e=some te)(xI:jo te=true)(i:te.zero=some z)(a:z.cells=[u])(h1:te.size=1):Xs c t h v (dh 0)=some (v,h):=by
 have d:Nat.beq te.size 1=true:=by simp_all
 unfold Xs;rw[f];simp only[hd,g,xI,d,Bool.and_self,oN,i,a];show cond (Nat.ble (0*te.bytes) 1099511627776) _ none=_;rw[Nat.zero_mul,show Nat.ble 0 1099511627776=true from rfl,oN];obtain⟨k,⟨rfl,rfl⟩|⟨b,cs,rfl,hb,j,hw,hl,l⟩⟩:=s
 .rfl
 unfold Go.Sim.appTo;simp only[j];unfold kX;have d:(true && true && Nat.beq te.size (xD te).n && Nat.beq 0 (0*te.size) && zU ([]:Ug) && Nat.ble (0+n*te.size) cs.len)=true:=by simp[xD,hl,zU]
 grind
theorem xG{h:H}{t e:Nat}{ti te:TI}{z u:V}{ys:Ug}(j:c.ty.get t=some ti)(hd:ti.desc = .slice e)(k:c.ty.get e=some te)(m:te.zero=some z)(a:we z.cells te.size=true)(o:u.cells=ys)(hl:ys.length=te.size)(hs:te.size<=16)(p:zU ys=true)(d:h.nx<T.top):∃v h',zO c t 1 [(0,u)] h=some (v,h')/\Sl h' v te.size 1 ys/\Ext h h' 1/\z6 v=some h.nx:=by
 obtain⟨cs,g,h2⟩:=Cs.ofL_some (l:=ys) (by rw[hl];omega);obtain⟨h3,h4⟩:=Cs.ofL_eq g;refine⟨.slice h.nx 0 1 (.exact 1),h.new (.cells cs ⟨0,e+1,0⟩ true false),?_,⟨by rw[hl,Nat.one_mul],.inr ⟨h.nx,0,_,cs,_,_,_,rfl,by rw[zC];omega,zK _ d,λi _=>by rw[h4,Nat.zero_add]⟩⟩,Ext.new _ d,rfl⟩;have b:=zx.1 a;have q:Xu c (λi=>some (i*te.size,te.size)) (xm z.cells 1) [(0,u)]=some ys:=by
  unfold Xu;simp only[Nat.zero_mul,o];have:we ys te.size=true:=zx.2 hl;rw[this,oN];have f:xm z.cells 1=z.cells:=by simp[xm]
  rw[f];obtain⟨r,hr⟩:=Cs.splice_some (n:=0) (vs:=ys) (l:=z.cells) (by rw[hl,b];omega);rw[hr];simp only[Xu];congr 1;obtain⟨w,x,s⟩:=Zt hr;apply List.ext_getElem?;intro i;rw[s i];by_cases hi:i<ys.length
  .rw[if_pos ⟨oM _,dd⟩];rfl
  rw[if_neg dd,ov,ov]
 unfold zO;rw[j];simp only[hd,k,m];have hb:Nat.ble (1*te.size) 1048576=true:=oE dd;rw[hb,oN,a,oN,q];simp only;unfold qg kJ;rw[p,oN,(zW _ _).2 d,oN,g]
def Ex(h:H)(v:V)(esz n k:Nat)(xs:Ug):Prop :=
 xs.length=n*esz/\n<=k/\∃b cs,v = .slice b 0 n (.exact k)/\b<h.nx/\h.get b=some (.cells cs ⟨0,0,0⟩ true false)/\cs.wf/\cs.len=k*esz/\∀i,i<n*esz->cs.get? i=xs[i]?
theorem Ex.make{h:H}{te ti:TI}{k t e:Nat}{z:V}(g:c.ty.get t=some ti)(hd:ti.desc = .slice e)(j:c.ty.get e=some te)(l:te.zero=some z)(a:z.cells=[z])(hs:te.size=1)(m:k<=262143)(hb:te.bytes*k<=1099511627776)(b:h.nx<T.top):
  ∃v h',Z7 c t (dh 0) (dh k) h=some (v,h')/\Ex h' v 1 0 k []/\Ext h h' 1/\z6 v=some h.nx:=by
 obtain⟨cs,f,h2⟩:=Cs.rep_some (v:=z) m;obtain⟨h3,h4⟩:=Cs.rep_eq f;refine⟨.slice h.nx 0 0 (.exact k),h.new (.cells cs ⟨0,0,0⟩ true false),?_,⟨by simp,dd,h.nx,cs,rfl,by rw[zC];omega,zK _ b,h2,by rw[h3,Nat.mul_one],λi hi=>dd⟩,Ext.new _ b,rfl⟩;unfold Z7;have n:ya 0=some 0:=rfl;have o:ya (k:Int)=some k:=rfl;simp only[n,o,g,hd,j,l];have d:we z.cells te.size=true:=zx.2 (by rw[a,hs];rfl);rw[oE (oM k),oE (show k<=4294967296 by omega),oE hb,d];simp only[Bool.and_self,oN];unfold uZ kJ;rw[a];simp only[f,(zW _ _).2 b,oN]
end
theorem nS(D:Nat->Prop)(h:H):Dx D h h=D:=by funext id;exact propext ⟨λe=>e.elim (λq=>q) (λq=>dd),.inl⟩
theorem SimF.frame{P:Program}{f:Nat}{b:Bool}{h0 h:H}(s:SimF P f [] H0 (.ret (.bool b) h0)):SimF P f [] h (.ret (.bool b) h):=by
 intro ρ D w hr _;have c:=s lD (λ_=>False) w (nT _ _) (by simp);refine CallsIn.mono c ?_;rintro e w' ⟨ρ',rfl,m,_,_⟩;have d:∀r,r<w.heap.size->w'.heap[r]? = w.heap[r]?:=λk g=>m.frame k g λ_ _ i=>i.elim
 refine⟨ρ,rfl,⟨oR _,m.size,m.os,m.tape,m.output,λ_ _=>⟨rfl,rfl,rfl⟩,λid o' _ a=>⟨o',a,rfl⟩,λid o' j l _=>dd,λr hr _=>d r hr,oR _,λ_ _ _=>rfl⟩,?_,trivial⟩;rw[nS];refine⟨hr.cap,hr.lt,λid o hd a=>?_,hr.inj⟩;have h2:=hr.rel id o hd a;rcases Nat.lt_or_ge (ρ.blk id) w.heap.size with q|q
 .grind
 exfalso;rw[Array.getElem?_eq_none q]at h2;cases o<;>simp[ORel]at h2
def Plain(x:V):Prop:=(∀ρ,x.conc ρ=x.conc lD)/\∀D,x.In D
theorem zN(k:IntKind)(n:Int):Plain (.int k n):=⟨λ_=>by simp[V.conc],λ_=>by simp[V.In]⟩
theorem xh(b:Bool):Plain (.bool b):=⟨λ_=>by simp[V.conc],λ_=>by simp[V.In]⟩
theorem yR(l:Ua):Plain (.str l):=⟨λ_=>by simp[V.conc],λ_=>by simp[V.In]⟩
theorem jg{l:Ug}(h:∀x∈l,Plain x):Plain (.agg l) :=
 ⟨λρ=>by
  simp only[V.conc,V.concL_eq];rw[List.map_congr_left λx a=>(h x a).1 ρ],λD=>by
  simp only[V.In];exact V.InL_iff.2 λx a=>(h x a).2 D⟩
theorem ZN{l:Ug}(h:∀x∈l,Plain x):Plain (.tuple l) :=
 ⟨λρ=>by
  simp only[V.conc,V.concL_eq];rw[List.map_congr_left λx a=>(h x a).1 ρ],λD=>by
  simp only[V.In];exact V.InL_iff.2 λx a=>(h x a).2 D⟩
theorem SimF.plain{P:Program}{f:Nat}{args:Ug}{v:V}{h0 h:H}(s:SimF P f args H0 (.ret v h0))(d:∀a∈args,Plain a)(b:Plain v):SimF P f args h (.ret v h):=by
 intro ρ D w hr _;have i:=s lD (λ_=>False) w (nT _ _) (λa q=>(d a q).2 _);have j:args.map (V.conc ρ)=args.map (V.conc lD):=List.map_congr_left λa q=>(d a q).1 ρ
 rw[j];refine CallsIn.mono i ?_;rintro e w' ⟨ρ',rfl,m,_,_⟩;have g:∀r,r<w.heap.size->w'.heap[r]? = w.heap[r]?:=λk l=>m.frame k l λ_ _ n=>n.elim
 refine⟨ρ,by rw[b.1 ρ',b.1 ρ],⟨oR _,m.size,m.os,m.tape,m.output,λ_ _=>⟨rfl,rfl,rfl⟩,λid o' _ c=>⟨o',c,rfl⟩,λid o' p t _=>dd,λr hr _=>g r hr,oR _,λ_ _ _=>rfl⟩,?_,b.2 _⟩;rw[nS];refine⟨hr.cap,hr.lt,λid o hd c=>?_,hr.inj⟩;have h2:=hr.rel id o hd c;rcases Nat.lt_or_ge (ρ.blk id) w.heap.size with q|q
 .rw[g _ q];exact h2
 exfalso;rw[Array.getElem?_eq_none q]at h2;cases o<;>simp[ORel]at h2
theorem RF.plain{P:Program}{c:Ctx}{f:Nat}{args:Ug}{h:H}{Q:Uc}(r:RF P c f args H0 λv _=>Plain v/\Q v h)(b:∀a∈args,Plain a):RF P c f args h Q:=by obtain⟨v,h',⟨d,s⟩,hp,e⟩:=r;exact⟨v,h,⟨d,s.plain b hp⟩,e⟩
section
open Go.RowKit Go.ChangeShapes Go.WideShapes Go.ChangeAt
def S5(l:Ug):H:=H0.new (.cells (.ls l) ⟨0,0,0⟩ false false)
def pK(b off:Nat):Env:={ blk:=λ_=>b,off:=λ_=>off,cap:=λ_=>0 }
theorem xq(l:Ug):(S5 l).nx=1:=zC _ _
theorem X7(l:Ug):(S5 l).get 0=some (.cells (.ls l) ⟨0,0,0⟩ false false):=zK (h:=H0) _ dg
theorem B2{l:Ug}{b off:Nat}{c:Array Value}{e:TypeId}{fz:Nat×Nat}{W:World}(hb:W.heap[b]? = some (.cells c e fz))(f:∀i v,l[i]? = some v->c[off+i]? = some (v.conc lD))(g:∀v∈l,v.conc (pK b off)=v.conc lD)(a:∀v∈l,v.In (λi=>i=0)):
  HR (pK b off) (λi=>i=0) (S5 l) W:=by
 refine⟨by rw[xq];decide,λi hi=>by grind[xq],λi o hi d=>?_,λi j oi oj hi m k _ hw=>?_⟩
 .subst hi;rw[X7]at d;cases d;refine⟨c,e,fz,hb,λi v h=>?_,λi v h=>a v (List.mem_of_getElem? ((Cs.getL_eq l i).symm.trans h)),λh=>by cases h⟩;have h':l[i]? = some v:=(Cs.getL_eq l i).symm.trans h;rw[g v (List.mem_of_getElem? h')];exact f i v h'
 omega
end
section
open Go.RowKit Go.ChangeShapes Go.WideShapes Go.ChangeAt
variable {P:Program}{c:Ctx}{f:Nat}
end
section
open Go.RowKit Go.ChangeShapes Go.WideShapes Go.ChangeAt
def Rd(W:World)(v:Value)(esz n:Nat)(xs:Ug):Prop :=
 xs.length=n*esz/\((v = .slice none 0 0/\n=0)\/∃b off cap cs e fz,v = .slice (some ⟨b,off,none⟩) n cap/\n<=cap/\W.heap[b]? = some (.cells cs e fz)/\∀i x,xs[i]? = some x->cs[off+i]? = some (x.conc lD))
def ab(i n:Nat):Value->V
 | .slice (some _) _ cap=>.slice i 0 n (.exact cap)
 | _=>.nilslice
def pb:Value->Bool
 | .slice (some _) _ _=>true
 | _=>false
def Ea:Value->Nat
 | .slice (some a) _ _=>a.block
 | _=>0
def Em:Value->Nat
 | .slice (some a) _ _=>a.off
 | _=>0
def ZK(xs ys:Ug):H:=(S5 xs).new (.cells (.ls ys) ⟨0,0,0⟩ false false)
def SZ(v w:Value):Env:={ blk:=λi=>cond (Nat.beq i 0) (Ea v) (Ea w),off:=λi=>cond (Nat.beq i 0) (Em v) (Em w),cap:=λ_=>0 }
def D2(v w:Value)(i:Nat):Prop:=(i=0/\pb v=true)\/(i=1/\pb w=true)
theorem qm(xs ys:Ug):(ZK xs ys).nx=2:=by grind[ZK,zC,xq]
theorem YM(xs ys:Ug):(ZK xs ys).get 0=some (.cells (.ls xs) ⟨0,0,0⟩ false false):=by unfold ZK;rw[zn _ (by rw[xq];decide) (by grind[xq]),X7]
theorem YN(xs ys:Ug):(ZK xs ys).get 1=some (.cells (.ls ys) ⟨0,0,0⟩ false false):=by
 unfold ZK;have:=zK (h:=S5 xs) (.cells (.ls ys) ⟨0,0,0⟩ false false) (by rw[xq];decide)
 grind[xq]
theorem zBq(xs ys:Ug):(ZK xs ys).low=T.top:=rfl
theorem Aa{W:World}{v w:Value}{k n1 e2 l:Nat}{xs ys:Ug}(r1:Rd W v k n1 xs)(r2:Rd W w e2 l ys)(f:∀x∈xs,Plain x)(g:∀x∈ys,Plain x):HR (SZ v w) (D2 v w) (ZK xs ys) W:=by
 refine⟨by rw[qm];decide,λi hi=>by rw[qm];rcases hi with⟨rfl,_⟩|⟨rfl,_⟩<;>decide,λi o hi c=>?_,λi j oi oj hi m a _ hw=>?_⟩
 .rcases hi with⟨rfl,hp⟩|⟨rfl,hp⟩
  .rw[YM]at c;cases c;obtain⟨_,⟨rfl,_⟩|⟨b,off,cap,cs,e,fz,rfl,_,hb,d⟩⟩:=r1
   .cases hp
   refine⟨cs,e,fz,hb,λi x h=>?_,λi x h=>(f x (List.mem_of_getElem? ((Cs.getL_eq xs i).symm.trans h))).2 _,λh=>by cases h⟩;have h':xs[i]? = some x:=(Cs.getL_eq xs i).symm.trans h;rw[(f x (List.mem_of_getElem? h')).1];exact d i x h'
  rw[YN]at c;cases c;obtain⟨_,⟨rfl,_⟩|⟨b,off,cap,cs,e,fz,rfl,_,hb,d⟩⟩:=r2
  .cases hp
  refine⟨cs,e,fz,hb,λi x h=>?_,λi x h=>(g x (List.mem_of_getElem? ((Cs.getL_eq ys i).symm.trans h))).2 _,λh=>by cases h⟩;have h':ys[i]? = some x:=(Cs.getL_eq ys i).symm.trans h;rw[(g x (List.mem_of_getElem? h')).1];exact d i x h'
 rcases hi with⟨rfl,hp⟩|⟨rfl,hp⟩
 .rw[YM]at a;cases a;cases hw
 rw[YN]at a;cases a;cases hw
theorem I8{W:World}{v w:Value}{a n1:Nat}{xs:Ug}(r1:Rd W v a n1 xs):(ab 0 n1 v).conc (SZ v w)=v:=by
 obtain⟨_,⟨rfl,rfl⟩|⟨b,off,cap,cs,e,fz,rfl,_,hb,c⟩⟩:=r1
 .simp[ab,V.conc]
 simp_all[ab,V.conc,SZ,Ea,Em,Cap.val]
theorem I9{W:World}{v w:Value}{a n1:Nat}{xs:Ug}(r1:Rd W w a n1 xs):(ab 1 n1 w).conc (SZ v w)=w:=by
 obtain⟨_,⟨rfl,rfl⟩|⟨b,off,cap,cs,e,fz,rfl,_,hb,c⟩⟩:=r1
 .simp[ab,V.conc]
 simp[ab,V.conc,SZ,Ea,Em,Cap.val];exact⟨rfl,rfl⟩
theorem Ao{W:World}{v w:Value}{a n1:Nat}{xs:Ug}(r1:Rd W v a n1 xs):(ab 0 n1 v).In (D2 v w):=by
 obtain⟨_,⟨rfl,rfl⟩|⟨b,off,cap,cs,e,fz,rfl,_,hb,c⟩⟩:=r1
 .simp[ab,V.In]
 grind[ab,V.In,D2,pb]
theorem Ap{W:World}{v w:Value}{a n1:Nat}{xs:Ug}(r1:Rd W w a n1 xs):(ab 1 n1 w).In (D2 v w):=by
 obtain⟨_,⟨rfl,rfl⟩|⟨b,off,cap,cs,e,fz,rfl,_,hb,c⟩⟩:=r1
 .simp[ab,V.In]
 grind[ab,V.In,D2,pb]
theorem B7{W:World}{v:Value}{i a n1:Nat}{xs:Ug}(r1:Rd W v a n1 xs):(ab i n1 v = .nilslice/\n1=0)\/∃cap,n1<=cap/\ab i n1 v = .slice i 0 n1 (.exact cap):=by
 obtain⟨_,⟨rfl,rfl⟩|⟨b,off,cap,cs,e,fz,rfl,hl,hb,c⟩⟩:=r1
 .exact .inl ⟨rfl,rfl⟩
 exact .inr ⟨cap,hl,rfl⟩
theorem Aq{W:World}{v:Value}{a n1:Nat}{xs:Ug}(r1:Rd W v a n1 xs)(ys:Ug):Sl (ZK xs ys) (ab 0 n1 v) a n1 xs:=by
 refine⟨r1.1,?_⟩;rcases B7 (i:=0) r1 with⟨b,h2⟩|⟨cap,_,b⟩
 .grind
 exact .inr ⟨0,0,_,_,_,_,_,b,by grind[qm],YM _ _,λi _=>by rw[Nat.zero_add];exact Cs.getL_eq xs i⟩
theorem As{W:World}{v:Value}{a n1:Nat}{ys:Ug}(r1:Rd W v a n1 ys)(xs:Ug):Sl (ZK xs ys) (ab 1 n1 v) a n1 ys:=by
 refine⟨r1.1,?_⟩;rcases B7 (i:=1) r1 with⟨b,h2⟩|⟨cap,_,b⟩
 .grind
 exact .inr ⟨1,0,_,_,_,_,_,b,by grind[qm],YN _ _,λi _=>by rw[Nat.zero_add];exact Cs.getL_eq ys i⟩
theorem SimF.calls2{P:Program}{f:Nat}{args:Ug}{h:H}{xs ys:Ug}{v w:Value}{W:World}(s:SimF P f args (ZK xs ys) (.ret (.bool true) h))(hr:HR (SZ v w) (D2 v w) (ZK xs ys) W)(b:∀x∈args,x.In (D2 v w)):
  Calls P f (args.map (V.conc (SZ v w))).toArray W λe W'=>e = .returned (.bool true)/\Below W.heap.size W W':=by
 have c:=s _ _ W hr b;refine CallsIn.calls (F:=Fx none) (CallsIn.mono c ?_) (Ro none);rintro e W' ⟨ρ,rfl,m,_,_⟩;refine⟨rfl,m.os,m.tape.1,m.output,m.size,λk d=>m.frame k d λj o g a hw=>?_⟩;rcases g with⟨rfl,hp⟩|⟨rfl,hp⟩
 .rw[YM]at a;cases a;cases hw
 rw[YN]at a;cases a;cases hw
theorem Xv{H:Type}{enc:TypeId×Value->H}{P:Program}(hl:laidOutB P=true){W W':World}(hb:Below W.heap.size W W'):
  ∀{c:List TypeId}{vs:List Value}{f:List (DataW H)}{ps:List MemPlace},(c.all λt=>P.readableRec t && decide (t<P.types.size))=true->DataW.TrodAll enc P W 0 (λ_=>true) true c vs f ps->(∀x∈ps,x.block<W.heap.size) ->
   DataW.TrodAll enc P W' 0 (λb=>decide (b<W.heap.size)) true c vs f ps
 | [],[],[],_,_,h,_=>h
 | _::_,_::_,_::_,_,a,⟨p,q,g,h2,e⟩,hp=>by simp only[List.all_cons,oI]at a;exact⟨p,q,Below.trod hl a.1.1 (of_decide_eq_true a.1.2) g hb (λx d=>hp x (by rw[e];exact List.mem_append_left _ d)),Xv hl hb a.2 h2 (λx d=>hp x (by rw[e];exact List.mem_append_right _ d)),e⟩
theorem LQ{H:Type}{enc:TypeId×Value->H}{P:Program}{f:Func}{s:ChangeSpec}{W W':World}{args:Array Value}{c d:List (DataW H)}{a:List MemPlace}{j:TypeId}(hl:laidOutB P=true)(e:(f.params.toList.all λt=>P.readableRec t && decide (t<P.types.size))=true)(g:DataW.Whole enc P f.params.toList s.vars false W args.toList c d a)(hb:Below W.heap.size W W')(hr:f.resultTypes = #[j])(k:P.underlying j=some .bool)(l:(s.fn H (c++d)).results=[.lit (.bool true)])(m:(s.fn H (c++d)).args=c)(n:DataW.TrodVars enc P W' (λb=>decide (b<W.heap.size)) s.vars (s.fn H (c++d)).vars []):
  s.post enc P f false true false false W args (.bool true) W':=by
 have h:=g.lt;have i:=g;obtain⟨p,q,o,_,rfl,_,_⟩:=g;exact LS (pa:=p) (pv:=[]) i hb hr k l (by rw[m];exact Xv hl hb e o λx r=>h x (List.mem_append_left _ r)) n
section
variable {H:Type}{enc:TypeId×Value->H}{P:Program}{W:World}{base:Nat}
theorem Wq{t e:TypeId}{a:Addr}{len cap:Nat}(c:P.underlying t=some (.slice e))(b:Value.okWide P W .any base t (.slice (some a) len cap)):a.spot=none/\∃cs e fz,W.heap[a.block]? = some (.cells cs e fz):=by simp only[Value.okWide,c,Cell.okWide,Cell.ok]at b;obtain⟨_,_,_,h2,row,cells,h3,_⟩:=b<;>grind[World.shape?]
theorem PH{t e:TypeId}{v:Value}{d:DataW H}{p:List MemPlace}(g:P.underlying t=some (.slice e))(r:P.underlying e=some (.int .i64))(o:Value.okWide P W .any base t v)(h:DataW.Trod enc P W 0 (λ_=>true) true t v d p)(s:P.cellsOf e=1:=by kernel_rfl):
  ∃c:Ub,Rd W v 1 c.length (c.map λn=>V.int .i64 n)/\c.length<9223372036854775808:=by
 obtain⟨a0,l0,c0,rfl⟩:=okWide_slice g o;obtain⟨f,A⟩:=h;have j:DataW.trod enc P W 0 (λ_=>true) true f t [.slice a0 l0 c0]=some (d,p):=by grind[Value.cells]
 rcases open_ints g r s j with⟨k,u⟩|⟨a,len,cap,c,k,_,hl,hm,B,u,l,hw⟩
 .cases k;exact⟨[],⟨rfl,.inl ⟨rfl,rfl⟩⟩,dg⟩
 cases k;have w:c.length=c0:=by grind
 obtain⟨m,cs,e,fz,hb⟩:=Wq g o;obtain⟨b,off,sp⟩:=a;cases m;have q:(c.take l0).length=l0:=by grind
 have y:c0<=2^63-1:=hm;refine⟨c.take l0,⟨by simp,.inr ⟨b,off,c0,cs,e,fz,by grind,dd,hb,λi x hi=>?_⟩⟩,dd⟩;rw[od]at hi;obtain⟨z,C,rfl⟩:=Option.map_eq_some_iff.1 hi
 grind[add_plain,World.cell?,V.conc]
end
end
theorem zV{n:Nat}(h:n<18446744073709551616):yD .u64 (n:Int)=(n:Int):=by
 grind[wH,IntKind.wrap,IntKind.bits,IntKind.signed]
theorem wy{n:Nat}:yD .u8 (n:Int)=((n % 256:Nat):Int):=by
 grind[wH,IntKind.wrap,IntKind.bits,IntKind.signed]
theorem fc{n:Nat}(h:n<18446744073709551616):IntKind.u64.wrap (n:Int)=(n:Int):=by
 grind[wH,zV]
theorem fa{n:Nat}(h:n<9223372036854775808):IntKind.i64.wrap (n:Int)=(n:Int):=by rw[<-wH];grind[zD]
theorem wD{a n:Nat}(b:n<=64)(h:a*2^n<18446744073709551616):wI .shl .u64 (a:Int) (n:Int)=some (.int .u64 ((a*2^n:Nat):Int)):=by
 show cond (lX (n:Int) 0) none (some (V.int .u64 (yD .u64 (Lh (a:Int) (cond (Nat.ble n 64) n 64)))))=_;rw[oE b,oN,xU,bK];have h3:decide ((n:Int)<0)=false:=by simp
 rw[h3,oO];have e:(a:Int)*2^n=((a*2^n:Nat):Int):=by grind
 rw[e,zV h]
theorem zr{a n:Nat}(b:n<=64)(h:a*2^n<9223372036854775808):wI .shl .i64 (a:Int) (n:Int)=some (dh ((a*2^n:Nat):Int)):=by
 show cond (lX (n:Int) 0) none (some (dh (yD .i64 (Lh (a:Int) (cond (Nat.ble n 64) n 64)))))=_;rw[oE b,oN,xU,bK];have h3:decide ((n:Int)<0)=false:=by simp
 rw[h3,oO];have e:(a:Int)*2^n=((a*2^n:Nat):Int):=by grind
 rw[e];exact congrArg _ (congrArg _ (zD (Int.le_trans dg (Int.natCast_nonneg _)) (Int.ofNat_lt.2 h)))
theorem ko{a n:Nat}(h:n<=64):wI .shr .u64 (a:Int) (n:Int)=some (.int .u64 ((a/2^n:Nat):Int)):=by
 show cond (lX (n:Int) 0) none (some (V.int .u64 (RL (a:Int) (cond (Nat.ble n 64) n 64))))=_;rw[oE h,oN,xU];have h3:decide ((n:Int)<0)=false:=by simp
 rw[h3,oO];congr 2;show Int.ofNat (Nat.shiftRight a n)=_;rw[show Nat.shiftRight a n=a >>> n from rfl,Nat.shiftRight_eq_div_pow];rfl
theorem jZ{a n:Nat}(h:n<=64):wI .shr .i64 (a:Int) (n:Int)=some (dh ((a/2^n:Nat):Int)):=by
 show cond (lX (n:Int) 0) none (some (dh (RL (a:Int) (cond (Nat.ble n 64) n 64))))=_;rw[oE h,oN,xU];have h3:decide ((n:Int)<0)=false:=by simp
 rw[h3,oO];congr 2;show Int.ofNat (Nat.shiftRight a n)=_;rw[show Nat.shiftRight a n=a >>> n from rfl,Nat.shiftRight_eq_div_pow];rfl
theorem qY{w n:Nat}(h:n<2^w):(BitVec.ofInt w (n:Int)).toNat=n:=by
 grind
theorem ZM{a b:Nat}(hb:b<18446744073709551616:=by omega)(c:a<18446744073709551616:=by omega):wI .or .u64 (a:Int) (b:Int)=some (.int .u64 ((a ||| b:Nat):Int)):=by show some (V.int .u64 (IntKind.u64.wrap (((BitVec.ofInt 64 (a:Int) ||| BitVec.ofInt 64 (b:Int)).toNat:Nat):Int)))=_;rw[BitVec.toNat_or,qY (show a<2^64 from c),qY (show b<2^64 from hb)];rw[fc (show a ||| b<2^64 from Nat.or_lt_two_pow c hb)]
theorem bZ{a b:Nat}(c:a<18446744073709551616)(hb:b<18446744073709551616):wI .and .u64 (a:Int) (b:Int)=some (.int .u64 ((a &&& b:Nat):Int)):=by
 show some (V.int .u64 (IntKind.u64.wrap (((BitVec.ofInt 64 (a:Int) &&& BitVec.ofInt 64 (b:Int)).toNat:Nat):Int)))=_
 grind[fc,Nat.and_le_left]
theorem qf{a b:Nat}(c:a<9223372036854775808)(hb:b<9223372036854775808):wI .and .i64 (a:Int) (b:Int)=some (dh ((a &&& b:Nat):Int)):=by
 show some (dh (IntKind.i64.wrap (((BitVec.ofInt 64 (a:Int) &&& BitVec.ofInt 64 (b:Int)).toNat:Nat):Int)))=_
 grind[fa,Nat.and_le_left]
theorem jt(a n:Nat):a &&& (2^n-1)=a % 2^n:=Nat.and_two_pow_sub_one_eq_mod a n
theorem qC{a b i:Nat}(h:a<2^i):a ||| b*2^i=a+b*2^i:=by rw[Nat.mul_comm,Nat.or_comm,<-Nat.two_pow_add_eq_or_of_lt h];omega
def le(x:Nat):Nat->Ua
 | 0=>[]
 | k+1=>UInt8.ofNat (x % 256)::le (x/256) k
theorem qr(x k:Nat):(le x k).length=k:=by induction k generalizing x<;>grind[le]
def kq:Ua->Nat
 | []=>0
 | b::l=>b.toNat+256*kq l
theorem bO(l:Ua):kq l<256^l.length:=by
 induction l with
 | nil=>simp[kq]
 | cons b l ih =>
  have hb:=b.toNat_lt
  grind[kq]
theorem EE(l:Ua)(b:UInt8):kq (l++[b])=kq l+b.toNat*256^l.length:=by induction l<;>grind[kq]
theorem bN(x k:Nat):kq (le x k)=x % 256^k:=by
 induction k generalizing x with
 | zero=>simp[le,kq,Nat.mod_one]
 | succ k ih =>
  grind[UInt8.toNat_ofNat',le,kq,Nat.mod_mul]
section
variable (P:Program) (c:Ctx)
def zIZ(fi:FI)(k:H->Prop):AX->St->Prop
 | .normal,s=>s.dfr=[]/\(match leave c fi.results s.tm s.heap fi.results []with|some _=>k s.heap|none=>False)
 | .ret,s=>s.dfr=[]/\(match leave c fi.results s.tm s.heap fi.results []with|some _=>k s.heap|none=>False)
 | _,_=>False
def RV(n f:Nat)(args:Ug)(h:H)(k:H->Prop):Prop :=
 ∃fi,(c.fn.get f).map zG=some fi/\args.length<=fi.n/\fi.n<=511/\fi.n≠n/\wpC P c false fi.body ⟨fi.n,zy args 0 (Tb.leaf zZ),[],h⟩ (zIZ c fi k)
def zBe(n:Nat):List AD->H->(H->Prop)->Prop
 | [],h,k=>k h
 | [.fn f cap args],h,k=>RV P c n f (args++cap) h k
 | _,_,_=>False
def endQ(fi:FI)(Q:Uc)(s:St)(h:H):Prop:=match leave c fi.results s.tm h fi.results []with|some a=>Q (yC a) h|none=>False
def endW1(fi:FI)(Q:Uc):AX->St->Prop
 | .normal,s=>zBe P c fi.n s.dfr s.heap (endQ c fi Q s)
 | .ret,s=>zBe P c fi.n s.dfr s.heap (endQ c fi Q s)
 | _,_=>False
variable {P c}
open Classical in
def EV(a b:Ue):Bool->Code->St->Option Out:=λx y z=>match a x y z with|some o=>some o|none=>b x y z
theorem zAc{a b:Ue}(d:jr P a)(hb:jr P b):jr P (EV a b):=by
 intro rd code s x f e;unfold EV at e;cases h:a rd.isSome code s with
 | some o=>rw[h]at e;simp only[oA]at e;subst e;exact d _ _ _ _ _ h
 | none=>rw[h]at e;exact hb _ _ _ _ _ e
theorem Du{b:Bool}{code:Code}{s s':St}{x:AX}{d:Bool}{e:Code}{a:St}(h:a.n≠s.n):uw b code s x s' d e a=none:=by
 unfold uw
 grind
theorem RF.enterD(ok:CtxOK P c){f:Nat}{fi:FI}{args:Ug}{h:H}{Q:Uc}(s:(c.fn.get f).map zG=some fi)(A:args.length<=fi.n)(B:fi.n<=511)(hw:wpC P c false fi.body ⟨fi.n,zy args 0 (Tb.leaf zZ),[],h⟩ (endW1 P c fi Q)):RF P c f args h Q:=by
 rcases x:c.fn.get f with _|a
 .grind
 rw[x]at s;simp only[ol,oA]at s;subst s;obtain⟨e,s1,C,h2⟩:=RC.of_wp ok a.body hw;have D:∀ih,ih false a.body ⟨a.n,zy args 0 (Tb.leaf zZ),[],h⟩=some (.done e s1)->ky ih a args h=some (.done e s1):=by
  intro ih o;unfold ky;have E:Nat.ble (ws args 0) a.n=true:=by rw[Ql];exact oE A
  have j:Nat.ble a.n 511=true:=oE B
  grind
 have m:=sZ false a.body ⟨a.n,zy args 0 (Tb.leaf zZ),[],h⟩ e s1;have k:jr P (uw false a.body ⟨a.n,zy args 0 (Tb.leaf zZ),[],h⟩ e s1):=sc C;have last:∀(ih:Ue) (h':H),jr P ih->ih false a.body ⟨a.n,zy args 0 (Tb.leaf zZ),[],h⟩=some (.done e s1)->xz (Ju c ih) s1.dfr s1.heap=some h'->endQ c (zG a) Q s1 h'->(e = .normal\/e = .ret)->RF P c f args h Q:=by
  intro ih h' hih o hd r t;unfold endQ at r;change (match leave c a.results s1.tm h' a.results []with|some n=>Q (yC n) h'|none=>False)at r;rcases hl:leave c a.results s1.tm h' a.results [] with _|n
  .grind
  rw[hl]at r;refine⟨yC n,h',⟨⟨a,x⟩,Yj ok hih ?_⟩,r⟩;have p:VW c ih a s1=some (.ret (yC n) h'):=by
   simp_all[VW]
  unfold tZ
  grind
 have fin:zBe P c a.n s1.dfr s1.heap (endQ c (zG a) Q s1)->(e = .normal\/e = .ret)->RF P c f args h Q:=by
  intro hd t;cases hs:s1.dfr with
  | nil=>rw[hs]at hd;exact last _ s1.heap k m (by rw[hs];rfl) hd t
  | cons d l =>
   rw[hs]at hd;cases d with
   | coll id=>cases l<;>exact hd.elim
   | fn g cap as =>
    cases l with
    | cons d2 l=>exact hd.elim
    | nil =>
     obtain⟨O,u,F,G,I,J⟩:=hd;rcases v:c.fn.get g with _|b
     .grind
     rw[v]at u;simp only[ol,oA]at u;subst u;obtain⟨j,i,r1,r2⟩:=RC.of_wp ok b.body J;have q:=sZ false b.body ⟨b.n,zy (as++cap) 0 (Tb.leaf zZ),[],s1.heap⟩ j i;have hih:jr P (EV (uw false a.body ⟨a.n,zy args 0 (Tb.leaf zZ),[],h⟩ e s1) (uw false b.body ⟨b.n,zy (as++cap) 0 (Tb.leaf zZ),[],s1.heap⟩ j i)):=zAc k (sc r1);have y:EV (uw false a.body ⟨a.n,zy args 0 (Tb.leaf zZ),[],h⟩ e s1) (uw false b.body ⟨b.n,zy (as++cap) 0 (Tb.leaf zZ),[],s1.heap⟩ j i) false a.body ⟨a.n,zy args 0 (Tb.leaf zZ),[],h⟩=some (.done e s1):=by
      grind[EV]
     have K:EV (uw false a.body ⟨a.n,zy args 0 (Tb.leaf zZ),[],h⟩ e s1) (uw false b.body ⟨b.n,zy (as++cap) 0 (Tb.leaf zZ),[],s1.heap⟩ j i) false b.body ⟨b.n,zy (as++cap) 0 (Tb.leaf zZ),[],s1.heap⟩=some (.done j i):=by unfold EV;rw[Du (show b.n≠a.n from I)];omega
     generalize EV (uw false a.body ⟨a.n,zy args 0 (Tb.leaf zZ),[],h⟩ e s1) (uw false b.body ⟨b.n,zy (as++cap) 0 (Tb.leaf zZ),[],s1.heap⟩ j i)=ih at hih y K;have z:ky ih b (as++cap) s1.heap=some (.done j i):=by
      unfold ky;have E:Nat.ble (ws (as++cap) 0) b.n=true:=by rw[Ql];exact oE F
      have j:Nat.ble b.n 511=true:=oE G
      grind
     have call:∀(L:i.dfr=[]) (w:match leave c b.results i.tm i.heap b.results []with|some _=>endQ c (zG a) Q s1 i.heap|none=>False),(j = .normal\/j = .ret)->RF P c f args h Q:=by
      intro L w M;rcases hl:leave c b.results i.tm i.heap b.results [] with _|n
      .grind
      rw[hl]at w;have p:Go.Sim.endD c b i=some (.ret (yC n) i.heap):=by
       grind[Go.Sim.endD]
      have N:Ju c ih g (as++cap) s1.heap=some (.ret (yC n) i.heap):=by
       unfold Ju
       grind
      refine last ih i.heap hih y ?_ w t
      simp_all[xz]
     cases j with
     | normal=>exact call r2.1 r2.2 (.inl rfl)
     | ret=>exact call r2.1 r2.2 (.inr rfl)
     | _=>exact r2.elim
 cases e with
 | normal=>exact fin h2 (.inl rfl)
 | ret=>exact fin h2 (.inr rfl)
 | _=>exact h2.elim
end
section
open Go (Code Oper Op)
def nEx(i:Nat):Code->Nat
 | .seq a b=>nEx i a+nEx i b
 | .cond _ a b=>nEx i a+nEx i b
 | .block _ b=>nEx i b
 | .scope b=>nEx i b
 | .exit j=>cond (Nat.beq i j) 1 0
 | _=>0
def Gw:List Oper->Nat
 | []=>1
 | o::l=>match o.op with
  | .pick ..=>2*Gw l
  | _=>Gw l
def vJ:Code->Nat
 | .region _ ops _=>Gw ops.toList
 | .seq a b=>vJ a*vJ b
 | .cond _ a b=>vJ a+vJ b
 | .block i b=>vJ b+nEx i b
 | .scope b=>vJ b
 | .exit _=>0
 | .ret=>0
 | _=>1
def zFy{α:Type}:List α->Nat
 | []=>0
 | _::l=>zFy l+1
def WC:Code->Nat
 | .region _ ops _=>zFy ops.toList
 | .seq a b=>WC a+WC b
 | .cond _ a b=>WC a+WC b
 | .block _ b=>WC b
 | .scope b=>WC b
 | .loop b=>WC b
 | _=>0
def G4(c:Nat)(a b:Code):Bool:=cond (Nat.ble 2 (vJ a)) (Nat.ble c (WC b)) false
def sealK(live:Uf)(k:St->Prop):St->Prop:=λs=>∀a,pZ s.tm a live (k ⟨s.n,a,s.dfr,s.heap⟩)
theorem Lb{live:Uf}{k:St->Prop}{s:St}(h:sealK live k s):k s:=Zr (h s.tm)
variable {P:Program}{c:Ctx}
def wpS(P:Program)(c:Ctx)(_live:Uf)(_jn:Nat)(b:Bool)(code:Code)(s:St)(Q:Ud):Prop:=wpC P c b code s Q
theorem BY{live:Uf}{a:Nat}{b:Bool}(code:Code){s:St}{Q:Ud}(h:wpS P c live a b code s Q):wpC P c b code s Q:=h
end
section
abbrev Kn:=List (Nat×V)
def lk:Kn->Nat->Ui
 | [],_=>none
 | p::l,t=>cond (Nat.beq p.1 t) (some p.2) (lk l t)
def Has(tm:Tm):Kn->Prop
 | []=>True
 | p::l=>zq tm p.1=p.2/\Has tm l
theorem Has.nil{tm:Tm}:Has tm []:=trivial
theorem Has.get{tm:Tm}:∀{l:Kn}{t:Nat}{v:V},Has tm l->lk l t=some v->zq tm t=v
 | p::l,t,v,h,e=>by
  unfold lk at e;cases hb:Nat.beq p.1 t with
  | true=>rw[hb,oN]at e;rw[<-oH hb,h.1];grind
  | false=>rw[hb,oO]at e;exact Has.get h.2 e
theorem Has.sub{tm:Tm}{l:Kn}(h:Has tm l):∀{l':Kn},(l'.map λp=>lk l p.1)=(l'.map λp=>some p.2)->Has tm l'
 | [],_=>trivial
 | p::l',e=>by rw[List.map_cons,List.map_cons]at e;exact⟨h.get (List.cons.inj e).1,h.sub (List.cons.inj e).2⟩
abbrev kk(t:Nat):Nat×Ui:=(t,none)
def upd(l:Kn):List (Nat×Ui)->Kn
 | []=>[]
 | (t,some v)::r=>(t,v)::upd l r
 | (t,none)::r=>match lk l t with
  | some v=>(t,v)::upd l r
  | none=>upd l r
theorem vu{tm a:Tm}{l:Kn}(hs:Has tm l):∀{live:Uf}{q:Prop},(Has a (upd l (live.map kk))->q)->pZ tm a live q
 | [],_,h=>h trivial
 | t::live,_,h=>λe=>vu hs λb=>h (by
   show Has a (match lk l t with|some v=>(t,v)::upd l (live.map kk)|none=>upd l (live.map kk));cases hl:lk l t with
   | some v=>exact⟨e.trans (hs.get hl),b⟩
   | none=>omega)
theorem Has.slt{tm:Tm}{l:Kn}{live:Uf}{Q:Ud}{x:AX}{n:Nat}{d:List AD}{hp:H}(hs:Has tm l)(h:∀a,Has a (upd l (live.map kk))->Q x ⟨n,a,d,hp⟩):yL live Q x ⟨n,tm,d,hp⟩:=λa=>vu hs (h a)
theorem Has.sealK{tm:Tm}{l:Kn}{live:Uf}{K:St->Prop}{n:Nat}{d:List AD}{hp:H}(hs:Has tm l)(h:∀a,Has a (upd l (live.map kk))->K ⟨n,a,d,hp⟩):sealK live K ⟨n,tm,d,hp⟩:=λa=>vu hs (h a)
variable {P:Program}{c:Ctx}
theorem wpC.round{b:Bool}{x:Code}{n:Nat}{tm:Tm}{d:List AD}{h:H}{Q:Ud}(I:Nat->Tm->H->Prop)(k:Nat)(h0:I k tm h)(g:∀k tm h,I k tm h->wpC P c b x ⟨n,tm,d,h⟩ (thenC (λs1=>s1.n=n/\s1.dfr=d/\∃j,j<k/\I j s1.tm s1.heap) Q)):wpC P c b (.loop x) ⟨n,tm,d,h⟩ Q:=by
 intro a ok e;obtain⟨y,rfl,i⟩:∃y,a = .loop y/\jm y=x:=by cases a<;>first|exact⟨_,rfl,(Code.loop.inj e)⟩|(rename_i l;cases l<;>cases e)|cases e
 refine RC.loop (λk s1=>s1.n=n/\s1.dfr=d/\I k s1.tm s1.heap) (λk s1 hi=>?_) k _ ⟨rfl,rfl,h0⟩;obtain⟨m,h2,h3⟩:=hi;have h4:=g k s1.tm s1.heap h3 y ok i;subst m h2;refine h4.mono λe s f=>?_
 cases e with
 | normal=>obtain⟨o,p,j,q,r⟩:=f;exact⟨j,q,o,p,r⟩
 | _=>exact f
theorem xM(i:Nat):exitB i (.exit i) = .normal:=by simp[exitB]
theorem thenC.left{i:Nat}{K I:St->Prop}{R:Ud}{s:St}(h:K s):thenC I (λe s1=>thenC K R (exitB i e) s1) (.exit i) s:=by show thenC K R (exitB i (.exit i)) s;rw[xM];exact h
theorem thenC.out{i:Nat}{K:St->Prop}{R:Ud}{s:St}(h:K s):thenC K R (exitB i (.exit i)) s:=by rw[xM];exact h
section
variable {n m a1 a2 a3 a4:Nat}{tm:Tm}{h:H}{Q:Uc}{v1 v2 v3 v4:V}{body:Code}
theorem endW.r1(h1:zq tm a1=v1)(a:Q v1 h):endW c ⟨n,[.tmp a1],body⟩ Q .ret ⟨m,tm,[],h⟩:=by subst h1;exact a
theorem endW.r2(h1:zq tm a1=v1)(h2:zq tm a2=v2)(a:Q (.tuple [v1,v2]) h):endW c ⟨n,[.tmp a1,.tmp a2],body⟩ Q .ret ⟨m,tm,[],h⟩:=by subst h1 h2;exact a
theorem endW.r3(h1:zq tm a1=v1)(h2:zq tm a2=v2)(h3:zq tm a3=v3)(a:Q (.tuple [v1,v2,v3]) h):endW c ⟨n,[.tmp a1,.tmp a2,.tmp a3],body⟩ Q .ret ⟨m,tm,[],h⟩:=by subst h1 h2 h3;exact a
end
theorem leave.tmp{rs l:List ResultVar}{tm:Tm}{h:H}{t:Nat}{v:V}{acc:Ug}{r:Option Ug}(a:zq tm t=v)(hr:leave c rs tm h l (v::acc)=r):leave c rs tm h (.tmp t::l) acc=r:=by subst a;exact hr
theorem leave.cell{rs l:List ResultVar}{tm:Tm}{h:H}{a t:Nat}{p v:V}{acc:Ug}{r:Option Ug}(hp:zq tm a=p)(b:ye c t h p=some v)(hr:leave c rs tm h l (v::acc)=r):leave c rs tm h (.cell a t::l) acc=r:=by
 simp_all[leave]
theorem endW.ok{n m:Nat}{rs:List ResultVar}{body:Code}{tm:Tm}{h:H}{vs:Ug}{Q:Uc}(e:leave c rs tm h rs []=some vs)(a:Q (yC vs) h):endW c ⟨n,rs,body⟩ Q .ret ⟨m,tm,[],h⟩:=by
 show(match leave c rs tm h rs []with|some vs=>Q (yC vs) h|none=>False)
 grind
def leaveL(c:Ctx)(h:H):List (ResultVar×V)->Ug->Option Ug
 | [],a=>some a.reverse
 | (.tmp _,v)::l,a=>leaveL c h l (v::a)
 | (.cell _ t,p)::l,a=>match ye c t h p with
  | some v=>leaveL c h l (v::a)
  | none=>none
def endL(c:Ctx)(h:H)(l:List (ResultVar×V))(Q:Uc):Prop:=match leaveL c h l []with
 | some a=>Q (yC a) h
 | none=>False
theorem leaveL.cell{h:H}{a t:Nat}{p v:V}{l:List (ResultVar×V)}{acc r:Ug}(b:ye c t h p=some v)(hr:leaveL c h l (v::acc)=r):leaveL c h ((.cell a t,p)::l) acc=r:=by
 simp_all[leaveL]
theorem endL.ok{h:H}{l:List (ResultVar×V)}{vs:Ug}{Q:Uc}(e:leaveL c h l []=some vs)(a:Q (yC vs) h):endL c h l Q:=by
 unfold endL
 grind
theorem ExtX.andThen{S S2:Nat->Prop}{h0 h h':H}{m n:Nat}(a:ExtX S h0 h m)(b:ExtX S2 h h' n)(d:∀b,S2 b->S b\/h0.nx<=b):ExtX S h0 h' (m+n) :=
 ⟨oS a.le b.le,by have:=a.top;have:=b.top;omega,λi hi e=>(b.get i (oL hi a.le) λq=>(d i q).elim e λg=>dd).trans (a.get i hi e),oS b.low a.low,λk f h2 h3=>b.lo k (a.lo k f h2 h3) (oS h2 a.le) λi hi=>(d i hi).elim (h3 i) λg=>oS h2 g⟩
theorem ExtX.append{h h':H}{v:V}(h1:h.nx<=h'.nx)(h2:h'.nx<=h.nx+1)(h3:∀b,b<h.nx->z6 v≠some b->h'.get b=h.get b)(h4:h'.low<=h.low)(a:∀m,m<=h.low->(∀b,z6 v=some b->m<=b)->m<=h'.low):ExtX (λb=>z6 v=some b) h h' 1 :=
 ⟨h1,h2,h3,h4,λm d _ e=>a m d e⟩
theorem zm{h h':H}{o:O}(e:h'=h.new o)(a:h.nx<T.top:=by omega):h'.nx=h.nx+1/\Ext h h' 1/\h'.get h.nx=some o:=by subst e;exact⟨zC _ _,Ext.new _ a,zK _ a⟩
attribute [irreducible] endL
end
structure One (A:V->Ug):Prop where
 conc:∀ρ ρ' v v',V.conc ρ v=V.conc ρ' v'->(A v).map (V.conc ρ)=(A v').map (V.conc ρ')
 get:∀D v,(∀a∈A v,a.In D)->v.In D
 put:∀D v,v.In D->∀a∈A v,a.In D
theorem One.list{pre post:Ug}(h1:∀a∈pre,Plain a)(h2:∀a∈post,Plain a):One λv=>pre++v::post:=by
 refine⟨λρ ρ' v v' e=>?_,λD v h=>h v (by simp),λD v h a b=>?_⟩
 .rw[List.map_append,List.map_append,List.map_cons,List.map_cons,e];rw[List.map_congr_left λa b=>((h1 a b).1 ρ).trans ((h1 a b).1 ρ').symm,List.map_congr_left λa b=>((h2 a b).1 ρ).trans ((h2 a b).1 ρ').symm]
 rcases List.mem_append.1 b with b|b
 .exact(h1 a b).2 D
 rcases oq.1 b with rfl|b
 .exact h
 exact(h2 a b).2 D
theorem One.struct{pre post:Ug}(h1:∀a∈pre,Plain a)(h2:∀a∈post,Plain a):One λv=>.agg (pre++[v])::post:=by
 refine⟨λρ ρ' v v' e=>?_,λD v h=>?_,λD v h a b=>?_⟩
 .have c:pre.map (V.conc ρ)=pre.map (V.conc ρ'):=List.map_congr_left λa b=>((h1 a b).1 ρ).trans ((h1 a b).1 ρ').symm
  rw[List.map_cons,List.map_cons,List.map_congr_left λa b=>((h2 a b).1 ρ).trans ((h2 a b).1 ρ').symm];simp only[V.conc,V.concL_eq,List.map_append,List.map_cons,List.map_nil,e,c]
 .have h3:=h _ (List.mem_cons_self ..);simp only[V.In]at h3;exact V.InL_iff.1 h3 v (by simp)
 rcases oq.1 b with rfl|b
 .simp only[V.In];refine V.InL_iff.2 λa b=>?_
  rcases List.mem_append.1 b with b|b
  .exact(h1 a b).2 D
  rw[List.mem_singleton.1 b];exact h
 exact(h2 a b).2 D
theorem SimF.ro{P:Program}{f:Nat}{A:V->Ug}(u:One A){b o n:Nat}{cp:Cap}{esz:Nat}{xs:Ug}{r:V}{h:H}{cs:Cs}{k:Rk}{w op:Bool}(a:h.get b=some (.cells cs k w op))(G:∀i,i<n*esz->cs.get? (o+i)=xs[i]?)(hl:xs.length=n*esz)(t:∀x∈xs,Plain x)(hr:Plain r)(s:∀cap,∃h1,SimF P f (A (.slice 0 0 n (.exact cap))) (S5 xs) (.ret r h1)):SimF P f (A (.slice b o n cp)) h (.ret r h):=by
 intro ρ D l p y;have z:D b:=by have:=u.get D _ y;grind[V.In]
 obtain⟨c,e,fz,hb,d,_,_⟩:=p.rel b _ z a;obtain⟨h1,s1⟩:=s (cp.val ρ b);have B:HR (pK (ρ.blk b) (ρ.off b+o)) (λi=>i=0) (S5 xs) l:=by
  refine B2 hb (λi v g=>?_) (λv g=>((t v g).1 _).trans ((t v g).1 _).symm) λv g=>(t v g).2 _
  have hi:i<n*esz:=by grind
  have:=d (o+i) v (by grind);rw[(t v (List.mem_of_getElem? g)).1 ρ]at this
  grind
 have h2:=s1 _ _ l B (u.put _ _ (by simp[V.In]));rw[u.conc (pK (ρ.blk b) (ρ.off b+o)) ρ (.slice 0 0 n (.exact (cp.val ρ b))) (.slice b o n cp) (by simp[V.conc,pK,Cap.val])]at h2;refine CallsIn.mono h2 ?_;rintro I w' ⟨ρ',rfl,m,_,_⟩;have C:∀r,r<l.heap.size->w'.heap[r]? = l.heap[r]?:=λk E=>m.frame k E λj J F a hw=>by subst F;rw[X7]at a;cases a;cases hw
 refine⟨ρ,by rw[hr.1 ρ',hr.1 ρ],⟨oR _,m.size,m.os,m.tape,m.output,λ_ _=>⟨rfl,rfl,rfl⟩,λid o' _ a=>⟨o',a,rfl⟩,λid o' K L _=>dd,λr hr _=>C r hr,oR _,λ_ _ _=>rfl⟩,?_,hr.2 _⟩;rw[nS];refine⟨p.cap,p.lt,λid o hd a=>?_,p.inj⟩;have h3:=p.rel id o hd a;rcases Nat.lt_or_ge (ρ.blk id) l.heap.size with q|q
 .grind
 exfalso;rw[Array.getElem?_eq_none q]at h3;cases o<;>simp[ORel]at h3
theorem Fa{xs:Ug}{esz n cap:Nat}(hl:xs.length=n*esz):Sl (S5 xs) (.slice 0 0 n (.exact cap)) esz n xs :=
 ⟨hl,.inr ⟨0,0,_,_,_,_,_,rfl,by grind[xq],X7 _,λi _=>by rw[Nat.zero_add];exact Cs.getL_eq xs i⟩⟩
theorem Qb(xs:Ug):(S5 xs).low=T.top:=rfl
theorem RF.ro{P:Program}{c:Ctx}{f:Nat}{A:V->Ug}(p:One A){v r:V}{esz n:Nat}{xs:Ug}{h:H}{Q:Uc}(sl:Sl h v esz n xs)(z:∀x∈xs,Plain x)(hr:Plain r)(t:∀v0 h0,Sl h0 v0 esz n xs->h0.nx<=1->h0.low=T.top->RF P c f (A v0) h0 λi _=>i=r)(u:Q r h):RF P c f (A v) h Q:=by
 obtain⟨hl,⟨rfl,rfl⟩|⟨b,o,G,cs,k,w,op,rfl,hb,d,B⟩⟩:=sl
 .obtain⟨i,h',⟨g,s⟩,rfl⟩:=t .nilslice H0 ⟨hl,.inl ⟨rfl,rfl⟩⟩ (oM _) rfl;refine⟨i,h,⟨g,?_⟩,u⟩;intro ρ D j l C;have a:=s lD (λ_=>False) j (nT _ _) (p.put _ _ (by simp[V.In]));rw[p.conc lD ρ .nilslice .nilslice (by simp[V.conc])]at a;refine CallsIn.mono a ?_;rintro e w' ⟨ρ',rfl,m,_,_⟩;have y:∀r,r<j.heap.size->w'.heap[r]? = j.heap[r]?:=λk E=>m.frame k E λ_ _ F=>F.elim
  refine⟨ρ,by rw[hr.1 ρ',hr.1 ρ],⟨oR _,m.size,m.os,m.tape,m.output,λ_ _=>⟨rfl,rfl,rfl⟩,λid o' _ d=>⟨o',d,rfl⟩,λid o' I J _=>dd,λr hr _=>y r hr,oR _,λ_ _ _=>rfl⟩,?_,hr.2 _⟩;rw[nS];refine⟨l.cap,l.lt,λid o hd d=>?_,l.inj⟩;have h2:=l.rel id o hd d;rcases Nat.lt_or_ge (ρ.blk id) j.heap.size with q|q
  .rw[y _ q];exact h2
  exfalso;rw[Array.getElem?_eq_none q]at h2;cases o<;>simp[ORel]at h2
 have rs:∀cap,∃a,(∃fi,c.fn.get f=some fi)/\SimF P f (A (.slice 0 0 n (.exact cap))) (S5 xs) (.ret r a):=λcap=>by obtain⟨i,h',⟨g,s⟩,rfl⟩:=t (.slice 0 0 n (.exact cap)) (S5 xs) (Fa hl) (by rw[xq];decide) (Qb _);exact⟨h',g,s⟩
 obtain⟨_,g,_⟩:=rs 0;exact⟨r,h,⟨g,SimF.ro p d B hl z hr λcap=>by obtain⟨a,_,s⟩:=rs cap;exact⟨a,s⟩⟩,u⟩
theorem WO{t:TypeId}{v:V}(h:Plain v):Plain (.iface t v):=⟨λρ=>by simp only[V.conc,h.1 ρ],λD=>by simp only[V.In];exact h.2 D⟩
theorem cB:Plain .nilptr:=⟨λ_=>by simp[V.conc],λ_=>by simp[V.In]⟩
theorem vX:Plain .nilslice:=⟨λ_=>by simp[V.conc],λ_=>by simp[V.In]⟩
theorem vW:Plain .nilIface:=⟨λ_=>by simp[V.conc],λ_=>by simp[V.In]⟩
def kA:V->Bool
 | .int _ _=>true
 | .bool _=>true
 | .str _=>true
 | .nilptr=>true
 | .nilslice=>true
 | .nilIface=>true
 | .iface _ v=>kA v
 | .agg l=>plainL l
 | .tuple l=>plainL l
 | _=>false
where
 plainL:Ug->Bool
  | []=>true
  | v::l=>kA v && plainL l
mutual
theorem zk:∀{v:V},kA v=true->Plain v
 | .int _ _,_=>zN _ _
 | .bool _,_=>xh _
 | .str _,_=>yR _
 | .nilptr,_=>cB
 | .nilslice,_=>vX
 | .nilIface,_=>vW
 | .iface _ v,h=>WO (zk (v:=v) (by simpa [kA]using h))
 | .agg l,h=>jg (zg (l:=l) (by simpa [kA]using h))
 | .tuple l,h=>ZN (zg (l:=l) (by simpa [kA]using h))
 | .ptr ..,h=>by simp[kA]at h
 | .slice ..,h=>by simp[kA]at h
 | .tail ..,h=>by simp[kA]at h
 | .map ..,h=>by simp[kA]at h
 | .nilmap,h=>by simp[kA]at h
 | .func ..,h=>by simp[kA]at h
 | .yield ..,h=>by simp[kA]at h
 | .nilFunc,h=>by simp[kA]at h
theorem zg:∀{l:Ug},kA.plainL l=true->∀x∈l,Plain x
 | [],_=>λ_ h=>by cases h
 | v::l,h=>λx a=>by
  simp only[kA.plainL,oI]at h;rcases oq.1 a with e|a
  .rw[e];exact zk h.1
  exact zg h.2 x a
end
theorem plain_ints(l:Ub):∀x∈l.map (λn=>dh n),Plain x:=λx a=>by obtain⟨_,_,rfl⟩:=List.mem_map.1 a;grind[zN]
section
open Go (TypeDesc)
def jv:List Ent->Int->Ui
 | [],_=>none
 | e::es,k=>match e.key with
  | .int .i64 n=>if k=n then some e.val else jv es k
  | _=>jv es k
def MapI(h:H)(r:Nat)(f:Int->Ui):Prop:=∃es clock,h.get r=some (.map es clock)/\(∀e∈es,∃n,e.key = dh n)/\∀k,jv es k=f k
theorem X3(a b:Int):sS a b=decide (a=b):=by
 cases a with
 | ofNat a=>cases b with
  | ofNat b =>
   show Nat.beq a b=_;cases h:Nat.beq a b with
   | true=>simp_all
   | false =>
    grind[Nat.ne_of_beq_eq_false]
  | negSucc b=>exact(decide_eq_false λe=>by cases e).symm
 | negSucc a=>cases b with
  | ofNat b=>exact(decide_eq_false λe=>by cases e).symm
  | negSucc b=>show Nat.beq a b=_;cases h:Nat.beq a b<;>simp_all[Nat.ne_of_beq_eq_false]
section
variable {c:Ctx}{t kt et:Nat}{ti tk te:TI}{z:V}
theorem Eb(d:c.ty.get kt=some tk)(hd:tk.desc = .int .i64)(a b:Int):pD c 30 kt (dh a) (dh b)=some (decide (a=b)):=by
 have e:pD c 30 kt (dh a) (dh b)=some (sS a b):=by show(match c.ty.get kt with|none=>none|some ti=>_)=_;rw[d];simp only[hd];rfl
 rw[e,X3]
theorem Kx(g:c.ty.get kt=some tk)(hd:tk.desc = .int .i64)(k:Int):∀(es:List Ent) (i:Nat),(∀e∈es,∃n,e.key = dh n) ->
  (jv es k=none->xp c kt (dh k) es i=some none) /\
  (∀v,jv es k=some v->∃j e,xp c kt (dh k) es i=some (some (i+j,e))/\e.val=v/\e.key = dh k /\
   ∀v',(∀e∈J9 es j (dh k) v',∃n,e.key = dh n)/\∀k',jv (J9 es j (dh k) v') k'=if k'=k then some v' else jv es k')
 | [],i,_=>⟨λ_=>rfl,λv h=>by cases h⟩
 | e::es,i,hi=>by
  obtain⟨n,b⟩:=hi e (List.mem_cons_self ..);have hr:=λe l=>hi e (oJ _ l)
  obtain⟨uw,EV⟩:=Kx g hd k es (i+1) hr;have d:∀k',jv (e::es) k'=if k'=n then some e.val else jv es k':=λk'=>by show(match e.key with | .int .i64 n=>_|_=>_)=_;rw[b]
  have q:xp c kt (dh k) (e::es) i=(match some (decide (k=n))with|some true=>some (some (i,e))|some false=>xp c kt (dh k) es (i+1)|none=>none):=by
   show(match pD c 30 kt (dh k) e.key with|some true=>_|some false=>_|none=>_)=_
   grind[Eb]
  by_cases f:k=n
  .subst f;refine⟨λh=>?_,λv h=>?_⟩
   .grind
   rw[d,if_pos rfl]at h;cases h;refine⟨0,e,by grind,rfl,b,λv'=>⟨λm a=>?_,λk'=>?_⟩⟩
   .rcases oq.1 a with rfl|a<;>grind
   show(if k'=k then some v' else jv es k')=_
   grind
  have o:xp c kt (dh k) (e::es) i=xp c kt (dh k) es (i+1):=by grind
  refine⟨λh=>?_,λv h=>?_⟩
  .grind
  rw[d,if_neg f]at h;obtain⟨j,p,r,h2,h3,h4⟩:=EV v h;refine⟨j+1,p,by grind,h2,h3,λv'=>⟨λm a=>?_,λk'=>?_⟩⟩
  .rcases oq.1 a with rfl|a<;>grind
  show(match e.key with | .int .i64 n=>if k'=n then some e.val else jv (J9 es j (dh k) v') k'|_=>_)=_
  grind
theorem NO(es:List Ent)(e:Ent)(k:Int)(h:jv es k=none):jv (es++[e]) k=jv [e] k:=by
 induction es with
 | nil=>rfl
 | cons x es ih =>
  simp only[List.cons_append];unfold jv at h ⊢;split at h
  .rename_i n b;split at h
   .cases h
   rename_i a;rw[if_neg a];exact ih h
  exact ih h
theorem SY(es:List Ent)(e:Ent)(k:Int)(v:V)(h:jv es k=some v):jv (es++[e]) k=some v:=by
 induction es with
 | nil=>cases h
 | cons x es ih =>
  simp only[List.cons_append];unfold jv at h ⊢
  grind
theorem aS(a:c.ty.get kt=some tk)(hd:tk.desc = .int .i64)(k:Int):Xn c kt (dh k)=true:=by
 grind[Xn]
theorem MapI.look{h:H}{r:Nat}{f:Int->Ui}(m:MapI h r f)(g:c.ty.get t=some ti)(hm:ti.desc = .map kt et)(b:c.ty.get kt=some tk)(hd:tk.desc = .int .i64)(i:c.ty.get et=some te)(l:te.zero=some z)(k:Int)(ok:Bool):
  Y1 c t h (.map r) (dh k) ok=some (match f k with|some v=>qt ok v true|none=>qt ok z false):=by
 obtain⟨es,clock,n,hi,d⟩:=m;obtain⟨o,p⟩:=Kx b hd k es 0 hi;unfold Y1 Qt;simp only[g,hm,n];unfold Jk;rw[aS b hd,oN];cases a:f k with
 | none=>rw[o ((d k).trans a)];simp only[i,l]
 | some v=>obtain⟨j,e,q,h2,_⟩:=p v ((d k).trans a);rw[q];simp only[h2]
theorem MapI.upd{h:H}{r:Nat}{f:Int->Ui}(m:MapI h r f)(u:c.ty.get t=some ti)(hm:ti.desc = .map kt et)(o:c.ty.get kt=some tk)(hd:tk.desc = .int .i64)(hr:r<T.top)(k:Int)(v:V):
  ∃es clock,Y8 c t h (.map r) (dh k) v=some (h.upd r (some (.map es clock)))/\MapI (h.upd r (some (.map es clock))) r (λj=>if j=k then some v else f j):=by
 obtain⟨es,clock,w,hi,d⟩:=m;obtain⟨x,y⟩:=Kx o hd k es 0 hi;have p:Y8 c t h (.map r) (dh k) v=(match xp c kt (dh k) es 0 with
     | some (some (i,e))=>cond (Y5 e.key (dh k)) (some (h.upd r (some (.map (J9 es i (dh k) v) clock)))) none
     | some none=>some (h.upd r (some (.map (es++[⟨dh k,v,clock⟩]) (clock+1))))
     | none=>none):=by
  unfold Y8;simp only[u,hm,w];rw[aS o hd,oN];rfl
 cases l:f k with
 | none =>
  have q:=(d k).trans l;refine⟨es++[⟨dh k,v,clock⟩],clock+1,by rw[p,x q],_,_,zF _ hr,λe n=>?_,λb=>?_⟩
  .rcases List.mem_append.1 n with n|n
   .exact hi e n
   rw[List.mem_singleton.1 n];exact⟨_,rfl⟩
  cases a:jv es b with
  | none =>
   rw[NO _ _ _ a];show(if b=k then some v else none)=if b=k then some v else f b
   rw[<-d b,a]
  | some v' =>
   rw[SY _ _ _ _ a];have:b≠k:=λg=>by rw[g,q]at a;cases a
   show some v'=if b=k then some v else f b
   rw[if_neg this,<-d b,a]
 | some v0 =>
  obtain⟨j,e,s,h2,h3,h4⟩:=y v0 ((d k).trans l);rw[Nat.zero_add]at s;refine⟨J9 es j (dh k) v,clock,?_,_,_,zF _ hr,(h4 v).1,λb=>by rw[(h4 v).2,d]⟩;have:Y5 e.key (dh k)=true:=by rw[h3];show(jy .i64 .i64 && sS k k)=true;rw[X3];simp;rfl
  rw[p,s];simp only[this,oN]
theorem ZB{o:Oper}{m:Nat}{e:Uh}{h:H}(a:o.op = .makeMap m none)(b:h.nx<T.top:=by omega):xS c o e h=some (.val (.map h.nx) (h.new (.map [] 0))):=by unfold xS;simp only[a];unfold nY;rw[show Nat.blt h.nx T.top=true from(zW _ _).2 b];rfl
theorem MapI.new{h:H}(a:h.nx<T.top):MapI (h.new (.map [] 0)) h.nx (λ_=>none):=⟨[],0,zK _ a,λ_ h=>(by cases h),λ_=>rfl⟩
theorem MapI.mono{h h':H}{r:Nat}{f:Int->Ui}(m:MapI h r f)(e:h'.get r=h.get r):MapI h' r f:=by obtain⟨es,clock,a,h2⟩:=m;exact⟨es,clock,e.trans a,h2⟩
end
end
theorem Wp{a:Int}{n:Nat}(h:n<=64):wI .shr .i64 a (n:Int)=some (dh (a/((2^n:Nat):Int))):=by
 show cond (lX (n:Int) 0) none (some (dh (RL a (cond (Nat.ble n 64) n 64))))=_;rw[oE h,oN,xU];have h3:decide ((n:Int)<0)=false:=by simp
 rw[h3,oO,PL]
 grind
theorem Ct{a n:Nat}(h:n<=8):wI .shr .u8 (a:Int) (n:Int)=some (.int .u8 ((a/2^n:Nat):Int)):=by
 show cond (lX (n:Int) 0) none (some (V.int .u8 (RL (a:Int) (cond (Nat.ble n 8) n 8))))=_;rw[oE h,oN,xU];have h3:decide ((n:Int)<0)=false:=by simp
 rw[h3,oO];congr 2;show Int.ofNat (Nat.shiftRight a n)=_;rw[show Nat.shiftRight a n=a >>> n from rfl,Nat.shiftRight_eq_div_pow];rfl
theorem Tg{n:Nat}(h:n<256):IntKind.u8.wrap (n:Int)=(n:Int):=by
 grind[wH,wy]
theorem Ek{a b:Nat}(c:a<256)(hb:b<256):wI .and .u8 (a:Int) (b:Int)=some (.int .u8 ((a &&& b:Nat):Int)):=by
 show some (V.int .u8 (IntKind.u8.wrap (((BitVec.ofInt 8 (a:Int) &&& BitVec.ofInt 8 (b:Int)).toNat:Nat):Int)))=_
 grind[Tg,Nat.and_le_left]
theorem lj{a b:Nat}(c:a<9223372036854775808:=by omega)(hb:b<9223372036854775808:=by omega):wI .or .i64 (a:Int) (b:Int)=some (dh ((a ||| b:Nat):Int)):=by show some (dh (IntKind.i64.wrap (((BitVec.ofInt 64 (a:Int) ||| BitVec.ofInt 64 (b:Int)).toNat:Nat):Int)))=_;rw[BitVec.toNat_or,qY (show a<2^64 by omega),qY (show b<2^64 by omega)];rw[fa (show a ||| b<2^63 from Nat.or_lt_two_pow c hb)]
theorem pJ{a:Int}{n:Nat}(h:0<n):0<a/(n:Int)↔(n:Int)<=a:=by
 constructor
 .intro d;have h2:(1:Int)<=a/(n:Int):=d
  simp_all[Int.le_ediv_iff_mul_le]
 intro d;have:=(Int.le_ediv_iff_mul_le (c:=(n:Int)) (a:=1) (b:=a) dd).2 dd;omega
def hi(n:Int):Int:=if 0<n then (n.toNat.log2:Int) else -1
def Bp(n:Int)(i:Nat):Int:=if 0<n/\0<i then ((min n.toNat.log2 (i-1):Nat):Int) else -1
theorem vZ(i:Nat):0<2^i:=Nat.pow_pos dg
theorem Vh(n:Int)(i:Nat):Bp n (i+1)=if ((2^i:Nat):Int)<=n then (i:Int) else Bp n i:=by
 have hp:=vZ i;unfold Bp;by_cases h:0<n
 .have a:n.toNat≠0:=dd
  by_cases c:((2^i:Nat):Int)<=n
  .have:i<=n.toNat.log2:=(Nat.le_log2 a).2 dd;omega
  have:¬i<=n.toNat.log2:=λg=>c (by grind[Nat.le_log2])
  omega
 omega
theorem zA5{n:Int}(h:n<9223372036854775808):Bp n 63=hi n:=by
 unfold Bp hi;by_cases c:0<n
 .have a:n.toNat≠0:=dd
  have:n.toNat.log2<63:=(Nat.log2_lt a).2 dd;omega
 omega
theorem zA6{n:Nat}(h:n≠0):hi n=n.log2:=by simp_all[hi]
def zQ(n:Nat):Nat:=if n=0 then 0 else n.log2+1
theorem wq(n:Nat):hi n+1=zQ n:=by
 unfold zQ;by_cases h:n=0
 .subst h;rfl
 simp_all[zA6]
theorem kh(n:Nat):n<2^zQ n:=by
 grind[zQ,Nat.lt_log2_self]
theorem WE{n:Nat}(h:n≠0):2^(zQ n-1)<=n:=by
 simp_all[zQ,Nat.log2_self_le]
theorem zo{n k:Nat}(h:n<2^k:=by omega):zQ n<=k:=by
 unfold zQ;split
 .omega
 rename_i a;exact(Nat.log2_lt a).2 h
theorem WV{n:Nat}(h:n≠0:=by omega):n &&& (n-1)=0↔n=2^n.log2:=by
 rw[Nat.and_sub_one_eq_zero_iff_isPowerOfTwo h];constructor
 .rintro⟨k,rfl⟩
  simp_all
 intro e;exact⟨_,e⟩
def wk(s:Ua)(i:Nat):Nat:=match s[i/8]? with
 | some b=>b.toNat/2^(i % 8) % 2
 | none=>0
theorem Kf(s:Ua)(i:Nat):wk s i<2:=by
 grind[wk]
theorem Xi{s:Ua}{i:Nat}{b:UInt8}(h:s[i/8]? = some b):wk s i=b.toNat/2^(i % 8) % 2:=by grind[wk]
theorem La{s:Ua}{i:Nat}(h:8*s.length<=i):wk s i=0:=by
 grind[wk]
def yB(s:Ua)(p:Nat):Nat->Nat
 | 0=>0
 | n+1=>yB s p n+wk s (p+n)*2^n
theorem YI(s:Ua)(p n:Nat):yB s p n<2^n:=by
 induction n with
 | zero=>simp[yB]
 | succ n ih =>
  have a:=Kf s (p+n);have h2:wk s (p+n)*2^n<=1*2^n:=Nat.mul_le_mul_right _ dd
  grind[yB]
def xH(s:Ua)(left:Nat):Nat->Nat
 | 0=>0
 | n+1=>2*xH s left n+(if n<left then wk s (left-1-n) else 0)
theorem XX(s:Ua)(left n:Nat):xH s left n<2^n:=by induction n<;>grind[xH,Kf]
def Blk(S:Nat->Prop)(b0:Nat)(h:H):Nat->List (Nat×O)->Prop
 | _,[]=>True
 | top,(p,o)::l=>p<top/\(S p\/b0<=p)/\h.get p=some o/\Blk S b0 h p l
theorem Blk.lt{S:Nat->Prop}{b0:Nat}{h:H}:∀{top:Nat}{l:List (Nat×O)},Blk S b0 h top l->∀q∈l,q.1<top
 | _,[],_=>λq a=>by cases a
 | top,(p,o)::l,⟨b,_,_,h4⟩=>λq a=>by
  rcases oq.1 a with rfl|a
  .exact b
  exact Nat.lt_trans (h4.lt q a) b
theorem Blk.up{S:Nat->Prop}{b0:Nat}{h:H}{top a:Nat}(b:top<=a):∀{l:List (Nat×O)},Blk S b0 h top l->Blk S b0 h a l
 | [],_=>trivial
 | (_,_)::_,⟨c,h2,h3,h4⟩=>⟨oL c b,h2,h3,h4⟩
theorem Blk.keep{S:Nat->Prop}{b0:Nat}{h h':H}:∀{top:Nat}{l:List (Nat×O)},Blk S b0 h top l->(∀q∈l,h'.get q.1=h.get q.1)->Blk S b0 h' top l
 | _,[],_,_=>trivial
 | _,(_,_)::_,⟨b,h2,h3,h4⟩,a=>⟨b,h2,(a _ (List.mem_cons_self ..)).trans h3,h4.keep λq c=>a q (oJ _ c)⟩
theorem Blk.at{S:Nat->Prop}{b0:Nat}{h:H}:∀{top:Nat}{l:List (Nat×O)}(i:Nat) {p:Nat}{o:O},Blk S b0 h top l->l[i]? = some (p,o)->p<top/\(S p\/b0<=p)/\h.get p=some o
 | _,[],i,_,_,_,e=>by cases e
 | top,(_,_)::l,0,p,o,⟨d,h2,h3,h4⟩,e=>by grind
 | top,(_,_)::l,i+1,p,o,⟨d,h2,h3,h4⟩,e=>by obtain⟨a,b,c⟩:=h4.at i e<;>grind
theorem Blk.put{S:Nat->Prop}{b0:Nat}{h h':H}:∀{top:Nat}{l:List (Nat×O)}(i:Nat) {p:Nat}{o o':O},Blk S b0 h top l->l[i]? = some (p,o)->h'.get p=some o'->(∀q∈l,q.1≠p->h'.get q.1=h.get q.1)->Blk S b0 h' top (l.set i (p,o'))
 | _,[],i,_,_,_,_,e,_,_=>by cases e
 | top,(_,_)::l,0,p,o,o',⟨c,h2,h3,h4⟩,e,hp,a=>by cases e;exact⟨c,h2,hp,h4.keep λq b=>a q (oJ _ b) (Nat.ne_of_lt (h4.lt q b))⟩
 | top,(f,_)::l,i+1,p,o,o',⟨c,h2,h3,h4⟩,e,hp,a=>by have d:=(h4.at i e).1;exact⟨c,h2,(a _ (List.mem_cons_self ..) (Nat.ne_of_gt d)).trans h3,h4.put i e hp λq b=>a q (oJ _ b)⟩
structure Vw (S:Nat->Prop) (hb h:H) (c:Nat) (l:List (Nat×O)):Prop where
 ex:ExtX S hb h c
 bk:Blk S hb.nx h h.nx l
section
variable {S:Nat->Prop}{hb h h':H}{c m i p:Nat}{l:List (Nat×O)}{o:O}
theorem ExtX.refl0(S:Nat->Prop)(h:H):ExtX S h h 0:=⟨oR _,oR _,λ_ _ _=>rfl,oR _,λ_ a _ _=>a⟩
theorem Vw.nil:Vw S h h 0 []:=⟨ExtX.refl0 _ _,trivial⟩
theorem Vw.one(a:h.get p=some o)(hp:p<h.nx)(hs:S p):Vw S h h 0 [(p,o)]:=⟨ExtX.refl0 _ _,hp,.inl hs,a,trivial⟩
theorem Vw.top(v:Vw S hb h c l):h.nx<=hb.nx+c:=v.ex.top
theorem Vw.le(v:Vw S hb h c l):hb.nx<=h.nx:=v.ex.le
theorem Vw.low(v:Vw S hb h c l):h.low<=hb.low:=v.ex.low
theorem Vw.more(v:Vw S hb h c l)(hm:c<=m):Vw S hb h m l:=⟨⟨v.ex.le,by have:=v.ex.top;omega,v.ex.get,v.ex.low,v.ex.lo⟩,v.bk⟩
theorem Vw.get(v:Vw S hb h c l)(i:Nat)(e:l[i]? = some (p,o)):h.get p=some o:=(v.bk.at i e).2.2
theorem Vw.lt(v:Vw S hb h c l)(i:Nat)(e:l[i]? = some (p,o)):p<h.nx:=(v.bk.at i e).1
theorem Vw.own(v:Vw S hb h c l)(i:Nat)(e:l[i]? = some (p,o)):S p\/hb.nx<=p:=(v.bk.at i e).2.1
theorem Vw.new(v:Vw S hb h c l)(e:h'=h.new o)(b:h.nx<T.top):Vw S hb h' (c+1) ((h.nx,o)::l):=by obtain⟨n1,a,d⟩:=zm e b;exact⟨v.ex.andThen (ExtX.of (S:=λ_=>False) a) (λ_ g=>g.elim),by rw[n1];exact om _,.inr v.le,d,v.bk.keep λq f=>a.get _ (v.bk.lt q f)⟩
theorem Vw.upd(v:Vw S hb h c l)(i:Nat){o':O}(e:l[i]? = some (p,o))(a:h.nx<=T.top):Vw S hb (h.upd p (some o')) c (l.set i (p,o')):=by have hp:p<T.top:=oL (v.lt i e) a;exact⟨v.ex.upd _ hp (v.own i e),v.bk.put i e (zF _ hp) λq _ b=>zL _ hp b⟩
theorem Vw.ext(v:Vw S hb h c l)(x:Ext h h' m):Vw S hb h' (c+m) l :=
 ⟨v.ex.trans (ExtX.of x),(v.bk.keep λq a=>x.get _ (v.bk.lt q a)).up x.le⟩
theorem Vw.extX(v:Vw S hb h c l)(i:Nat){o':O}(e:l[i]? = some (p,o))(x:ExtX (· = p) h h' m)(g:h'.get p=some o'):Vw S hb h' (c+m) (l.set i (p,o')):=by
 have y:=v.ex.andThen x λb hb=>by subst hb;exact v.own i e
 exact⟨y,(v.bk.put i e g λq a d=>x.get _ (v.bk.lt q a) d).up x.le⟩
theorem Vw.apart{S2:Nat->Prop}(v:Vw S hb h c l)(x:ExtX S2 h h' m)(d:∀b,S2 b->S b\/hb.nx<=b)(hl:∀q∈l,¬S2 q.1):Vw S hb h' (c+m) l :=
 ⟨v.ex.andThen x d,(v.bk.keep λq a=>x.get _ (v.bk.lt q a) (hl q a)).up x.le⟩
theorem Blk.drop{b0:Nat}:∀{top:Nat}{l:List (Nat×O)}(n:Nat),Blk S b0 h top l->Blk S b0 h top (l.drop n)
 | _,_,0,b=>b
 | _,[],_+1,_=>trivial
 | _,(_,_)::_,n+1,⟨a,_,_,h4⟩=>(h4.drop n).up (Nat.le_of_lt a)
theorem Vw.drop(v:Vw S hb h c l)(n:Nat):Vw S hb h c (l.drop n):=⟨v.ex,v.bk.drop n⟩
theorem Vw.toExt(v:Vw S hb h c l)(a:∀b,S b->hb.nx<=b):Ext hb h c:=by
 have:=ExtX.ext (Ext.refl hb) v.ex a
 grind
abbrev zH:Nat->Prop:=λ_=>False
theorem Vw.ex0(v:Vw zH hb h c l):Ext hb h c:=v.toExt λ_ g=>g.elim
variable {cx:Ctx}
theorem Vw.st(v:Vw S hb h c l)(i:Nat){t f:Nat}{ti:TI}{cs cs':Cs}{k:Rk}{op:Bool}{u:V}(e:l[i]? = some (p,.cells cs k true op))(a:h.nx<=T.top)(d:cx.ty.get t=some ti)(hp:cs.put f u.cells=some cs')(hl:we u.cells ti.size=true:=by exact rfl)(g:k.fz<=f:=by exact Nat.zero_le _)(j:zU u.cells=true:=by exact rfl):∃h',jP cx t h (.ptr p f) u=some h'/\Vw S hb h' c (l.set i (p,.cells cs' k true op))/\h'.nx=h.nx/\∀b,b≠p->h'.get b=h.get b :=
 ⟨_,zY d (v.get i e) hp hl g j,v.upd i e a,rfl,λ_ hb=>zL _ (oL (v.lt i e) a) hb⟩
theorem Vw.ld1(v:Vw S hb h c l)(i:Nat){t f:Nat}{ti:TI}{cs:Cs}{k:Rk}{w op:Bool}{u:V}(e:l[i]? = some (p,.cells cs k w op))(a:cx.ty.get t=some ti)(b:cs.get? f=some u)(hd:jx ti.desc=false:=by exact rfl):ye cx t h (.ptr p f)=some u:=zJ a hd (v.get i e) b
theorem Vw.ldA(v:Vw S hb h c l)(i:Nat){t f:Nat}{ti:TI}{cs:Cs}{k:Rk}{w op:Bool}{x:Ug}(e:l[i]? = some (p,.cells cs k w op))(a:cx.ty.get t=some ti)(b:cs.range f ti.size=some x)(hd:jx ti.desc=true:=by exact rfl):ye cx t h (.ptr p f)=some (.agg x):=zT a hd (v.get i e) b
def Sep(S:Nat->Prop)(b0:Nat)(l:List (Nat×O))(v:V):Prop:=∀b,z6 v=some b->(S b\/b0<=b)/\∀q∈l,q.1≠b
theorem Ow.blk{h:H}{v:V}{te:TI}{n:Nat}{xs:Ug}(s:Ow h v te n xs){b:Nat}(hb:z6 v=some b):b<h.nx:=by
 obtain⟨_,⟨rfl,_⟩|⟨a,cs,rfl,h3,_⟩⟩:=s
 .cases hb
 cases hb;exact h3
theorem Ow.one1{h:H}{v:V}{te:TI}{n:Nat}{xs:Ug}(s:Ow h v te n xs):v.cells=[v]/\zU [v]=true:=by
 obtain⟨_,⟨rfl,_⟩|⟨a,cs,rfl,h3,_⟩⟩:=s
 .exact⟨rfl,rfl⟩
 exact⟨rfl,rfl⟩
theorem Sl.one1{h:H}{v:V}{k n:Nat}{xs:Ug}(s:Sl h v k n xs):v.cells=[v]/\zU [v]=true:=by
 obtain⟨_,⟨rfl,_⟩|⟨b,o,a,cs,k,w,op,rfl,_⟩⟩:=s
 .exact⟨rfl,rfl⟩
 exact⟨rfl,rfl⟩
theorem Vw.grow{v v':V}{te:TI}{k:Nat}{xs:Ug}(w:Vw S hb h c l)(sp:Sep S hb.nx l v)(a:Ow h' v' te k xs/\h.nx<=h'.nx/\h'.nx<=h.nx+1/\(∀b,b<h.nx->z6 v≠some b->h'.get b=h.get b)/\z6 v'=some h.nx/\h'.low<=h.low/\(∀m,m<=h.low->(∀b,z6 v=some b->m<=b)->m<=h'.low)):
  Vw S hb h' (c+1) l/\Ow h' v' te k xs/\Sep S hb.nx l v':=by
 obtain⟨a1,a2,a3,a4,a5,a6,a7⟩:=a;refine⟨w.apart (ExtX.append a2 a3 a4 a6 a7) (λb g=>(sp b g).1) (λq d g=>(sp _ g).2 q d rfl),a1,λb g=>?_⟩;rw[a5]at g;cases g;exact⟨.inr w.le,λq d=>Nat.ne_of_lt (w.bk.lt q d)⟩
end
def Row(cs:Cs)(n:Nat)(xs:Ug):Prop:=cs.wf/\cs.len=n/\xs.length=n/\∀i,i<n->cs.get? i=xs[i]?
abbrev yV(cs:Cs):O:=.cells cs ⟨0,0,0⟩ true false
theorem Row.sl{h:H}{b n:Nat}{cp:Cap}{cs:Cs}{k:Rk}{w op:Bool}{xs:Ug}(r:Row cs n xs)(hb:b<h.nx)(a:h.get b=some (.cells cs k w op)):Sl h (.slice b 0 n cp) 1 n xs :=
 ⟨by rw[r.2.2.1,Nat.mul_one],.inr ⟨b,0,cp,cs,k,w,op,rfl,hb,a,λi hi=>by rw[Nat.zero_add];exact r.2.2.2 i dd⟩⟩
section
variable {S:Nat->Prop}{hb h h':H}{c m i p:Nat}{l:List (Nat×O)}{o:O}{cx:Ctx}
theorem Row.make{te ti:TI}{k t e:Nat}{z:V}(f:cx.ty.get t=some ti)(hd:ti.desc = .slice e)(g:cx.ty.get e=some te)(j:te.zero=some z)(a:z.cells=[z])(hs:te.size=1)(n:k<=262143)(hb:te.bytes*k<=1099511627776)(q:h.nx<T.top):
  ∃cs,Z7 cx t (dh k) (dh k) h=some (.slice h.nx 0 k (.exact k),h.new (yV cs))/\Row cs k (List.replicate k z):=by
 obtain⟨cs,d,h2⟩:=Cs.rep_some (v:=z) n;obtain⟨h3,h4⟩:=Cs.rep_eq d;refine⟨cs,?_,h2,h3,by rw[List.length_replicate],λi hi=>by rw[h4,if_pos hi,List.getElem?_replicate,if_pos hi]⟩;unfold Z7;have r:ya (k:Int)=some k:=rfl;simp only[r,f,hd,g,j];have b:we z.cells te.size=true:=zx.2 (by rw[a,hs];rfl);rw[oE (oR k),oE (show k<=4294967296 by omega),oE hb,b];simp only[Bool.and_self,oN];unfold uZ kJ;rw[a];simp only[d,(zW _ _).2 q,oN]
theorem Vw.set(v:Vw S hb h c l)(i:Nat){e n j:Nat}{te:TI}{cs:Cs}{k:Rk}{op:Bool}{u:V}{xs:Ug}(r:Row cs n xs)(hi:l[i]? = some (p,.cells cs k true op))(s:h.nx<=T.top)(x:j<n)(y:cx.ty.get e=some te)(hs:te.size=1)(z:k.fz=0)(b:u.cells=[u])(A:u.one=true):
  ∃h' cs',jP cx e h (.ptr p j) u=some h'/\Row cs' n (xs.set j u)/\Vw S hb h' c (l.set i (p,.cells cs' k true op))/\h'.nx=h.nx:=by
 obtain⟨cs',d,B⟩:=Cs.put_some (cs:=cs) r.1 (o:=j) (vs:=[u]) (by rw[r.2.1];simp;omega);obtain⟨_,p3,C⟩:=Cs.put_eq d;obtain⟨h',D,w,n1,_⟩:=v.st (cx:=cx) i (t:=e) (f:=j) (u:=u) (cs':=cs') hi s y (by rw[b];exact d) (zx.2 (by rw[b,hs];rfl)) (by rw[z];exact oM _) (by rw[b];simp[zU,A]);refine⟨h',cs',D,⟨B,by rw[p3,r.2.1],by rw[ox,r.2.2.1],λa E=>?_⟩,w,n1⟩;rw[C];by_cases g:a=j
 .subst g;rw[if_pos ⟨oR _,by simp⟩,Nat.sub_self,List.getElem?_set_self (by rw[r.2.2.1];exact x)];rfl
 rw[if_neg (by simp;omega),og (λq=>g q.symm)];exact r.2.2.2 a E
theorem yp{t e b n j:Nat}{cp:Cap}{ti te:TI}(a:cx.ty.get t=some ti)(hd:ti.desc = .slice e)(d:cx.ty.get e=some te)(hs:te.size=1)(f:j<n:=by omega):xK cx t (.slice b 0 n cp) (dh j)=some (.ptr b j):=by unfold xK;show(match ya (Int.ofNat j),cx.ty.get t with|some i,some ti=>_|_,_=>_)=_;simp only[ya,a,hd,d,(zW _ _).2 f,oN,hs,Nat.mul_one,Nat.zero_add]
end
def RowE(cs:Cs)(esz n k:Nat)(xs:Ug):Prop:=cs.wf/\cs.len=k*esz/\xs.length=n*esz/\n<=k/\∀i,i<n*esz->cs.get? i=xs[i]?
theorem RowE.sl{h:H}{b esz n m:Nat}{cp:Cap}{cs:Cs}{k:Rk}{w op:Bool}{xs:Ug}(r:RowE cs esz n m xs)(hb:b<h.nx)(a:h.get b=some (.cells cs k w op)):Sl h (.slice b 0 n cp) esz n xs :=
 ⟨r.2.2.1,.inr ⟨b,0,cp,cs,k,w,op,rfl,hb,a,λi hi=>by rw[Nat.zero_add];exact r.2.2.2.2 i hi⟩⟩
theorem Vw.app{S:Nat->Prop}{hb h:H}{c p:Nat}{l:List (Nat×O)}{cx:Ctx}(v:Vw S hb h c l)(i:Nat){te ti:TI}{n m k t e:Nat}{cs:Cs}{kk:Rk}{op:Bool}{x:V}{xs ys:Ug}(hi:l[i]? = some (p,.cells cs kk true op))(r:RowE cs te.size n k xs)(w:Sl h x te.size m ys)(hm:0<m)(z:cx.ty.get t=some ti)(hd:ti.desc = .slice e)(A:cx.ty.get e=some te)(xI:jo te=true)(B:zU ys=true)(g:n+m<=k)(C:kk.fz=0)(D:h.nx<=T.top):
  ∃h' cs',zi cx t h (.slice p 0 n (.exact k)) x=some (.slice p 0 (n+m) (.exact k),h')/\RowE cs' te.size (n+m) k (xs++ys)/\Vw S hb h' c (l.set i (p,.cells cs' kk true op))/\h'.nx=h.nx:=by
 have q:0<te.size:=by unfold jo at xI;simp only[oI]at xI;exact(zW _ _).1 xI.1.1
 have a:ys.length=m*te.size:=w.1;have s:zi cx t h (.slice p 0 n (.exact k)) x=appTo te h m ys (.slice p 0 n (.exact k)):=by unfold zi;rw[z];simp only[hd,A,xI,oN,w.src q hm]
 have b:(n+m)*te.size=n*te.size+m*te.size:=Nat.add_mul _ _ _;have E:(n+m)*te.size<=k*te.size:=Nat.mul_le_mul_right _ g;obtain⟨hw,hl,f,F,G⟩:=r;obtain⟨cs',y,I⟩:=Cs.put_some (cs:=cs) hw (o:=0+n*te.size) (vs:=ys) (by rw[hl,a];omega);obtain⟨_,p3,J⟩:=Cs.put_eq y;refine⟨h.upd p (some (.cells cs' kk true op)),cs',?_,⟨I,by rw[p3,hl],by rw[oW,f,a,b],g,λj L=>?_⟩,v.upd i hi D,rfl⟩
 .rw[s];unfold appTo;simp only[v.get i hi];unfold jO;have K:Nat.beq m 0=false:=by cases u:Nat.beq m 0 with
   | false=>rfl
   | true=>have:=oH u;omega
  rw[oE g,oN,B,K];simp only[Bool.and_true,oN,oO];unfold qh;rw[y];simp only[C,oE (oM _),oN]
 rw[J];by_cases d:j<n*te.size
 .rw[if_neg dd,G j d,List.getElem?_append_left (by rw[f];exact d)]
 rw[if_pos dd,List.getElem?_append_right (by rw[f];omega),f,Nat.zero_add]
section
open Go (Code Oper Op Operand ResultVar)
def yr(tm:Tm):Kn->Tm
 | []=>tm
 | (a,v)::l=>Tb.set (yr tm l) a v
def Bu(tm:Tm):Kn->Nat->Ui
 | [],t=>some (zq tm t)
 | (a,v)::l,t=>cond (Nat.beq a t) (some v) (Bu tm l t)
def lkM:Kn->Nat->Ui
 | [],_=>none
 | (a,v)::l,t=>cond (Nat.beq a t) (some v) (lkM l t)
def qd(l:Kn):Prop:=∀p∈l,p.1<511
theorem rW{tm:Tm}:∀{l:Kn}{t:Nat},qd l->Bu tm l t=some (zq (yr tm l) t)
 | [],_,_=>rfl
 | (a,v)::l,t,h=>by
  have b:a<Tb.top:=h (a,v) (List.mem_cons_self ..);unfold Bu yr;rw[xB _ _ _ _ b];cases hb:Nat.beq a t with
  | true=>simp_all
  | false=>rw[if_neg λg=>by simp_all];exact rW λp hp=>h p (oJ _ hp)
theorem GU{tm:Tm}:∀{l:Kn}{t:Nat}{v:V},qd l->lkM l t=some v->zq (yr tm l) t=v
 | [],_,_,_,e=>by cases e
 | (a,w)::l,t,v,h,e=>by
  have b:a<Tb.top:=h (a,w) (List.mem_cons_self ..);unfold lkM at e;unfold yr;rw[xB _ _ _ _ b];cases hb:Nat.beq a t with
  | true=>simp_all
  | false=>rw[hb,oO]at e;rw[if_neg λg=>by simp_all];exact GU (λp hp=>h p (oJ _ hp)) e
theorem fJ{tm:Tm}:∀{l:Kn},Has tm l->qd l->yr tm l=tm
 | [],_,_=>rfl
 | (a,v)::l,h,b=>by unfold yr;rw[fJ h.2 λp hp=>b p (oJ _ hp)];exact zBb (b (a,v) (List.mem_cons_self ..)) h.1
def nmK:Ui->Ui
 | some (.int k (.ofNat n))=>some (.int k (OfNat.ofNat n))
 | some (.int k (.negSucc 0))=>some (.int k (-1))
 | r=>r
theorem zAt(r:Ui):nmK r=r:=by unfold nmK;split<;>rfl
def rH(tm:Tm)(l:Kn):Operand->Ui
 | .tmp t=>Bu tm l t
 | .const v=>nmK (ofV v)
 | x=>yt tm x
theorem rI{tm:Tm}{l:Kn}(h:qd l):rH tm l=yt (yr tm l):=by
 funext x;cases x with
 | tmp t=>exact rW h
 | const v=>exact zAt _
 | _=>rfl
def fU(ops:List Oper)(tm:Tm)(l:Kn)(o:Oper):Bool :=
 match o.guard with
 | none=>true
 | some (j,w) =>
  match ops[j]? with
  | some o'=>match o'.dst with
   | some d=>match Bu tm l d with|some (.bool b)=>b == w|_=>false
   | none=>false
  | none=>false
theorem T4{ops:List Oper}{tm:Tm}{l:Kn}{o:Oper}(h:qd l):fU ops tm l o=yO ops (yr tm l) o:=by
 unfold fU yO;rcases o.guard with _|⟨j,w⟩
 .rfl
 dsimp only;rcases ops[j]? with _|o'
 .rfl
 dsimp only;rcases o'.dst with _|d
 .rfl
 grind[rW]
def Z2(n:Nat)(d:Option Nat)(v:V)(l:Kn)(k:Kn->Prop):Prop :=
 match d with
 | none=>k l
 | some t=>match Nat.blt t n,Nat.blt t 511 with
  | true,true=>k ((t,v)::l)
  | _,_=>False
def JE:Uf->Kn->(Kn->Prop)->Prop
 | [],_,k=>k []
 | t::a,l,k=>match lkM l t with
  | some v=>JE a l λr=>k ((t,v)::r)
  | none=>JE a l k
theorem rl{a b:Tm}{l:Kn}{q:Prop}(c:∀t v,lkM l t=some v->zq a t=v):∀{live:Uf}{k:Kn->Prop},JE live l k->(∀r,k r->Has b r->q)->pZ a b live q
 | [],_,h,f=>f [] h trivial
 | t::live,k,h,f=>by
  show zq b t=zq a t->pZ a b live q;intro e;unfold JE at h;split at h
  .rename_i v d;exact rl c h λr hr hs=>f _ hr ⟨e.trans (c t v d),hs⟩
  exact rl c h f
theorem qx{live:Uf}{l:Kn}{n:Nat}{tm:Tm}{d:List AD}{h:H}{q:St->Prop}(hl:qd l)(e:JE live l λr=>∀a,Has a r->q ⟨n,a,d,h⟩):∀a,pZ (yr tm l) a live (q ⟨n,a,d,h⟩):=λa =>
 rl (λ_ _ e=>GU hl e) e λ_ hr hs=>hr a hs
def kW(a:IntKind)(x:Int)(k:V->Prop):Prop:=match a with
 | .i64=>k (dh (zb x))
 | a=>k (.int a (yD a x))
theorem Sd{a:IntKind}{x:Int}{k:V->Prop}(e:kW a x k):k (.int a (yD a x)):=by cases a<;>exact e
def R7(c:Ctx)(op:BinOp)(t:TypeId)(x y:Operand)(f:TypeId):V->V->(V->Prop)->Prop
 | .int d m,.int e n,k=>(match jy d e with
  | true=>(match op with
   | .add=>kW d (m+n) k
   | .sub=>kW d (m-n) k
   | .mul=>kW d (m*n) k
   | .quo=>n≠0/\kW d (m.tdiv n) k
   | .eql=>jd (m=n) k
   | .neq=>jd (m≠n) k
   | .lss=>jd (m<n) k
   | .leq=>jd (m<=n) k
   | .gtr=>jd (n<m) k
   | .geq=>jd (n<=m) k
   | op=>JK c op t x y f (.int d m) (.int e n) k)
  | false=>JK c op t x y f (.int d m) (.int e n) k)
 | a,b,k=>JK c op t x y f a b k
theorem R8{c:Ctx}{op:BinOp}{t:TypeId}{x y:Operand}{d:TypeId}{a b:V}{k:V->Prop}(e:R7 c op t x y d a b k):JK c op t x y d a b k:=by
 unfold R7 at e;split at e
 .split at e
  .rename_i f;split at e<;>first|exact e|simp_all[JK,Sd]
  omega
 omega
def ct(c:Ctx)(s d:TypeId)(h:H)(v:V)(k:Uc):Prop :=
 match v with
 | .int _ n=>(match c.ty.get s,c.ty.get d with
  | some a,some b=>(match Sc a.desc,Sc b.desc with|some _,some e=>kW e n λv=>k v h|_,_=>False)
  | _,_=>False)
 | v=>rz c s d h v k
theorem T9{c:Ctx}{s d:TypeId}{h:H}{v:V}{k:Uc}(e:ct c s d h v k):rz c s d h v k:=by
 unfold ct at e;split at e
 .unfold rz
  grind[Sd]
 omega
def EL(c:Ctx)(t:TypeId)(f:Nat)(h:H):V->Uc->Prop
 | .ptr b o,k=>(match c.ty.get t with
  | some ti=>(match ti.desc with
   | .struct a=>(match a[f]? with
    | some d=>(match d with
     | { type:=ty,offset:=off,.. }=>(match c.ty.get ty with|some e=>(match Nat.blt 0 e.size with|true=>k (.ptr b (o+off)) h|false=>False)|none=>False))
    | none=>False)
   | _=>False)
  | none=>False)
 | _,_=>False
theorem ID{c:Ctx}{t:TypeId}{f:Nat}{h:H}{v:V}{k:Uc}(e:EL c t f h v k):EK c t f h v k:=by
 unfold EL at e;split at e
 .unfold EK;dsimp only;split at e
  .rename_i a;simp only[a];split at e
   .rename_i h2;simp only[h2];split at e
    .rename_i b h3;simp only[h3];obtain⟨f1,d,g,i,j,l,m⟩:=b;dsimp only at e ⊢;split at e
     .rename_i h4;simp only[h4];split at e<;>simp_all
     grind
    grind
   grind
  grind
 grind
def cu(c:Ctx)(pl:Bool)(t:TypeId)(h:H)(v:V)(k:Uc):Prop :=
 match pl with
 | true=>nI c t h v k
 | false=>(match c.ty.get t with
  | some ti=>(match jx ti.desc with
   | true=>∃cs,cond (zU v.cells) (Cs.ofL v.cells) none=some cs/\h.nx<T.top/\∀b h',b=h.nx->h'=h.new (.cells cs ⟨0,t+1,0⟩ true false)->k (.ptr b 0) h'
   | false=>nI c t h v k)
  | none=>False)
theorem uS{c:Ctx}{pl:Bool}{t:TypeId}{h:H}{v:V}{k:Uc}(e:cu c pl t h v k):nI c t h v k:=by
 unfold cu at e;split at e
 .exact e
 split at e
 .rename_i ti a;split at e
  .rename_i h2;obtain⟨cs,b,d⟩:=e;unfold nI;rw[a];dsimp only;rw[if_pos h2,b];exact d
  omega
 grind
def plZ:V->Bool
 | .int ..=>true
 | .bool _=>true
 | .str _=>true
 | _=>false
def plT(c:Ctx)(t:TypeId):Bool:=match c.ty.get t with|some ti=>(match ti.zero with|some (.agg a)=>a.all plZ|_=>true)|none=>true
theorem Tc{c:Ctx}{b:Builtin}{d:TypeId}{h:H}{k:Uc}{g:Option AN}{u v:V}{a:List TypeId}(w:match b with | .max=>nH true [u,v] (λv=>k v h) | .min=>nH false [u,v] (λv=>k v h)|_=>False):Xl c b d h k g [u,v] a:=by rcases a with _|⟨e,_|⟨f,_|a⟩⟩<;>cases b<;>first|exact w|grind
def ZT(c:Ctx)(P:Program)(o:Oper)(e:Uh)(h:H)(k:Uc):Prop :=
 match o.op with
 | .binOp op t x y _=>(match e x,e y with|some a,some b=>R7 c op t x y o.type a b λv=>k v h|_,_=>False)
 | .unOp .neg _ x=>(match e x with|some (.int g n)=>kW g (0-n) λv=>k v h|_=>False)
 | .convert s d x=>(match e x with|some v=>ct c s d h v k|none=>False)
 | .fieldAddr t x f=>(match e x with|some v=>EL c t f h v k|none=>False)
 | .nilCheck x=>(match e x with|some (.ptr b o)=>k (.ptr b o) h|_=>XT c P o e h k)
 | .box t x=>(match e x with|some v=>cu c (plT c t) t h v k|none=>False)
 | .pick i a b=>(match e i,e a,e b with|some (.bool t),some x,some y=>AH t λt=>(match t with|true=>k x h|false=>k y h)|_,_,_=>False)
 | .call ⟨.builtin .max,as,_⟩=>(match Xw e as.toList with|some [.int g a,.int _ b]=>k (.int g (max a b)) h|_=>XT c P o e h k)
 | .call ⟨.builtin .min,as,_⟩=>(match Xw e as.toList with|some [.int g a,.int _ b]=>k (.int g (min a b)) h|_=>XT c P o e h k)
 | .alloc t=>(match c.ty.get t with|some ti=>(match ti.zero with|some z=>cu c (Nat.ble ti.size 16) t h z k|none=>False)|none=>False)
 | _=>XT c P o e h k
theorem q8{c:Ctx}{P:Program}{o:Oper}{ev:Uh}{h:H}{k:Uc}(e:ZT c P o ev h k):XT c P o ev h k:=by
 unfold ZT at e;split at e
 .grind[XT,R8]
 .rename_i a;unfold XT;rw[a];dsimp only;split at e
  .rename_i b;simp only[b];exact Sd (k:=λv=>k v h) e
  grind
 .rename_i a;unfold XT;rw[a];dsimp only;split at e
  .rename_i b;simp only[b];exact T9 e
  grind
 .grind[XT,ID]
 .grind[XT,xS]
 .grind[XT,uS]
 .rename_i a;unfold XT;rw[a];dsimp only;split at e
  .rename_i t x y b h2 h3;simp only[b,h2,h3];cases t<;>exact e
  grind
 .rename_i a;split at e
  .rename_i b;unfold XT uR;rw[a];dsimp only;rw[b];dsimp only;exact Tc (by exact e)
  omega
 .rename_i a;split at e
  .rename_i b;unfold XT uR;rw[a];dsimp only;rw[b];dsimp only;exact Tc (by exact e)
  omega
 .grind[XT,uS]
 omega
def frK(e:Uh)(b:Nat)(o:Oper)(q:Prop):Prop :=
 match o.op with
 | .load _ a=>(match e a with|some (.ptr d _)=>b≠d/\q|_=>False)
 | .convert _ _ x=>(match e x with|some (.int _ _)=>q|_=>False)
 | .slice _ x _ _ _=>(match e x with|some (.str _)=>q|some (.slice _ _ _ (.exact _))=>q|_=>False)
 | .call c=>(match c.callee,Xw e c.args.toList,c.argTypes.toList with | .builtin .len,some [.str _],[_]=>q|_,_,_=>False)
 | _=>(match Yr o with|true=>q|false=>False)
def frA(ops:List Oper)(e:Uh)(b bk:Nat)(q:Prop):Nat->Nat->List Oper->Prop
 | _,0,_=>q
 | _,_,[]=>q
 | i,n+1,o::r=>match Nat.testBit bk i with
  | true=>frA ops e b bk q (i+1) n r
  | false=>match Kj (wF ops o) (n+1) (o::r)with
   | true=>frK e b o (frA ops e b bk q (i+1) n r)
   | false=>False
def stB(ops:List Oper)(bs:Uf)(m k:Nat)(e:Uh)(b:Nat)(q:Prop):Prop :=
 match YF bs k (k+1) (m-k-1) (ops.drop (k+1))with
 | true=>frA ops e b (bs.getD k 0) q 0 k ops
 | false=>False
def stK(ops:List Oper)(bs:Uf)(m k:Nat)(e:Uh)(o:Oper)(q:Prop):Prop :=
 match o.op with
 | .store _ a _=>(match e a with|some (.ptr b _)=>stB ops bs m k e b q|_=>False)
 | .mapUpdate _ a _ _=>(match e a with|some (.map b)=>stB ops bs m k e b q|_=>False)
 | .call ⟨.builtin .append,args,_⟩=>(match args.toList with
  | a::_=>(match e a with|some (.slice b _ _ _)=>stB ops bs m k e b q|_=>False)
  | []=>False)
 | _=>False
theorem Dc{tm:Tm}{b:Nat}{o:Oper}{q:Prop}(w:frK (yt tm) b o q):wp tm b o=true/\q:=by
 unfold frK at w;unfold wp;split at w
 .split at w
  .rename_i a _ _ _ c;rw[a];simp only[c];refine⟨?_,w.2⟩;cases hb:Nat.beq b _<;>simp_all
  grind
 .grind
 .grind
 .rename_i a;rw[a];dsimp only;unfold lS
  grind
 grind[Yr]
theorem lG{ops:List Oper}{tm:Tm}{b bk:Nat}{q:Prop}:∀(i n:Nat) (r:List Oper),frA ops (yt tm) b bk q i n r->qL ops tm b bk i n r=true/\q
 | _,0,r,w=>⟨by cases r<;>rfl,w⟩
 | _,_+1,[],w=>⟨rfl,w⟩
 | i,n+1,o::r,w=>by
  unfold frA at w;unfold qL;cases a:Nat.testBit bk i with
  | true=>rw[a]at w;rw[Bool.true_or,oN];exact lG _ _ _ w
  | false =>
   rw[a]at w;dsimp only at w;cases h2:Kj (wF ops o) (n+1) (o::r)with
   | true=>rw[h2]at w;obtain⟨h3,w⟩:=Dc w;rw[h3,Bool.and_true,Bool.or_true,oN];exact lG _ _ _ w
   | false=>grind
theorem cQ{ops:List Oper}{bs:Uf}{m k:Nat}{tm:Tm}{b:Nat}{q:Prop}(w:stB ops bs m k (yt tm) b q):(qL ops tm b (bs.getD k 0) 0 k ops && YF bs k (k+1) (m-k-1) (ops.drop (k+1)))=true/\q:=by
 unfold stB at w;split at w
 .rename_i e;obtain⟨a,h2⟩:=lG _ _ _ w<;>grind
 grind
theorem PN{ops:List Oper}{bs:Uf}{m k:Nat}{tm:Tm}{o:Oper}{q:Prop}(w:stK ops bs m k (yt tm) o q):kD ops bs m k tm o=true/\q:=by
 unfold stK at w;unfold kD XN;split at w
 .rename_i a;rw[a];dsimp only;split at w
  .rename_i b;rw[b];obtain⟨c,h2⟩:=cQ w<;>grind
  grind
 .rename_i a;rw[a];dsimp only;split at w
  .rename_i b;rw[b];obtain⟨c,h2⟩:=cQ w<;>grind
  grind
 .rename_i a;rw[a];dsimp only;split at w
  .rename_i d;rw[d];dsimp only;split at w
   .rename_i b;rw[b];obtain⟨c,h2⟩:=cQ w<;>grind
   grind
  grind
 grind
abbrev Qs:=List (Option AN×H×V×H)
def SE:Qs->Option AN->H->V->H->Prop->Prop
 | [],_,_,_,_,k=>k
 | (a,d,v1,h2)::c,b,h,v,h',k=>match a,b with
  | some (.call f x),some (.call g y)=>(match Nat.beq f g with
   | true=>(x=y->d=h->v1=v/\h2=h')/\SE c b h v h' k
   | false=>SE c b h v h' k)
  | _,_=>SE c b h v h' k
def Jt(o:Oper):Bool:=match o.op with | .call a=>(match a.callee with | .builtin _=>false|_=>true)|_=>false
def ER(e:Uh)(o:Oper):Bool:=match o.op with | .call a=>(match a.callee with | .value f=>(match e f with|some (.yield _)=>true|_=>false)|_=>false)|_=>false
def Pl(c:Ctx)(e:Uh)(o:Oper)(h:H)(a:Qs)(v:V)(h':H)(k:Qs->Prop):Prop :=
 match Jt o with
 | true=>SE a (xS c o e h) h v h' (k ((xS c o e h,h,v,h')::a))
 | false=>k a
def isS(o:Oper):Bool:=match o.op with | .store ..=>true | .mapUpdate ..=>true|_=>false
def isA(ops:List Oper)(o:Oper):Bool:=match o.op with
 | .call ⟨.builtin .append,args,_⟩=>(match args.toList with | .tmp t::_=>ops.any λa=>(match a.op,a.dst with | .call ⟨.builtin .append,_,_⟩,some d=>Nat.beq d t|_,_=>false)|_=>false)
 | _=>false
def Ks(P : Program)(c : Ctx)(n : Nat)(tm : Tm)(ops : List Oper)(bs : Uf)(m j k : Nat)(r : List Oper): Qs -> Kn -> List AD -> H -> (AX -> Kn -> List AD -> H -> Prop) -> Prop :=
  List.rec (motive := λ_ => Nat -> Nat -> Qs -> Kn -> List AD -> H -> (AX -> Kn -> List AD -> H -> Prop) -> Prop) (λ_ _ _ l d h K => K .normal l d h) (λo _ ih j k qs l d h K =>
    match fU ops tm l o with
    | true => (match Qe o.op, Dw o.op, ER (rH tm l) o with
      | false, false, false => (match j with
        | 0 => ZT c P o (rH tm l) h λv h' => Pl c (rH tm l) o h qs v h' λqs => Z2 n o.dst v l λl' => ih 0 k qs l' d h' K
        | j + 1 => (match bH c o with
          | true => ZT c P o (rH tm l) h λv h' => Z2 n o.dst v l λl' => ih j (k + 1) qs l' d h' K
          | false => (match isS o, isA ops o, Jd ops bs m k with
            | true, _, false => stK ops bs m k (rH tm l) o (ZT c P o (rH tm l) h λv h' => Z2 n o.dst v l λl' => ih j (k + 1) qs l' d h' K)
            | _, true, _ => ZT c P o (rH tm l) (z8 h) λv h' => stK ops bs m k (rH tm l) o (h'.nx <= T.top) /\ ∀h2, h2 = wW h h' -> Z2 n o.dst v l λl' => ih j (k + 1) qs l' d h2 K
            | _, _, _ => ZT c P o (rH tm l) (z8 h) λv h' => Pl c (rH tm l) o (z8 h) qs v h' λqs => lowOk ops bs m k h h' /\ ∀h2, h2 = wW h h' -> Z2 n o.dst v l λl' => ih j (k + 1) qs l' d h2 K)))
      | _, _, _ => False)
    | false => Z2 n o.dst zZ l λl' => ih (j - 1) (k + 1) qs l' d h K) r j k
theorem IK{P:Program}{c:Ctx}{n:Nat}{tm:Tm}{ops:List Oper}{bs:Uf}{m j k:Nat}{o:Oper}{r:List Oper}{a:Qs}{l:Kn}{d:List AD}{h:H}{K:AX->Kn->List AD->H->Prop}:Ks P c n tm ops bs m j k (o::r) a l d h K=(
  match fU ops tm l o with
  | true=>(match Qe o.op,Dw o.op,ER (rH tm l) o with
   | false,false,false=>(match j with
    | 0=>ZT c P o (rH tm l) h λv h'=>Pl c (rH tm l) o h a v h' λa=>Z2 n o.dst v l λl'=>Ks P c n tm ops bs m 0 k r a l' d h' K
    | j+1=>(match bH c o with
     | true=>ZT c P o (rH tm l) h λv h'=>Z2 n o.dst v l λl'=>Ks P c n tm ops bs m j (k+1) r a l' d h' K
     | false=>(match isS o,isA ops o,Jd ops bs m k with
      | true,_,false=>stK ops bs m k (rH tm l) o (ZT c P o (rH tm l) h λv h'=>Z2 n o.dst v l λl'=>Ks P c n tm ops bs m j (k+1) r a l' d h' K)
      | _,true,_=>ZT c P o (rH tm l) (z8 h) λv h'=>stK ops bs m k (rH tm l) o (h'.nx<=T.top)/\∀h2,h2=wW h h'->Z2 n o.dst v l λl'=>Ks P c n tm ops bs m j (k+1) r a l' d h2 K
      | _,_,_=>ZT c P o (rH tm l) (z8 h) λv h'=>Pl c (rH tm l) o (z8 h) a v h' λa=>lowOk ops bs m k h h'/\∀h2,h2=wW h h'->Z2 n o.dst v l λl'=>Ks P c n tm ops bs m j (k+1) r a l' d h2 K)))
   | _,_,_=>False)
  | false=>Z2 n o.dst zZ l λl'=>Ks P c n tm ops bs m (j-1) (k+1) r a l' d h K):=rfl
theorem Jo{c:Ctx}{o:Oper}{e:Uh}{h:H}{f:Nat}{args:Ug}(b:Jt o=false):xS c o e h≠some (.call f args)/\xS c o e h≠some (.round f args):=by
 have d:∀{r:Ui},AN.ofV r h≠some (.call f args)/\AN.ofV r h≠some (.round f args):=by intro r;cases r<;>exact⟨λe=>(by cases e),λe=>(by cases e)⟩
 have a:∀{r:Option (V×H)},AN.ofVH r≠some (.call f args)/\AN.ofVH r≠some (.round f args):=by intro r;cases r<;>exact⟨λe=>(by cases e),λe=>(by cases e)⟩
 unfold Jt at b;unfold xS;cases g:o.op<;>simp only[g]at b ⊢<;>first
  | exact d
  | exact a
  | skip
 case call cl =>
  unfold wo
  grind
 case fieldAddr t x f =>
  (repeat' split)<;>first|exact d|exact a|exact⟨λe=>(by cases e),λe=>(by cases e)⟩|grind [afa]
 all_goals
  grind
theorem Pj{c:Ctx}{o:Oper}{e:Uh}{h:H}{f:Nat}{args:Ug}(d:ER e o=false):xS c o e h≠some (.round f args):=by
 intro a;rcases g:Jt o with _|_
 .simp_all[Jo]
 unfold Jt at g;unfold ER at d;unfold xS at a;cases k:o.op<;>simp only[k]at g d a<;>try (cases g;done)
 rename_i j;unfold wo at a;rcases hl:Xw e j.args.toList with _|as
 .grind
 simp only[hl]at a;cases i:j.callee with
 | builtin b=>grind
 | value x =>
  simp only[i]at a d;split at a
  .unfold JL at a;revert a;cases nw c _ with
   | true=>grind
   | false =>
    rw[oO];split
    .rename_i r _ _;cases Ej _ h _ as _<;>exact λe=>by cases e
    grind
  .grind
  grind
 | invoke x y=>grind
section
variable {P:Program}{c:Ctx}
def aI(P:Program)(c:Ctx)(o:Oper)(e:Uh)(h:H)(v:V)(h':H):Prop :=
 xS c o e h=some (.val v h')\/(xS c o e h=some (.skip h')/\v=zZ)\/∃f as,xS c o e h=some (.call f as)/\(∃fi,c.fn.get f=some fi)/\SimF P f as h (.ret v h')
theorem Jl{o:Oper}{e:Uh}{h:H}{k:Uc}(d:ER e o=false)(w:IT P c h k (xS c o e h)):∃v h',k v h'/\aI P c o e h v h':=by
 rcases a:xS c o e h with _|b
 .rw[a]at w;exact w.elim
 rw[a]at w;unfold aI;rw[a];cases b with
 | val v h'=>exact⟨v,h',w,.inl rfl⟩
 | skip h'=>exact⟨_,h',w,.inr (.inl ⟨rfl,rfl⟩)⟩
 | call f as=>obtain⟨v,h',g,h2⟩:=w<;>grind
 | round f as=>grind[Pj]
 | _=>exact w.elim
def bT(P:Program)(c:Ctx)(a:Qs):Prop:=∀q∈a,∀f as,q.1=some (.call f as)->(∃fi,c.fn.get f=some fi)/\SimF P f as q.2.1 (.ret q.2.2.1 q.2.2.2)
def bS(d:Qs):Prop:=∀a∈d,∀b∈d,∀f as,a.1=some (.call f as)->b.1=a.1->b.2.1=a.2.1->b.2.2=a.2.2
def I0(orc:Nat->Ug->H->Option (V×H))(a:Qs):Prop:=∀q∈a,∀f as,q.1=some (.call f as)->orc f as q.2.1=some q.2.2
def C5(a:Qs):Nat->Ug->H->Option (V×H):=λf as h=>@dite _ (∃r,((some (.call f as):Option AN),h,r)∈a) (Classical.propDecidable _) (λe=>some e.choose) λ_=>none
theorem C6{a:Qs}(b:bT P c a):jK P c (C5 a):=by
 intro f as h v h' e;unfold C5 at e;split at e
 .rename_i d;have:=b _ d.choose_spec f as rfl
  grind
 grind
theorem Gj{b:Qs}(g:bS b):I0 (C5 b) b:=by rintro⟨a,h,r⟩ d f as rfl;have e:∃r,((some (.call f as):Option AN),h,r)∈b:=⟨r,d⟩;unfold C5;rw[dif_pos e];exact congrArg some (g _ d _ e.choose_spec f as rfl rfl rfl)
theorem aX{v:V}{h h':H}{b:Option AN}{k:Prop}:∀{qs:Qs},SE qs b h v h' k->k/\∀q∈qs,∀f as,b=some (.call f as)->q.1=b->q.2.1=h->q.2.2=(v,h')
 | [],w=>⟨w,λ_ hq=>by cases hq⟩
 | (a,h1,v1,h2)::qs,w=>by
  have fin:SE qs b h v h' k->(∀f as,b=some (.call f as)->a=b->h1=h->(v1,h2)=(v,h'))->k/\∀q∈(a,h1,v1,h2)::qs,∀f as,b=some (.call f as)->q.1=b->q.2.1=h->q.2.2=(v,h'):=λw g=>by obtain⟨w1,w2⟩:=aX w<;>grind
  unfold SE at w;split at w
  .rename_i f x g y;cases hb:Nat.beq f g with
   | true =>
    grind
   | false =>
    grind[Nat.beq_refl]
  grind
theorem aY{o:Oper}{e:Uh}{h h':H}{v:V}{l:Qs}{k:Qs->Prop}(n:bT P c l)(p:bS l)(hd:aI P c o e h v h')(w:Pl c e o h l v h' k):
  ∃d,(∀q∈l,q∈d)/\bT P c d/\bS d/\k d/\∀orc,I0 orc d->∀f as,xS c o e h=some (.call f as)->orc f as h=some (v,h'):=by
 unfold Pl at w;split at w
 .obtain⟨r,x⟩:=aX w;refine⟨_,λq j=>oJ _ j,λq j f as i=>?_,λa m b hb f as i s h2=>?_,r,λorc t f as i=>t _ (List.mem_cons_self ..) f as i⟩
  .rcases oq.1 j with rfl|j
   .dsimp only at i ⊢;rcases hd with g|⟨g,_⟩|⟨y,u,g,h3⟩<;>rw[g]at i<;>cases i;exact h3
   exact n q j f as i
  rcases oq.1 m with rfl|m<;>rcases oq.1 hb with rfl|hb
  .rfl
  .grind
  .grind
  exact p a m b hb f as i s h2
 grind[Jo]
theorem PO{orc:Nat->Ug->H->Option (V×H)}{b:Bool}{o:Oper}{n:Nat}{t:Tm}{d:List AD}{h h':H}{v:V}(hd:aI P c o (yt t) h v h')(a:∀f as,xS c o (yt t) h=some (.call f as)->orc f as h=some (v,h')):
  yG c orc b aG o ⟨n,t,d,h⟩=match wP ⟨n,t,d,h⟩ o.dst v h' with|some s'=>some (.normal,s')|none=>none:=by
 unfold yG;dsimp only;rcases hd with g|⟨g,rfl⟩|⟨f,as,g,_⟩
 .grind
 .grind
 grind[Zd]
theorem wu{n:Nat}{d:Option Nat}{v:V}{l:Kn}{k:Kn->Prop}{tm:Tm}(hl:qd l)(e:Z2 n d v l k):∃l',qd l'/\k l'/\∀a h0 h',wP ⟨n,yr tm l,a,h0⟩ d v h'=some ⟨n,yr tm l',a,h'⟩:=by
 unfold Z2 at e;split at e
 .exact⟨l,hl,e,λ_ _ _=>rfl⟩
 rename_i t;split at e
 .rename_i b f;refine⟨_,λp hp=>?_,e,λa h0 h'=>?_⟩
  .rcases oq.1 hp with rfl|hp
   .simp_all
   exact hl p hp
  unfold wP;dsimp only;rw[b];rfl
 grind
theorem H3{orc:Nat->Ug->H->Option (V×H)}{b:Bool}{ops r:List Oper}{bs:Uf}{m j k:Nat}{o:Oper}{n:Nat}{t a:Tm}{d:List AD}{h h1:H}{v:V}(hw:yO ops t o=true)(hs:yG c orc b aG o ⟨n,t,d,z8 h⟩=match wP ⟨n,t,d,z8 h⟩ o.dst v h1 with|some s'=>some (.normal,s')|none=>none)(hp:wP ⟨n,t,d,z8 h⟩ o.dst v h1=some ⟨n,a,d,h1⟩)(e:(Nat.ble h.nx h1.low || kD ops bs m k t o)=true):kO c orc b aG ops bs m (j+1) k (o::r) ⟨n,t,d,h⟩=kO c orc b aG ops bs m j (k+1) r ⟨n,a,d,wW h h1⟩:=by rw[hp]at hs;show cond (yO ops t o) (match yG c orc b aG o ⟨n,t,d,z8 h⟩with|some (.normal,s')=>_|_=>none) _=_;rw[hw,oN,hs];show cond (Nat.ble h.nx h1.low || kD ops bs m k t o) (cond (ZR d d) (kO c orc b aG ops bs m j (k+1) r ⟨n,a,d,wW h h1⟩) none) none=_;rw[e,oN,cK,oN]
theorem Ba{orc:Nat->Ug->H->Option (V×H)}{b:Bool}{ops r:List Oper}{bs:Uf}{m k:Nat}{s:St}:kO c orc b aG ops bs m 0 k r s=Zp c orc b aG ops r s:=by cases r<;>rfl
theorem qW{h:H}{p:Nat}{o:Option O}(hl:h.low<=T.top):wW h ((z8 h).upd p o)=h.upd p o:=by
 obtain⟨t,n,l⟩:=h;show(⟨t.set p o,n,cond (Nat.ble l (cond (Nat.ble T.top p) T.top p)) l (cond (Nat.ble T.top p) T.top p)⟩:H)=⟨t.set p o,n,cond (Nat.ble l p) l p⟩;rcases hb:Nat.ble T.top p with _|_
 .rfl
 have:=oG hb;rw[oN,oE (show l<=T.top from hl),oE (oS (show l<=T.top from hl) this)];rfl
theorem Ay{t:TypeId}{h h':H}{a v:V}(e:jP c t h a v=some h'):∃p o',h'=h.upd p o'/\∀h1:H,(∀r,h1.get r=h.get r)->jP c t h1 a v=some (h1.upd p o'):=by
 unfold jP at e;split at e
 .rename_i b o;split at e
  .rename_i l esz op g;split at e
   .rename_i ti i;rcases d:we v.cells ti.size with _|_
    .grind
    rcases f:(cond (Nat.ble esz.fz o) (zU v.cells) false) with _|_
    .grind
    rw[d,f,oN,oN]at e;split at e
    .rename_i j k;exact⟨b,_,(Option.some.inj e).symm,λh1 m=>by unfold jP;grind⟩
    grind
   grind
  grind
 grind
theorem Ev{t:TypeId}{h h':H}{m x v:V}(e:Y8 c t h m x v=some h'):∃p o',h'=h.upd p o'/\∀h1:H,(∀r,h1.get r=h.get r)->Y8 c t h1 m x v=some (h1.upd p o'):=by
 unfold Y8 at e;split at e
 .rename_i ti j;split at e
  .rename_i kt _ r k;split at e
   .rename_i es l n;rcases a:Xn c kt x with _|_
    .grind
    rw[a,oN]at e;split at e
    .rename_i i b d;rcases f:Y5 b.key x with _|_
     .grind
     rw[f,oN]at e;exact⟨r,_,(Option.some.inj e).symm,λh1 g=>by simp_all[Y8]⟩
    .rename_i d;exact⟨r,_,(Option.some.inj e).symm,λh1 g=>by simp_all[Y8]⟩
    grind
   grind
  grind
 grind
theorem zB6{o:Oper}{e:Uh}{h h':H}{v:V}(hs:isS o=true)(hl:h.low<=T.top)(hd:aI P c o e h v h'):∃h1,aI P c o e (z8 h) v h1/\wW h h1=h'/\h'.nx=h.nx/\h'.low<=T.top/\Jt o=false:=by
 have r:∀p o',(h.upd p o').nx=h.nx/\(h.upd p o').low<=T.top:=λp o'=>by
  obtain⟨t,n,l⟩:=h;refine⟨rfl,?_⟩;show cond (Nat.ble l p) l p<=T.top;cases hb:Nat.ble l p with
  | true=>exact hl
  | false =>
   rw[oO];rcases Nat.le_total l p with g|g
   .rw[oE g]at hb;cases hb
   exact oS g hl
 have fin:∀p o',h'=h.upd p o'->wW h ((z8 h).upd p o')=h'/\h'.nx=h.nx/\h'.low<=T.top:=λp o' e=>by subst e;exact⟨qW hl,r _ _⟩
 unfold isS at hs;unfold aI at hd ⊢;unfold Jt;unfold xS at hd ⊢;split at hs
 .rename_i t a x f;rw[f]at hd ⊢;dsimp only at hd ⊢;cases hp:e a<;>cases b:e x<;>rw[hp,b]at hd<;>simp only[reduceCtorEq,false_and,exists_false,or_self]at hd;rename_i p u;cases d:jP c t h p u<;>rw[d]at hd<;>simp only[reduceCtorEq,false_or,false_and,exists_false,or_self,or_false,oA,AN.skip.injEq]at hd;obtain⟨rfl,rfl⟩:=hd;obtain⟨q,o',i,j⟩:=Ay d;obtain⟨f1,k,m⟩:=fin q o' i;exact⟨_,.inr (.inl ⟨by simp only[j (z8 h) λ_=>rfl],rfl⟩),f1,k,m,rfl⟩
 .rename_i t a x y f;rw[f]at hd ⊢;dsimp only at hd ⊢;cases hp:e a<;>cases b:e x<;>cases hw:e y<;>rw[hp,b,hw]at hd<;>simp only[reduceCtorEq,false_and,exists_false,or_self]at hd;rename_i p u w;cases d:Y8 c t h p u w<;>rw[d]at hd<;>simp only[reduceCtorEq,false_or,false_and,exists_false,or_self,or_false,oA,AN.skip.injEq]at hd;obtain⟨rfl,rfl⟩:=hd;obtain⟨q,o',i,j⟩:=Ev d;obtain⟨f1,k,m⟩:=fin q o' i;exact⟨_,.inr (.inl ⟨by simp only[j (z8 h) λ_=>rfl],rfl⟩),f1,k,m,rfl⟩
 cases hs
end
theorem YA{P:Program}{c:Ctx}{n:Nat}{tm:Tm}{Q:Ud}{K:AX->Kn->List AD->H->Prop}{ops:List Oper}{bs:Uf}{m:Nat}(G:∀x l d h,qd l->K x l d h->Q x ⟨n,yr tm l,d,h⟩):∀(r:List Oper) (j k:Nat) {t:Qs}{l:Kn}{d:List AD}{h:H},qd l->(0<j->h.nx<=T.top/\h.low<=T.top)->bT P c t->bS t ->
  Ks P c n tm ops bs m j k r t l d h K->∃a x s',(∀q∈t,q∈a)/\bT P c a/\bS a/\Q x s'/\∀orc b,I0 orc a->kO c orc b aG ops bs m j k r ⟨n,yr tm l,d,h⟩=some (.done x s')
 | [],j,k,t,l,d,h,hl,_,z,A,w=>⟨t,_,_,λ_ h=>h,z,A,G _ _ _ _ hl (by exact w),λ_ _ _=>by cases j<;>rfl⟩
 | o::r,j,k,t,l,d,h,hl,hb,z,A,w=>by
  rw[IK]at w;rw[T4 hl]at w;cases hw:yO ops (yr tm l) o with
  | false =>
   rw[hw]at w;obtain⟨I,i,w,hp⟩:=wu hl w;obtain⟨a,x,s',B,h2,h3,h4,h5⟩:=YA G r (j-1) (k+1) i (λg=>hb dd) z A w;refine⟨a,x,s',B,h2,h3,h4,λorc b s=>?_⟩;have:=h5 orc b s;cases j with
   | zero=>rw[Ba]at this ⊢;show cond (yO ops (yr tm l) o) _ (match wP ⟨n,yr tm l,d,h⟩ o.dst zZ h with|some s'=>Zp c orc b aG ops r s'|none=>none)=_;rw[hw,oO,hp];omega
   | succ j =>
    show cond (yO ops (yr tm l) o) _ (match wP ⟨n,yr tm l,d,h⟩ o.dst zZ h with|some s'=>kO c orc b aG ops bs m j (k+1) r s'|none=>none)=_
    grind
  | true =>
   rw[hw]at w;dsimp only at w;split at w
   .rename_i hpan hdp J;rw[rI hl]at J;cases j with
    | zero=>dsimp only at w;simp only[rI hl]at w;obtain⟨v,h',w,hd⟩:=Jl J (Zz (q8 w));obtain⟨p,B,h2,h3,w,h4⟩:=aY z A hd w;obtain⟨I,i,w,hp⟩:=wu hl w;obtain⟨a,x,s',u,C,D,E,O⟩:=YA G r 0 k i (λg=>dd) h2 h3 w;refine⟨a,x,s',λq y=>u q (B q y),C,D,E,λorc b s=>?_⟩;have:=O orc b s;rw[Ba]at this ⊢;show cond (yO ops (yr tm l) o) (match yG c orc b aG o ⟨n,yr tm l,d,h⟩with|some (.normal,s')=>Zp c orc b aG ops r s'|some (x,s')=>some (.done x s')|none=>none) _=_;rw[hw,oN,PO hd (h4 orc λq y=>s q (u q y)),hp];omega
    | succ j =>
     obtain⟨hn,L⟩:=hb dd;have fin:∀{v:V}{h':H}{p:Qs},aI P c o (yt (yr tm l)) (z8 h) v h'->(Nat.ble h.nx h'.low || kD ops bs m k (yr tm l) o)=true->h'.nx<=T.top->(∀q∈t,q∈p)->bT P c p->bS p->(∀h2,h2=wW h h'->Z2 n o.dst v l λI=>Ks P c n tm ops bs m j (k+1) r p I d h2 K) ->
       (∀orc,I0 orc p->∀f as,xS c o (yt (yr tm l)) (z8 h)=some (.call f as)->orc f as (z8 h)=some (v,h'))->∃a x s',(∀q∈t,q∈a)/\bT P c a/\bS a/\Q x s'/\∀orc b,I0 orc a->kO c orc b aG ops bs m (j+1) k (o::r) ⟨n,yr tm l,d,h⟩=some (.done x s'):=by
      intro v h' p hd S U B h2 h3 M h4;have W:(wW h h').low<=T.top:=by
       show cond (Nat.ble h.low h'.low) h.low h'.low<=_;cases hb:Nat.ble h.low h'.low with
       | true=>grind
       | false =>
        rw[oO]
        grind[oE]
      obtain⟨I,i,w,hp⟩:=wu hl (M _ rfl);obtain⟨a,x,s',u,C,D,E,O⟩:=YA G r j (k+1) (h:=wW h h') i (λ_=>⟨U,W⟩) h2 h3 w;refine⟨a,x,s',λq y=>u q (B q y),C,D,E,λorc b s=>?_⟩;rw[H3 hw (PO hd (h4 orc λq y=>s q (u q y))) (hp _ _ _) S]
      grind
     dsimp only at w;simp only[rI hl]at w;split at w
     .rename_i y;obtain⟨v,h',w,hd⟩:=Jl J (Zz (q8 w));obtain⟨I,i,w,hp⟩:=wu hl w;have X:∃an,xS c o (yt (yr tm l)) h=some an:=by rcases hd with g|⟨g,_⟩|⟨_,_,g,_⟩<;>exact⟨_,g⟩
      obtain⟨an,s⟩:=X;obtain⟨v2,h2,rfl,Y,N,Z⟩:=En y hn s;have hvh:v=v2/\h'=h2:=by
       rcases hd with g|⟨g,_⟩|⟨_,_,g,_⟩<;>rw[g]at s<;>cases s
       grind
      obtain⟨rfl,rfl⟩:=hvh;have heq:wW h (z8 h')=h':=by show(⟨h'.tbl,h'.nx,cond (Nat.ble h.low T.top) h.low T.top⟩:H)=h';rw[oE L,oN,<-N]
      obtain⟨a,x,s',u,C,D,E,O⟩:=YA G r j (k+1) i (λ_=>⟨Z,dd⟩) z A w;refine⟨a,x,s',u,C,D,E,λorc b s=>?_⟩;rw[H3 hw (PO (P:=P) (.inl Y) λf as e=>by grind) (hp _ _ _) (by show(Nat.ble h.nx T.top || _)=true;simp_all),heq]
      grind
     split at w
     .rename_i hs _;obtain⟨hst,w⟩:=PN w;obtain⟨v,h',w,hd⟩:=Jl J (Zz (q8 w));obtain⟨I,i,w,hp⟩:=wu hl w;obtain⟨B,hd1,e1,e2,e3,F⟩:=zB6 hs L hd;obtain⟨a,x,s',u,C,D,E,O⟩:=YA G r j (k+1) i (λ_=>⟨dd,e3⟩) z A w;refine⟨a,x,s',u,C,D,E,λorc b s=>?_⟩;rw[H3 hw (PO hd1 λf as e=>((Jo F).1 e).elim) (hp _ _ _) (by grind),e1]
      grind
     .have hA:isA ops o=true:=dd
      have F:Jt o=false:=by
       grind[isA,Jt]
      obtain⟨v,h',⟨R,M⟩,hd⟩:=Jl J (Zz (q8 w));obtain⟨a1,a2⟩:=PN R;exact fin hd (by grind) a2 (λ_ h=>h) z A M λ_ _ f as e=>((Jo F).1 e).elim
     obtain⟨v,h',w,hd⟩:=Jl J (Zz (q8 w));obtain⟨p,B,h2,h3,⟨R,M⟩,h4⟩:=aY z A hd w;exact fin hd R.ok R.nx B h2 h3 M h4
   grind
def NF(ops:List Oper):Bool:=ops.any λo=>o.after.toList.any λe=>!(Region.binds .any e)
theorem DW(ops:List Oper):Region.departs ops.toArray=NF ops:=by simp[Region.departs,NF]
def okL(ops:List Oper):Option Nat:=cond (XJ ops (yE ops []) 0 ops) (some (j6 (yE ops []) ops.length)) none
theorem zAy{ops:List Oper}(h:NF ops=false):j8 ops=okL ops:=by
 grind[j8,okL,DW]
def mL(ops:List Oper):Nat:=j6 (yE ops []) ops.length
def dOk(ops:List Oper):Bool:=match j8 ops with|some k=>Nat.beq k (mL ops)|none=>false
theorem DU{ops:List Oper}(e:dOk ops=true):j8 ops=some (mL ops):=by
 grind[dOk,oH]
section
variable (P:Program) (c:Ctx) (b:Bool) (n:Nat) (tm:Tm)
def Td(ops r:List Oper):Kn->List AD->H->Ud->(AX->Kn->List AD->H->Prop)->Prop :=
 List.rec (motive:=λ_=>Kn->List AD->H->Ud->(AX->Kn->List AD->H->Prop)->Prop) (λl d h _ K=>K .normal l d h) (λo _ ih l d h Q K =>
  match fU ops tm l o with
  | true=>(match Qe o.op,Dw o.op with
   | true,_=>False
   | false,true=>(match xS c o (rH tm l) h with|some (.dfr e)=>b=false/\Z2 n o.dst zZ l λa=>ih a (e::d) h Q K|_=>False)
   | false,false=>ZT c P o (rH tm l) h λv h'=>Z2 n o.dst v l λa=>ih a d h' Q K)
  | false=>Z2 n o.dst zZ l λa=>ih a d h Q K) r
theorem IG{ops r:List Oper}{o:Oper}{l:Kn}{d:List AD}{h:H}{Q:Ud}{K:AX->Kn->List AD->H->Prop}:Td P c b n tm ops (o::r) l d h Q K=(
  match fU ops tm l o with
  | true=>(match Qe o.op,Dw o.op with
   | true,_=>False
   | false,true=>(match xS c o (rH tm l) h with|some (.dfr a)=>b=false/\Z2 n o.dst zZ l λl'=>Td P c b n tm ops r l' (a::d) h Q K|_=>False)
   | false,false=>ZT c P o (rH tm l) h λv h'=>Z2 n o.dst v l λl'=>Td P c b n tm ops r l' d h' Q K)
  | false=>Z2 n o.dst zZ l λl'=>Td P c b n tm ops r l' d h Q K):=rfl
def fO(k:Kn->List AD->H->Prop)(K:AX->Kn->List AD->H->Prop):AX->Kn->List AD->H->Prop
 | .normal,l,d,h=>k l d h
 | e,l,d,h=>K e l d h
def XV(live:Uf)(j:Nat)(code:Code):Kn->List AD->H->Ud->(AX->Kn->List AD->H->Prop)->Prop :=
 Code.rec (motive:=λ_=>Kn->List AD->H->Ud->(AX->Kn->List AD->H->Prop)->Prop) (λl d h _ K=>K .normal l d h)
 (λ_ ops draw l d h Q K =>
  match draw with
  | false=>Td P c b n tm ops.toList ops.toList l d h Q K
  | true=>(match NF ops.toList with
   | true=>dOk ops.toList=true/\(h.nx<=T.top/\h.low<=T.top)/\Ks P c n tm ops.toList (yE ops.toList []) (mL ops.toList) (mL ops.toList) 0 ops.toList [] l d h K
   | false=>(match okL ops.toList with
    | some m=>(h.nx<=T.top/\h.low<=T.top)/\Ks P c n tm ops.toList (yE ops.toList []) m m 0 ops.toList [] l d h K
    | none=>False)))
 (λx y a i l d h Q K =>
  match G4 j x y with
  | true=>a l d h (thenC (sealK live λs1=>wpS P c live j b y s1 Q) Q) (fO (λl d h=>JE live l λr=>∀g,Has g r->wpS P c live j b y ⟨n,g,d,h⟩ Q) K)
  | false=>a l d h (thenC (λs1=>wpS P c live j b y s1 Q) Q) (fO (λl d h=>i l d h Q K) K))
 (λo _ _ a i l d h Q K=>match rH tm l o with
  | some v=>cy v λt=>match t with|true=>a l d h Q K|false=>i l d h Q K
  | none=>False)
 (λid _ a l d h Q K=>a l d h (λe s1=>Q (exitB id e) s1) (λe l d h=>K (exitB id e) l d h))
 (λx _ l d h Q _=>JE live l λr=>∀g,Has g r->wpC P c b (.loop x) ⟨n,g,d,h⟩ Q)
 (λf ps k body _ _ l d h Q _=>JE live l λr=>∀g,Has g r->RC P b (.rangeFunc f ps k body) ⟨n,g,d,h⟩ Q)
 (λid l d h _ K=>K (.exit id) l d h)
 (λ_ a l d h Q K=>a l d h Q K)
 (λ_ l d h _ K=>K .normal l d h)
 (λ_ _ _ _ _ _=>False)
 (λl d h _ K=>K .ret l d h)
 (λ_ _ _ _ _ _=>False) code
section
variable {live:Uf}{jn:Nat}{l:Kn}{d:List AD}{h:H}{Q:Ud}{K:AX->Kn->List AD->H->Prop}
theorem Te{i:Nat}{ops:Array Oper}{draw:Bool}:XV P c b n tm live jn (.region i ops draw) l d h Q K=(
  match draw with
  | false=>Td P c b n tm ops.toList ops.toList l d h Q K
  | true=>(match NF ops.toList with
   | true=>dOk ops.toList=true/\(h.nx<=T.top/\h.low<=T.top)/\Ks P c n tm ops.toList (yE ops.toList []) (mL ops.toList) (mL ops.toList) 0 ops.toList [] l d h K
   | false=>(match okL ops.toList with
    | some m=>(h.nx<=T.top/\h.low<=T.top)/\Ks P c n tm ops.toList (yE ops.toList []) m m 0 ops.toList [] l d h K
    | none=>False))):=rfl
theorem EO{x y:Code}:XV P c b n tm live jn (.seq x y) l d h Q K=(
  match G4 jn x y with
  | true=>XV P c b n tm live jn x l d h (thenC (sealK live λs1=>wpS P c live jn b y s1 Q) Q) (fO (λl d h=>JE live l λr=>∀a,Has a r->wpS P c live jn b y ⟨n,a,d,h⟩ Q) K)
  | false=>XV P c b n tm live jn x l d h (thenC (λs1=>wpS P c live jn b y s1 Q) Q) (fO (λl d h=>XV P c b n tm live jn y l d h Q K) K)):=rfl
theorem IJ{o:Operand}{x y:Code}:XV P c b n tm live jn (.cond o x y) l d h Q K=(match rH tm l o with
  | some v=>cy v λt=>match t with|true=>XV P c b n tm live jn x l d h Q K|false=>XV P c b n tm live jn y l d h Q K
  | none=>False):=rfl
end
end
variable {P:Program}{c:Ctx}{b:Bool}{n:Nat}{tm:Tm}{Q:Ud}{K:AX->Kn->List AD->H->Prop}
theorem uT(ok:CtxOK P c){ops:Array Oper}(j:∀x l d h,qd l->K x l d h->Q x ⟨n,yr tm l,d,h⟩):∀(r:List Oper) {l:Kn}{d:List AD}{h:H},qd l->Td P c b n tm (JG ops.toList) (JG r) l d h Q K->∃x s',SimO P b ops r ⟨n,yr tm l,d,h⟩ x s'/\Q x s'
 | [],l,d,h,hl,e=>⟨_,_,SimO.nil,j _ _ _ _ hl e⟩
 | o::r,l,d,h,hl,e=>by
  rw[show JG (o::r)=fK o::JG r from rfl,IG]at e;rw[T4 hl,T5]at e;cases hw:yO ops.toList (yr tm l) o with
  | false=>rw[hw]at e;obtain⟨g,a,e,hp⟩:=wu hl e;obtain⟨x,s',k,h2⟩:=uT ok j r a e;exact⟨x,s',SimO.off hw (hp _ _ _) k,h2⟩
  | true =>
   rw[hw]at e;dsimp only at e;have go:∀{g:Kn}{m:List AD}{h':H},qd g->StepW P b o ⟨n,yr tm l,d,h⟩ .normal ⟨n,yr tm g,m,h'⟩->Td P c b n tm (JG ops.toList) (JG r) g m h' Q K->∃x s',SimO P b ops (o::r) ⟨n,yr tm l,d,h⟩ x s'/\Q x s':=λa st e=>by obtain⟨x,s',k,h2⟩:=uT ok j r a e<;>grind[SimO.step]
   split at e
   .grind
   .rw[rI hl,aW]at e;split at e
    .rename_i p i;obtain⟨hb,e⟩:=e;obtain⟨g,a,e,hp⟩:=wu (tm:=tm) hl e;refine go a (StepW.of_step ok lm rP (b:=b) ?_) e;subst hb;unfold yG;dsimp only;rw[i];dsimp only;rw[oO,show wP ({ n:=n,tm:=yr tm l,dfr:=p::d,heap:=h }:St) o.dst zZ h=_ from hp _ _ _]
    grind
   simp only[rI hl]at e;have e:=Zz (q8 e);rw[aW]at e;cases i:xS c o (yt (yr tm l)) h with
   | none=>rw[i]at e;exact e.elim
   | some q =>
    rw[i]at e;cases q with
    | val v h'=>dsimp only [IT]at e;obtain⟨g,a,e,hp⟩:=wu (tm:=tm) hl e;refine go a (StepW.of_step ok lm rP ?_) e;unfold yG;dsimp only;rw[i];dsimp only;rw[show wP ({ n:=n,tm:=yr tm l,dfr:=d,heap:=h }:St) o.dst v h'=_ from hp _ _ _]
    | skip h'=>dsimp only [IT]at e;obtain⟨g,a,e,hp⟩:=wu (tm:=tm) hl e;refine go a (StepW.of_step ok lm rP ?_) e;unfold yG;dsimp only;rw[i];dsimp only;rw[show wP ({ n:=n,tm:=yr tm l,dfr:=d,heap:=h }:St) o.dst zZ h'=_ from hp _ _ _]
    | call f args=>obtain⟨v,h',⟨s,hs⟩,e⟩:=e;obtain⟨g,a,e,hp⟩:=wu (tm:=tm) hl e;exact go a (StepW.call ok i s hs (hp _ _ _)) e
    | round lp args=>obtain⟨v,h',hs,e⟩:=e;obtain⟨g,a,e,hp⟩:=wu (tm:=tm) hl e;exact go a (StepW.round ok i hs (hp _ _ _)) e
    | _=>exact e.elim
theorem uX{live:Uf}{E:Nat}:∀(code:Code) {l:Kn}{d:List AD}{h:H}{Q:Ud}{K:AX->Kn->List AD->H->Prop},(∀x l d h,qd l->K x l d h->Q x ⟨n,yr tm l,d,h⟩)->qd l->XV P c b n tm live E code l d h Q K->wpC P c b code ⟨n,yr tm l,d,h⟩ Q:=by
 intro code;induction code with
 | seq x y A B =>
  intro l d h Q K j hl e c0 ok g;obtain⟨p,z,rfl,rfl,rfl⟩:∃p z,c0 = .seq p z/\jm p=x/\jm z=y:=by cases c0<;>first|exact⟨_,_,rfl,Code.seq.inj g⟩|(rename_i r;cases r<;>cases g)|cases g
  rw[EO]at e;refine RC.seq ?_;cases hm:G4 E (jm p) (jm z)with
  | true =>
   rw[hm]at e;refine(A (K:=fO _ K) (λex l d h hl k=>?_) hl e p ok rfl).mono (λex s1 k=>?_)
   .cases ex<;>first|exact j _ _ _ _ hl k|exact qx (q:=λs=>wpS P c live E b (jm z) s Q) hl k
   cases ex<;>first|exact k|exact Lb (k:=λs1=>wpS P c live E b (jm z) s1 Q) k z ok rfl
  | false =>
   rw[hm]at e;refine(A (K:=fO _ K) (λex l d h hl k=>?_) hl e p ok rfl).mono (λex s1 k=>?_)
   .cases ex<;>first|exact j _ _ _ _ hl k|exact B j hl k
   cases ex<;>first|exact k|exact(show wpS P c live E b (jm z) s1 Q from k) z ok rfl
 | cond o x y A B =>
  intro l d h Q K j hl e c0 ok g;obtain⟨p,z,rfl,rfl,rfl⟩:∃p z,c0 = .cond o p z/\jm p=x/\jm z=y:=by cases c0<;>first|(obtain⟨rfl,h2,h3⟩:=Code.cond.inj g;exact⟨_,_,rfl,h2,h3⟩)|(rename_i r;cases r<;>cases g)|cases g
  simp only[IJ,rI hl]at e;split at e
  .rename_i v L;obtain⟨t,rfl,h2⟩:=uV e;refine RC.cond L ?_;cases t with
   | true=>exact A j hl h2 p ok rfl
   | false=>exact B j hl h2 z ok rfl
  grind
 | block id x ih =>
  intro l d h Q K j hl e c0 ok g;obtain⟨p,rfl,rfl⟩:∃p,c0 = .block id p/\jm p=x:=by cases c0<;>first|(obtain⟨rfl,h2⟩:=Code.block.inj g;exact⟨_,rfl,h2⟩)|(rename_i r;cases r<;>cases g)|cases g
  exact RC.block (ih (K:=λe l d h=>K (exitB id e) l d h) (λex l d h hl k=>j _ _ _ _ hl k) hl e p ok rfl)
 | scope x ih =>
  intro l d h Q K j hl e c0 ok g;obtain⟨p,rfl,rfl⟩:∃p,c0 = .scope p/\jm p=x:=by cases c0<;>first|exact⟨_,rfl,Code.scope.inj g⟩|(rename_i r;cases r<;>cases g)|cases g
  obtain⟨x,s1,I,h2⟩:=ih j hl e p ok rfl;exact⟨x,s1,λrd C=>SimC.scope (I rd C),h2⟩
 | loop x ih=>intro l d h Q K j hl e;exact Zr (qx (q:=λs=>wpC P c b (.loop x) s Q) hl e (yr tm l))
 | rangeFunc f ps F body =>
  intro l d h Q K j hl e c0 ok g;obtain rfl:c0 = .rangeFunc f ps F body:=by cases c0<;>first|exact g|(rename_i r;cases r<;>cases g)|cases g
  exact Zr (qx (q:=λs=>RC P b (.rangeFunc f ps F body) s Q) hl e (yr tm l))
 | skip=>intro l d h Q K j hl e c0 ok g;cases c0<;>first|exact⟨.normal,_,λ_ _=>SimC.skip _,j _ _ _ _ hl e⟩|(rename_i r;cases r<;>cases g)|cases g
 | label i=>intro l d h Q K j hl e c0 ok g;cases c0<;>first|exact⟨.normal,_,λ_ _=>SimC.label _ _,j _ _ _ _ hl e⟩|(rename_i r;cases r<;>cases g)|cases g
 | exit i=>intro l d h Q K j hl e c0 ok g;cases c0<;>first|(cases g;exact⟨.exit i,_,λ_ _=>SimC.exit i _,j _ _ _ _ hl e⟩)|(rename_i r;cases r<;>cases g)|cases g
 | ret=>intro l d h Q K j hl e c0 ok g;cases c0<;>first|exact⟨.ret,_,λ_ _=>SimC.ret _,j _ _ _ _ hl e⟩|(rename_i r;cases r<;>cases g)|cases g
 | region id ops draw =>
  intro l d h Q K j hl e c0 ok g;obtain⟨u,rfl,G⟩:∃u,c0 = .region id u draw/\ops=cond draw u ⟨JG u.toList⟩:=by cases c0<;>first|(rename_i r;cases r<;>(cases g<;>grind))|cases g
  rw[Te]at e;cases draw with
  | false=>rw[oO]at G;subst G;obtain⟨x,J,I,h2⟩:=uT ok j _ hl e;exact⟨x,J,λrd C ρ D w a k hl=>wpIn_region (I rd C _ (vH u) k.hr.lt hl (Mv.refl _ _ _ _) (by grind[zd])),h2⟩
  | true =>
   rw[oN]at G;subst G;have fin:∀m,j8 ops.toList=some m->h.nx<=T.top/\h.low<=T.top->Ks P c n tm ops.toList (yE ops.toList []) m m 0 ops.toList [] l d h K->RC P b (.region id ops true) ⟨n,yr tm l,d,h⟩ Q:=λm hm hb w=>by obtain⟨R,x,J,_,M,N,O,e⟩:=YA j ops.toList m 0 hl (λ_=>hb) (λ_ h=>by cases h) (λ_ h=>by cases h) w;exact RC.draw ok (C6 M) hm (e _ _ (Gj N)) O
   cases S:NF ops.toList with
   | true=>grind[DU]
   | false =>
    grind[zAy]
 | _=>intro l d h Q K j hl e;exact e.elim
def NN(live:Uf)(n:Nat)(Q:Ud)(x:AX)(l:Kn)(d:List AD)(h:H):Prop:=JE live l λr=>∀a,Has a r->Q x ⟨n,a,d,h⟩
theorem wpS.go{live:Uf}{a:Nat}{code:Code}{d:List AD}{h:H}{Q:Ud}{l:Kn}(hs:Has tm l)(e:(l.all λp=>Nat.blt p.1 511)=true)(hw:XV P c b n tm live a code l d h (yL live Q) (NN live n Q)):wpS P c live a b code ⟨n,tm,d,h⟩ Q:=by
 have hl:qd l:=λp hp=>(zW _ _).1 (List.all_eq_true.1 e p hp)
 have:=uX code (λx l d h hl k=>qx (q:=λs=>Q x s) hl k) hl hw;rw[fJ hs hl]at this;exact kF _ (λ_ _=>Lc) this
theorem wpC.go(live:Uf)(a:Nat){code:Code}{d:List AD}{h:H}{Q:Ud}{l:Kn}(hs:Has tm l)(e:(l.all λp=>Nat.blt p.1 511)=true)(hw:XV P c b n tm live a code l d h (yL live Q) (NN live n Q)):wpC P c b code ⟨n,tm,d,h⟩ Q:=BY _ (wpS.go hs e hw)
def SC:Ug->Nat->Kn->Kn
 | [],_,a=>a
 | v::l,i,a=>SC l (i+1) ((i,v)::a)
theorem eJ{tm:Tm}:∀(l:Ug) (i:Nat) (acc:Kn),yr tm (SC l i acc)=zy l i (yr tm acc)
 | [],_,_=>rfl
 | v::l,i,acc=>eJ l (i+1) ((i,v)::acc)
theorem eK:∀(l:Ug) (i:Nat) {acc:Kn},i+l.length<=511->qd acc->qd (SC l i acc)
 | [],_,_,_,h=>h
 | v::l,i,acc,hi,h=>eK l (i+1) (by grind) λp hp=>by
  rw[oc]at hi;rcases oq.1 hp with rfl|hp
  .omega
  exact h p hp
def zCu:List ResultVar->Bool
 | []=>true
 | .tmp _::l=>zCu l
 | _::_=>false
def Ck(tm:Tm)(l:Kn):List ResultVar->(Ug->Prop)->Prop
 | [],k=>k []
 | .tmp t::r,k=>(match Bu tm l t with|some v=>Ck tm l r λa=>k (v::a)|none=>False)
 | _::_,_=>False
def aB(tm:Tm)(l:Kn):List ResultVar->(List (ResultVar×V)->Prop)->Prop
 | [],k=>k []
 | .tmp t::r,k=>(match Bu tm l t with|some v=>aB tm l r λd=>k ((.tmp t,v)::d)|none=>False)
 | .cell a t::r,k=>(match Bu tm l a with|some v=>aB tm l r λd=>k ((.cell a t,v)::d)|none=>False)
def zGf:Ug->(V->Prop)->Prop
 | [v],k=>k v
 | l,k=>k (.tuple l)
variable (c) in
def H7(fi:FI)(tm:Tm)(Q:Uc)(l:Kn)(d:List AD)(h:H):Prop:=Kr d h λh'=>match zCu fi.results with
 | true=>Ck tm l fi.results λa=>zGf a λv=>Q v h'
 | false=>aB tm l fi.results λz=>endL c h' z Q
variable (c) in
def zDF(fi:FI)(tm:Tm)(Q:Uc):AX->Kn->List AD->H->Prop
 | .normal,l,d,h=>H7 c fi tm Q l d h
 | .ret,l,d,h=>H7 c fi tm Q l d h
 | _,_,_,_=>False
theorem Wg{tm:Tm}{l:Kn}{h:H}(hl:qd l){rs:List ResultVar}{q:Ug->Prop}:∀{r:List ResultVar}{acc:Ug}{k:Ug->Prop},Ck tm l r k->(∀vs,k vs->q (acc.reverse++vs))->match leave c rs (yr tm l) h r acc with|some vs=>q vs|none=>False
 | [],acc,k,e,f=>by have:=f [] e;rw[List.append_nil]at this;exact this
 | .tmp t::r,acc,k,e,f=>by simp only[Ck,rW hl]at e;exact Wg hl (acc:=zq (yr tm l) t::acc) e λvs a=>by grind
 | .cell _ _::_,_,_,e,_=>e.elim
theorem aC{tm:Tm}{l:Kn}:∀{r:List ResultVar}{k:List (ResultVar×V)->Prop},aB tm l r k->∃z,k z
 | [],_,e=>⟨[],e⟩
 | .tmp t::r,k,e=>by
  unfold aB at e;split at e
  .obtain⟨z,h⟩:=aC e<;>grind
  grind
 | .cell a t::r,k,e=>by
  unfold aB at e;split at e
  .obtain⟨z,h⟩:=aC e<;>grind
  grind
theorem u6{tm:Tm}{l:Kn}{h:H}(hl:qd l){rs:List ResultVar}{q:Ug->Prop}:∀{r:List ResultVar}{acc:Ug}{k:List (ResultVar×V)->Prop},aB tm l r k->(∀z,k z->match leaveL c h z acc with|some vs=>q vs|none=>False)->match leave c rs (yr tm l) h r acc with|some vs=>q vs|none=>False
 | [],acc,k,e,f=>f [] e
 | .tmp t::r,acc,k,e,f=>by simp only[aB,rW hl]at e;exact u6 hl (acc:=zq (yr tm l) t::acc) e λz d=>f _ d
 | .cell a t::r,acc,k,e,f=>by
  simp only[aB,rW hl]at e;show match (match ye c t h (zq (yr tm l) a)with|some v=>leave c rs (yr tm l) h r (v::acc)|none=>none)with|some vs=>q vs|none=>False
  have g:∀z,k ((.cell a t,zq (yr tm l) a)::z)->match (match ye c t h (zq (yr tm l) a)with|some v=>leaveL c h z (v::acc)|none=>none)with|some vs=>q vs|none=>False:=λz d=>f _ d
  cases i:ye c t h (zq (yr tm l) a)with
  | none=>obtain⟨z,d⟩:=aC e<;>grind
  | some v=>exact u6 hl (acc:=v::acc) e λz d=>by grind
theorem Fv{q:V->Prop}:∀{vs:Ug},zGf vs q->q (yC vs)
 | [],e=>e
 | [_],e=>e
 | _::_::_,e=>e
theorem fY{k k':H->Prop}(a:∀h,k h->k' h):∀{d:List AD}{h:H},Kr d h k->Kr d h k'
 | [],_,e=>a _ e
 | .coll id::d,h,e=>by
  unfold Kr at e ⊢;split at e
  .exact fY a e
  omega
 | .fn _ _ _::_,_,e=>e.elim
theorem gG{fi:FI}{Q:Uc}{l:Kn}{d:List AD}{h:H}(hl:qd l)(e:H7 c fi tm Q l d h):Kr d h λh'=>match leave c fi.results (yr tm l) h' fi.results []with|some vs=>Q (yC vs) h'|none=>False:=by
 refine fY (λh' e=>?_) e;split at e
 .grind[Wg,Fv]
 exact u6 (q:=λvs=>Q (yC vs) h') hl e λz a=>by unfold endL at a;exact a
theorem RF.go(ok:CtxOK P c)(live:Uf)(a:Nat){f:Nat}{fi:FI}{args:Ug}{h:H}{Q:Uc}(e:(c.fn.get f).map zG=some fi)(g:args.length<=fi.n)(i:fi.n<=511)(hw:XV P c false fi.n (Tb.leaf zZ) live a fi.body (SC args 0 []) [] h (endW c fi Q) (zDF c fi (Tb.leaf zZ) Q)):RF P c f args h Q:=by
 have j:qd []:=λp hp=>by cases hp
 refine RF.enter ok e g i ?_;have:=uX fi.body (λx l d h hl k=>?_) (eK args 0 dd j) hw
 .rw[eJ]at this;exact this
 cases x with
 | normal=>exact gG hl k
 | ret=>exact gG hl k
 | _=>exact k.elim
theorem RF.goD(ok:CtxOK P c)(live:Uf)(a:Nat){f:Nat}{fi:FI}{args:Ug}{h:H}{Q:Uc}(e:(c.fn.get f).map zG=some fi)(g:args.length<=fi.n)(i:fi.n<=511)(hw:XV P c false fi.n (Tb.leaf zZ) live a fi.body (SC args 0 []) [] h (endW1 P c fi Q) (NN live fi.n (endW1 P c fi Q))):RF P c f args h Q:=by
 have j:qd []:=λp hp=>by cases hp
 refine RF.enterD ok e g i ?_;have:=uX fi.body (λx l d h hl k=>Zr (qx (q:=λs=>endW1 P c fi Q x s) hl k _)) (eK args 0 dd j) hw;rw[eJ]at this;exact this
end
end Go.Sim
