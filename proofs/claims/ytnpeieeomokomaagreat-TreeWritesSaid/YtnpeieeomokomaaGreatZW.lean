/- W. No condition. -/
import Derived.Test.YtnpeieeomokomaaGreatZV
namespace Go.Sim
namespace Cs
def wf:Cs->Prop
 | .ls _=>True
 | .tb _ n=>n<=511
 | .big _ _ n=>n<=262143
theorem zJ1:∀{vs l:List V},vs.length<=l.length->∃r,zAa vs l=some r:=by
 intro vs
 induction vs with
 | nil=>intro l _;exact⟨l,rfl⟩
 | cons v vs ih =>
  intro l h;cases l with
  | nil=>simp at h
  | cons x l =>
   obtain⟨r,hr⟩:=ih (l:=l) (by simpa using h);exact⟨v::r,by simp only[zAa,hr]⟩
theorem splice_some:∀{n:Nat}{vs l:List V},n+vs.length<=l.length->∃r,jh n vs l=some r:=by
 intro n
 induction n with
 | zero=>intro vs l h;exact zJ1 (by omega)
 | succ n ih =>
  intro vs l h;cases l with
  | nil=>simp at h
  | cons x l =>
   obtain⟨r,hr⟩:=ih (vs:=vs) (l:=l) (by simp at h;omega);exact⟨x::r,by simp only[jh,hr]⟩
theorem put_some {cs:Cs}(hw:cs.wf) {o:Nat}{vs:List V}(h:o+vs.length<=cs.len):∃c',cs.put o vs=some c'/\c'.wf:=by
 cases cs with
 | ls l =>
  have h:o+vs.length<=l.length:=by simpa [len,zq]using h
  obtain⟨r,hr⟩:=splice_some h;exact⟨.ls r,by simp only[put,zW9,hr],trivial⟩
 | tb t n =>
  have h:o+vs.length<=n:=h;refine⟨.tb (qa vs o t) n,?_,hw⟩;have e1:Nat.ble (xr vs o) n=true:=oC (by rw[zq];omega);have e2:Nat.ble n 511=true:=oC hw;simp only[put,e1,e2,Bool.and_self,oK]
 | big d t n =>
  have h:o+vs.length<=n:=h;refine⟨.big d (wy vs o t) n,?_,hw⟩;have e1:Nat.ble (xr vs o) n=true:=oC (by rw[zq];omega);have e2:Nat.ble n 262143=true:=oC hw;simp only[put,e1,e2,Bool.and_self,oK]
theorem zGU {l:List V}{m:Nat}(h:m<=262143):∃c,zEK l m=some c/\c.wf:=by
 unfold zEK;cases h1:Nat.ble m 511 with
 | true=>exact⟨_,rfl,oE h1⟩
 | false =>
  have h2:Nat.ble m 262143=true:=oC h;simp only[h2,oK,oL];exact⟨_,rfl,h⟩
theorem zAj {l vs:List V}{m:Nat}(h:m<=262143):∃c,zIg l vs m=some c/\c.wf:=by
 unfold zIg;cases h1:Nat.ble m 16 with
 | true=>exact⟨_,rfl,trivial⟩
 | false=>exact zGU h
theorem ofL_some {l:List V}(h:l.length<=262143):∃c,ofL l=some c/\c.wf:=zAj (by rw[zq];omega)
theorem app_some {cs:Cs}{vs:List V}(h:cs.len+vs.length<=262143):∃c',cs.app vs=some c'/\c'.wf:=by
 cases cs with
 | ls l=>exact zAj (by have:(Cs.ls l).len=l.length:=(by simp[len,zq]);rw[zq,zq];omega)
 | tb t n =>
  have h:n+vs.length<=262143:=h;show ∃c',zP7 t n vs (xr vs n)=some c'/\_;unfold zP7;cases h1:Nat.ble (xr vs n) 511 with
  | true=>exact⟨_,rfl,oE h1⟩
  | false =>
   have h2:Nat.ble (xr vs n) 262143=true:=oC (by rw[zq];omega);simp only[h2,oK,oL];exact⟨_,rfl,oE h2⟩
 | big d t n =>
  have h:n+vs.length<=262143:=h;have h2:Nat.ble (xr vs n) 262143=true:=oC (by rw[zq];omega);exact⟨.big d (wy vs n t) (xr vs n),by simp only[app,h2,oK],oE h2⟩
theorem rep_some {v:V}{n:Nat}(h:n<=262143):∃c,rep v n=some c/\c.wf:=by
 unfold rep;cases h1:Nat.ble n 511 with
 | true=>exact⟨_,rfl,oE h1⟩
 | false =>
  have h2:Nat.ble n 262143=true:=oC h;simp only[h2,oK,oL];exact⟨_,rfl,h⟩
theorem range_is {cs:Cs}{o k:Nat}{x:List V}(hk:0<k) (hx:x.length=k) (h:∀i,i<k->cs.get? (o+i)=x[i]?):cs.range o k=some x:=by
 have hl:o+k<=cs.len:=by
  have h1:=h (k-1) (by omega);rw[oM (by omega)]at h1;have:=get_lt h1;omega
 obtain⟨y,hy⟩:=range_some hl;obtain⟨h1,_,h2⟩:=range_eq hy;rw[hy]
 congr 1
 apply List.ext_getElem?;intro i;by_cases hi:i<k
 ·rw[h2 i hi,h i hi]
 ·rw[oa (by omega),oa (by omega)]
end Cs
theorem zH {n:Int}(h1 : -9223372036854775808<=n) (h2:n<9223372036854775808):zL n=n:=by
 unfold zL;rw[xI];simp only[IntKind.wrap,IntKind.bits,IntKind.signed];simp;split<;>omega
structure Ext (h h':H) (n:Nat):Prop where
 le:h.next<=h'.next
 top:h'.next<=h.next+n
 get:∀b,b<h.next->h'.get b=h.get b
 low:h'.low<=h.low
 lo:min h.low h.next<=h'.low
theorem Ext.refl (h:H):Ext h h 0:=⟨oO _,oO _,λ_ _=>rfl,oO _,Nat.min_le_left _ _⟩
theorem Ext.trans {h h1 h2:H}{m n:Nat}(a:Ext h h1 m) (b:Ext h1 h2 n):Ext h h2 (m+n) :=
 ⟨oP a.le b.le,by have:=a.top;have:=b.top;omega,λi hi=>(b.get i (oI hi a.le)).trans (a.get i hi),oP b.low a.low,by have:=a.lo;have:=b.lo;have:=a.le;omega⟩
theorem Ext.mono {h h':H}{m n:Nat}(a:Ext h h' m) (hm:m<=n):Ext h h' n:=⟨a.le,by have:=a.top;omega,a.get,a.low,a.lo⟩
theorem zI (h:H) (o:O):(h.new o).next=h.next+1:=by rw[H.new_eq]
theorem zw {h:H}(o:O) (hn:h.next<T.top):(h.new o).get h.next=some o:=by rw[H.get_new _ _ _ hn,if_pos rfl]
theorem xh {h:H}(o:O) (hn:h.next<T.top) {b:Nat}(hb:b<h.next):(h.new o).get b=h.get b:=by rw[H.get_new _ _ _ hn,if_neg (by omega)]
theorem Ext.new {h:H}(o:O) (hn:h.next<T.top):Ext h (h.new o) 1:=⟨by rw[zI];omega,by rw[zI];omega,λb hb=>xh o hn hb,oO _,Nat.min_le_left _ _⟩
theorem xp {h:H}{b:Nat}(o:Option O) (hb:b<T.top):(h.upd b o).get b=o:=by rw[H.get_upd _ _ _ _ hb,if_pos rfl]
theorem yy {h:H}{b i:Nat}(o:Option O) (hb:b<T.top) (hi:i≠b):(h.upd b o).get i=h.get i:=by rw[H.get_upd _ _ _ _ hb,if_neg hi]
theorem Ext.upd {h0 h:H}{n b:Nat}(e:Ext h0 h n) (o:Option O) (hb:b<T.top) (hn:h0.next<=b):Ext h0 (h.upd b o) n :=
 ⟨e.le,e.top,λi hi=>by rw[yy o hb (by omega)];exact e.get i hi,by rw[H.low_upd];have:=e.low;omega,by rw[H.low_upd];have:=e.lo;omega⟩
theorem z0Z (h:H) (b:Nat):(za h).get b=h.get b:=rfl
theorem zXc (h:H):(za h).next=h.next:=rfl
theorem z0I (h h':H) (b:Nat):(yh h h').get b=h'.get b:=rfl
theorem zXb (h h':H):(yh h h').next=h'.next:=rfl
theorem zEC (h h':H):(yh h h').low=min h.low h'.low:=by
 show cond (Nat.ble h.low h'.low) h.low h'.low=_;cases hb:Nat.ble h.low h'.low with
 | true=>have:=oE hb;simp only[oK];omega
 | false =>
  have:¬h.low<=h'.low:=λe=>by rw[oC e]at hb;cases hb
  simp only[oL];omega
theorem Ext.drawn {h h':H}{n:Nat}(e:Ext (za h) h' n) (hn:h.next<=T.top):h.next<=h'.low/\Ext h (yh h h') n :=
  ⟨by have:=e.lo;have h1:(za h).low=T.top:=rfl;have h2:(za h).next=h.next:=rfl;omega,
   e.le,e.top,e.get,by rw[zEC];omega,by rw[zEC];have:=e.lo;have h1:(za h).low=T.top:=rfl;have h2:(za h).next=h.next:=rfl;omega⟩
section
variable {c:Ctx}
theorem zBa {t b o:Nat}{ti:TI}{h:H}{cs:Cs}{k:Rk}{w op:Bool}{v:V}(ht:c.ty.get t=some ti) (hd:xi ti.desc=false) (hg:h.get b=some (.cells cs k w op)) (hv:cs.get? o=some v):zO c t h (.ptr b o)=some v:=by
 unfold zO;simp only[hg,ht,hd,oL,hv]
theorem zHU {t b o:Nat}{ti:TI}{h:H}{cs:Cs}{k:Rk}{w op:Bool}{x:List V}(ht:c.ty.get t=some ti) (hd:xi ti.desc=true) (hg:h.get b=some (.cells cs k w op)) (hv:cs.range o ti.size=some x):zO c t h (.ptr b o)=some (.agg x):=by
 unfold zO;simp only[hg,ht,hd,oK,hv]
theorem k9 {t b o:Nat}{ti:TI}{h:H}{cs cs':Cs}{k:Rk}{op:Bool}{v:V}(ht:c.ty.get t=some ti) (hg:h.get b=some (.cells cs k true op)) (hl:wL v.cells ti.size=true) (hf:k.fz<=o) (ho:zU v.cells=true)
  (hp:cs.put o v.cells=some cs'):yA c t h (.ptr b o) v=some (h.upd b (some (.cells cs' k true op))):=by
 unfold yA;simp only[hg,ht,hl,oK,oC hf,ho,hp]
structure ExtX (S:Nat->Prop) (h h':H) (n:Nat):Prop where
 le:h.next<=h'.next
 top:h'.next<=h.next+n
 get:∀b,b<h.next->¬S b->h'.get b=h.get b
 low:h'.low<=h.low
 lo:∀m,m<=h.low->m<=h.next->(∀b,S b->m<=b)->m<=h'.low
theorem ExtX.of {S:Nat->Prop}{h h':H}{n:Nat}(e:Ext h h' n):ExtX S h h' n:=⟨e.le,e.top,λb hb _=>e.get b hb,e.low,λm h1 h2 _=>oP (Nat.le_min.2 ⟨h1,h2⟩) e.lo⟩
theorem ExtX.trans {S:Nat->Prop}{h h1 h2:H}{m n:Nat}(a:ExtX S h h1 m) (b:ExtX S h1 h2 n):ExtX S h h2 (m+n) :=
 ⟨oP a.le b.le,by have:=a.top;have:=b.top;omega,λi hi hs=>(b.get i (oI hi a.le) hs).trans (a.get i hi hs),oP b.low a.low,λk h1 h2 h3=>b.lo k (a.lo k h1 h2 h3) (oP h2 a.le) h3⟩
theorem ExtX.upd {S:Nat->Prop}{h h':H}{n b:Nat}(e:ExtX S h h' n) (o:Option O) (hb:b<T.top) (hs:S b\/h.next<=b):ExtX S h (h'.upd b o) n :=
 ⟨e.le,e.top,λi hi hn=>by
   rw[yy o hb (λg=>by subst g;exact hs.elim (λq=>hn q) (λq=>by omega))];exact e.get i hi hn,by rw[H.low_upd];have:=e.low;omega,λm h1 h2 h3=>by
   rw[H.low_upd];have:=e.lo m h1 h2 h3;rcases hs with q|q
   ·have:=h3 b q;omega
   ·omega⟩
theorem ExtX.ext {S:Nat->Prop}{h0 h h':H}{m n:Nat}(e:Ext h0 h m) (a:ExtX S h h' n) (hS:∀b,S b->h0.next<=b):Ext h0 h' (m+n) :=
 ⟨oP e.le a.le,by have:=a.top;have:=e.top;omega,λi hi=>(a.get i (oI hi e.le) (λq=>by have:=hS i q;omega)).trans (e.get i hi),oP a.low e.low,a.lo _ e.lo (oP (Nat.min_le_right _ _) e.le) λb hb=>oP (Nat.min_le_right _ _) (hS b hb)⟩
def Sl (h:H) (v:V) (esz n:Nat) (xs:List V):Prop :=
 xs.length=n*esz/\((v = .nilslice/\n=0)\/∃b o cp cs k w op,v = .slice b o n cp/\b<h.next/\h.get b=some (.cells cs k w op)/\∀i,i<n*esz->cs.get? (o+i)=xs[i]?)
theorem Sl.ext {h h':H}{v:V}{esz n m:Nat}{xs:List V}(s:Sl h v esz n xs) (e:Ext h h' m):Sl h' v esz n xs:=by
 obtain⟨h1,h2⟩:=s;refine⟨h1,h2.imp id ?_⟩;rintro⟨b,o,cp,cs,k,w,op,rfl,h3,h4,h5⟩;exact⟨b,o,cp,cs,k,w,op,rfl,oI h3 e.le,by rw[e.get b h3];exact h4,h5⟩
theorem Sl.len {h:H}{v:V}{esz n:Nat}{xs:List V}(s:Sl h v esz n xs) {t e:Nat}{ti:TI}(ht:c.ty.get t=some ti) (hd:ti.desc = .slice e):zc c t h v=some (.int .i64 n):=by
 obtain⟨_,⟨rfl,rfl⟩|⟨b,o,cp,cs,k,w,op,rfl,_⟩⟩:=s
 ·unfold zc;rw[ht];simp only[hd];rfl
 ·unfold zc;rw[ht];simp only[hd];rfl
theorem Sl.at {h:H}{v:V}{esz n i:Nat}{xs:List V}(s:Sl h v esz n xs) (hi:i<n) {t e:Nat}{ti te:TI}(ht:c.ty.get t=some ti) (hd:ti.desc = .slice e) (he:c.ty.get e=some te) (hs:te.size=esz) :
  ∃b o,zV c t v (.int .i64 i)=some (.ptr b o)/\∃cs k w op,h.get b=some (.cells cs k w op)/\∀j,j<esz->cs.get? (o+j)=xs[i*esz+j]?:=by
 obtain⟨_,⟨_,rfl⟩|⟨b,o,cp,cs,k,w,op,rfl,hb,hg,hc⟩⟩:=s
 ·omega
 ·refine⟨b,o+i*te.size,?_,cs,k,w,op,hg,λj hj=>?_⟩
  ·unfold zV
   show(match xB (Int.ofNat i),c.ty.get t with|some i,some ti=>_|_,_=>_)=_
   simp only[xB,ht,hd,he,(z8 _ _).2 hi,oK]
  ·rw[hs,Nat.add_assoc]
   refine hc _ ?_
   calc i*esz+j<i*esz+esz:=by omega
    _=(i+1)*esz:=by rw[Nat.succ_mul]
    _<=n*esz:=Nat.mul_le_mul_right _ hi
theorem Sl.at1 {h:H}{v:V}{n i:Nat}{xs:List V}(s:Sl h v 1 n xs) (hi:i<n) {t e:Nat}{ti te:TI}(ht:c.ty.get t=some ti) (hd:ti.desc = .slice e) (he:c.ty.get e=some te) (hs:te.size=1) (ha:xi te.desc=false) {u:V}(hu:xs[i]? = some u) :
  ∃b o,zV c t v (.int .i64 i)=some (.ptr b o)/\zO c e h (.ptr b o)=some u:=by
 obtain⟨b,o,h1,cs,k,w,op,hg,hc⟩:=s.at hi ht hd he hs;refine⟨b,o,h1,zBa he ha hg ?_⟩;have:=hc 0 (by omega);rw[Nat.mul_one]at this;simpa [hu]using this
def Ow (h:H) (v:V) (te:TI) (n:Nat) (xs:List V):Prop :=
 xs.length=n*te.size/\((v = .nilslice/\n=0)\/∃b cs,v = .slice b 0 n (.skip 0)/\b<h.next/\h.get b=some (.cells cs (wv te) true true)/\cs.wf/\cs.len=n*te.size/\∀i,i<n*te.size->cs.get? i=xs[i]?)
theorem Ow.sl {h:H}{v:V}{te:TI}{n:Nat}{xs:List V}(s:Ow h v te n xs):Sl h v te.size n xs:=by
 obtain⟨h1,h2⟩:=s;refine⟨h1,h2.imp id ?_⟩;rintro⟨b,cs,rfl,h3,h4,_,_,h5⟩;exact⟨b,0,_,cs,_,_,_,rfl,h3,h4,λi hi=>by rw[Nat.zero_add];exact h5 i hi⟩
def ym:V->Option Nat
 | .slice b _ _ _=>some b
 | _=>none
theorem Ow.keep {h h':H}{v:V}{te:TI}{n:Nat}{xs:List V}(s:Ow h v te n xs) (hn:h.next<=h'.next) (hg:∀b,ym v=some b->h'.get b=h.get b):Ow h' v te n xs:=by
 obtain⟨h1,h2⟩:=s;refine⟨h1,h2.imp id ?_⟩;rintro⟨b,cs,rfl,h3,h4,h5⟩;exact⟨b,cs,rfl,oI h3 hn,by rw[hg b rfl];exact h4,h5⟩
theorem Ow.ext {h h':H}{v:V}{te:TI}{n m:Nat}{xs:List V}(s:Ow h v te n xs) (e:Ext h h' m):Ow h' v te n xs:=by
 refine s.keep e.le λb hb=>e.get b ?_
 obtain⟨_,⟨rfl,_⟩|⟨b',cs,rfl,h3,_⟩⟩:=s
 ·cases hb
 ·cases hb;exact h3
theorem Ow.nil (h:H) (te:TI):Ow h .nilslice te 0 []:=⟨by simp,.inl ⟨rfl,rfl⟩⟩
theorem Sl.src {h:H}{v:V}{esz n:Nat}{xs:List V}(s:Sl h v esz n xs) (he:0<esz) (hn:0<n):yZ esz h v=some (n,xs):=by
 obtain⟨h0,⟨rfl,rfl⟩|⟨b,o,cp,cs,k,w,op,rfl,hb,hg,hc⟩⟩:=s
 ·omega
 ·unfold yZ
  simp only[hg];rw[Cs.range_is (Nat.mul_pos hn he) h0 hc]
theorem zEU {cs:Cs}{o:Nat}{vs:List V}(h:cs.len<o+vs.length):cs.put o vs=none:=by
 cases hp:cs.put o vs with
 | none=>rfl
 | some c'=>have:=(Cs.put_eq hp).1;omega
theorem jH {k:Rk}{te:TI}{h:H}{cs:Cs}{need:Nat}(hb:need*te.bytes<=1099511627776) (hn:h.next<T.top) :
  jS k te h (some cs) need=some (.slice h.next 0 need (.skip 0),h.new (.cells cs k true true)):=by
 unfold jS ky;rw[oC hb,oK,(z8 _ _).2 hn,oK]
theorem Ow.appTo {h:H}{v:V}{te:TI}{n m:Nat}{xs ys:List V}(s:Ow h v te n xs) (hys:ys.length=m*te.size) (hm:0<m) (hok:kc te=true)
  (ho:zU ys=true) (hsz:(n+m)*te.size<=262143) (hby:(n+m)*te.bytes<=1099511627776) (hn:h.next<T.top) :
  ∃v' h',Go.Sim.appTo te h m ys v=some (v',h')/\Ow h' v' te (n+m) (xs++ys)/\h.next<=h'.next/\h'.next<=h.next+1/\(∀b,b<h.next->ym v≠some b->h'.get b=h.get b)/\ym v'=some h.next/\h'.low<=h.low/\(∀m,m<=h.low->(∀b,ym v=some b->m<=b)->m<=h'.low):=by
 have hs0:0<te.size:=by
  unfold kc at hok;simp only[oG]at hok;exact(z8 _ _).1 hok.1.1
 have hmul:(n+m)*te.size=n*te.size+m*te.size:=Nat.add_mul _ _ _;obtain⟨h0,⟨rfl,rfl⟩|⟨b,cs,rfl,hb,hg,hw,hl,hc⟩⟩:=s
 ·have hx0:xs=[]:=List.eq_nil_of_length_eq_zero (by rw[h0];simp)
  subst hx0;obtain⟨cs,h1,h2⟩:=Cs.ofL_some (l:=ys) (by rw[hys];simp at hsz;omega);obtain⟨h3,h4⟩:=Cs.ofL_eq h1;refine⟨.slice h.next 0 m (.skip 0),h.new (.cells cs (wv te) true true),?_,?_,by rw[zI];omega,by rw[zI];omega,λb hb _=>xh _ hn hb,rfl,oO _,λm hm _=>hm⟩
  ·unfold Go.Sim.appTo
   have:Nat.beq m 0=false:=by cases hm0:Nat.beq m 0 with
    | false=>rfl
    | true=>have:=oF hm0;omega
   rw[this,oL,ho,oK,h1];exact jH (by simpa using hby) hn
  ·refine⟨by simp[hys],.inr ⟨h.next,cs,by rw[Nat.zero_add],by rw[zI];omega,zw _ hn,h2,by rw[h3,hys,Nat.zero_add],λi _=>by rw[h4];rfl⟩⟩
 ·obtain⟨cs',h1,h2⟩:=Cs.app_some (cs:=cs) (vs:=ys) (by rw[hl,hys];omega)
  obtain⟨h3,h4⟩:=Cs.app_eq h1;have hbt:b<T.top:=by omega
  have hn2:(kU h b).next<T.top:=hn;refine⟨.slice (kU h b).next 0 (n+m) (.skip 0),(kU h b).new (.cells cs' (wv te) true true),?_,?_,by rw[zI];exact Nat.le_succ _,by rw[zI];exact oO _,λi hi hne=>?_,rfl,(by show(h.upd b none).low<=_;rw[H.low_upd];exact Nat.min_le_left _ _),λm hm hb2=>(by show m<=(h.upd b none).low;rw[H.low_upd];exact Nat.le_min.2 ⟨hm,hb2 b rfl⟩)⟩
  ·unfold Go.Sim.appTo
   simp only[hg];unfold Yb;have e1:(true && true && Nat.beq te.size (wv te).n && Nat.beq 0 (0*te.size) && zU ys && Nat.ble (0+n*te.size) cs.len)=true:=by
    simp[wv,ho,hl]
   rw[e1,oK];have e2:Nat.beq m 0=false:=by cases hm0:Nat.beq m 0 with
    | false=>rfl
    | true=>have:=oF hm0;omega
   rw[e2,oL];have e3:Zg h b 0 n (.skip 0) te.size (n+m) cs (wv te) true ys=none:=by
    unfold Zg;have hpos:0<m*te.size:=Nat.mul_pos hm hs0;rw[zEU (by rw[hl,hys];omega)]
   rw[e3];simp only;unfold K6;have e4:(Nat.beq 0 0 && Nat.beq cs.len (0+n*te.size) && Nat.ble (wv te).fz (0+n*te.size) && (Nat.beq (wv te).ty 0 || Nat.beq (wv te).ty (te.id+1)))=true:=by
    simp[wv,hl]
   rw[e4,oK,h1];exact jH hby hn2
  ·refine⟨by rw[oR,h0,hys,hmul],.inr ⟨(kU h b).next,cs',rfl,by rw[zI];exact Nat.lt_succ_self _,zw _ hn2,h2,by rw[h3,hl,hys,hmul],λi hi=>?_⟩⟩
   rw[h4,hl];by_cases hi2:i<n*te.size
   ·rw[if_pos hi2,hc i hi2,List.getElem?_append_left (by rw[h0];exact hi2)]
   ·rw[if_neg hi2,List.getElem?_append_right (by rw[h0];omega),h0]
  ·have hne:i≠b:=λe=>hne (by rw[e];rfl)
   rw[xh _ hn2 (show i<(kU h b).next from hi)];exact yy _ hbt hne
theorem Ow.append {h:H}{v x:V}{te ti:TI}{n m t e:Nat}{xs ys:List V}(s:Ow h v te n xs) (hx:Sl h x te.size m ys) (hm:0<m) (ht:c.ty.get t=some ti) (hd:ti.desc = .slice e) (he:c.ty.get e=some te) (hok:kc te=true)
  (ho:zU ys=true) (hsz:(n+m)*te.size<=262143) (hby:(n+m)*te.bytes<=1099511627776) (hn:h.next<T.top) :
  ∃v' h',zo c t h v x=some (v',h')/\Ow h' v' te (n+m) (xs++ys)/\h.next<=h'.next/\h'.next<=h.next+1/\(∀b,b<h.next->ym v≠some b->h'.get b=h.get b)/\ym v'=some h.next/\h'.low<=h.low/\(∀m,m<=h.low->(∀b,ym v=some b->m<=b)->m<=h'.low):=by
 have hs0:0<te.size:=by
  unfold kc at hok;simp only[oG]at hok;exact(z8 _ _).1 hok.1.1
 have hap:zo c t h v x=Go.Sim.appTo te h m ys v:=by
  unfold zo;rw[ht];simp only[hd,he,hok,oK,hx.src hs0 hm]
 rw[hap];exact s.appTo hx.1 hm hok ho hsz hby hn
theorem kP {h:H}{t e:Nat}{ti te:TI}{z u:V}{ys:List V}(ht:c.ty.get t=some ti) (hd:ti.desc = .slice e) (he:c.ty.get e=some te) (hz:te.zero=some z) (hzl:wL z.cells te.size=true) (hu:u.cells=ys) (hl:ys.length=te.size) (hs:te.size<=16) (ho:zU ys=true)
  (hn:h.next<T.top):∃v h',zS c t 1 [(0,u)] h=some (v,h')/\Sl h' v te.size 1 ys/\Ext h h' 1/\ym v=some h.next:=by
 obtain⟨cs,h1,h2⟩:=Cs.ofL_some (l:=ys) (by rw[hl];omega);obtain⟨h3,h4⟩:=Cs.ofL_eq h1;refine⟨.slice h.next 0 1 (.exact 1),h.new (.cells cs ⟨0,e+1,0⟩ true false),?_,⟨by rw[hl,Nat.one_mul],.inr ⟨h.next,0,_,cs,_,_,_,rfl,by rw[zI];omega,zw _ hn,λi _=>by rw[h4,Nat.zero_add]⟩⟩,Ext.new _ hn,rfl⟩
 have hzl2:=yO.1 hzl;have hf:Zf c (λi=>some (i*te.size,te.size)) (yp z.cells 1) [(0,u)]=some ys:=by
  unfold Zf;simp only[Nat.zero_mul,hu];have:wL ys te.size=true:=yO.2 hl;rw[this,oK];have hz1:yp z.cells 1=z.cells:=by simp[yp]
  rw[hz1];obtain⟨r,hr⟩:=Cs.splice_some (n:=0) (vs:=ys) (l:=z.cells) (by rw[hl,hzl2];omega);rw[hr];simp only[Zf]
  congr 1
  obtain⟨g1,g2,g3⟩:=qD hr;apply List.ext_getElem?;intro i;rw[g3 i];by_cases hi:i<ys.length
  ·rw[if_pos ⟨oJ _,by omega⟩];rfl
  ·rw[if_neg (by omega),oa (by omega),oa (by omega)]
 unfold zS;rw[ht];simp only[hd,he,hz];have hb:Nat.ble (1*te.size) 1048576=true:=oC (by omega);rw[hb,oK,hzl,oK,hf];simp only;unfold qi ky;rw[ho,oK,(z8 _ _).2 hn,oK,h1]
end
end Go.Sim
