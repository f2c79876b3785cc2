/- TS. No condition. -/
import Derived.Test.YtnpeieeomokomaaGreatYTN
import Derived.Test.YtnpeieeomokomaaGreatYTO
import Derived.Test.YtnpeieeomokomaaGreatYTP
namespace Go.Proofs.YtnpeieeomokomaaGreat
open Go.Sim
variable{l p w:List Int}{S b m s:List UInt8}{v:Nat}
def wl(w:Wr):Nat:=8*w.s.length+w.n
def gb(w:Wr)(i:Nat):Nat:=if i<8*w.s.length then wI w.s i else w.p/2^(i-8*w.s.length) % 2
theorem zCv{p n b j:Nat}(hp:p<2^n)(hb:b<2):(p+b*2^n)/2^j % 2=if j=n then b else p/2^j % 2:=by
 rcases Nat.lt_trichotomy j n with h|h|h
 ·rw[if_neg (by omega)]
  obtain⟨d,rfl⟩:∃d,n=j+(d+1):=⟨n-j-1,by omega⟩;have:p+b*2^(j+(d+1))=p+(b*2^d*2)*2^j:=by rw[Nat.pow_add,Nat.pow_succ];congr 1;ac_rfl
  rw[this,Nat.add_mul_div_right _ _ (Nat.pow_pos (by decide)),Nat.add_mul_mod_self_right]
 ·subst h
  rw[if_pos rfl,Nat.add_mul_div_right _ _ (Nat.pow_pos (by decide)),Nat.div_eq_of_lt hp,Nat.zero_add,oe hb]
 ·rw[if_neg (by omega)]
  have h1:2^(n+1)<=2^j:=Nat.pow_le_pow_right (by decide) h;have h2:b*2^n<=1*2^n:=Nat.mul_le_mul_right _ (by omega);have h3:2^(n+1)=2*2^n:=Nat.pow_succ';rw[Nat.div_eq_of_lt (by omega),Nat.div_eq_of_lt (by omega)]
theorem zCS{t:List UInt8}{i:Nat}(h:i<8*s.length):wI (s++t) i=wI s i:=by
 unfold wI;rw[List.getElem?_append_left (by omega)]
theorem zL3{b:UInt8}{i:Nat}(h:8*s.length<=i)(h2:i<8*s.length+8):wI (s++[b]) i=b.toNat/2^(i-8*s.length) % 2:=by
 have e:i/8=s.length:=by omega
 have e2:i % 8=i-8*s.length:=by omega
 rw[Y0 (b:=b) (by rw[e,List.getElem?_append_right (oP _),Nat.sub_self];rfl),e2]
theorem zVB{w:Wr}{b:Nat}:wl (KC w b)=wl w+1:=by
 unfold KC wl;split
 ·simp only[oU,List.length_singleton];omega
 ·rfl
theorem zUy{w:Wr}{m b:Nat}(h:w.ok m)(hb:b<2)(i:Nat):gb (KC w b) i=if i=wl w then b else gb w i:=by
 obtain⟨hp,hn,_⟩:=h;unfold KC;by_cases c:w.n=7
 ·rw[if_pos c]
  unfold gb wl;simp only[oU,List.length_singleton];rw[c]at hp;have hlt:w.p+b*2^w.n<256:=by rw[c];omega
  by_cases c1:i<8*w.s.length
  ·rw[if_pos (by omega),zCS c1,if_neg (by omega),if_pos c1]
  ·by_cases c2:i<8*w.s.length+8
   ·rw[if_pos (by omega),zL3 (by omega) c2,if_neg c1,UInt8.toNat_ofNat',oe (show w.p+b*2^w.n<2^8 from hlt),c,zCv hp hb]
    by_cases c3:i=8*w.s.length+7
    ·rw[if_pos (by omega),if_pos c3]
    ·rw[if_neg (by omega),if_neg c3]
   ·rw[if_neg (by omega),if_neg (by omega),if_neg c1,Nat.zero_div]
    have:2^8<=2^(i-8*w.s.length):=Nat.pow_le_pow_right (by decide) (by omega);rw[Nat.div_eq_of_lt (by omega)]
 ·rw[if_neg c]
  unfold gb wl;simp only;by_cases c1:i<8*w.s.length
  ·rw[if_pos c1,if_neg (by omega),if_pos c1]
  ·rw[if_neg c1,if_neg c1,zCv hp hb]
   by_cases c3:i=8*w.s.length+w.n
   ·rw[if_pos (by omega),if_pos c3]
   ·rw[if_neg (by omega),if_neg c3]
theorem xQ{w:Wr}:∀k,wl (yC w v k)=wl w+k
 | 0=>rfl
 | k+1=>by unfold yC;rw[zVB,xQ k];rfl
theorem JR{w:Wr}{m:Nat}(h:w.ok m)(i:Nat):∀k,gb (yC w v k) i=if wl w<=i/\i<wl w+k then v/2^(i-wl w) % 2 else gb w i
 | 0=>by rw[if_neg (by omega)];rfl
 | k+1=>by
  unfold yC;rw[zUy (zj h k) (Nat.mod_lt _ (by decide)),xQ,JR h i k];by_cases c:i=wl w+k
  ·rw[if_pos c,if_pos (by omega)]
   have:i-wl w=k:=by omega
   rw[this]
  ·rw[if_neg c]
   by_cases c2:wl w<=i/\i<wl w+k
   ·rw[if_pos c2,if_pos (by omega)]
   ·rw[if_neg c2,if_neg (by omega)]
def Ag(w:Wr)(S:List UInt8):Prop:=wl w<=8*S.length/\∀i,i<wl w->wI S i=gb w i
theorem Ag.full{w:Wr}{m:Nat}(_h:w.ok m)(hn:w.n=0)(t:List UInt8):Ag w (w.s++t):=by
 refine⟨?_,λi hi=>?_⟩
 ·unfold wl;rw[oU];omega
 ·unfold wl at hi
  rw[zCS (by omega)];unfold gb;rw[if_pos (by omega)]
theorem Ag.of_put{w:Wr}{m k:Nat}(h:w.ok m)(g:Ag (yC w v k) S):Ag w S:=by
 obtain⟨h1,h2⟩:=g;rw[xQ]at h1 h2;exact⟨by omega,λi hi=>by rw[h2 i (by omega),JR h,if_neg (by omega)]⟩
theorem OJ{p:Nat}:∀n,(∀i,i<n->wI S (p+i)=v/2^i % 2)->yD S p n=v % 2^n
 | 0,_=>by show 0=_;rw[Nat.pow_zero,Nat.mod_one]
 | n+1,h=>by
  show yD S p n+wI S (p+n)*2^n=_;rw[OJ n λi hi=>h i (by omega),h n (by omega),Nat.pow_succ,Nat.mod_mul,Nat.mul_comm (2^n)]
theorem Ag.num{w:Wr}{m k:Nat}(h:w.ok m)(g:Ag (yC w v k) S){n:Nat}(hn:n<=k):yD S (wl w) n=v % 2^n:=by
 obtain⟨h1,h2⟩:=g;rw[xQ]at h1 h2;refine OJ n λi hi=>?_
 rw[h2 _ (by omega),JR h,if_pos (by omega)]
 congr 3
 omega
theorem Ag.le{w:Wr}{k:Nat}(g:Ag (yC w v k) S):wl w+k<=8*S.length:=by have:=g.1;rwa [xQ]at this
theorem zCP{w:Wr}{m left:Nat}(h:w.ok m)(_:0<left)(hv:v<=left+1)(g:Ag (yC w (wQ left v).2 (wQ left v).1) S):ke S left (wl w)=some (v,wl (yC w (wQ left v).2 (wQ left v).1)):=by
 obtain⟨f1,f2,f3⟩:=qm left;have hB:=OR left;have hle:=g.le;have hn:∀n,n<=(wQ left v).1->yD S (wl w) n=(wQ left v).2 % 2^n:=λn=>g.num h
 rw[xQ];have ht:K2 left=2^xL left-2-left:=rfl;unfold ke;unfold wQ at hn hle ⊢;by_cases c:v<K2 left
 ·rw[if_pos c]at hn hle ⊢
  simp only at hn hle ⊢;have e:yD S (wl w) (xL left-1)=v:=by rw[hn _ (oP _),oe (by omega)]
  rw[if_neg (by omega),e,if_pos c]
 ·rw[if_neg c]at hn hle ⊢
  by_cases c2:v<2^(xL left-1)
  ·rw[if_pos c2]at hn hle ⊢
   simp only at hn hle ⊢;have e1:yD S (wl w) (xL left-1)=v:=by rw[hn _ (by omega),oe c2]
   have e2:yD S (wl w) (xL left)=v:=by rw[hn _ (oP _),oe (by omega)]
   rw[if_neg (by omega),e1,if_neg c,if_neg (by omega),e2,if_neg (by omega)]
  ·rw[if_neg c2]at hn hle ⊢
   simp only at hn hle ⊢;have e2:yD S (wl w) (xL left)=v+K2 left:=by rw[hn _ (oP _),oe (by omega)]
   have e1:yD S (wl w) (xL left-1)=v+K2 left-2^(xL left-1):=by
    rw[hn _ (by omega),Nat.mod_eq_sub_mod (by omega),oe (by omega)]
   rw[if_neg (by omega),e1,if_neg (by omega),if_neg (by omega),e2,if_pos (by omega),Nat.add_sub_cancel]
theorem zIZ{w:Wr}{m:Nat}(h:w.ok m):∀(f z:Nat),∃k,(wL f w z).ok k:=by
 intro f
 induction f generalizing w m with
 | zero=>intro z;exact⟨_,zj h 2⟩
 | succ f ih =>
  intro z;unfold wL;split
  ·exact ih (zj h 2) _
  ·exact⟨_,zj h 2⟩
theorem Ag.of_zeros:∀{f z m:Nat}{w:Wr},w.ok m->Ag (wL f w z) S->Ag w S
 | 0,_,_,_,h,g=>g.of_put h
 | f+1,z,m,w,h,g=>by
  unfold wL at g;split at g
  ·exact(Ag.of_zeros (zj h 2) g).of_put h
  ·exact g.of_put h
theorem KW{S:List UInt8}:∀{f z m n F:Nat}{w:Wr},w.ok m->Ag (wL f w z) S->z<=f->f<F->n+z<=12->yh S 12 F (wl w) n=some (n+z,wl (wL f w z))
 | f,z,m,n,0,w,_,_,_,hF,_=>absurd hF (Nat.not_lt_zero _)
 | f,z,m,n,F+1,w,h,g,hz,hF,hn=>by
  have one:∀z,z<3->n+z<=12->Ag (yC w z 2) S->yh S 12 (F+1) (wl w) n=some (n+z,wl (yC w z 2)):=λz hz hn g=>by
   have hle:=g.le;have e:yD S (wl w) 2=z:=by rw[g.num h (oP _),oe (by omega)]
   unfold yh;rw[if_neg (by omega),e,if_neg (by omega),if_neg (by omega),xQ]
  cases f with
  | zero=>exact one z (by omega) hn g
  | succ f =>
   unfold wL at g ⊢;by_cases c:3<=z
   ·rw[if_pos c]at g ⊢
    have g1:=Ag.of_zeros (zj h 2) g;have hle:=g1.le;have e:yD S (wl w) 2=3:=by rw[g1.num h (oP _)]
    have ih:=KW (F:=F) (n:=n+3) (zj h 2) g (by omega) (by omega) (by omega);rw[xQ]at ih;unfold yh;rw[if_neg (by omega),e,if_neg (by omega),if_pos rfl,ih]
    congr 2
    omega
   ·rw[if_neg c]at g ⊢
    exact one z (by omega) hn g
theorem zIV:∀{f left m:Nat}{w:Wr}(l:List Int),w.ok m->∃k,(xC f w left l).ok k
 | 0,_,m,_,_,h=>⟨m,by unfold xC;exact h⟩
 | f+1,_,m,_,[],h=>⟨m,by unfold xC;exact h⟩
 | f+1,left,m,w,p::l,h=>by
  unfold xC;split
  ·exact zIV l (zj h _)
  ·obtain⟨k,hk⟩:=zIZ (zj (v:=(wQ left 1).2) h (wQ left 1).1) l.length (yq l)
   exact zIV _ hk
theorem Ag.of_probs:∀{f left m:Nat}{w:Wr}(l:List Int),w.ok m->Ag (xC f w left l) S->Ag w S
 | 0,_,m,_,_,h,g=>by unfold xC at g;exact g
 | f+1,_,m,_,[],h,g=>by unfold xC at g;exact g
 | f+1,left,m,w,p::l,h,g=>by
  unfold xC at g;split at g
  ·exact(Ag.of_probs l (zj h _) g).of_put h
  ·obtain⟨k,hk⟩:=zIZ (zj (v:=(wQ left 1).2) h (wQ left 1).1) l.length (yq l)
   exact(Ag.of_zeros (zj h _) (Ag.of_probs _ hk g)).of_put h
theorem zBF:∀l:List Int,l=List.replicate (yq l) 0++l.drop (yq l)
 | []=>rfl
 | x::l=>by
  unfold yq;by_cases c:x=0
  ·rw[if_pos c,List.replicate_succ,List.drop_succ_cons,List.cons_append,<-zBF l,c]
  ·rw[if_neg c];rfl
theorem zLW(k:Nat)(l:List Int):pts (List.replicate k 0++l)=pts l:=by
 induction k with
 | zero=>rfl
 | succ k ih=>rw[List.replicate_succ,List.cons_append,yr,ih];simp[pt]
theorem zKy{x:Int}(h:(x::l).getLast?≠some 0)(hl:l≠[]):l.getLast?≠some 0:=by
 rw[List.getLast?_cons]at h;cases e:l.getLast? with
 | none=>rw[List.getLast?_eq_none_iff]at e;exact absurd e hl
 | some y=>rw[e]at h;exact h
theorem Zs{S:List UInt8}:∀{f left m F:Nat}{w:Wr}(done l:List Int),w.ok m->Ag (xC f w left l) S->l.length<=f->f<F->done.length+l.length<=12->(∀x∈l,-1<=x)->(l≠[]->l.getLast?≠some 0)->pts l=left ->
  yg S 12 F left (wl w) done=some (done++l,wl (xC f w left l))
 | f,left,m,0,w,done,l,_,_,_,hF,_,_,_,_=>absurd hF (Nat.not_lt_zero _)
 | f,left,m,F+1,w,done,[],h,g,hf,hF,hd,hlo,hla,hp=>by
  have e:xC f w left []=w:=by cases f<;>rfl
  have:left=0:=by simp[pts]at hp;omega
  unfold yg;rw[if_pos this,e,List.append_nil]
 | 0,left,m,F+1,w,done,p::l,h,g,hf,hF,hd,hlo,hla,hp=>by simp at hf
 | f+1,left,m,F+1,w,done,p::l,h,g,hf,hF,hd,hlo,hla,hp=>by
  rw[oV]at hf hd;rw[yr]at hp;have hp1:=hlo p (by simp);have hl0:0<=pts l:=by
   have:=xU (l:=l) λx hx=>hlo x (by simp[hx])
   omega
  have hla2:∀k,l.drop k≠[]->(l.drop k).getLast?≠some 0:=λk hk=>by
   have hl:l≠[]:=by intro e;rw[e]at hk;simp at hk
   have:=zKy (hla (by simp)) hl
   rwa [List.getLast?_drop,if_neg]
   intro q;exact hk (List.drop_eq_nil_of_le q)
  unfold xC at g ⊢;by_cases c:p≠0
  ·rw[if_pos c]at g ⊢
   have hpt:0<pt p:=by unfold pt;split<;>omega
   have h0:0<left:=by omega
   have hv:(p+1).toNat<=left+1:=by
    have:p<=pt p:=by unfold pt;split<;>omega
    omega
   have g1:=Ag.of_probs l (zj h _) g;have e1:=zCP h h0 hv g1;have ih:=Zs (F:=F) (done++[p]) l (zj h _) g (by omega) (by omega) (by simp;omega) (λx hx=>hlo x (by simp[hx])) (by have:=hla2 0;rwa [List.drop_zero]at this) (by omega)
   unfold yg;rw[if_neg (by omega),e1];simp only;rw[if_neg (by omega),if_neg (by omega)];have e2:(((p+1).toNat:Nat):Int)-1=p:=by omega
   have e3:left-max ((p+1).toNat-1) 1=left-(pt p).toNat:=by
    unfold pt;split<;>omega
   rw[e2,e3,ih,List.append_assoc];rfl
  ·have c:p=0:=by omega
   rw[if_neg (by omega)]at g ⊢;subst c;have hlne:l≠[]:=by intro e;rw[e]at hla;exact hla (by simp) rfl
   have hzl:=OV l;have hsp:=zBF l;have hdn:l.drop (yq l)≠[]:=by
    intro e;rw[e,List.append_nil]at hsp;have:=hla2 0 (by rwa [List.drop_zero]);rw[List.drop_zero,hsp,List.getLast?_replicate]at this;split at this
    ·rename_i q
     rw[q]at hsp;exact hlne hsp
    ·exact this rfl
   have hpd:pts (l.drop (yq l))=pts l:=by
    conv=>rhs;rw[hsp]
    rw[zLW]
   have h0:0<left:=by
    have e0:pt 0=0:=rfl;have:=xU (l:=l.drop (yq l)) λx hx=>hlo x (by simp[List.mem_of_mem_drop hx])
    have hne:(l.drop (yq l)).getLast?≠some 0:=hla2 _ hdn;obtain⟨y,hy⟩:∃y,(l.drop (yq l)).getLast? = some y:=by
     cases e:(l.drop (yq l)).getLast? with
     | none=>rw[List.getLast?_eq_none_iff]at e;exact absurd e hdn
     | some y=>exact⟨y,rfl⟩
    have hym:y∈l.drop (yq l):=List.mem_of_getLast? hy;have:=OP (l:=l.drop (yq l)) (λx hx=>hlo x (by simp[List.mem_of_mem_drop hx])) hym
    have:y≠0:=λq=>hne (by rw[hy,q])
    omega
   obtain⟨k,hk⟩:=zIZ (zj (v:=(wQ left 1).2) h (wQ left 1).1) l.length (yq l);have g2:=Ag.of_probs _ hk g;have g1:=Ag.of_zeros (zj h _) g2;have e1:=zCP h h0 (v:=1) (by omega) g1;have e2:=KW (n:=done.length+1) (F:=13) (zj h _) g2 hzl (by omega) (by omega);have ih:=Zs (F:=F) (done++List.replicate (yq l+1) 0) (l.drop (yq l)) hk g (by rw[List.length_drop];omega) (by omega) (by simp only[oU,List.length_replicate,List.length_drop];omega) (λx hx=>hlo x (by simp[List.mem_of_mem_drop hx])) (λq=>hla2 _ q) (by rw[hpd];have:pt 0=0:=rfl;omega)
   unfold yg;rw[if_neg (by omega),e1];simp only;rw[if_neg (by omega),if_pos trivial,e2];simp only;have e3:done.length+1+yq l-done.length=yq l+1:=by omega
   rw[e3,ih,List.append_assoc,List.replicate_succ,List.cons_append,<-hsp]
theorem zHt(g:GD 5 p)(t:List UInt8):∃q,xW (zBW 5 p++t) 6 12=some (5,p,q)/\(q+7)/8=(zBW 5 p).length:=by
 have o0:Wr.ok ⟨[],0,0⟩ 0:=⟨by decide,by decide,by decide⟩;have o1:=zj (v:=5-5) o0 4;obtain⟨k,hk⟩:=zIV (f:=p.length) (left:=2^5) p o1;have hk:(wW 5 p).ok k:=hk;have hf:=zj (v:=0) hk ((8-(wW 5 p).n) % 8);have hwl:wl (yC (wW 5 p) 0 ((8-(wW 5 p).n) % 8))=wl (wW 5 p)+(8-(wW 5 p).n) % 8:=xQ _;have hn0:(yC (wW 5 p) 0 ((8-(wW 5 p).n) % 8)).n=0:=by
  have h1:=hf.n;have h2:=hk.n;unfold wl at hwl;omega
 have ag:=Ag.full hf hn0 t;have ag1:Ag (wW 5 p) (zBW 5 p++t):=Ag.of_put hk ag;have ag0:=Ag.of_probs p o1 ag1;have e0:yD (zBW 5 p++t) 0 4=0:=ag0.num o0 (oP _);have l0:=ag0.le;have w0:wl ⟨[],0,0⟩=0:=rfl;have w4:wl (yC ⟨[],0,0⟩ (5-5) 4)=4:=xQ _;have main:=Zs (F:=12+2) [] p o1 ag1 (oP _) (by have:=g.len;omega) (by simpa using g.len) g.low (λ_=>g.last) (by rw[g.pts];rfl);rw[w4,List.nil_append]at main;refine⟨wl (wW 5 p),?_,?_⟩
 ·unfold xW
  rw[e0,if_neg (by rw[w0]at l0;omega),if_neg (by omega)];rw[show 2^(0+5)=2^5 from rfl,main];rfl
 ·have:(zBW 5 p).length=(yC (wW 5 p) 0 ((8-(wW 5 p).n) % 8)).s.length:=rfl
  rw[this];unfold wl at hwl ⊢;have h2:=hk.n;omega
def rsm(f:Int->Int):List Int->Nat->Int | [],_=>0|p::l,s=>(if p = -1 then f s else 0)+rsm f l (s+1)
def qsm(f:Int->Int):List Int->Nat->Int | [],_=>0|p::l,s=>p.toNat*f s+qsm f l (s+1)
def asm(f:Int->Int):List Int->Nat->Int | [],_=>0|p::l,s=>p.natAbs*f s+asm f l (s+1)
theorem zMW(f:Int->Int):∀{l:List Int}{s:Nat},(∀x∈l,-1<=x)->asm f l s=rsm f l s+qsm f l s
 | [],_,_=>rfl
 | p::l,s,h=>by
  unfold asm rsm qsm;rw[zMW f (l:=l) (s:=s+1) λx hx=>h x (by simp[hx])]
  have hp:=h p (by simp);by_cases c:p = -1
  ·subst c
   rw[if_pos rfl];show((1:Nat):Int)*f s+_=f s+_+(((0:Nat):Int)*f s+_);simp only[Int.natCast_one,Int.one_mul,Int.natCast_zero,Int.zero_mul];omega
  ·rw[if_neg c]
   have:p.natAbs=p.toNat:=by omega
   rw[this];omega
theorem zA5(f:Int->Int)(f0:f 0=0):∀{l:List Int}{s n:Nat}{out:List Int},yU l<=n->n<=out.length->(∀i,n-yU l<=i->i<n->out[i]? = some 0)->Y8 f (qL l s n out)=Y8 f out+rsm f l s
 | [],_,_,_,_,_,_=>by simp[qL,rsm]
 | p::l,s,n,out,hr,hn,h=>by
  rw[wo]at hr h;unfold qL rsm;by_cases c:p = -1
  ·rw[if_pos c]at hr h
   rw[if_pos c,if_pos c];rw[zA5 f f0 (by omega) (by rw[oh];omega) λi h1 h2=>?_,OK f out (n-1) 0 s (h _ (by omega) (by omega)),f0]
   ·omega
   ·rw[oY (by omega)]
    exact h i (by omega) (by omega)
  ·rw[if_neg c]at hr h
   rw[if_neg c,if_neg c];rw[zA5 f f0 (by omega) hn λi h1 h2=>h i (by omega) h2]
   omega
theorem zA7:∀{l:List Int}{s n q:Nat}{out:List Int},yU l<=n->q<n-yU l->(qL l s n out)[q]? = out[q]?
 | [],_,_,_,_,_,_=>rfl
 | p::l,s,n,q,out,hr,h=>by
  rw[wo]at hr h;unfold qL;by_cases c:p = -1
  ·rw[if_pos c]at hr h
   rw[if_pos c,zA7 (by omega) (by omega),oY (by omega)]
  ·rw[if_neg c]at hr h
   rw[if_neg c,zA7 (by omega) (by omega)]
theorem zFv(f:Int->Int)(f0:f 0=0){log m s:Nat}(hl:log=5\/log=6)(hm:m<=12):∀{c k:Nat}{out:List Int},k+c<=2^log-m->(∀j,k<=j->j<k+c->out[JV log m j]? = some 0)->Y8 f (Zo log m s c k out)=Y8 f out+c*f s
 | 0,_,_,_,_=>by simp[Zo]
 | c+1,k,out,hk,h=>by
  unfold Zo;rw[zFv f f0 hl hm (by omega) λj h1 h2=>?_,OK f out _ 0 s (h k (oP _) (by omega)),f0]
  ·rw[Int.natCast_add,Int.add_mul]
   simp only[Int.natCast_one,Int.one_mul];omega
  ·rw[oY (OO hl hm (by omega) (by omega) (by omega))]
   exact h j (by omega) (by omega)
theorem zFx(f:Int->Int)(f0:f 0=0){log m:Nat}(hl:log=5\/log=6)(hm:m<=12):∀{l:List Int}{s k:Nat}{out:List Int},k+Jf l<=2^log-m->(∀j,k<=j->j<k+Jf l->out[JV log m j]? = some 0)->Y8 f (ZV log m l s k out)=Y8 f out+qsm f l s
 | [],_,_,_,_,_=>by simp[ZV,qsm]
 | p::l,s,k,out,hk,h=>by
  rw[qh]at hk h;unfold ZV qsm;rw[zFx f f0 hl hm (by omega) λj h1 h2=>?_,zFv f f0 hl hm (by omega) λj h1 h2=>h j h1 (by omega)]
  ·omega
  ·rw[YY λi h3 h4=>OO hl hm (by omega) (by omega) (by omega)]
   exact h j (by omega) (by omega)
theorem zGT(f:Int->Int)(f0:f 0=0){log:Nat}(g:GD log p):Y8 f (z7 log p)=asm f p 0:=by
 have hm:yU p<=12:=oQ (Xv p) g.len;have hp:=yz g.lg;have hc:=g.cells;have hrep:∀i,i<2^log->(List.replicate (2^log) (0:Int))[i]? = some 0:=λi hi=>by rw[List.getElem?_replicate,if_pos hi]
 rw[zMW f g.low];unfold z7;rw[zFx f f0 g.lg hm (by omega) λj _ h2=>?_,zA5 f f0 (by omega) (by simp) λi _ h2=>hrep i h2,zAF f f0 _ λx hx=>List.eq_of_mem_replicate hx]
 ·omega
 ·have:=XP g.lg hm j
  rw[zA7 (by omega) this];exact hrep _ (by omega)
def ind(x v:Int):Int:=if v=x then 1 else 0
def inz(v:Int):Int:=if v=0 then 0 else 1
theorem zMX{x:Int}:∀{l:List Int}{s:Nat},x<s->asm (ind x) l s=0
 | [],_,_=>rfl
 | p::l,s,h=>by
  unfold asm;rw[zMX (by omega)];have:ind x s=0:=by unfold ind;rw[if_neg (by omega)]
  rw[this];simp
theorem zMV:∀{l:List Int}{s i:Nat},asm (ind ((s+i:Nat):Int)) l s=((l[i]?.getD 0).natAbs:Nat)
 | [],_,_=>rfl
 | p::l,s,0=>by
  unfold asm;rw[zMX (by omega)];have:ind ((s+0:Nat):Int) s=1:=by unfold ind;rw[if_pos (by simp)]
  rw[this];simp
 | p::l,s,i+1=>by
  unfold asm;have e:s+(i+1)=s+1+i:=by omega
  rw[e,zMV];have:ind ((s+1+i:Nat):Int) s=0:=by unfold ind;rw[if_neg (by omega)]
  rw[this];simp
theorem zMY:∀{l:List Int}{s:Nat},1<=s->(∀x∈l,-1<=x)->asm inz l s=pts l
 | [],_,_,_=>rfl
 | p::l,s,h,hl=>by
  unfold asm;rw[zMY (by omega) λx hx=>hl x (by simp[hx]),yr]
  have:inz s=1:=by unfold inz;rw[if_neg (by omega)]
  have hp:=hl p (by simp);rw[this];unfold pt;split<;>omega
theorem zNH:∀l:List Int,Y8 (ind 0) l=l.length-Y8 inz l
 | []=>rfl
 | x::l=>by
  unfold Y8;rw[zNH l,oV];have:ind 0 x+inz x=1:=by unfold ind inz;split<;>rfl
  omega
theorem kO(x:Int)(l:List Int)(s:Nat):xB (x::l) s=(if x=(s:Int) then 1 else 0)+xB l s:=by
 unfold xB;rw[List.filter_cons];by_cases c:x=(s:Int)
 ·rw[if_pos c,if_pos (by simp[c]),oV];omega
 ·rw[if_neg c,if_neg (by simp[c])];omega
theorem zGW(s:Nat):∀l:List Int,((xB l s:Nat):Int)=Y8 (ind s) l
 | []=>rfl
 | x::l=>by
  unfold Y8;rw[<-zGW s l,kO];unfold ind;split<;>omega
theorem zLd{log:Nat}(g:GD log p)(s:Nat):xB (z7 log p) s=kE p s:=by
 have h:=zGW s (z7 log p);unfold kE;rw[oX];cases s with
 | zero =>
  rw[show((0:Nat):Int)=0 from rfl,zNH,jO,zGT inz rfl g]at h;have hp:=g.pos;have hpt:=g.pts;have hlo:=g.low;cases p with
  | nil=>simp at hp
  | cons x l =>
   have e:asm inz (x::l) 0=pts l:=by
    unfold asm;rw[zMY (oP _) λy hy=>hlo y (by simp[hy])]
    have:inz ((0:Nat):Int)=0:=rfl;rw[this];simp
   rw[yr]at hpt;rw[e]at h;have hx:=hlo x (by simp);have e2:pt x=(x.natAbs:Nat):=by unfold pt;split<;>omega
   have e3:((2^log:Nat):Int)=2^log:=by simp
   show xB _ 0=x.natAbs;omega
 | succ s =>
  rw[zGT _ (by unfold ind;rw[if_neg (by omega)]) g]at h;have:=zMV (l:=p) (s:=0) (i:=s+1);rw[Nat.zero_add]at this;rw[this]at h;omega
theorem zPy(a b:List Int)(s:Nat):xB (a++b) s=xB a s+xB b s:=by unfold xB;rw[List.filter_append,oU]
theorem qV(sp:List Int)(s:Nat):∀k,(zb sp k s).length=xB (sp.take k) s
 | 0=>rfl
 | k+1=>by
  rw[kL,oU,qV sp s k,List.take_add_one,zPy]
  congr 1
  cases e:sp[k]? with
  | none=>rw[if_neg (by simp)];rfl
  | some x =>
   by_cases c:x=(s:Int)
   ·rw[if_pos (by rw[c])]
    show 1=xB [x] s;rw[kO,if_pos c];rfl
   ·rw[if_neg (by simpa using c)]
    show 0=xB [x] s;rw[kO,if_neg c];rfl
theorem zIr{sp:List Int}{s j q:Nat}:∀{k:Nat},(zb sp k s)[j]? = some (q:Int)->q<k/\sp[q]? = some (s:Int)/\xB (sp.take q) s=j
 | 0,h=>by cases h
 | k+1,h=>by
  rw[kL]at h;rcases Nat.lt_or_ge j (zb sp k s).length with c|c
  ·rw[List.getElem?_append_left c]at h
   obtain⟨a,b,d⟩:=zIr h;exact⟨by omega,b,d⟩
  ·rw[List.getElem?_append_right c]at h
   by_cases e:sp[k]? = some (s:Int)
   ·rw[if_pos e]at h
    have hj:j-(zb sp k s).length=0:=by
     have:=(List.getElem?_eq_some_iff.1 h).1;simpa using this
    rw[hj]at h;have h0:(k:Int)=(q:Int):=by simpa using h
    have:q=k:=by omega
    subst this;exact⟨by omega,e,by rw[<-qV];omega⟩
   ·rw[if_neg e]at h;simp at h
theorem zIh{log:Nat}{s:Nat}:∀{l:List Int}{nx:Int->Nat}{q:Nat},l[q]? = some (s:Int)->(Ol log nx l)[q]? = some (cel log s (nx s+xB (l.take q) s))
 | [],_,_,h=>by cases h
 | x::l,nx,0,h=>by
  have:x=(s:Int):=by simpa using h
  subst this;rfl
 | x::l,nx,q+1,h=>by
  unfold Ol;rw[List.getElem?_cons_succ,zIh (l:=l) (by simpa using h),List.take_succ_cons,kO];by_cases c:x=(s:Int)
  ·subst c
   rw[if_pos rfl];simp only[if_pos]
   congr 2;omega
  ·rw[if_neg c,if_neg (λe=>c e.symm),Nat.zero_add]
theorem zEz(g:GD 5 p){s j q:Nat}(h:(zb (z7 5 p) 32 s)[j]? = some (q:Int)):q<32/\(wB 5 p)[q]? = some (cel 5 s ((zb (z7 5 p) 32 s).length+j)):=by
 obtain⟨h1,h2,h3⟩:=zIr h;refine⟨h1,?_⟩;unfold wB;rw[zIh h2,h3,qV,List.take_of_length_le (by rw[jO];decide),zLd g]
theorem zMf:((List.range 32).all λst=>(List.range 6).all λn=>decide (zO ((st+32)/2^n)=6-n) && decide ((st+32)/2^n*2^n-32+(st+32) % 2^n=st))=true:=by decide +kernel
theorem zK6(g:GD 5 p){s st:Nat}(hst:st<32)(h1:1<=(zb (z7 5 p) 32 s).length):
  ∃q b:Nat,kx (zb (z7 5 p) 32 s) st=(q:Int)/\(wB 5 p)[q]? = some ((s:Int),eN (st+32) (zb (z7 5 p) 32 s).length,b)/\b+jz (zb (z7 5 p) 32 s) st=st:=by
 have hlen:=kV (z7 5 p) 32 s;obtain⟨q1,q2,q3,_⟩:=zFA hst h1 hlen;obtain⟨q,e1,e2⟩:=zBs hst h1;have hi:(st+32)/2^eN (st+32) (zb (z7 5 p) 32 s).length-(zb (z7 5 p) 32 s).length<(zb (z7 5 p) 32 s).length:=by omega
 have e3:(zb (z7 5 p) 32 s)[(st+32)/2^eN (st+32) (zb (z7 5 p) 32 s).length-(zb (z7 5 p) 32 s).length]? = some (q:Int):=by
  unfold kx at e1;rw[oO hi]at e1 ⊢;rw[<-e1];rfl
 obtain⟨_,d⟩:=zEz g e3;have hx:(zb (z7 5 p) 32 s).length+((st+32)/2^eN (st+32) (zb (z7 5 p) 32 s).length-(zb (z7 5 p) 32 s).length)=(st+32)/2^eN (st+32) (zb (z7 5 p) 32 s).length:=by omega
 rw[hx]at d;have hc:=List.all_eq_true.1 (List.all_eq_true.1 zMf st (List.mem_range.2 hst)) (eN (st+32) (zb (z7 5 p) 32 s).length) (List.mem_range.2 (by omega));rw[oG]at hc;have c1:=of_decide_eq_true hc.1;have c2:=of_decide_eq_true hc.2;have e4:wS 5 ((st+32)/2^eN (st+32) (zb (z7 5 p) 32 s).length)=eN (st+32) (zb (z7 5 p) 32 s).length:=by unfold wS;omega
 refine⟨q,(st+32)/2^eN (st+32) (zb (z7 5 p) 32 s).length*2^eN (st+32) (zb (z7 5 p) 32 s).length-32,e1,?_,?_⟩
 ·rw[d]
  unfold cel zBk;rw[e4]
  try rfl
 ·exact c2
theorem Oj(g:GD 5 p){s:Nat}(h1:1<=(zb (z7 5 p) 32 s).length)(h2:(zb (z7 5 p) 32 s).length<32):
  ∃q n b:Nat,(zb (z7 5 p) 32 s)[0]?.getD 0=(q:Int)/\(wB 5 p)[q]? = some ((s:Int),n,b)/\1<=n:=by
 obtain⟨q,e1,e2⟩:=Yy h1;have e3:(zb (z7 5 p) 32 s)[0]? = some (q:Int):=by
  rw[oO (by omega)]at e1 ⊢;rw[<-e1];rfl
 obtain⟨_,d⟩:=zEz g e3;refine⟨q,_,_,e1,d,?_⟩;have:zO ((zb (z7 5 p) 32 s).length+0)<=5:=zw (by omega);unfold wS;omega
theorem zId{S:List UInt8}{left:Nat}:∀{n v:Nat},n<=left->(∀i,i<n->wI S (left-n+i)=v/2^i % 2)->wC S left n=v % 2^n
 | 0,v,_,_=>by show 0=_;rw[Nat.pow_zero,Nat.mod_one]
 | n+1,v,hn,h=>by
  show 2*wC S left n+(if n<left then wI S (left-1-n) else 0)=_;have ih:=zId (S:=S) (left:=left) (n:=n) (v:=v/2) (by omega) λi hi=>by
   have:=h (i+1) (by omega);rw[show left-(n+1)+(i+1)=left-n+i by omega]at this;rw[this,Nat.pow_succ',Nat.div_div_eq_div_mul]
  have h0:=h 0 (by omega);rw[show left-(n+1)+0=left-1-n by omega,Nat.pow_zero,Nat.div_one]at h0;rw[ih,if_pos (by omega),h0,Nat.pow_succ',Nat.mod_mul];omega
theorem Ag.back{w:Wr}{m k:Nat}(h:w.ok m)(g:Ag (yC w v k) S):wC S (wl w+k) k=v % 2^k:=by
 obtain⟨h1,h2⟩:=g;rw[xQ]at h1 h2;refine zId (by omega) λi hi=>?_
 rw[h2 _ (by omega),JR h,if_pos (by omega)]
 congr 3
 omega
theorem zQH{sp:List Int}{s t:Nat}(h:s≠t)(hl:sp.length=32):(zb sp 32 s).length+(zb sp 32 t).length<=32:=by
 rw[qV,qV,List.take_of_length_le (by omega),<-hl];clear hl
 induction sp with
 | nil=>exact oP _
 | cons x l ih =>
  rw[kO,kO,oV];by_cases c:x=(s:Int)
  ·rw[if_pos c,if_neg (by omega)];omega
  ·rw[if_neg c]
   split<;>omega
structure Dec (p w:List Int) (k:Nat):Prop where
 f0:(JW (z7 5 p) w k).2.2[0]? = some true
 f1:(JW (z7 5 p) w k).2.2[1]? = some true
 rd:∀(S:List UInt8) (f:Nat) (out:List Int),Ag (JW (z7 5 p) w k).1 S->k<=f->two (wB 5 p) S f (wl (JW (z7 5 p) w k).1) ((JW (z7 5 p) w k).2.1[(w.length-k) % 2]?.getD 0).toNat ((JW (z7 5 p) w k).2.1[(w.length-k+1) % 2]?.getD 0).toNat out=some (out++w.drop (w.length-k))
theorem z1q(n:Nat):n % 2=0/\(n+1) % 2=1\/n % 2=1/\(n+1) % 2=0:=by omega
theorem zRa{m:Nat}(g:GD 5 p)(c:zGh (z7 5 p) w m)(hw:2<=w.length)(hr:∀s,(zb (z7 5 p) 32 s).length<32):Dec p w 2:=by
 obtain⟨s1,a1,_,a2⟩:=c w[w.length-1] (oS (by omega));obtain⟨s2,b1,_,b2⟩:=c w[w.length-2] (oS (by omega));obtain⟨q1,n1,d1,a3,a4,a5⟩:=Oj g a2 (hr s1);obtain⟨q2,n2,d2,b3,b4,b5⟩:=Oj g b2 (hr s2);have e1:w[w.length-1-0]?.getD 0=s1:=by rw[Nat.sub_zero,oO (by omega),a1];rfl
 have e2:w[w.length-1-1]?.getD 0=s2:=by rw[show w.length-1-1=w.length-2 by omega,oO (by omega),b1];rfl
 have i1:(w.length-1-0) % 2=(w.length-2+1) % 2:=by congr 1;omega
 have i2:(w.length-1-1) % 2=(w.length-2) % 2:=by congr 1
 have hd:w.drop (w.length-2)=[(s2:Int),(s1:Int)]:=by
  rw[List.drop_eq_getElem_cons (by omega),b1]
  congr 1
  rw[show w.length-2+1=w.length-1 by omega,List.drop_eq_getElem_cons (by omega),a1]
  congr 1
  exact List.drop_eq_nil_of_le (by omega)
 have main:∃sts,JW (z7 5 p) w 2=(⟨[],0,0⟩,sts,[true,true])/\sts[(w.length-2) % 2]?.getD 0=(q2:Int)/\sts[(w.length-2+1) % 2]?.getD 0=(q1:Int):=by
  show ∃sts,jR (z7 5 p) (jR (z7 5 p) (⟨[],0,0⟩,[0,0],[false,false]) ((w.length-1-0) % 2) (w[w.length-1-0]?.getD 0).toNat) ((w.length-1-1) % 2) (w[w.length-1-1]?.getD 0).toNat=_/\_;rw[e1,e2,i1,i2,oX,oX];rcases z1q (w.length-2)with⟨h1,h2⟩|⟨h1,h2⟩
  ·rw[h1,h2]
   refine⟨[(zb (z7 5 p) 32 s2)[0]?.getD 0,(zb (z7 5 p) 32 s1)[0]?.getD 0],rfl,b3,a3⟩
  ·rw[h1,h2]
   refine⟨[(zb (z7 5 p) 32 s1)[0]?.getD 0,(zb (z7 5 p) 32 s2)[0]?.getD 0],rfl,b3,a3⟩
 obtain⟨sts,e,x1,x2⟩:=main;refine⟨by rw[e];rfl,by rw[e];rfl,λS f out _ hf=>?_⟩
 rw[e];show two (wB 5 p) S f 0 (sts[(w.length-2) % 2]?.getD 0).toNat (sts[(w.length-2+1) % 2]?.getD 0).toNat out=_;rw[x1,x2,hd,oX,oX];obtain⟨f,rfl⟩:∃f',f=f'+1:=⟨f-1,by omega⟩;unfold two;rw[b4];simp only;rw[if_pos (by omega),if_neg (by omega),a4]
theorem zL5{j:Nat}{x:Int}(hl:l.length=2):(l.set (j % 2) x)[j % 2]?.getD 0=x:=by
 rw[List.getElem?_set_self (by omega)];rfl
theorem zHx{j:Nat}{x:Int}:(l.set (j % 2) x)[(j+1) % 2]?.getD 0=l[(j+1) % 2]?.getD 0:=by
 rw[oY (by omega)]
theorem zMn{p w:List Int}{m k:Nat}(g:GD 5 p)(c:zGh (z7 5 p) w m)(hk:k+1<=w.length)(d:Dec p w k):Dec p w (k+1):=by
 obtain⟨f0,f1,rd⟩:=d;have ok:=KD c k (by omega);obtain⟨s,a1,_,a2⟩:=c w[w.length-1-k] (oS (by omega));have e1:w[w.length-1-k]?.getD 0=s:=by rw[oO (by omega),a1];rfl
 have hi:w.length-k=w.length-1-k+1:=by omega
 have hi2:w.length-(k+1)=w.length-1-k:=by omega
 have hgo:JW (z7 5 p) w (k+1)=jR (z7 5 p) (JW (z7 5 p) w k) ((w.length-1-k) % 2) s:=by
  show jR _ _ _ (w[w.length-1-k]?.getD 0).toNat=_;rw[e1,oX]
 rw[hi]at rd;have hdr:w.drop (w.length-1-k)=(s:Int)::w.drop (w.length-1-k+1):=by rw[List.drop_eq_getElem_cons (by omega),a1]
 clear a1;generalize hj:w.length-1-k=j at *;generalize ha:JW (z7 5 p) w k=a at *;obtain⟨st,h1,h2⟩:=ok.at (Nat.mod_lt j (by decide:0<2));have hfl:a.2.2[j % 2]?.getD false=true:=by
  rcases z1q j with⟨q,_⟩|⟨q,_⟩
  ·rw[q,f0];rfl
  ·rw[q,f1];rfl
 obtain⟨q,b,r1,r2,r3⟩:=zK6 g h2 a2;have hst:jR (z7 5 p) a (j % 2) s=(yC a.1 (jz (zb (z7 5 p) 32 s) st) (eN (st+32) (zb (z7 5 p) 32 s).length),a.2.1.set (j % 2) (q:Int),a.2.2):=by
  unfold jR;rw[if_pos hfl,h1,Option.getD_some,oX,r1]
 rw[hst]at hgo;refine⟨by rw[hgo];exact f0,by rw[hgo];exact f1,λS f out ag hf=>?_⟩
 rw[hgo]at ag ⊢;simp only at ag ⊢;rw[hi2,zL5 ok.st,zHx,oX,xQ,hdr];obtain⟨f,rfl⟩:∃f',f=f'+1:=⟨f-1,by omega⟩;have hb:=ag.back ok.ok;have hlt:jz (zb (z7 5 p) 32 s) st<2^eN (st+32) (zb (z7 5 p) 32 s).length:=Nat.mod_lt _ (Nat.pow_pos (by decide));rw[oe hlt]at hb;unfold two;rw[r2];simp only;rw[if_neg (by omega),hb,r3,Nat.add_sub_cancel];have:=rd S f (out++[(s:Int)]) (ag.of_put ok.ok) (by omega);have hjj:(j+1+1) % 2=j % 2:=by omega
 rw[hjj,h1,Option.getD_some,oX,List.append_assoc]at this;exact this
theorem zIk{m:Nat}(g:GD 5 p)(c:zGh (z7 5 p) w m)(hr:∀s,(zb (z7 5 p) 32 s).length<32):∀k,k+2<=w.length->Dec p w (k+2)
 | 0,h=>zRa g c h hr
 | k+1,h=>zMn g c h (zIk g c hr k (by omega))
theorem zLD{p n:Nat}(h:p<2^n):zO (p+1*2^n)=n+1:=by
 have h2:p+1*2^n<2^(n+1):=by rw[Nat.pow_succ'];omega
 have a:=zw h2;have b:=qe (p+1*2^n);by_cases c:zO (p+1*2^n)<=n
 ·have:2^zO (p+1*2^n)<=2^n:=Nat.pow_le_pow_right (by decide) c
  omega
 ·omega
theorem zK5{w:Wr}{m:Nat}(h:w.ok m):zr (yC w 1 (8-w.n)).s=(wl w:Nat)/\Ag w (yC w 1 (8-w.n)).s:=by
 have hn:=h.n;have hp:=h.p;have ho:=zj (v:=1) h (8-w.n);have hwl:wl (yC w 1 (8-w.n))=wl w+(8-w.n):=xQ _;have hn0:(yC w 1 (8-w.n)).n=0:=by have:=ho.n;unfold wl at hwl;omega
 have hlen:(yC w 1 (8-w.n)).s.length=w.s.length+1:=by unfold wl at hwl;omega
 have ag:=Ag.full ho hn0 [];rw[List.append_nil]at ag;refine⟨?_,ag.of_put h⟩;have hgb:=λi=>JR (v:=1) h i (8-w.n)
 generalize yC w 1 (8-w.n)=W at *;obtain⟨b,hb⟩:∃b,W.s[w.s.length]? = some b:=⟨_,oO (by omega)⟩;have hla:W.s.getLast? = some b:=by rw[List.getLast?_eq_getElem?,hlen,Nat.add_sub_cancel,hb]
 have v1:yD W.s (8*w.s.length) 8=b.toNat % 2^8:=OJ 8 λi hi=>by
  rw[Y0 (b:=b) (by rw[show(8*w.s.length+i)/8=w.s.length by omega];exact hb),show(8*w.s.length+i) % 8=i by omega]
 have v2:yD W.s (8*w.s.length) 8=(w.p+1*2^w.n) % 2^8:=OJ 8 λi hi=>by
  rw[ag.2 _ (by rw[hwl];unfold wl;omega),hgb,zCv hp (by decide)];unfold wl;by_cases c:w.n<=i
  ·rw[if_pos (by omega),show 8*w.s.length+i-(8*w.s.length+w.n)=i-w.n by omega]
   by_cases c2:i=w.n
   ·rw[if_pos c2,c2,Nat.sub_self]
   ·rw[if_neg c2]
    have h1:2^w.n<=2^i:=Nat.pow_le_pow_right (by decide) c;have h2:2^1<=2^(i-w.n):=Nat.pow_le_pow_right (by decide) (by omega);rw[Nat.div_eq_of_lt (by omega),Nat.div_eq_of_lt (by omega)]
  ·rw[if_neg (by omega),if_neg (by omega)]
   unfold gb;rw[if_neg (by omega),show 8*w.s.length+i-8*w.s.length=i by omega]
 have hlt:=b.toNat_lt;have hle:2^w.n<=2^7:=Nat.pow_le_pow_right (by decide) hn;rw[v1,oe (by omega),oe (by omega)]at v2;unfold zr;rw[hla];simp only;rw[if_neg (by omega),v2,zLD hp,hlen];unfold wl;omega
theorem zL0{p w:List Int}{m:Nat}(g:GD 5 p)(c:zGh (z7 5 p) w m)(hw:2<=w.length)(hl:w.length<=255)(hr:∀s,(zb (z7 5 p) 32 s).length<32):xz 5 p (zED (z7 5 p) w)=(0,w):=by
 have d:=zIk g c hr (w.length-2) (by omega);rw[show w.length-2+2=w.length by omega]at d;have ok:=KD c w.length (oP _);obtain⟨st0,a1,a2⟩:=ok.at (j:=0) (by decide);obtain⟨st1,b1,b2⟩:=ok.at (j:=1) (by decide);have rd:=d.rd;clear d;unfold zED;have hfin:zDx (z7 5 p) w=yC (yC (JW (z7 5 p) w w.length).1 st1 5) st0 5:=by
  unfold zDx;rw[a1,b1,Option.getD_some,Option.getD_some,oX,oX]
 rw[hfin,Nat.sub_self]at *;have o1:=zj (v:=st1) ok.ok 5;have o2:=zj (v:=st0) o1 5;obtain⟨z,ag⟩:=zK5 o2;generalize (yC (yC (yC (JW (z7 5 p) w w.length).1 st1 5) st0 5) 1 (8-(yC (yC (JW (z7 5 p) w w.length).1 st1 5) st0 5).n)).s=S at *;have ag1:=ag.of_put o1;have ag0:=ag1.of_put ok.ok;have n0:=ag.back o1;have n1:=ag1.back ok.ok;rw[xQ]at n0;rw[xQ,xQ]at z;rw[oe (by omega)]at n0 n1;have h:=rd S 255 [] ag0 (by omega);rw[show 0 % 2=0 from rfl,show(0+1) % 2=1 from rfl,a1,b1,Option.getD_some,Option.getD_some,oX,oX]at h;generalize wl (JW (z7 5 p) w w.length).1=L at *;unfold xz;rw[z,if_neg (by omega),if_neg (by omega),if_neg (by omega),oX,show L+5+5-5-5=L by omega,n0,show L+5+5-5=L+5 by omega,n1,h];rfl
theorem zEr:∀{w:List Int}{i:Nat},jk w=true->(hi:i<w.length)->∃b:UInt8,(jS w)[i/2]? = some b/\((if i % 2=0 then b.toNat/16 else b.toNat % 16:Nat):Int)=w[i]
 | [],_,_,hi=>by simp at hi
 | [a],i,h,hi=>by
  have hr:=wk h (List.mem_singleton.2 rfl);have:i=0:=by simp at hi;exact hi
  subst this;refine⟨_,rfl,?_⟩;rw[if_pos rfl,UInt8.toNat_ofNat',oe (by omega)];show _=a;omega
 | a::b::l,i,h,hi=>by
  have ha:=wk h (List.mem_cons_self ..);have hb:=wk h (oH _ (List.mem_cons_self ..));have hl:jk l=true:=by
   unfold jk at h ⊢;simp only[List.all_cons,oG]at h;exact h.2.2
  have e:(UInt8.ofNat (16*a.toNat+b.toNat)).toNat=16*a.toNat+b.toNat:=by rw[UInt8.toNat_ofNat',oe (by omega)]
  rcases i with _|_|i
  ·refine⟨_,rfl,?_⟩
   rw[if_pos rfl,e];show _=a;omega
  ·refine⟨_,rfl,?_⟩
   rw[if_neg (by decide),e];show _=b;omega
  ·obtain⟨c,h1,h2⟩:=zEr (i:=i) hl (by simpa using hi)
   refine⟨c,?_,?_⟩
   ·rw[show(i+1+1)/2=i/2+1 by omega]
    exact h1
   ·rw[show(i+1+1) % 2=i % 2 by omega]
    exact h2
theorem zOW{a:Nat}(h:jk w=true)(hs:∀j,j<(jS w).length->s[a+j]? = (jS w)[j]?):ZD s a w.length=w:=by
 apply List.ext_getElem?;intro i;unfold ZD;rw[oW];by_cases hi:i<w.length
 ·obtain⟨b,h1,h2⟩:=zEr h hi
  rw[List.getElem?_range hi,oO hi];simp only[oZ];rw[hs _ (List.getElem?_eq_some_iff.1 h1).1,h1,Option.getD_some,h2]
 ·rw[og (by rw[List.length_range];omega),og (by omega)]
  rfl
theorem zDT{j:Nat}(h:j<s.length):(b++(s++m))[b.length+j]? = s[j]?:=by
 rw[List.getElem?_append_right (by omega),Nat.add_sub_cancel_left,List.getElem?_append_left h]
theorem zYN{d:List UInt8}(h:Za w=some d):yR (b++(d++m)) (b.length:Nat)=⟨w,b.length+d.length,0,0⟩:=by
 have hr:jw w=0:=by
  unfold Za at h;by_cases k:jw w=0/\w.length<=128
  ·exact k.1
  ·rw[if_neg k]at h;cases h
 obtain⟨rfl,hl⟩:=zIn h;have hin:jk w=true/\1<=w.length:=by
  unfold jw at hr;by_cases c:w.length<1\/255<w.length
  ·rw[if_pos c]at hr;cases hr
  ·rw[if_neg c]at hr
   by_cases c2:jk w=true
   ·exact⟨c2,by omega⟩
   ·rw[if_neg c2]at hr;cases hr
 have e1:(UInt8.ofNat (w.length+127)).toNat=w.length+127:=by rw[UInt8.toNat_ofNat',oe (by omega)]
 have hdl:=Z9 w;have hd:(zDC w).length=(w.length+1)/2+1:=by show(jS w).length+1=_;rw[hdl]
 have hsl:(b++(zDC w++m)).length=b.length+((w.length+1)/2+1+m.length):=by rw[oU,oU,hd]
 have e0:(b++(zDC w++m))[b.length]? = some (UInt8.ofNat (w.length+127)):=zDT (j:=0) (by omega);have hn:ZD (b++(zDC w++m)) (b.length+1) w.length=w:=zOW hin.1 λj hj=>by
  rw[Nat.add_assoc,zDT (by rw[hd];omega),Nat.add_comm 1 j];rfl
 unfold yR;rw[if_neg (by omega),oX,e0];simp only;rw[e1,if_pos (by omega)];unfold wH;rw[show w.length+127-127=w.length by omega,if_neg (by omega),hn,if_pos hr]
 congr 1
 omega
theorem zIj:∀{c:List Int},2<=cnt c->∃i j:Nat,i≠j/\(c[i]?.getD 0:Int)≠0/\(c[j]?.getD 0:Int)≠0
 | [],h=>by simp[cnt]at h
 | x::c,h=>by
  have one:∀{c:List Int},1<=cnt c->∃i:Nat,(c[i]?.getD 0:Int)≠0:=λ{c} h=>by
   obtain⟨y,hy⟩:=List.exists_mem_of_length_pos (l:=c.filter λx=>decide (x≠0)) (show 0<(c.filter λx=>decide (x≠0)).length from h)
   obtain⟨h1,h2⟩:=List.mem_filter.1 hy;obtain⟨i,hi⟩:=List.getElem?_of_mem h1;exact⟨i,by rw[hi];simpa using h2⟩
  by_cases q:x=0
  ·have:2<=cnt c:=by simpa [cnt,q]using h
   obtain⟨i,j,h1,h2,h3⟩:=zIj this;exact⟨i+1,j+1,by omega,h2,h3⟩
  ·have:1<=cnt c:=by
    have e:cnt (x::c)=cnt c+1:=by simp[cnt,q]
    omega
   obtain⟨i,h1⟩:=one this;exact⟨0,i+1,by omega,q,h1⟩
theorem zJ3{i:Nat}(h:(xm w)[i]?.getD 0≠0):(i:Int)∈w:=by
 by_cases hi:i<12
 ·rw[ku hi,Option.getD_some]at h
  obtain⟨y,hy⟩:=List.exists_mem_of_length_pos (l:=w.filter λx=>decide (x=(i:Int))) (show 0<xB w i by omega)
  obtain⟨h1,h2⟩:=List.mem_filter.1 hy;have:y=(i:Int):=of_decide_eq_true h2
  rwa [this]at h1
 ·rw[og (by rw[jH];omega)]at h
  exact absurd rfl h
theorem zS7{C D:List UInt8}{q:Nat}(hl:C.length<=127)(hr:jw w=0)(hC:C=D++S)(d1:xW C 6 12=some (5,p,q))(d2:(q+7)/8=D.length)(two:xz 5 p S=(0,w)):
  yR (b++((UInt8.ofNat C.length::C)++m)) (b.length:Nat)=⟨w,b.length+(UInt8.ofNat C.length::C).length,0,0⟩:=by
 have hdrop:C.drop ((q+7)/8)=S:=by rw[d2,hC,List.drop_left]
 have e1:(UInt8.ofNat C.length).toNat=C.length:=by rw[UInt8.toNat_ofNat',oe (by omega)]
 have e0:(b++((UInt8.ofNat C.length::C)++m))[b.length]? = some (UInt8.ofNat C.length):=zDT (j:=0) (by simp);have hsl:(b++((UInt8.ofNat C.length::C)++m)).length=b.length+(C.length+1+m.length):=by rw[oU,oU,oV]
 have hcut:((b++((UInt8.ofNat C.length::C)++m)).drop (b.length+1)).take C.length=C:=by
  rw[<-List.drop_drop,List.drop_left,List.cons_append,List.drop_succ_cons,List.drop_zero,List.take_left]
 unfold yR;rw[if_neg (by omega),oX,e0];simp only;rw[e1,if_neg (by omega),if_neg (by omega),hcut];unfold zJU;rw[d1];simp only;rw[hdrop,two];simp only;rw[if_neg (by decide),if_pos hr,oV]
 congr 1
 omega
theorem zPi{c:List UInt8}(h:jt w=some c)(hr:jw w=0):yR (b++(c++m)) (b.length:Nat)=⟨w,b.length+c.length,0,0⟩:=by
 have h2:2<=cnt (xm w):=by
  unfold jt at h;by_cases k:2<=cnt (xm w)/\(ju w).length<=127
  ·exact k.1
  ·rw[if_neg k]at h;cases h
 obtain⟨rfl,hl⟩:=zCz h;have hin:jk w=true/\w.length<=255:=by
  unfold jw at hr;by_cases c:w.length<1\/255<w.length
  ·rw[if_pos c]at hr;cases hr
  ·rw[if_neg c]at hr
   by_cases c2:jk w=true
   ·exact⟨c2,by omega⟩
   ·rw[if_neg c2]at hr;cases hr
 have g:=zIg hin.1 hin.2 (by omega);have gd:=g.gd;have cv:=(zEl hin.1 g).cells gd;obtain⟨i,j,n1,n2,n3⟩:=zIj h2;have m1:=zJ3 n2;have m2:=zJ3 n3;have hlen2:2<=w.length:=by
  have:=Oq (c:=xm w) λx hx=>((zDA hin.2).rng x hx).1
  rw[YT hin.1]at this;omega
 have row:∀k:Nat,(k:Int)∈w->1<=(zb (z7 5 (qJ (xm w))) 32 k).length:=λk hk=>by
  obtain⟨s,e,_,h⟩:=cv _ hk;have:s=k:=by omega
  rwa [this]at h
 have hrow:∀s,(zb (z7 5 (qJ (xm w))) 32 s).length<32:=λs=>by
  by_cases e:s=i
  ·have:=zQH (sp:=z7 5 (qJ (xm w))) (s:=s) (t:=j) (by omega) (jO _ _)
   have:=row j m2;omega
  ·have:=zQH (sp:=z7 5 (qJ (xm w))) (s:=s) (t:=i) e (jO _ _)
   have:=row i m1;omega
 have two:=zL0 gd cv hlen2 hin.2 hrow;obtain⟨q,d1,d2⟩:=zHt gd (zED (z7 5 (qJ (xm w))) w);exact zS7 hl hr rfl d1 d2 two
theorem zOK(h:OG l=0):zKz (kZ l)=l:=by
 obtain⟨x,el,elst,hb,hx0,hxb,enb,er⟩:=zCG h;have ex:(jT l:Int)+1-x=((zO (xq (kZ l)):Nat):Int):=by
  rw[er];have:zO (2^(jT l-x.toNat))=jT l-x.toNat+1:=zFa (oP _) (Nat.pow_lt_pow_right (by decide) (oc _));rw[this];omega
 have e:kZ l++[((zO (xq (kZ l)):Nat):Int)]=Ku (jT l) l:=by
  have e0:∀m:Nat,Ku m l=Ku m l.dropLast++[if x≠0 then (m:Int)+1-x else 0]:=λm=>by
   conv=>lhs;rw[el]
   unfold Ku;rw[List.map_append];rfl
  rw[e0,if_pos hx0,ex,<-elst]
 unfold zKz;rw[e,enb];unfold Ku;rw[List.map_map]
 conv=>rhs;rw[<-List.map_id l]
 apply List.map_congr_left;intro y hy;have:=hb y hy;show(if (if y≠0 then (jT l:Int)+1-y else 0)≠0 then (jT l:Int)+1-(if y≠0 then (jT l:Int)+1-y else 0) else 0)=y;by_cases c:y=0
 ·rw[c];rfl
 ·rw[if_pos c,if_pos (by omega)]
  omega
theorem zGE(h:OG l=0)(hs:Za (kZ l)=some s\/jt (kZ l)=some s):kc (b++(s++m)) (b.length:Nat)=⟨l,b.length+s.length,0,0⟩:=by
 have hr:=zJX h;have e:yR (b++(s++m)) (b.length:Nat)=⟨kZ l,b.length+s.length,0,0⟩:=by
  rcases hs with h1|h1
  ·exact zYN h1
  ·exact zPi h1 hr
 unfold kc;rw[e];simp only;rw[if_pos trivial,zOK h]
end Go.Proofs.YtnpeieeomokomaaGreat
