/- TK. No condition. -/
import Derived.Test.YtnpeieeomokomaaGreatZTJ
set_option maxRecDepth 100000
set_option maxHeartbeats 4000000
namespace Go.Proofs.YtnpeieeomokomaaGreat
open Go.Sim
variable {h:H}{Q:V->H->Prop}
def jG (l:List Int) (s:Nat):Nat:=(l.filter λx=>decide (x=(s:Int))).length
theorem zLS (l:List Int) (x:Int) (s:Nat):jG (l++[x]) s=jG l s+(if x=s then 1 else 0):=by
 unfold jG;rw[List.filter_append,oU]
 congr 1
 by_cases c:x=(s:Int)<;>simp[c]
theorem zDm (l:List Int) (s:Nat):jG l s<=l.length:=List.length_filter_le _ _
def Kl (n:Nat) (l:List Int):List Int:=(List.range n).map λs=>((jG l s:Nat):Int)
abbrev wz (l:List Int):List Int:=Kl 12 l
theorem j9 (n:Nat) (l:List Int):(Kl n l).length=n:=by simp[Kl]
theorem qj {n:Nat}{l:List Int}{s:Nat}(h:s<n):(Kl n l)[s]? = some ((jG l s:Nat):Int):=by
 unfold Kl;rw[oW,List.getElem?_range h];rfl
theorem zMO {n:Nat}{l:List Int}{s:Nat}(h:s<n):(Kl n l).set s ((jG l s+1:Nat):Int)=Kl n (l++[(s:Int)]):=by
 apply List.ext_getElem?;intro i;by_cases c:i<n
 ·rw[qj c,zLS]
  by_cases e:s=i
  ·subst e
   rw[List.getElem?_set_self (by rw[j9];exact h),if_pos rfl]
  ·rw[oY e,qj c,if_neg (by omega)];rfl
 ·rw[og (by rw[oh,j9];omega),og (by rw[j9];omega)]
theorem Oi (n:Nat):Kl n []=List.replicate n 0:=by
 apply List.ext_getElem?;intro i;by_cases c:i<n
 ·rw[qj c,List.getElem?_replicate,if_pos c];rfl
 ·rw[og (by rw[j9];omega),og (by simp;omega)]
theorem zI4 {l:List Int}(hl:l.length<=255):GC (wz l):=⟨by rw[j9];decide,λx hx=>by
 unfold wz Kl at hx;obtain⟨s,_,rfl⟩:=List.mem_map.1 hx;have:=zDm l s;omega⟩
theorem J7:∀{l:List Int},kK l=true->yn (wz l)=l.length
 | [],_=>by unfold wz;rw[Oi];rfl
 | x::l,h=>by
  have h2:kK l=true:=by
   have:kK ([x]++l)=true:=h;rw[qq,oG]at this;exact this.2
  have hx:=jo h (List.mem_cons_self ..);have ih:=J7 h2;have e:∀s,jG (x::l) s=jG l s+(if x=(s:Int) then 1 else 0):=λs=>by
   unfold jG;by_cases c:x=(s:Int)
   ·rw[List.filter_cons_of_pos (by simpa using c),if_pos c];rfl
   ·rw[List.filter_cons_of_neg (by simpa using c),if_neg c];rfl
  have f:∀m:List Int,yn (wz m)=jG m 0+(jG m 1+(jG m 2+(jG m 3+(jG m 4+(jG m 5+(jG m 6+(jG m 7+(jG m 8+(jG m 9+(jG m 10+(jG m 11+0))))))))))):=λm=>by
   have:List.range 12=[0,1,2,3,4,5,6,7,8,9,10,11]:=by decide
   unfold yn wz Kl;rw[this];simp
  rw[f,oV,<-ih,f];simp only[e];have:x=0\/x=1\/x=2\/x=3\/x=4\/x=5\/x=6\/x=7\/x=8\/x=9\/x=10\/x=11:=by omega
  rcases this with rfl|rfl|rfl|rfl|rfl|rfl|rfl|rfl|rfl|rfl|rfl|rfl<;>simp<;>omega
theorem zEM {p k:Nat}(hk:k<256):z7 zA 206 (.ptr p 0) (.int .i64 k)=some (.ptr p k):=by
 unfold z7;have e1:yp (k:Int)=some k:=rfl;simp only[e1,zVP,zb,(zY _ _).2 hk,oK,Nat.mul_one,Nat.zero_add]
theorem zHu {v:V}{l:List Int}(sl:Sl h v 1 l.length (zJ l)) (hin:kK l=true) (hl:l.length<=255) (hn:h.nx+1<=T.top)
  (hq:∀h',Ext h h' 1->Sl h' (.slice h.nx 0 12 (.exact 12)) 1 12 (zJ (wz l))->Q (.tuple [.slice h.nx 0 12 (.exact 12),.int .i64 0]) h'):RF P zA 100 [v,.int .i64 11] h Q:=by
 obtain⟨cs0,er,row0⟩:=zA2;refine yD zZW rfl rfl z13 ⟨λc=>absurd c (by decide),λ_=>⟨λc=>absurd c (by decide),λ_=>Has.nil.on λtm hs=>?_⟩⟩
 refine wpS.av hs zSu rfl rfl ⟨_,sl.len zO rfl,λc=>by omega,λ_=>YU er ⟨by omega,?_⟩⟩
 rintro p1 h2 rfl e2;have w2:=(Vw.nil (S:=zR) (h:=h)).new e2 (by omega);have t2:=w2.top;refine⟨_,(sl.ext w2.ex0).len zO rfl,hs.on λtm1 hs1=>?_⟩
 refine wpC.round (λk tm h'=>∃(i:Nat) (cs:Cs),i<=l.length/\k=l.length-i/\Vw zR h h' 1 [(h.nx,.cells cs ⟨0,206+1,0⟩ true false)]/\Row cs 256 (zJ (Kl 256 (l.take i))) /\
  Has tm [(20,.int .i64 i),(19,.int .i64 l.length),(18,v),(1,.int .i64 11),(6,.ptr h.nx 0)]) l.length ⟨0,cs0,by omega,by omega,w2,by rw[List.take_zero,Oi];exact row0,hs1.sub (by kernel_rfl)⟩ ?_
 clear hs hs1 w2 e2 t2;rintro k tm h' ⟨i,cs,hi1,rfl,w,row,hs⟩;have tw:=w.top;refine wpC.av hs zSN rfl rfl ⟨λc=>?_,λc=>hs.on λtm' hs'=>?_⟩
 ·have hi:i<l.length:=by omega
  obtain⟨b,o,a1,a2⟩:=yh (sl.ext w.ex0) hi;have hr:=jo hin (oS hi);have ht:=xR hi;have hsc:=zDm (l.take i) l[i].toNat;rw[List.length_take]at hsc;generalize l[i]=x at a2 hr ht hsc;obtain⟨s,rfl⟩:∃s:Nat,x=s:=⟨x.toNat,by omega⟩;rw[oX]at hsc;refine⟨b,o,a1,_,a2,λc2=>by omega,λ_=>⟨λc3=>by omega,λ_=>hs.on λtm1 hs1=>?_⟩⟩
  have hs256:s<256:=by omega
  have hcell:cs.get? s=some (.int .i64 (jG (l.take i) s:Nat)):=by
   rw[row.2.2.2 s hs256,oW,qj hs256];rfl
  have ev:zH (((jG (l.take i) s:Nat):Int)+1)=((jG (l.take i) s+1:Nat):Int):=yR (by omega);obtain⟨h2,cs2,e2,row2,w2,n2⟩:=w.set (cx:=zA) 0 (j:=s) (u:=.int .i64 ((jG (l.take i) s+1:Nat):Int)) row rfl (by omega) hs256 zb rfl rfl rfl rfl;rw[<-xC,zMO hs256,<-ht]at row2;refine wpS.av hs1 zSr rfl rfl ⟨_,_,zEM hs256,_,w.ld1 0 rfl zb rfl hcell,_,_,zEM hs256,h2,by rw[ev];exact e2,hs1.on λtm2 hs2=>?_⟩
  refine thenC.nx (wpS.av hs2 zSs rfl rfl (hs2.on λtm3 hs3=>hs3.slt λtm4 hs4=>⟨rfl,rfl,l.length-(i+1),by omega,i+1,cs2,by omega,rfl,w2,row2,?_⟩))
  rw[<-yR (by omega)];exact hs4.sub (by kernel_rfl)
 ·have hi:i=l.length:=by omega
  subst hi;rw[List.take_length]at row;refine thenC.left (wpS.av hs' zSt rfl rfl ⟨_,zAa (n:=12) (by decide),hs'.on λtm2 hs2=>hs2.slt λtm3 hs3=>endW.r2 (hs3.get rfl) (hs3.get rfl) (hq h' w.ex0 ?_)⟩)
  refine⟨by rw[jE,j9],.inr ⟨h.nx,0,_,cs,_,_,_,rfl,w.lt 0 rfl,w.get 0 rfl,λj hj=>?_⟩⟩
  rw[Nat.zero_add,row.2.2.2 j (by omega),oW,oW,qj (by omega),qj (by omega)]
theorem YP:∀{p:List Int}{i:Nat}{x:Int},(h:i<p.length)->pts (p.set i x)=pts p-pt p[i]+pt x
 | [],_,_,h=>by cases h
 | y::p,0,x,_=>by
  rw[List.set_cons_zero,xh,xh,List.getElem_cons_zero];omega
 | y::p,i+1,x,h=>by
  rw[List.set_cons_succ,xh,xh,List.getElem_cons_succ,YP (p:=p) (by simpa using h)];omega
theorem kE (x:Int):0<=pt x:=by unfold pt;split<;>omega
theorem zCC:∀{p:List Int},(∀x∈p,x<=1)->pts p<=p.length
 | [],_=>by simp[pts]
 | x::p,h=>by
  have h1:=h x (by simp);have h2:=zCC (p:=p) λy hy=>h y (by simp[hy])
  rw[xh,oV];unfold pt;split<;>omega
theorem Xd {l:List Int}:∀{n j:Nat},j<n->l[j]?.getD 0<=l[ya l n]?.getD 0
 | 0,_,h=>by cases h
 | n+1,j,h=>by
  unfold ya;by_cases c:l[ya l n]?.getD 0<l[n]?.getD 0
  ·rw[if_pos c]
   by_cases e:j=n
   ·rw[e];exact Int.le_refl _
   ·have:=Xd (l:=l) (n:=n) (j:=j) (by omega)
    omega
  ·rw[if_neg c]
   by_cases e:j=n
   ·rw[e];omega
   ·exact Xd (by omega)
theorem xq {l:List Int}{i:Nat}(h:i<l.length):l[i]?.getD 0=l[i]:=by rw[oO h];rfl
theorem zIg {l:List Int}(h:0<l.length):ya l l.length<l.length:=by
 obtain⟨n,hn⟩:∃n,l.length=n+1:=⟨l.length-1,by omega⟩;rw[hn];have:=zIh l n;omega
def Km (p:List Int):List Int:=p.set (ya p p.length) (p[ya p p.length]?.getD 0-1)
theorem zMT (p:List Int):(Km p).length=p.length:=by simp[Km]
structure PR (p:List Int):Prop where
 pos:1<=p.length
 len:p.length<=12
 low:∀x∈p,-1<=x
 last:p.getLast?≠some 0
theorem PR.big {p:List Int}(g:PR p) (h:32<pts p):2<=p[ya p p.length]?.getD 0:=by
 have hg:=g.len;by_cases c:2<=p[ya p p.length]?.getD 0
 ·exact c
 ·have:=zCC (p:=p) λx hx=>by
   obtain⟨i,hi,rfl⟩:=List.mem_iff_getElem.1 hx;have:=Xd (l:=p) hi;rw[xq hi]at this;omega
  omega
theorem zGB {p:List Int}{i:Nat}{x:Int}(hx:x≠0) (h:p.getLast?≠some 0):(p.set i x).getLast?≠some 0:=by
 rw[List.getLast?_eq_getElem?]at h ⊢;rw[oh];by_cases e:i=p.length-1
 ·by_cases hp:i<p.length
  ·rw[<-e,List.getElem?_set_self hp]
   intro g;exact hx (Option.some.inj g)
  ·rw[og (by rw[oh];omega)]
   intro g;cases g
 ·rw[oY e]
  exact h
theorem PR.set {p:List Int}(g:PR p) {i:Nat}{x:Int}(hx:1<=x):PR (p.set i x) where
 pos:=by rw[oh];exact g.pos
 len:=by rw[oh];exact g.len
 low:=λy hy=>by
  rcases List.mem_or_eq_of_mem_set hy with h|rfl
  ·exact g.low y h
  ·omega
 last:=zGB (by omega) g.last
theorem PR.dec {p:List Int}(g:PR p) (h:32<pts p):PR (Km p)/\pts (Km p)=pts p-1:=by
 have hb:=g.big h;have hi:=zIg (l:=p) g.pos;refine⟨g.set (by omega),?_⟩;unfold Km;rw[YP hi];rw[xq hi]at hb ⊢;have e1:pt p[ya p p.length]=p[ya p p.length]:=by unfold pt;rw[if_neg (by omega)]
 have e2:pt (p[ya p p.length]-1)=p[ya p p.length]-1:=by unfold pt;rw[if_neg (by omega)]
 omega
def Ok:Nat->List Int->List Int
 | 0,p=>p
 | k+1,p=>Ok k (Km p)
theorem zI5:∀{k:Nat}{p:List Int},PR p->pts p=32+k->GD 5 (Ok k p)
 | 0,p,g,h=>⟨.inl rfl,g.pos,g.len,g.low,g.last,by show pts p=2^5;omega⟩
 | k+1,p,g,h=>by
  obtain⟨g1,h1⟩:=g.dec (by omega);exact zI5 (p:=Km p) g1 (by omega)
def qu (tot:Nat) (n:Int):Int:=if 0<n then (if n.toNat*32/tot=0 then -1 else ((n.toNat*32/tot:Nat):Int)) else 0
theorem zFf (tot:Nat) (n:Int) : -1<=qu tot n:=by
 unfold qu;split
 ·split
  ·decide
  ·exact Int.le_trans (by decide) (Int.natCast_nonneg _)
 ·decide
theorem zIz {tot:Nat}{n:Int}(h:0<n):qu tot n≠0:=by unfold qu;rw[if_pos h];split<;>omega
theorem zLC {tot:Nat}{n:Int}(h:¬0<n):qu tot n=0:=by unfold qu;rw[if_neg h]
theorem zIy {tot:Nat}{n:Int}(h:n.toNat<=tot):qu tot n<=32:=by
 unfold qu;split
 ·split
  ·decide
  ·have:n.toNat*32/tot<=32:=by
    rcases Nat.eq_zero_or_pos tot with h0|h0
    ·subst h0;simp
    ·exact Nat.le_of_lt_succ ((Nat.div_lt_iff_lt_mul h0).2 (by
      have:n.toNat*32<=tot*32:=Nat.mul_le_mul_right _ h;omega))
   omega
 ·decide
def shr (tot n:Nat) (c:List Int) (i:Nat):List Int:=(List.range n).map λs=>if s<i then qu tot (c[s]?.getD 0) else 0
theorem jZ (tot n:Nat) (c:List Int) (i:Nat):(shr tot n c i).length=n:=by simp[shr]
theorem Zr {tot n:Nat}{c:List Int}{i s:Nat}(h:s<n):(shr tot n c i)[s]? = some (if s<i then qu tot (c[s]?.getD 0) else 0):=by
 unfold shr;rw[oW,List.getElem?_range h];rfl
theorem zPU (tot n:Nat) (c:List Int):shr tot n c 0=List.replicate n 0:=by
 apply List.ext_getElem?;intro i;by_cases h:i<n
 ·rw[Zr h,List.getElem?_replicate,if_pos h,if_neg (by omega)]
 ·rw[og (by rw[jZ];omega),og (by simp;omega)]
theorem zRx {tot n:Nat}{c:List Int}{i:Nat}(h:i<n):(shr tot n c i).set i (qu tot (c[i]?.getD 0))=shr tot n c (i+1):=by
 apply List.ext_getElem?;intro j;by_cases hj:j<n
 ·rw[Zr hj]
  by_cases e:i=j
  ·subst e
   rw[List.getElem?_set_self (by rw[jZ];exact h),if_pos (by omega)]
  ·rw[oY e,Zr hj]
   by_cases c1:j<i
   ·rw[if_pos c1,if_pos (by omega)]
   ·rw[if_neg c1,if_neg (by omega)]
 ·rw[og (by rw[oh,jZ];omega),og (by rw[jZ];omega)]
theorem zPT {tot n:Nat}{c:List Int}{i:Nat}(h:i<n->¬0<c[i]?.getD 0):shr tot n c (i+1)=shr tot n c i:=by
 apply List.ext_getElem?;intro j;by_cases hj:j<n
 ·rw[Zr hj,Zr hj]
  by_cases e:i=j
  ·subst e
   rw[if_pos (by omega),if_neg (by omega),zLC (h hj)]
  ·by_cases c1:j<i
   ·rw[if_pos c1,if_pos (by omega)]
   ·rw[if_neg c1,if_neg (by omega)]
 ·rw[og (by rw[jZ];omega),og (by rw[jZ];omega)]
theorem zGT {x:Int}(hq:Q (.int .i64 (pt x)) h):RF P zA 239 [.int .i64 x] h Q:=by
 unfold pt at hq;refine yD z0B rfl rfl z2I ⟨λc=>?_,λc=>?_⟩
 ·rw[if_pos c]at hq;exact hq
 ·rw[if_neg c]at hq;exact hq
theorem zIH {x:Int}{b n:Nat}{cp:Cap}{k:V->Prop}(hk:k (.agg [.int .i64 x,.slice b 0 n cp])):xk zA 59 (yx zA 59 [(0,(.int .i64 x)),(1,.slice b 0 n cp)]) k:=by
 have h1:yx zA 59 [(0,(.int .i64 x)),(1,.slice b 0 n cp)]=some (.agg [.int .i64 x,.slice b 0 n cp]):=by kernel_rfl
 have h2:qI zA 59=false:=by kernel_rfl
 unfold xk;rw[h1];simp only[h2];exact hk
theorem PR.rng {p:List Int}(g:PR p):pts p<=100000->∀x∈p,x<=100000:=λh x hx=>by
 obtain⟨i,hi,rfl⟩:=List.mem_iff_getElem.1 hx;have h1:=YP (p:=p) (i:=i) (x:=0) hi;have h2:0<=pts (p.set i 0):=by
  have:=xy (l:=p.set i 0) λy hy=>by
   rcases List.mem_or_eq_of_mem_set hy with q|rfl
   ·exact g.low y q
   ·decide
  omega
 have h3:pt 0=0:=rfl;have h4:p[i]<=pt p[i]:=by unfold pt;split<;>omega
 omega
theorem zCQ {hb h:H}{cc lp df b14 p11 p6 b p9 p2 p0 m k:Nat}{o1 o3 o4 o5:O}{cs:Cs}{p:List Int}{tm:Tm}{d:List AD}{R:AX->St->Prop}(hs:Has tm [(4,.ptr p2 0),(3,.ptr p0 0),(11,.ptr p6 0),(12,.ptr p11 0)])
  (w:Vw zR hb h cc [(lp,o1),(df,o3),(b14,o4),(p11,xa (-(k:Nat))),(p6,jS (.slice b 0 m (.exact m))),(b,xn cs),(p9,o5),(p2,oD 0 .nilslice),(p0,xa 5)]) (row:Row cs m (zJ p)) (g:PR p) (hp:pts p=32+k) (hk:k<=1000) (hn:h.nx<=T.top) (hlow:hb.low<=T.top)
  (hR:∀h' tm' cs',Vw zR hb h' cc [(lp,o1),(df,o3),(b14,o4),(p11,xa 0),(p6,jS (.slice b 0 m (.exact m))),(b,xn cs'),(p9,o5),(p2,oD 5 (.slice b 0 m (.exact m))),(p0,xa 5)]->h'.nx=h.nx->Row cs' m (zJ (Ok k p))->Has tm' [(4,.ptr p2 0),(5,.int .i64 0)]->R .ret ⟨105,tm',d,h'⟩) :
  kG false zD0 ⟨105,tm,d,h⟩ R:=by
 refine wpS.av hs zTK rfl rfl (hs.on λtm1 hs1=>?_);refine wpC.round (λj tm h'=>∃(q:List Int) (cs:Cs),PR q/\pts q=32+j/\Ok j q=Ok k p/\j<=k/\h'.nx=h.nx/\Row cs m (zJ q)/\Has tm [(4,.ptr p2 0),(3,.ptr p0 0),(11,.ptr p6 0),(12,.ptr p11 0)] /\
  Vw zR hb h' cc [(lp,o1),(df,o3),(b14,o4),(p11,xa (-(j:Nat))),(p6,jS (.slice b 0 m (.exact m))),(b,xn cs),(p9,o5),(p2,oD 0 .nilslice),(p0,xa 5)]) k ⟨p,cs,g,hp,rfl,oP _,rfl,row,hs1.sub (by kernel_rfl),w⟩ ?_
 clear hs hs1 w row g hp cs;rintro j tm h' ⟨q,cs,g,hp,hd,hjk,hnx,row,hs,w⟩;refine wpC.av hs zST rfl rfl ⟨_,w.ld1 3 rfl zb rfl rfl,λc=>?_,λc=>?_⟩
 ·have hj:j=0:=by omega
  subst hj;obtain⟨h2,e2,w2,n2,_⟩:=w.st (cx:=zA) 7 (t:=59) (f:=0) (u:=.agg [.int .i64 5,.slice b 0 m (.exact m)]) rfl (by omega) yr rfl (oJ _) rfl rfl;refine hs.on λtm1 hs1=>thenC.left (wpS.av hs1 zTJ rfl rfl ⟨_,w.ld1 8 rfl zb rfl rfl,_,w.ld1 4 rfl zO rfl rfl,zIH ⟨h2,e2,hs1.on λtm2 hs2=>hs2.slt λtm3 hs3=>?_⟩⟩)
  refine hR h2 tm3 cs w2 (by omega) ?_ (hs3.sub (by kernel_rfl));rw[<-hd];exact row
 ·obtain⟨j',rfl⟩:∃j',j=j'+1:=⟨j-1,by omega⟩
  have hl':h'.low<=T.top:=by have:=w.low;omega
  have hi:=zIg (l:=q) g.pos;have hb2:=g.big (by omega);rw[xq hi]at hb2;have hrow:row.2.2.1=row.2.2.1:=rfl;have hqm:q.length=m:=by have:=row.2.2.1;rwa [jE]at this
  have sq:Sl h' (.slice b 0 m (.exact m)) 1 q.length (zJ q):=by rw[hqm];exact row.sl (w.lt 5 rfl) (w.get 5 rfl)
  have g12:=g.len;have hrg:=g.rng (by omega) _ (oS hi);obtain⟨g2,p2'⟩:=g.dec (by omega);have hcell:cs.get? (ya q q.length)=some (.int .i64 q[ya q q.length]):=by rw[row.2.2.2 _ (by omega),oW,oO hi];rfl
  obtain⟨h2,cs2,e2,row2,w2,n2⟩:=w.set (cx:=zA) 5 (j:=ya q q.length) (u:=.int .i64 (q[ya q q.length]-1)) row rfl (by omega) (by omega) zb rfl rfl rfl rfl;have er:(zJ q).set (ya q q.length) (.int .i64 (q[ya q q.length]-1))=zJ (Km q):=by unfold Km;rw[xC,xq hi]
  rw[er]at row2;obtain⟨h3,e3,w3,n3,_⟩:=w2.st (cx:=zA) 3 (t:=3) (f:=0) (u:=.int .i64 (-((j':Nat):Int))) rfl (by omega) zb rfl (oJ _) rfl rfl;have i1:=yE (h:=h') (by omega) hl';refine⟨⟨by omega,hl'⟩,_,w.ld1 4 rfl zO rfl rfl,_,w.ld1 4 rfl zO rfl rfl,zFI (show Sl (zM h') _ 1 q.length (zJ q)from sq) (by omega) (show h'.nx<=_ by omega) (oP _) ⟨_,rfl,i1.1,λh6 e6=>?_⟩⟩
  rw[i1.2]at e6;subst e6;refine⟨b,_,yb zO rfl zb rfl (by omega),_,w.ld1 5 rfl zb rfl hcell,b,_,yb zO rfl zb rfl (by omega),h2,by rw[zD (by omega) (by omega)];exact e2,_,w2.ld1 3 rfl zb rfl rfl,h3,?_,hs.on λtm1 hs1=>?_⟩
  ·rw[zD (by omega) (by omega),show -(((j'+1:Nat):Int))+1 = -((j':Nat):Int)by omega];exact e3
  ·exact⟨rfl,rfl,j',by omega,Km q,cs2,g2,by omega,hd,by omega,by show h3.nx=h.nx;omega,row2,hs1.sub (by kernel_rfl),w3⟩
structure LP (c:List Int) (m:Nat):Prop where
 pos:1<=m
 le:m<=c.length
 at':0<c[m-1]?.getD 0
 hi:∀j,m<=j->¬0<c[j]?.getD 0
 is:jt c c.length=(m:Int)-1
theorem zFP (l:List Int):∀{n j:Nat},j<n->0<l[j]?.getD 0->(j:Int)<=jt l n
 | 0,_,h,_=>by cases h
 | n+1,j,h,h0=>by
  unfold jt;by_cases c:0<l[n]?.getD 0
  ·rw[if_pos c];omega
  ·rw[if_neg c]
   have:j≠n:=λe=>c (by rw[<-e];exact h0)
   exact zFP l (by omega) h0
theorem zFO (l:List Int):∀{n:Nat},0<=jt l n->∃s:Nat,jt l n=s/\s<n/\0<l[s]?.getD 0
 | 0,h=>absurd (show(0:Int)<=-1 from h) (by decide)
 | n+1,h=>by
  unfold jt at h ⊢;by_cases c:0<l[n]?.getD 0
  ·rw[if_pos c];exact⟨n,rfl,by omega,c⟩
  ·rw[if_neg c]at h ⊢
   obtain⟨s,h1,h2,h3⟩:=zFO l h;exact⟨s,h1,by omega,h3⟩
def qT (c:List Int):Nat:=(jt c c.length+1).toNat
theorem zBw {c:List Int}(g:GC c) (hc:cnt c≠0):LP c (qT c):=by
 have h0:=(J9 g c.length (oP _)).2 (by rw[List.take_length];exact hc);obtain⟨s,h1,h2,h3⟩:=zFO c h0;have hm:qT c=s+1:=by unfold qT;omega
 rw[hm];refine⟨by omega,by omega,by simpa using h3,λj hj q=>?_,by omega⟩
 have hl:j<c.length:=by
  by_cases e:j<c.length
  ·exact e
  ·rw[og (by omega)]at q;exact absurd q (by decide)
 have:=zFP c hl q;omega
theorem zX0 {p:List Int}{b:Nat}(h:∀x∈p,x<=b) (hb:1<=b):pts p<=((b*p.length:Nat):Int):=by
 induction p with
 | nil=>simp[pts]
 | cons x p ih =>
  have h1:=h x (by simp);have h2:=ih λy hy=>h y (by simp[hy])
  rw[xh,oV,Nat.mul_succ];have:pt x<=b:=by unfold pt;split<;>omega
  omega
structure CD (c:List Int):Prop where
 gc:GC c
 len:c.length<=12
 ne:cnt c≠0
 sum:yn c<=255
 pos:0<yn c
 each:∀x∈c,x.toNat<=yn c
def we (c:List Int) (i:Nat):List Int:=shr (yn c) (qT c) c i
theorem CD.get {c:List Int}(g:CD c) (j:Nat):(c[j]?.getD 0).toNat<=yn c:=by
 by_cases h:j<c.length
 ·rw[xq h];exact g.each _ (oS h)
 ·rw[og (by omega)];exact oJ _
theorem CD.mem {c:List Int}(g:CD c) {i:Nat}{x:Int}(h:x∈we c i) : -1<=x/\x<=((32:Nat):Int):=by
 unfold we shr at h;obtain⟨s,_,rfl⟩:=List.mem_map.1 h;split
 ·exact⟨zFf _ _,zIy (g.get s)⟩
 ·omega
theorem CD.pb {c:List Int}(g:CD c) (i:Nat):0<=pts (we c i)/\pts (we c i)<=384:=by
 have h1:=zX0 (p:=we c i) (b:=32) (λx hx=>(g.mem hx).2) (by decide)
 have h2:=xy (l:=we c i) λx hx=>(g.mem hx).1
 have h3:(we c i).length=qT c:=jZ _ _ _ _;have h4:=(zBw g.gc g.ne).le;have h5:=g.len;rw[h3]at h1;omega
theorem CD.pr {c:List Int}(g:CD c):PR (we c c.length):=by
 have l:=zBw g.gc g.ne;have hl:(we c c.length).length=qT c:=jZ _ _ _ _;refine⟨by rw[hl];exact l.pos,by rw[hl];have:=l.le;have:=g.len;omega,λx hx=>(g.mem hx).1,?_⟩
 rw[List.getLast?_eq_getElem?,hl];unfold we;have:=l.pos;have:=l.le;rw[Zr (by omega),if_pos (by omega)];intro q;exact zIz l.at' (Option.some.inj q)
theorem CD.g_lt {c:List Int}(g:CD c):ya c c.length<qT c:=by
 have l:=zBw g.gc g.ne;have h1:=Xd (l:=c) (n:=c.length) (j:=qT c-1) (by have:=l.pos;have:=l.le;omega);have h2:=l.at';rcases Nat.lt_or_ge (ya c c.length) (qT c)with h|h
 ·exact h
 ·exact absurd (show 0<c[ya c c.length]?.getD 0 by omega) (l.hi _ h)
def ql (c:List Int):List Int :=
 if 0<32-pts (we c c.length) then (we c c.length).set (ya c c.length) (pt ((we c c.length)[ya c c.length]?.getD 0)+(32-pts (we c c.length))) else we c c.length
def ZL (c:List Int):List Int:=Ok (pts (ql c)-32).toNat (ql c)
theorem CD.fix {c:List Int}(g:CD c):PR (ql c)/\32<=pts (ql c)/\pts (ql c)<=384/\(ql c).length=qT c:=by
 have h0:=g.pb c.length;have hl:(we c c.length).length=qT c:=jZ _ _ _ _;unfold ql;split
 ·rename_i h
  have hi:ya c c.length<(we c c.length).length:=by rw[hl];exact g.g_lt
  have:=kE ((we c c.length)[ya c c.length]?.getD 0);refine⟨g.pr.set (by omega),?_,?_,by rw[oh];exact hl⟩
  all_goals
   rw[YP hi,xq hi];rw[xq hi]at this;generalize pt (we c c.length)[ya c c.length]=z at *;have:pt (z+(32-pts (we c c.length)))=z+(32-pts (we c c.length)):=by unfold pt;rw[if_neg (by omega)]
   omega
 ·exact⟨g.pr,by omega,by omega,hl⟩
theorem CD.gd {c:List Int}(g:CD c):GD 5 (ZL c):=by
 obtain⟨h1,h2,h3,_⟩:=g.fix;exact zI5 h1 (by omega)
theorem zEg:∀(k:Nat) (p:List Int),(Ok k p).length=p.length
 | 0,_=>rfl
 | k+1,p=>by
  show(Ok k (Km p)).length=_;rw[zEg k,zMT]
theorem CD.nlen {c:List Int}(g:CD c):(ZL c).length=qT c:=by unfold ZL;rw[zEg,g.fix.2.2.2]
theorem zQr {l:List Int}(hin:kK l=true) (hl:l.length<=255) (h2:cnt (wz l)≠0):CD (wz l):=by
 have hs:=J7 hin;refine⟨zI4 hl,by rw[j9];decide,h2,by omega,?_,λx hx=>?_⟩
 ·rw[hs]
  rcases Nat.eq_zero_or_pos l.length with h|h
  ·have:l=[]:=List.eq_nil_of_length_eq_zero h
   subst this;exact absurd (by unfold wz;rw[Oi];rfl) h2
  ·exact h
 ·unfold wz Kl at hx
  obtain⟨s,_,rfl⟩:=List.mem_map.1 hx;have:=zDm l s;omega
theorem YO (c:List Int) (i:Nat):(we c i).length=qT c:=jZ _ _ _ _
theorem zFi (c:List Int):we c 0=List.replicate (qT c) 0:=zPU _ _ _
theorem CD.step {c:List Int}(g:CD c) {i:Nat}(hi:i<c.length) (h0:0<c[i]):i<qT c/\(we c i).set i (qu (yn c) c[i])=we c (i+1)/\pts (we c (i+1))=pts (we c i)+pt (qu (yn c) c[i]):=by
 have l:=zBw g.gc g.ne;have him:i<qT c:=by
  rcases Nat.lt_or_ge i (qT c)with h|h
  ·exact h
  ·exact absurd (show 0<c[i]?.getD 0 by rw[xq hi];exact h0) (l.hi _ h)
 have e1:(we c i).set i (qu (yn c) c[i])=we c (i+1):=by
  have:=zRx (tot:=yn c) (n:=qT c) (c:=c) him;rw[xq hi]at this;exact this
 have hl:i<(we c i).length:=by rw[YO];exact him
 refine⟨him,e1,?_⟩;rw[<-e1,YP hl];have:(we c i)[i]=0:=by
  have h2:(we c i)[i]? = some (if i<i then qu (yn c) (c[i]?.getD 0) else 0):=Zr him;rw[oO hl,if_neg (by omega)]at h2;exact Option.some.inj h2
 rw[this];have:pt 0=0:=rfl;omega
theorem CD.skip {c:List Int}(_g:CD c) {i:Nat}(hi:i<c.length) (h0:¬0<c[i]):we c (i+1)=we c i:=zPT λ_=>by rw[xq hi];exact h0
theorem CD.fix32 {c:List Int}(g:CD c) (h:0<32-pts (we c c.length)):pts (ql c)=32:=by
 have hi:ya c c.length<(we c c.length).length:=by rw[YO];exact g.g_lt
 unfold ql;rw[if_pos h,YP hi,xq hi];have h1:=kE (we c c.length)[ya c c.length];have:pt (pt (we c c.length)[ya c c.length]+(32-pts (we c c.length)))=pt (we c c.length)[ya c c.length]+(32-pts (we c c.length)):=by
  generalize pt (we c c.length)[ya c c.length]=y at *;unfold pt;rw[if_neg (by omega)]
 omega
theorem zR9 {tot n:Nat}(h:0<n):qu tot (n:Int)=if n*32/tot=0 then -1 else ((n*32/tot:Nat):Int):=by
 unfold qu;rw[if_pos (by omega),oX]
theorem zU0 {v : V}{c : List Int}{h : H}{Q : V -> H -> Prop}(sl : Sl h v 1 c.length (zJ c)) (g : CD c) (hn : h.nx + 20 <= T.top) (hlow : h.low <= T.top)
    (hq : ∀h' b, Ext h h' 9 -> h.nx <= b -> Sl h' (.slice b 0 (ZL c).length (.exact (ZL c).length)) 1 (ZL c).length (zJ (ZL c)) -> Q (.tuple [.agg [.int .i64 5, .slice b 0 (ZL c).length (.exact (ZL c).length)], .int .i64 0]) h') : RF P zA 172 [v, .int .i64 5] h Q := by
  have hlen := g.len;have l := zBw g.gc g.ne;have lp1 := l.pos;have lp2 := l.le;have hsum := g.sum;have hpos := g.pos;have hcl := JZ c;refine yD zZe rfl rfl z1l ⟨rfl, by omega, ?_⟩;rintro p0 h1 rfl e1;have w1 := (Vw.nil (S := zR) (h := h)).new e1 (by omega);have t1 := w1.top;refine⟨by omega, ?_⟩;rintro p2 h3 rfl e3;have w3 := w1.new e3 (by omega);have t3 := w3.top;refine Og (sl.ext w3.ex0) g.gc g.ne ⟨_, _, _, rfl, rfl, by omega, ?_⟩;rintro p9 h10 rfl e10;have w10 := w3.new e10 (by omega);have t10 := w10.top;obtain⟨h11, e11, w11, n11, _⟩ := w10.st (cx := zA) 0 (t := 3) (f := 0) (u := .int .i64 (yn c : Nat)) rfl (by omega) zb rfl (oJ _) rfl rfl;have t11 := w11.top;refine⟨h11, e11, λq => absurd rfl q, λ_ => ⟨_, w11.ld1 2 rfl zb rfl rfl, λq => absurd q (by decide), λ_ => ⟨_, w11.ld1 2 rfl zb rfl rfl, λq => absurd q (by decide), λ_ => Has.nil.on λtm hs => ?_⟩⟩⟩
  refine wpS.av hs zTH rfl rfl ?_;refine⟨_, w11.ld1 2 rfl zb rfl rfl, ((1 * 2 ^ 5 : Nat) : Int), yC (a := 1) (n := 5) (by decide) (by decide), λq => by omega, λ_ => hs.on λtm2 hs2 => ?_⟩
  refine thenC.nx (hs2.sealK λtm3 hs3 => ?_);clear hs hs2 tm tm2;refine wpS.av hs3 zTM rfl rfl (zRR (sl.ext w11.ex0) g.gc g.ne ⟨_, _, rfl, ?_⟩);have em : zH (jt c c.length + 1) = ((qT c : Nat) : Int) := by rw[l.is, zD (by omega) (by omega)];omega
  rw[em];obtain⟨csp, emk, row0⟩ := Row.make (cx := zA) (k := qT c) (h := h11) zO rfl zb rfl rfl rfl (by omega) (by show 8 * _ <= _;omega) (by omega);obtain⟨h5, e5⟩ : ∃h5, h5 = h11.new (xn csp) := ⟨_, rfl⟩;rw[<-e5]at emk;have w5 := w11.new e5 (by omega);have t5 := w5.top;refine⟨_, h5, emk, rfl, by omega, ?_⟩;rintro p6 h7 rfl e7;have w7 := w5.new e7 (by omega);have t7 := w7.top;obtain⟨h8, e8, w8, n8, _⟩ := w7.st (cx := zA) 0 (t := 23) (f := 0) (u := .slice h11.nx 0 (qT c) (.exact (qT c))) rfl (by omega) zO rfl (oJ _) rfl rfl;have t8 := w8.top;refine⟨h8, e8, _, w8.ld1 4 rfl zb rfl rfl, ((1 * 2 ^ 5 : Nat) : Int), yC (a := 1) (n := 5) (by decide) (by decide), rfl, by omega, ?_⟩;rintro p11 h12 rfl e12;have w12 := w8.new e12 (by omega);have t12 := w12.top;obtain⟨h13, e13, w13, n13, _⟩ := w12.st (cx := zA) 0 (t := 3) (f := 0) (u := .int .i64 ((1 * 2 ^ 5 : Nat) : Int)) rfl (by omega) zb rfl (oJ _) rfl rfl;have t13 := w13.top;refine⟨h13, e13, yD z0A rfl rfl z2H ⟨zDL sl, by omega, ?_⟩⟩;rintro p14 h15 rfl e15;have w15 := w13.new e15 (by omega);have t15 := w15.top;refine⟨_, rfl, hs3.on λtm4 hs4 => ?_⟩
  refine Vw.range (s := ⟨105, tm4, [], h15⟩) w15 (captured := [.ptr h13.nx 0]) (show zz tm4 (t 55) = _ from congrArg some (hs4.get rfl)) (by show h15.nx + 2 <= _;omega) λh17 w17 n17 => ?_
  refine zHZ (l := c) (v := v) (λi h' => ∃cs, Vw zR h h' 9 [(h15.nx + 1, .loop .ready none 105 tm4 #[56, 57] OS Oy h15.nx), (h15.nx, .deferred true), (h13.nx, .cells (.ls [v]) ⟨0, 24, 0⟩ true false), (h8.nx, xa (32 - pts (we c i))), (h5.nx, jS (.slice h11.nx 0 (qT c) (.exact (qT c)))), (h11.nx, xn cs), (h3.nx, xa (yn c : Nat)), (h1.nx, oD 0 .nilslice), (h.nx, xa 5)] /\ Row cs (qT c) (zJ (we c i))) (by omega)
    ⟨csp, by rw[zFi];have : pts (List.replicate (qT c) 0) = 0 := by { have := xy (l := List.replicate (qT c) 0) (λx hx => by rw[List.eq_of_mem_replicate hx];decide);have h3 : zAO (List.replicate (qT c) 0) = 0 := by { unfold zAO;simp };have h4 : yf (List.replicate (qT c) 0) = 0 := by { unfold yf;simp };omega }
             rw[this];exact w17, by rw[zFi, jQ];exact row0⟩ (w17.ld1 2 rfl zO rfl rfl) (λi h' w => sl.ext w.choose_spec.1.ex0) (λi h' hi q w => by rw[g.skip hi q];exact w) (λi h' hi q w => ?_) λh8' w8' => ?_
  · obtain⟨cs, w, row⟩ := w
    have tw := w.top;obtain⟨him, es, ep⟩ := g.step hi q;have hrng := g.gc.at hi;have heach := g.each _ (oS hi);have hpb := g.pb i;have hpt : 0 <= pt (qu (yn c) c[i]) := kE _;have hple := zIy heach;have hplo := zFf (yn c) c[i];obtain⟨n, hnn⟩ : ∃n : Nat, c[i] = n := ⟨c[i].toNat, by omega⟩;rw[hnn]at q hrng heach es ep hpt hple hplo;rw[oX]at heach;have hpi := zR9 (tot := yn c) (n := n) (by omega);refine w.round (il := 0) (c' := 9) rfl (by omega) (hs4.sub (l' := [(3, .ptr h.nx 0), (11, .ptr h5.nx 0), (12, .ptr h8.nx 0), (6, .ptr h3.nx 0)]) (by kernel_rfl)) rfl λtm0 hs0 => ?_
    rw[hnn]at hs0;refine wpC.av hs0 zSE rfl rfl (hs0.on λtm1 hs1 => ⟨rfl, rfl, rfl, rfl, λh1' w1' n1' => ?_⟩);have hdv : n * 32 / yn c <= n * 32 := Nat.div_le_self _ _;have e1 : zT .u64 (n : Int) = ((n : Nat) : Int) := zW (by omega);have e3 : zH (zT .u64 (Int.tdiv ((n * 2 ^ 5 : Nat) : Int) (zT .u64 ((yn c : Nat) : Int)))) = ((n * 32 / yn c : Nat) : Int) := by
      rw[zW (by omega), show Int.tdiv ((n * 2 ^ 5 : Nat) : Int) ((yn c : Nat) : Int) = ((n * 2 ^ 5 / yn c : Nat) : Int)from rfl, show n * 2 ^ 5 = n * 32 from rfl, zW (by omega), zD (by omega) (by omega)]
    have keep : ∀(x : Int) (tm5 : Tm), x = qu (yn c) n -> Has tm5 [(11, .ptr h5.nx 0), (13, .int .i64 (i : Nat)), (15, .int .i64 x), (12, .ptr h8.nx 0)] ->
        kG true (wq zDZ) ⟨105, tm5, [], h1'⟩ (λe s1 => zy km (λe2 s2 => e2 = .normal /\ s2.dfr = [] /\ ∃L', Vw zR h s2.heap 9 L' /\ s2.heap.nx <= T.top /\ L'[0]? = some (h15.nx + 1, .loop .busy none 105 tm4 #[56, 57] OS Oy h15.nx) /\
          ∀h', Vw zR h h' 9 (L'.set 0 (h15.nx + 1, .loop .ready none 105 tm4 #[56, 57] OS Oy h15.nx)) -> h'.nx = s2.heap.nx -> (∀b, b ≠ h15.nx + 1 -> h'.get b = s2.heap.get b) -> V.bool true = V.bool true /\ ∃cs, Vw zR h h' 9 [(h15.nx + 1, .loop .ready none 105 tm4 #[56, 57] OS Oy h15.nx), (h15.nx, .deferred true), (h13.nx, .cells (.ls [v]) ⟨0, 24, 0⟩ true false), (h8.nx, xa (32 - pts (we c (i + 1)))), (h5.nx, jS (.slice h11.nx 0 (qT c) (.exact (qT c)))), (h11.nx, xn cs), (h3.nx, xa (yn c : Nat)), (h1.nx, oD 0 .nilslice), (h.nx, xa 5)] /\ Row cs (qT c) (zJ (we c (i + 1)))) (zc 2 e) s1) := by
      intro x tm5 hx hs5;obtain⟨h2', cs2, e2', row2, w2', n2'⟩ := w1'.set (cx := zA) 5 (j := i) (u := .int .i64 x) row rfl (by omega) him zb rfl rfl rfl rfl;rw[<-xC, hx, es]at row2;have l2 : h2'.low <= T.top := by have := w2'.low;omega
      have i2 := yE (h := h2') (by omega) l2;obtain⟨h3', e3', w3', n3', _⟩ := w2'.st (cx := zA) 3 (t := 3) (f := 0) (u := .int .i64 (32 - pts (we c (i + 1)))) rfl (by omega) zb rfl (oJ _) rfl rfl;refine wpS.av hs5 zTI rfl rfl ⟨_, w1'.ld1 4 rfl zO rfl rfl, h11.nx, i, yb zO rfl zb rfl him, h2', e2', ⟨by omega, l2⟩, _, w2'.ld1 3 rfl zb rfl rfl, zGT ⟨_, rfl, i2.1, λh8'' e8'' => ?_⟩⟩
      rw[i2.2]at e8'';subst e8'';have ee : zH ((32 - pts (we c i)) - pt x) = 32 - pts (we c (i + 1)) := by
        rw[ep, hx, zD (by unfold pt;split<;>omega) (by omega)];omega
      refine⟨h3', by rw[ee];exact e3', hs5.on λtm6 hs6 => hs6.slt λtm7 hs7 => ⟨rfl, rfl, _, w3', by show h3'.nx <= _;omega, rfl, λh4' w4' n4' _ => ⟨rfl, cs2, w4', row2⟩⟩⟩
    refine wpC.av hs1 zSJ rfl rfl ⟨_, w1'.ld1 8 rfl zb rfl rfl, _, by rw[e1, show zT .u64 (5 : Int) = ((5 : Nat) : Int)from zW (by decide)];exact Zq (a := n) (n := 5) (by decide) (by omega), _, w1'.ld1 6 rfl zb rfl rfl, by rw[zW (by omega)];omega, λq2 => ?_, λq2 => ?_⟩
    · rw[e3]at q2
      rw[if_pos (by omega)]at hpi;exact hs1.on λtm5 hs5 => keep _ tm5 hpi.symm (hs5.sub (by kernel_rfl))
    · rw[e3]at q2 ⊢
      rw[if_neg (by omega)]at hpi;exact hs1.on λtm5 hs5 => keep _ tm5 hpi.symm (hs5.sub (by kernel_rfl))
  · obtain⟨cs, w18, row⟩ := w8'
    have t18 := w18.top;refine⟨9, _, w18, by omega, λh19 o w19 n19 _ => ?_⟩
    show kG false zH4 ⟨105, tm4, [.coll h15.nx], h19⟩ (zy km (endW zA ⟨105, [.cell 4 59, .tmp 5], kq⟩ Q));have hpb := g.pb c.length;have l19 : h19.low <= T.top := by have := w19.low;omega
    obtain⟨f1, f2, f3, f4⟩ := g.fix;have fin : ∀(h' : H) (tm' : Tm) (cs' : Cs), Vw zR h h' 9 [(h15.nx + 1, o), (h15.nx, .deferred true), (h13.nx, .cells (.ls [v]) ⟨0, 24, 0⟩ true false), (h8.nx, xa 0), (h5.nx, jS (.slice h11.nx 0 (qT c) (.exact (qT c)))), (h11.nx, xn cs'), (h3.nx, xa (yn c : Nat)), (h1.nx, oD 5 (.slice h11.nx 0 (qT c) (.exact (qT c)))), (h.nx, xa 5)] -> Row cs' (qT c) (zJ (ZL c)) -> Has tm' [(4, .ptr h1.nx 0), (5, .int .i64 0)] ->
        endW zA ⟨105, [.cell 4 59, .tmp 5], kq⟩ Q .ret ⟨105, tm', [.coll h15.nx], h'⟩ := by
      intro h' tm' cs' w' row' hs';have tw' := w'.top;show wpD [.coll h15.nx] h' _;refine w'.ends (i := 1) rfl (by omega) λh'' w'' n'' _ => ?_
      have el : leave zA [.cell 4 59, .tmp 5] tm' h'' [.cell 4 59, .tmp 5] [] = some [.agg [.int .i64 5, .slice h11.nx 0 (qT c) (.exact (qT c))], .int .i64 0] := by
        refine leave.cell (hs'.get (t := 4) rfl) (w''.ldA 7 rfl yr rfl rfl) ?_;exact leave.tmp (hs'.get (t := 5) rfl) rfl
      show(match leave zA [.cell 4 59, .tmp 5] tm' h'' [.cell 4 59, .tmp 5] []with|some vs => Q (yM vs) h''|none => False)
      rw[el];have hl2 := g.nlen;have := hq h'' h11.nx w''.ex0 (by have := w11.le;omega);rw[hl2]at this;exact this (row'.sl (w''.lt 5 rfl) (w''.get 5 rfl))
    refine wpS.av hs4 zTL rfl rfl ⟨_, w19.ld1 3 rfl zb rfl rfl, λq => ?_, λq => ?_⟩
    · have hgl := g.g_lt
      have hgi : ya c c.length < (we c c.length).length := by rw[YO];exact hgl
      have sv := sl.ext w19.ex0;have hcell : cs.get? (ya c c.length) = some (.int .i64 (we c c.length)[ya c c.length]) := by rw[row.2.2.2 _ hgl, oW, oO (by rw[YO];exact hgl)];rfl
      have hm := g.mem (oS (l := we c c.length) (n := ya c c.length) (by rw[YO];exact hgl));have hfix : ql c = (we c c.length).set (ya c c.length) (pt (we c c.length)[ya c c.length] + (32 - pts (we c c.length))) := by
        unfold ql;rw[if_pos q, xq (by rw[YO];exact hgl)]
      generalize (we c c.length)[ya c c.length] = z at hcell hm hfix;have i1 := yE (h := h19) (by omega) l19;obtain⟨h20, cs2, e20, row2, w20, n20⟩ := w19.set (cx := zA) 5 (j := ya c c.length) (u := .int .i64 (pt z + (32 - pts (we c c.length)))) row rfl (by omega) hgl zb rfl rfl rfl rfl;rw[<-xC, <-hfix]at row2;obtain⟨h21, e21, w21, n21, _⟩ := w20.st (cx := zA) 3 (t := 3) (f := 0) (u := .int .i64 0) rfl (by omega) zb rfl (oJ _) rfl rfl;refine zFI sv (by omega) (by omega) l19 ⟨_, rfl, ⟨by omega, l19⟩, _, w19.ld1 4 rfl zO rfl rfl, _, w19.ld1 4 rfl zO rfl rfl, h11.nx, _, yb zO rfl zb rfl hgl, _, w19.ld1 5 rfl zb rfl hcell, zGT ⟨_, rfl, i1.1, λh12' e12' => ?_⟩⟩
      rw[i1.2]at e12';subst e12';have hz : 0 <= pt z /\ pt z <= 32 := by unfold pt;split<;>omega
      refine⟨_, w19.ld1 3 rfl zb rfl rfl, h11.nx, _, yb zO rfl zb rfl hgl, h20, by rw[zD (by omega) (by omega)];exact e20, h21, e21, hs4.on λtm5 hs5 => ?_⟩
      have hz2 := g.fix32 q;refine zCQ (k := 0) (p := ql c) (hs5.sub (by kernel_rfl)) w21 row2 f1 (by omega) (by decide) (by omega) hlow λh' tm' cs' w' n' row' hs' => ?_
      have en : ZL c = Ok 0 (ql c) := by unfold ZL;rw[hz2];rfl
      rw[<-en]at row';exact hs'.slt λtm6 hs6 => hs6.slt λtm7 hs7 => fin h' tm7 cs' w' row' (hs7.sub (by kernel_rfl))
    · have hfix : ql c = we c c.length := by unfold ql;rw[if_neg (by omega)]
      refine hs4.on λtm5 hs5 => ?_
      obtain⟨k, hk⟩ : ∃k : Nat, pts (we c c.length) = 32 + k := ⟨(pts (we c c.length) - 32).toNat, by omega⟩;have e3 : 32 - pts (we c c.length) = -((k : Nat) : Int) := by omega
      rw[e3]at w19;refine zCQ (k := k) (p := ql c) (hs5.sub (by kernel_rfl)) w19 (by rw[hfix];exact row) f1 (by rw[hfix];exact hk) (by omega) (by omega) hlow λh' tm' cs' w' n' row' hs' => ?_
      have en : ZL c = Ok k (ql c) := by
        unfold ZL;rw[show(pts (ql c) - 32).toNat = k by rw[hfix];omega]
      rw[<-en]at row';exact hs'.slt λtm6 hs6 => hs6.slt λtm7 hs7 => fin h' tm7 cs' w' row' (hs7.sub (by kernel_rfl))
theorem _root_.Go.Sim.Sl.kept {h h':H}{v:V}{esz n:Nat}{xs:List V}(s:Sl h v esz n xs) (hn:h.nx<=h'.nx) (hg:∀b,zu v=some b->h'.get b=h.get b):Sl h' v esz n xs:=by
 obtain⟨h1,h2⟩:=s;refine⟨h1,h2.imp id ?_⟩;rintro⟨b,o,cp,cs,k,w,op,rfl,h3,h4,h5⟩;exact⟨b,o,cp,cs,k,w,op,rfl,oI h3 hn,by rw[hg b rfl];exact h4,h5⟩
theorem zKn {v:V}{c:List Int}(sl:Sl h v 1 c.length (zJ c)) (g:CD c) (hn:h.nx+30<=T.top) (hlow:h.low<=T.top)
  (hq:∀h' b,Ext h h' 10->h.nx<=b->Sl h' (.slice b 0 (ZL c).length (.exact (ZL c).length)) 1 (ZL c).length (zJ (ZL c))->Q (.tuple [.agg [.int .i64 5,.slice b 0 (ZL c).length (.exact (ZL c).length)],.int .i64 0]) h'):RF P zA 102 [v,.int .i64 6] h Q:=by
 have hc:=JZ c;have hlen:=g.len;refine yD zZY rfl rfl z15 ⟨by omega,?_⟩;rintro p0 h1 rfl e1;have w1:=(Vw.nil (S:=zR) (h:=h)).new e1 (by omega);have t1:=w1.top;have s1:=sl.ext w1.ex0;have l1:h1.low<=T.top:=zHL w1.ex0 hlow;refine zXN s1 g.gc g.ne (by omega) g.sum ⟨_,_,rfl,λq=>absurd rfl q,λ_=>zU0 s1 g (by omega) l1 λh8 b x8 hb s8=>⟨_,_,_,rfl,?_⟩⟩
 have w8:=w1.ext x8;have t8:=w8.top;obtain⟨h9,e9,w9,n9,_⟩:=w8.st (cx:=zA) 0 (t:=59) (f:=0) (u:=.agg [.int .i64 5,.slice b 0 (ZL c).length (.exact (ZL c).length)]) rfl (by omega) yr rfl (oJ _) rfl rfl;refine⟨h9,e9,endL.ok (leaveL.cell (w9.ldA 0 rfl yr rfl rfl) rfl) ?_⟩;have hb':h.nx<b:=by have:=w1.lt 0 rfl;omega
 refine hq h9 b (w9.ex0.mono (by omega)) (by omega) ?_;have x9:zf zA 59 h8 (.ptr h.nx 0) (.agg [.int .i64 5,.slice b 0 (ZL c).length (.exact (ZL c).length)])=some (h8.upd h.nx (some (oD 5 (.slice b 0 (ZL c).length (.exact (ZL c).length))))):=zk yr (w8.get 0 rfl) rfl (oJ _) rfl rfl;rw[x9]at e9;cases e9;exact s8.kept (oP _) λb' hb2=>by
  cases hb2;exact zP _ (by omega) (by omega)
structure Wr where
 s:List UInt8
 p:Nat
 n:Nat
def zDo (w:Wr) (b:Nat):Wr:=if w.n=7 then ⟨w.s++[UInt8.ofNat (w.p+b*2^w.n)],0,0⟩ else ⟨w.s,w.p+b*2^w.n,w.n+1⟩
def yu (w:Wr) (v:Nat):Nat->Wr
 | 0=>w
 | k+1=>zDo (yu w v k) (v/2^k % 2)
structure Wr.ok (w:Wr) (m:Nat):Prop where
 p:w.p<2^w.n
 n:w.n<=7
 s:8*w.s.length+w.n<=m
theorem zUZ {w:Wr}{m b:Nat}(h:w.ok m) (hb:b<2):(zDo w b).ok (m+1):=by
 obtain⟨h1,h2,h3⟩:=h;unfold zDo;split
 ·refine⟨?_,?_,?_⟩
  ·exact Nat.one_pos
  ·exact oJ _
  ·show 8*(w.s++_).length+0<=_
   rw[oU];simp;omega
 ·refine⟨?_,?_,?_⟩
  ·show w.p+b*2^w.n<2^(w.n+1)
   have:b*2^w.n<=1*2^w.n:=Nat.mul_le_mul_right _ (by omega);rw[Nat.pow_succ];omega
  ·show w.n+1<=7
   omega
  ·show 8*w.s.length+(w.n+1)<=_
   omega
theorem yw {w:Wr}{m v:Nat}(h:w.ok m):∀k,(yu w v k).ok (m+k)
 | 0=>h
 | k+1=>zUZ (yw h k) (Nat.mod_lt _ (by decide))
theorem Wr.ok.up {w:Wr}{m k:Nat}(h:w.ok m) (hk:m<=k):w.ok k:=⟨h.p,h.n,oQ h.s hk⟩
abbrev Yg (w:Wr):V:=.agg [.str w.s,.int .i64 (w.p:Nat),.int .i64 (w.n:Nat)]
abbrev oWr (w:Wr) (k:Nat):O:=.cells (.ls [.str w.s,.int .i64 (w.p:Nat),.int .i64 (w.n:Nat)]) ⟨0,k,0⟩ true false
theorem yV {p o:Nat}{k:V->H->Prop}:zS zA 339 0 h (.ptr p o) k=k (.ptr p (o+0)) h:=by kernel_rfl
theorem zCw {p o:Nat}{k:V->H->Prop}:zS zA 209 0 h (.ptr p o) k=k (.ptr p (o+0)) h:=by kernel_rfl
theorem zCx {p o:Nat}{k:V->H->Prop}:zS zA 209 1 h (.ptr p o) k=k (.ptr p (o+1)) h:=by kernel_rfl
theorem J3 {p o:Nat}{k:V->H->Prop}:zS zA 209 2 h (.ptr p o) k=k (.ptr p (o+2)) h:=by kernel_rfl
theorem zIP {a b:List UInt8}{x y:Nat}{k:V->Prop}(hl:a.length+b.length<=4611686018427387904) (hk:k (.str (a++b))):wY zA .add 9 (t x) (t y) 9 (.str a) (.str b) k:=⟨hl,hk⟩
theorem zXX {p n b:Nat}(hp:p<2^n):p ||| b*2^n=p+b*2^n:=zAR hp
theorem zUY {S:Nat->Prop}{hb h:H}{c i p m b:Nat}{L:List (Nat×O)}{w:Wr}(vw:Vw S hb h c L) (hL:L[i]? = some (p,oWr w (339+1))) (ok:w.ok m) (hm:m<=8388600) (hb2:b<2) (hn:h.nx+1<=T.top) (hlow:h.low<=T.top)
  (hq:∀h',Vw S hb h' (c+1) (L.set i (p,oWr (zDo w b) (339+1)))->h'.nx<=h.nx+1->h'.low<=T.top->Q (.tuple []) h'):RF P zA 310 [.ptr p 0,.int .i64 b] h Q:=by
 obtain⟨s,pp,n⟩:=w;obtain⟨hp,hn7,hs⟩:=ok;simp only at hp hn7 hs
 replace hL:L[i]? = some (p,.cells (.ls [.str s,.int .i64 (pp:Nat),.int .i64 (n:Nat)]) ⟨0,339+1,0⟩ true false):=hL
 have hpn:2^n<=2^7:=Nat.pow_le_pow_right (by decide) hn7;have hbb:b*2^n<=1*2^n:=Nat.mul_le_mul_right _ (by omega);refine yD z0m rfl rfl z2t ⟨⟨by omega,hlow⟩,.ptr p 0,zM h,rfl,(yE (by omega) hlow).1,je (by omega) hlow ?_⟩;rw[yV,zCx];refine⟨_,vw.ld1 i hL zb rfl rfl,.ptr p 0,zM h,rfl,(yE (by omega) hlow).1,je (by omega) hlow ?_⟩;rw[yV,J3];refine⟨_,vw.ld1 i hL zb rfl rfl,((b*2^n:Nat):Int),by rw[zW (by omega)];exact yC (by omega) (by omega),((pp+b*2^n:Nat):Int),by rw[<-zXX hp];exact zIu (by omega) (by omega),.ptr p 0,h,rfl,?_⟩;rw[yV,zCx];obtain⟨h1,e1,w1,n1,_⟩:=vw.st (cx:=zA) i (t:=3) (f:=0+0+1) (u:=.int .i64 ((pp+b*2^n:Nat):Int)) hL (by omega) zb rfl (oJ _) rfl rfl;refine⟨h1,e1,.ptr p 0,h1,rfl,?_⟩;have hi:i<L.length:=(List.getElem?_eq_some_iff.1 hL).1;have g1:(L.set i (p,O.cells (.ls [.str s,.int .i64 ((pp+b*2^n:Nat):Int),.int .i64 (n:Nat)]) ⟨0,339+1,0⟩ true false))[i]? = some (p,.cells (.ls [.str s,.int .i64 ((pp+b*2^n:Nat):Int),.int .i64 (n:Nat)]) ⟨0,339+1,0⟩ true false):=List.getElem?_set_self hi;rw[yV,J3];refine⟨_,w1.ld1 i g1 zb rfl rfl,.ptr p 0,h1,rfl,?_⟩;rw[yV,J3,yR (by omega)];obtain⟨h2,e2,w2,n2,_⟩:=w1.st (cx:=zA) i (t:=3) (f:=0+0+2) (u:=.int .i64 ((n+1:Nat):Int)) g1 (by omega) zb rfl (oJ _) rfl rfl;rw[List.set_set]at w2;refine⟨h2,e2,.ptr p 0,h2,rfl,?_⟩;have g2:(L.set i (p,O.cells (.ls [.str s,.int .i64 ((pp+b*2^n:Nat):Int),.int .i64 ((n+1:Nat):Int)]) ⟨0,339+1,0⟩ true false))[i]? = some (p,.cells (.ls [.str s,.int .i64 ((pp+b*2^n:Nat):Int),.int .i64 ((n+1:Nat):Int)]) ⟨0,339+1,0⟩ true false):=List.getElem?_set_self hi;have l2:h2.low<=T.top:=by
  have a1:=w2.low;have a2:=vw.low;have:h2.low<=h.low:=by
   have x1:h1=h.upd p (some (.cells (.ls [.str s,.int .i64 ((pp+b*2^n:Nat):Int),.int .i64 (n:Nat)]) ⟨0,339+1,0⟩ true false)):=Option.some.inj (e1.symm.trans (zk zb (vw.get i hL) rfl (oJ _) rfl rfl));have x2:h2=h1.upd p (some (.cells (.ls [.str s,.int .i64 ((pp+b*2^n:Nat):Int),.int .i64 ((n+1:Nat):Int)]) ⟨0,339+1,0⟩ true false)):=Option.some.inj (e2.symm.trans (zk zb (w1.get i g1) rfl (oJ _) rfl rfl));rw[x2,H.low_upd,x1,H.low_upd];omega
  omega
 rw[yV,J3];refine⟨_,w2.ld1 i g2 zb rfl rfl,λc=>?_,λc=>?_⟩
 ·have n8:n=7:=by omega
  subst n8;refine⟨⟨by omega,l2⟩,.ptr p 0,zM h2,rfl,(yE (by omega) l2).1,je (by omega) l2 ?_⟩;rw[yV,zCw];refine⟨_,w2.ld1 i g2 qh rfl rfl,.ptr p 0,zM h2,rfl,(yE (by omega) l2).1,je (by omega) l2 ?_⟩;rw[yV,zCx];have hps:pp+b*2^7<256:=by omega
  obtain⟨h3,e3,s3,x3⟩:=YC (h:=h2) ((pp+b*2^7:Nat):Int) (by omega);have l3:h3.low<=T.top:=oQ x3.low l2;have t3:=x3.top;have w3:=w2.ext x3;refine⟨_,w2.ld1 i g2 zb rfl rfl,_,h3,by rw[ji,oe hps];exact e3,?_⟩;have s3':Sl (zM h3) (.slice h2.nx 0 1 (.exact 1)) 1 [UInt8.ofNat (pp+b*2^7)].length (Kk [UInt8.ofNat (pp+b*2^7)]):=by
   show Sl (zM h3) _ 1 1 [byv _];rw[Yp hps];exact s3
  refine X1 s3' (by simp) ⟨(yE (by omega) l3).1,je (by omega) l3 ?_⟩;refine zIP (by simp;omega) ⟨.ptr p 0,h3,rfl,?_⟩;rw[yV,zCw];obtain⟨h4,e4,w4,n4,_⟩:=w3.st (cx:=zA) i (t:=9) (f:=0+0+0) (u:=.str (s++[UInt8.ofNat (pp+b*2^7)])) g2 (by omega) qh rfl (oJ _) rfl rfl;rw[List.set_set]at w4;refine⟨h4,e4,.ptr p 0,h4,rfl,?_⟩;rw[yV,zCx];obtain⟨h5,e5,w5,n5,_⟩:=w4.st (cx:=zA) i (t:=3) (f:=0+0+1) (u:=.int .i64 0) (List.getElem?_set_self hi) (by omega) zb rfl (oJ _) rfl rfl;rw[List.set_set]at w5;refine⟨h5,e5,.ptr p 0,h5,rfl,?_⟩;rw[yV,J3];obtain⟨h6,e6,w6,n6,_⟩:=w5.st (cx:=zA) i (t:=3) (f:=0+0+2) (u:=.int .i64 0) (List.getElem?_set_self hi) (by omega) zb rfl (oJ _) rfl rfl;rw[List.set_set]at w6;have x4:h4=h3.upd p (some (.cells (.ls [.str (s++[UInt8.ofNat (pp+b*2^7)]),.int .i64 ((pp+b*2^7:Nat):Int),.int .i64 ((7+1:Nat):Int)]) ⟨0,339+1,0⟩ true false)):=Option.some.inj (e4.symm.trans (zk qh (w3.get i g2) rfl (oJ _) rfl rfl));have x5:h5=h4.upd p (some (.cells (.ls [.str (s++[UInt8.ofNat (pp+b*2^7)]),.int .i64 0,.int .i64 ((7+1:Nat):Int)]) ⟨0,339+1,0⟩ true false)):=Option.some.inj (e5.symm.trans (zk zb (w4.get i (List.getElem?_set_self hi)) rfl (oJ _) rfl rfl));have x6:h6=h5.upd p (some (.cells (.ls [.str (s++[UInt8.ofNat (pp+b*2^7)]),.int .i64 0,.int .i64 0]) ⟨0,339+1,0⟩ true false)):=Option.some.inj (e6.symm.trans (zk zb (w5.get i (List.getElem?_set_self hi)) rfl (oJ _) rfl rfl));refine⟨h6,e6,hq h6 w6 (by omega) ?_⟩;rw[x6,H.low_upd,x5,H.low_upd,x4,H.low_upd];omega
 ·have:zDo ⟨s,pp,n⟩ b=⟨s,pp+b*2^n,n+1⟩:=by unfold zDo;rw[if_neg (by show ¬n=7;omega)]
  rw[this]at hq;exact hq h2 (w2.more (by omega)) (by omega) l2
def Yn (v n:Nat):List Int:=(List.range n).map λi=>((v/2^i % 2:Nat):Int)
theorem qH (v n:Nat):(Yn v n).length=n:=by simp[Yn]
theorem zKN (v n:Nat):Yn v (n+1)=Yn v n++[((v/2^n % 2:Nat):Int)]:=by unfold Yn;rw[List.range_succ,List.map_append];rfl
theorem zQl {v n i:Nat}(h:i<n):(Yn v n)[i]'(by rw[qH];exact h)=((v/2^i % 2:Nat):Int):=by simp[Yn]
theorem zGH {S:Nat->Prop}{hb h:H}{c:Nat}{L:List (Nat×O)}{v n:Nat}(vw:Vw S hb h c L) (hv:v<4294967296) (hn:n<=32) (ht:h.nx+1<=T.top)
  (hq:∀h' cs,Vw S hb h' (c+1) ((h.nx,xn cs)::L)->h'.nx=h.nx+1->Row cs n (zJ (Yn v n))->Q (.slice h.nx 0 n (.exact n)) h'):RF P zA 289 [.int .i64 v,.int .i64 n] h Q:=by
 obtain⟨cs,e1,row⟩:=Row.make (cx:=zA) (k:=n) (h:=h) zO rfl zb rfl rfl rfl (by omega) (by show 8*n<=_;omega) (by omega);have w1:=vw.new (o:=xn cs) rfl (by omega);refine yD z07 rfl rfl z2e ⟨_,_,e1,Has.nil.on λtm hs=>?_⟩
 have hnx:(h.new (xn cs)).nx=h.nx+1:=zG _ _;generalize h.new (xn cs)=h1 at w1 hs hnx;refine wpC.round (λk tm h'=>∃(i:Nat) (cs:Cs),i<=n/\k=n-i/\h'.nx=h.nx+1/\Vw S hb h' (c+1) ((h.nx,xn cs)::L)/\Row cs n (zJ (Yn v i++List.replicate (n-i) 0))/\Has tm [(10,.int .i64 i),(9,.int .i64 n),(5,.slice h.nx 0 n (.exact n)),(0,.int .i64 v)]) n
  ⟨0,cs,by omega,by omega,hnx,w1,by rw[show Yn v 0=[]from rfl,List.nil_append,Nat.sub_zero,jQ];exact row,hs.sub (by kernel_rfl)⟩ ?_
 clear hs w1 row hnx e1 h1;rintro k tm h' ⟨i,cs,hi,rfl,hnx,w,row,hs⟩;refine wpC.av hs zSc rfl rfl ⟨λq=>?_,λq=>hs.on λtm' hs'=>?_⟩
 ·have hin:i<n:=by omega
  have hdv:v/2^i<=v:=Nat.div_le_self _ _;obtain⟨h2,cs2,e2,row2,w2,n2⟩:=w.set (cx:=zA) 0 (j:=i) (u:=.int .i64 ((v/2^i % 2:Nat):Int)) row rfl (by omega) hin zb rfl rfl rfl rfl;rw[<-xC,zJJ (qH v i) hin,<-zKN]at row2;refine⟨_,by rw[zW (by omega)];exact q8 (by omega),((v/2^i % 2:Nat):Int),?_,h.nx,i,yb zO rfl zb rfl hin,h2,e2,hs.on λtm' hs'=>⟨rfl,rfl,n-(i+1),by omega,i+1,cs2,by omega,rfl,by show h2.nx=_;omega,w2,row2,?_⟩⟩
  ·rw[<-Nat.and_one_is_mod]
   exact ZU (b:=1) (by omega) (by decide)
  ·rw[<-yR (by omega)]
   exact hs'.sub (by kernel_rfl)
 ·have hin:i=n:=by omega
  subst hin;rw[Nat.sub_self,List.replicate_zero,List.append_nil]at row;refine thenC.left (wpS.av hs' zTr rfl rfl (hs'.on λtm2 hs2=>endW.r1 (hs2.get rfl) (hq h' cs w hnx row)))
theorem zGR {S:Nat->Prop}{hb h:H}{c b p m v n:Nat}{L:List (Nat×O)}{cs:Cs}{w:Wr}(vw:Vw S hb h c ((b,xn cs)::(p,oWr w (339+1))::L)) (row:Row cs n (zJ (Yn v n))) (ok:w.ok m) (hm:m+n<=8388600) (hn:hb.nx+c+n+1<=T.top) (hlow:h.low<=T.top)
  (hq:∀h',Vw S hb h' (c+n) ((b,xn cs)::(p,oWr (yu w v n) (339+1))::L)->h'.low<=T.top->Q (.tuple []) h'):RF P zA 288 [.ptr p 0,.slice b 0 n (.exact n)] h Q:=by
 have sl0:Sl h (.slice b 0 n (.exact n)) 1 (Yn v n).length (zJ (Yn v n)):=by rw[qH];exact row.sl (vw.lt 0 rfl) (vw.get 0 rfl)
 refine yD z06 rfl rfl z2d ⟨_,by have:=sl0.len (t:=23) zO rfl;rwa [qH]at this,Has.nil.on λtm hs=>?_⟩
 refine wpC.round (λk tm h'=>∃i:Nat,i<=n/\k=n-i/\h'.low<=T.top/\Vw S hb h' (c+i) ((b,xn cs)::(p,oWr (yu w v i) (339+1))::L)/\Has tm [(8,.int .i64 i),(7,.int .i64 n),(6,.slice b 0 n (.exact n)),(0,.ptr p 0)]) n ⟨0,by omega,by omega,hlow,vw,hs.sub (by kernel_rfl)⟩ ?_
 clear hs sl0 vw hlow;rintro k tm h' ⟨i,hi,rfl,hlow,vw,hs⟩;have tv:=vw.top;refine wpC.av hs zSb rfl rfl ⟨λq=>?_,λq=>hs.on λtm' hs'=>?_⟩
 ·have hin:i<n:=by omega
  have sl:Sl h' (.slice b 0 n (.exact n)) 1 (Yn v n).length (zJ (Yn v n)):=by rw[qH];exact row.sl (vw.lt 0 rfl) (vw.get 0 rfl)
  obtain⟨b2,o,a1,a2⟩:=yh sl (i:=i) (by rw[qH];exact hin);rw[zQl hin]at a2;refine⟨b2,o,a1,_,a2,zUY vw (i:=1) rfl (yw ok i) (by omega) (Nat.mod_lt _ (by decide)) (by omega) hlow λh2 w2 t2 l2=>⟨rfl,hs.on λtm' hs'=>⟨rfl,rfl,n-(i+1),by omega,i+1,by omega,rfl,l2,w2,?_⟩⟩⟩
  rw[<-yR (by omega)];exact hs'.sub (by kernel_rfl)
 ·have hin:i=n:=by omega
  subst hin;show endW zA ⟨16,[],zJz⟩ Q (zc 0 (.exit 0)) _;rw[xB];exact hq h' vw hlow
theorem zIw {f:Bool->Prop}(h:f false):ZM false f:=h
theorem ldW {S:Nat->Prop}{hb h:H}{c i p k:Nat}{L:List (Nat×O)}{w:Wr}(vw:Vw S hb h c L) (hL:L[i]? = some (p,oWr w k)):zK zA 209 h (.ptr p 0)=some (Yg w):=vw.ldA i hL Zv rfl rfl
theorem zGS {S:Nat->Prop}{hb h:H}{c i p m:Nat}{L:List (Nat×O)}{w:Wr}(vw:Vw S hb h c L) (hL:L[i]? = some (p,oWr w (339+1))) (ok:w.ok m) (hm:m<=8388600) (hn:h.nx+1<=T.top)
  (hq:∀h' o,Vw S hb h' (c+1) ((h.nx,o)::L)->h'.nx=h.nx+1->Q (.tuple [Yg w,.int .i64 0]) h'):RF P zA 290 [.ptr p 0] h Q:=by
 have hs:=ok.s;refine yD z08 rfl rfl z2f ⟨by omega,?_⟩;rintro p0 h1 rfl e1;have w1:=vw.new e1 (by omega);have n1:h1.nx=h.nx+1:=by rw[e1,zG]
 refine⟨.ptr p 0,h1,rfl,?_⟩;rw[yV,zCw];refine⟨_,w1.ld1 (i+1) (by simpa using hL) qh rfl rfl,λc=>absurd (show(1048576:Int)<(w.s.length:Int)from c) (by omega),λ_=>⟨.ptr p 0,h1,rfl,?_⟩⟩
 rw[yV];obtain⟨h2,e2,w2,n2,_⟩:=w1.st (cx:=zA) 0 (t:=209) (f:=0) (u:=Yg w) rfl (by omega) Zv rfl (oJ _) rfl rfl;refine⟨_,_,_,ldW w1 (i:=i+1) (by simpa using hL),h2,e2,endL.ok (leaveL.cell (w2.ldA 0 rfl Zv rfl rfl) rfl) (hq h2 _ w2 (by omega))⟩
theorem zCP {w:Wr}{m:Nat}(ok:w.ok m) (hm:m<=8388600) (hq:Q (.int .i64 0) h):RF P zA 287 [Yg w] h Q:=by
 refine RF.plain ?_ (zj rfl);have hq:∀h':H,Plain (.int .i64 0)/\Q (.int .i64 0) h:=λ_=>⟨ye _ _,hq⟩
 obtain⟨hp,hn,hs⟩:=ok;have hpn:2^w.n<=2^7:=Nat.pow_le_pow_right (by decide) hn;refine yD z05 rfl rfl z2c ⟨by decide,?_⟩;rintro p0 h1 rfl e1;have w1:=(Vw.nil (S:=zR) (h:=H0)).new e1 (by decide);refine⟨_,w1.ld1 0 rfl zb rfl rfl,λc=>by omega,λ_=>⟨_,w1.ld1 0 rfl zb rfl rfl,λc=>by omega,λ_=>⟨_,w1.ld1 0 rfl zb rfl rfl,λc=>by omega,λ_=>⟨_,w1.ld1 0 rfl zb rfl rfl,_,w1.ld1 0 rfl zb rfl rfl,_,by rw[zW (by omega)];exact q8 (by omega),λc=>?_,λ_=>Has.nil.on λtm hs=>?_⟩⟩⟩⟩
 ·exact absurd (by rw[Nat.div_eq_of_lt hp];rfl) c
 ·refine wpS.av hs zTp rfl rfl (zIw ?_)
  rw[zCw];refine⟨_,w1.ld1 0 rfl qh rfl rfl,λc=>absurd (show(1048576:Int)<(w.s.length:Int)from c) (by omega),λ_=>hs.on λtm2 hs2=>thenC.nx (wpS.av hs2 zTq rfl rfl (hs2.on λtm3 hs3=>endW.r1 (hs3.get rfl) (hq h1)))⟩
theorem zUW {w:Wr}{m v n:Nat}(ok:w.ok m) (hm:m+n<=8388600) (hn:n<=32) (hv:v<2^n) (hq:Q (.tuple [Yg (yu w v n),.int .i64 0]) h):RF P zA 246 [Yg w,.int .i64 n,.int .i64 v] h Q:=by
 refine RF.plain ?_ (zj rfl);have hq:∀h':H,Plain (.tuple [Yg (yu w v n),.int .i64 0])/\Q (.tuple [Yg (yu w v n),.int .i64 0]) h:=λ_=>⟨zd rfl,hq⟩
 have ht:=zt;have hv2:v<4294967296:=oI hv (show 2^n<=2^32 from Nat.pow_le_pow_right (by decide) hn);have z0:H0.nx=0:=rfl;have zl:H0.low<=T.top:=oE rfl;refine yD z0I rfl rfl z2O ⟨by decide,?_⟩;rintro p0 h1 rfl e1;have w1:=(Vw.nil (S:=zR) (h:=H0)).new (o:=oWr w (209+1)) e1 (by decide);have t1:=w1.top;refine⟨by omega,?_⟩;rintro p2 h3 rfl e3;have w3:=w1.new (o:=oWr ⟨[],0,0⟩ (209+1)) e3 (by omega);have t3:=w3.top;refine⟨_,_,_,ldW w3 (i:=1) rfl,zCP ok (by omega) ⟨_,rfl,λc=>absurd rfl c,λ_=>⟨λc=>by omega,λ_=>⟨λc=>by omega,λ_=>⟨λc=>by omega,λ_=>⟨_,by rw[zW (by omega)];exact q8 (by omega),λc=>?_,λ_=>Has.nil.on λtm hs=>?_⟩⟩⟩⟩⟩⟩
 ·exact absurd (by rw[Nat.div_eq_of_lt hv];rfl) c
 refine wpS.av hs zT5 rfl rfl ⟨_,_,_,ldW w3 (i:=1) rfl,by omega,?_⟩;rintro p4 h4 rfl e4;have w4:=w3.new (o:=oWr w (339+1)) e4 (by omega);have t4:=w4.top;have l4:h4.low<=T.top:=by have:=w4.low;omega
 refine zGH w4 hv2 hn (by omega) λh6 cs w6 n6 row=>⟨_,rfl,?_⟩
 have l6:h6.low<=T.top:=by have:=w6.low;omega
 refine zGR w6 row ok (by omega) (by omega) l6 λh9 w9 l9=>⟨rfl,?_⟩
 have t9:=w9.top;refine zGS w9 (i:=1) rfl (yw ok n) (by omega) (by omega) λh11 o w11 n11=>⟨_,_,_,_,rfl,?_⟩
 obtain⟨h12,e12,w12,n12,_⟩:=w11.st (cx:=zA) 3 (t:=209) (f:=0) (u:=Yg (yu w v n)) rfl (by omega) Zv rfl (oJ _) rfl rfl;refine⟨h12,e12,hs.on λtm2 hs2=>endW.ok (leave.cell (hs2.get (t:=6) rfl) (w12.ldA 3 rfl Zv rfl rfl) (leave.tmp (hs2.get (t:=7) rfl) rfl)) (hq h12)⟩
theorem zPe {w:Wr}{m:Nat}(ok:w.ok m) (hm:m+8<=8388600) (hq:Q (.tuple [.str (yu w 0 ((8-w.n) % 8)).s,.int .i64 0]) h):RF P zA 174 [Yg w] h Q:=by
 refine RF.plain ?_ (zj rfl);have hq:∀h':H,Plain (.tuple [.str (yu w 0 ((8-w.n) % 8)).s,.int .i64 0])/\Q (.tuple [.str (yu w 0 ((8-w.n) % 8)).s,.int .i64 0]) h:=λ_=>⟨zd rfl,hq⟩
 have ht:=zt;have hn7:=ok.n;have z0:H0.nx=0:=rfl;have zl:H0.low<=T.top:=oE rfl;refine yD zZg rfl rfl z1n ⟨by decide,?_⟩;rintro q0 g1 rfl f1;have u1:=(Vw.nil (S:=zR) (h:=H0)).new (o:=oWr w (209+1)) f1 (by decide);have s1:=u1.top;refine⟨_,_,_,ldW u1 (i:=0) rfl,yD z0G rfl rfl z2M ⟨by omega,?_⟩⟩;rintro p0 h1 rfl e1;have w1:=u1.new (o:=oWr w (209+1)) e1 (by omega);have t1:=w1.top;refine⟨by omega,?_⟩;rintro p2 h3 rfl e3;have w3:=w1.new (o:=oWr ⟨[],0,0⟩ (209+1)) e3 (by omega);have t3:=w3.top;refine⟨_,_,_,ldW w3 (i:=1) rfl,zCP ok (by omega) ⟨_,rfl,λc=>absurd rfl c,λ_=>⟨_,_,_,ldW w3 (i:=1) rfl,by omega,?_⟩⟩⟩
 rintro p4 h4 rfl e4;have w4:=w3.new (o:=oWr w (339+1)) e4 (by omega);have t4:=w4.top;have l4:h4.low<=T.top:=by have:=w4.low;omega
 refine⟨.ptr h3.nx 0,h4,rfl,?_⟩;rw[yV,J3];have er:Int.tmod (zH (8-((w.n:Nat):Int))) 8=(((8-w.n) % 8:Nat):Int):=by
  rw[zD (by omega) (by omega),show(8:Int)-((w.n:Nat):Int)=((8-w.n:Nat):Int)by omega];rfl
 refine⟨_,w4.ld1 0 rfl zb rfl rfl,by decide,?_⟩;rw[er];have hk:(8-w.n) % 8<8:=Nat.mod_lt _ (by decide);generalize (8-w.n) % 8=k at *;refine zGH (v:=0) w4 (by decide) (by omega) (by omega) λh6 cs w6 n6 row=>⟨_,rfl,?_⟩
 have l6:h6.low<=T.top:=by have:=w6.low;omega
 refine zGR w6 row ok (by omega) (by omega) l6 λh9 w9 l9=>⟨rfl,?_⟩
 have t9:=w9.top;refine zGS w9 (i:=1) rfl (yw ok k) (by omega) (by omega) λh11 o w11 n11=>⟨_,_,_,_,rfl,?_⟩
 obtain⟨h12,e12,w12,n12,_⟩:=w11.st (cx:=zA) 3 (t:=209) (f:=0) (u:=Yg (yu w 0 k)) rfl (by omega) Zv rfl (oJ _) rfl rfl;refine⟨h12,e12,endL.ok (leaveL.cell (w12.ldA 3 rfl Zv rfl rfl) rfl) ⟨_,_,_,_,rfl,by omega,?_⟩⟩;rintro p13 h13 rfl e13;have w13:=w12.new (o:=oWr ⟨[],0,0⟩ (209+1)) e13 (by omega);have n13:h13.nx=h12.nx+1:=by rw[e13,zG]
 obtain⟨h14,e14,w14,n14,_⟩:=w13.st (cx:=zA) 0 (t:=209) (f:=0) (u:=Yg (yu w 0 k)) rfl (by omega) Zv rfl (oJ _) rfl rfl;exact⟨h14,e14,_,w14.ld1 0 rfl qh rfl rfl,hq h14⟩
def wO:List Int->Nat
 | []=>0
 | x::l=>if x=0 then wO l+1 else 0
def ky:Nat->Wr->Nat->Wr
 | 0,w,z=>yu w z 2
 | f+1,w,z=>if 3<=z then ky f (yu w 3 2) (z-3) else yu w z 2
def kx (left:Nat) (v:Nat):Nat×Nat:=if v<shT left then (xX left-1,v) else if v<2^(xX left-1) then (xX left,v) else (xX left,v+shT left)
def kw:Nat->Wr->Nat->List Int->Wr
 | 0,w,_,_=>w
 | _,w,_,[]=>w
 | f+1,w,left,p::l =>
  if p≠0 then kw f (yu w (kx left (p+1).toNat).2 (kx left (p+1).toNat).1) (left-(pt p).toNat) l
  else kw f (ky l.length (yu w (kx left 1).2 (kx left 1).1) (wO l)) left (l.drop (wO l))
def Yf (log:Nat) (l:List Int):Wr:=kw l.length (yu ⟨[],0,0⟩ (log-5) 4) (2^log) l
def zMY (log:Nat) (l:List Int):List UInt8:=(yu (Yf log l) 0 ((8-(Yf log l).n) % 8)).s
theorem zDx:∀l:List Int,wO l<=l.length
 | []=>oP _
 | x::l=>by
  unfold wO;split
  ·have:=zDx l;simp;omega
  ·exact oJ _
theorem zDw {l:List Int}:∀{i:Nat},i<wO l->l[i]? = some 0:=by
 induction l with
 | nil=>intro i h;cases h
 | cons x l ih =>
  intro i h;unfold wO at h;split at h
  ·rename_i hx
   cases i with
   | zero=>rw[hx];rfl
   | succ i=>exact ih (i:=i) (by omega)
  ·cases h
theorem zPq {l:List Int}(h:wO l<l.length):l[wO l]≠0:=by
 induction l with
 | nil=>cases h
 | cons x l ih =>
  by_cases hx:x=0
  ·have e:wO (x::l)=wO l+1:=by show(if x=0 then wO l+1 else 0)=_;rw[if_pos hx]
   have h2:wO l<l.length:=by rw[e]at h;simpa using h
   have:(x::l)[wO (x::l)]=l[wO l]:=by simp only[e,List.getElem_cons_succ]
   rw[this];exact ih h2
  ·have e:wO (x::l)=0:=by show(if x=0 then wO l+1 else 0)=_;rw[if_neg hx]
   have:(x::l)[wO (x::l)]=x:=by simp only[e,List.getElem_cons_zero]
   rw[this];exact hx
theorem zAV:∀l:List Int,pts (l.drop (wO l))=pts l
 | []=>rfl
 | x::l=>by
  by_cases hx:x=0
  ·have e:wO (x::l)=wO l+1:=by show(if x=0 then wO l+1 else 0)=_;rw[if_pos hx]
   rw[e,List.drop_succ_cons,zAV l,xh,hx];have:pt 0=0:=rfl;omega
  ·have e:wO (x::l)=0:=by show(if x=0 then wO l+1 else 0)=_;rw[if_neg hx]
   rw[e];rfl
theorem KE:∀{f:Nat}{w:Wr}{m z:Nat},w.ok m->(ky f w z).ok (m+2*f+2)
 | 0,w,m,z,h=>(yw h 2).up (by omega)
 | f+1,w,m,z,h=>by
  unfold ky;split
  ·exact(KE (yw h 2)).up (by omega)
  ·exact(yw h 2).up (by omega)
theorem zJ8 {left v:Nat}(h0:0<left) (hl:left<=64) (hv:v<=left+1):(kx left v).1<=7/\(kx left v).2<2^(kx left v).1:=by
 obtain⟨h1,h2,h3⟩:=Zo left;have hb:xX left<=7:=yA (by omega);have ht:shT left=2^xX left-2-left:=rfl;unfold kx;split
 ·exact⟨by show xX left-1<=7;omega,by show v<2^(xX left-1);omega⟩
 ·split
  ·exact⟨hb,by show v<2^xX left;omega⟩
  ·exact⟨hb,by show v+shT left<2^xX left;omega⟩
abbrev vwW {hb:H}(h:H) (c p5 p3 p0:Nat) (w:Wr) (log:Int) (v:V):Prop:=Vw zR hb h c [(p5,oWr w (209+1)),(p3,oWr ⟨[],0,0⟩ (209+1)),(p0,oD log v)]
abbrev z6E (p5:Nat):V:=.func (.func 245) [] [.ptr p5 0]
theorem OD {hb h:H}{c p5 p3 p0 m v n:Nat}{log:Int}{vd:V}{w:Wr}(vw:vwW (hb:=hb) h c p5 p3 p0 w log vd) (ok:w.ok m) (hm:m+n<=8388600) (hn:n<=32) (hv:v<2^n) (ht:h.nx<=T.top)
  (hq:∀h',vwW (hb:=hb) h' c p5 p3 p0 (yu w v n) log vd->h'.nx=h.nx->Q (.tuple []) h'):RF P zA 245 [.int .i64 n,.int .i64 v,.ptr p5 0] h Q:=by
 obtain⟨h2,e2,w2,n2,_⟩:=vw.st (cx:=zA) 0 (t:=209) (f:=0) (u:=Yg (yu w v n)) rfl ht Zv rfl (oJ _) rfl rfl;exact yD z0H rfl rfl z2N ⟨_,_,_,ldW vw (i:=0) rfl,zUW ok hm hn hv ⟨_,_,_,_,rfl,h2,e2,hq h2 w2 n2⟩⟩
abbrev knW (p5 p3 p0 i left:Nat):Kn:=[(6,.int .i64 i),(1,.ptr p0 0),(5,.int .i64 left),(4,z6E p5),(3,.ptr p5 0),(2,.ptr p3 0)]
theorem zU6 {hb h:H}{c p5 p3 p0 m z f i left:Nat}{log:Int}{vd:V}{w:Wr}{tm:Tm}{d:List AD}{R:AX->St->Prop}(hs:Has tm ((11,.int .i64 z)::knW p5 p3 p0 i left)) (vw:vwW (hb:=hb) h c p5 p3 p0 w log vd) (ok:w.ok m) (hm:m+2*f+2<=100000) (hf:z<=f) (_:z<=1000) (ht:hb.nx+c<=T.top)
  (hR:∀tm' h',Has tm' (knW p5 p3 p0 i left)->vwW (hb:=hb) h' c p5 p3 p0 (ky f w z) log vd->R .normal ⟨100,tm',d,h'⟩):wv false zD2 ⟨100,tm,d,h⟩ R:=by
 refine wpS.av hs zTQ rfl rfl (hs.on λtm1 hs1=>?_);refine wpC.round (λk tm h'=>∃(w1:Wr) (z1 f1:Nat),k=z1/\z1<=z/\z1<=f1/\f1<=f/\w1.ok (m+2*(f-f1))/\ky f1 w1 z1=ky f w z/\vwW (hb:=hb) h' c p5 p3 p0 w1 log vd/\Has tm ((11,.int .i64 z1)::knW p5 p3 p0 i left)) z
  ⟨w,z,f,rfl,oP _,hf,oP _,ok.up (by omega),rfl,vw,hs1.sub (by kernel_rfl)⟩ ?_
 clear hs hs1 vw ok;rintro k tm h' ⟨w1,z1,f1,rfl,hz1,hzf,hff,ok,he,vw,hs⟩;have tv:=vw.top;refine wpC.av hs zSV rfl rfl ⟨λq=>?_,λq=>hs.on λtm' hs'=>?_⟩
 ·obtain⟨f2,rfl⟩:∃f2,f1=f2+1:=⟨f1-1,by omega⟩
  show RF P zA 245 [.int .i64 2,.int .i64 3,.ptr p5 0] h' _;refine OD (v:=3) (n:=2) vw ok (by omega) (by decide) (by decide) (by omega) λh2 w2 n2=>zFu (hs.on λtm' hs'=>⟨rfl,rfl,k-3,by omega,yu w1 3 2,k-3,f2,rfl,by omega,by omega,by omega,(yw ok 2).up (by omega),?_,w2,?_⟩)
  ·rw[<-he]
   show _=(if 3<=k then _ else _);rw[if_pos (by omega)]
  ·have:zH (((k:Nat):Int)-3)=((k-3:Nat):Int):=by rw[zD (by omega) (by omega)];omega
   rw[<-this];exact hs'.sub (by kernel_rfl)
 ·have he2:ky f1 w1 k=yu w1 k 2:=by
   cases f1 with
   | zero=>rfl
   | succ f1=>unfold ky;rw[if_neg (by omega)]
  refine thenC.left (wpS.av hs' zTP rfl rfl ?_);show RF P zA 245 [.int .i64 2,.int .i64 (k:Nat),.ptr p5 0] h' _;refine OD (v:=k) (n:=2) vw ok (by omega) (by decide) (by show k<4;omega) (by omega) λh2 w2 n2=>zFu (hs'.on λtm2 hs2=>hs2.slt λtm3 hs3=>hR tm3 h2 (hs3.sub (by kernel_rfl)) ?_)
  rw[<-he,he2];exact w2
end Go.Proofs.YtnpeieeomokomaaGreat
