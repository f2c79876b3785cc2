/- TK. No condition. -/
import Derived.Test.YtnpeieeomokomaaGreatZTJ
set_option maxRecDepth 100000
set_option maxHeartbeats 4000000
namespace Go.Proofs.YtnpeieeomokomaaGreat
open Go.Sim
def wD (l:List Int) (s:Nat):Nat:=(l.filter λx=>decide (x=(s:Int))).length
theorem zJu (l:List Int) (x:Int) (s:Nat):wD (l++[x]) s=wD l s+(if x=s then 1 else 0):=by
 unfold wD;rw[List.filter_append,oR]
 congr 1
 by_cases c:x=(s:Int)<;>simp[c]
theorem KW (l:List Int) (s:Nat):wD l s<=l.length:=List.length_filter_le _ _
def Jt (n:Nat) (l:List Int):List Int:=(List.range n).map λs=>((wD l s:Nat):Int)
abbrev yi (l:List Int):List Int:=Jt 12 l
theorem wj (n:Nat) (l:List Int):(Jt n l).length=n:=by simp[Jt]
theorem kR {n:Nat}{l:List Int}{s:Nat}(h:s<n):(Jt n l)[s]? = some ((wD l s:Nat):Int):=by
 unfold Jt;rw[oU,List.getElem?_range h];rfl
theorem zDZ {n:Nat}{l:List Int}{s:Nat}(h:s<n):(Jt n l).set s ((wD l s+1:Nat):Int)=Jt n (l++[(s:Int)]):=by
 apply List.ext_getElem?;intro i;by_cases c:i<n
 ·rw[kR c,zJu]
  by_cases e:s=i
  ·subst e
   rw[List.getElem?_set_self (by rw[wj];exact h),if_pos rfl]
  ·rw[oW e,kR c,if_neg (by omega)];rfl
 ·rw[oa (by rw[oc,wj];omega),oa (by rw[wj];omega)]
theorem Yf (n:Nat):Jt n []=List.replicate n 0:=by
 apply List.ext_getElem?;intro i;by_cases c:i<n
 ·rw[kR c,List.getElem?_replicate,if_pos c];rfl
 ·rw[oa (by rw[wj];omega),oa (by simp;omega)]
theorem zBl {l:List Int}(hl:l.length<=255):GC (yi l):=⟨by rw[wj];decide,λx hx=>by
 unfold yi Jt at hx;obtain⟨s,_,rfl⟩:=List.mem_map.1 hx;have:=KW l s;omega⟩
theorem Z0:∀{l:List Int},jJ l=true->zu (yi l)=l.length
 | [],_=>by unfold yi;rw[Yf];rfl
 | x::l,h=>by
  have h2:jJ l=true:=by
   have:jJ ([x]++l)=true:=h;rw[jq,oG]at this;exact this.2
  have hx:=wC h (List.mem_cons_self ..);have ih:=Z0 h2;have e:∀s,wD (x::l) s=wD l s+(if x=(s:Int) then 1 else 0):=λs=>by
   unfold wD;by_cases c:x=(s:Int)
   ·rw[List.filter_cons_of_pos (by simpa using c),if_pos c];rfl
   ·rw[List.filter_cons_of_neg (by simpa using c),if_neg c];rfl
  have f:∀m:List Int,zu (yi m)=wD m 0+(wD m 1+(wD m 2+(wD m 3+(wD m 4+(wD m 5+(wD m 6+(wD m 7+(wD m 8+(wD m 9+(wD m 10+(wD m 11+0))))))))))):=λm=>by
   have:List.range 12=[0,1,2,3,4,5,6,7,8,9,10,11]:=by decide
   unfold zu yi Jt;rw[this];simp
  rw[f,oS,<-ih,f];simp only[e];have:x=0\/x=1\/x=2\/x=3\/x=4\/x=5\/x=6\/x=7\/x=8\/x=9\/x=10\/x=11:=by omega
  rcases this with rfl|rfl|rfl|rfl|rfl|rfl|rfl|rfl|rfl|rfl|rfl|rfl<;>simp<;>omega
theorem zDH {p k:Nat}(hk:k<256):zV zA 206 (.ptr p 0) (.int .i64 k)=some (.ptr p k):=by
 unfold zV;have e1:xB (k:Int)=some k:=rfl;simp only[e1,zU0,zi,(z8 _ _).2 hk,oK,Nat.mul_one,Nat.zero_add]
theorem zHA {v:V}{l:List Int}{h:H}{Q:V->H->Prop}(sl:Sl h v 1 l.length (zM l)) (hin:jJ l=true) (hl:l.length<=255) (hn:h.next+1<=T.top)
  (hq:∀h',Ext h h' 1->Sl h' (.slice h.next 0 12 (.exact 12)) 1 12 (zM (yi l))->Q (.tuple [.slice h.next 0 12 (.exact 12),.int .i64 0]) h'):RF P zA 100 [v,.int .i64 11] h Q:=by
 obtain⟨cs0,er,row0⟩:=O7;refine RF.enterS zG zYP (ble _ _ rfl) (ble _ _ rfl) z02 ⟨λc=>absurd c (by decide),λ_=>⟨λc=>absurd c (by decide),λ_=>Has.nil.on λtm hs=>?_⟩⟩
 refine wpS.at hs zR9 rfl rfl ⟨_,sl.len zQ rfl,λc=>by omega,λ_=>zBU er ⟨by omega,?_⟩⟩
 rintro p1 h2 rfl e2;have w2:=(Vw.nil (S:=zW) (h:=h)).new e2 (by omega);have t2:=w2.top;refine⟨_,(sl.ext w2.ex0).len zQ rfl,hs.on λtm1 hs1=>?_⟩
 refine wpC.round (λk tm h'=>∃(i:Nat) (cs:Cs),i<=l.length/\k=l.length-i/\Vw zW h h' 1 [(h.next,.cells cs ⟨0,206+1,0⟩ true false)]/\Row cs 256 (zM (Jt 256 (l.take i))) /\
  Has tm [(20,.int .i64 i),(19,.int .i64 l.length),(18,v),(1,.int .i64 11),(6,.ptr h.next 0)]) l.length ⟨0,cs0,by omega,by omega,w2,by rw[List.take_zero,Yf];exact row0,hs1.sub (by kernel_rfl)⟩ ?_
 clear hs hs1 w2 e2 t2;rintro k tm h' ⟨i,cs,hi1,rfl,w,row,hs⟩;have tw:=w.top;refine wpC.at hs zQa rfl rfl ⟨λc=>?_,λc=>hs.on λtm' hs'=>?_⟩
 ·have hi:i<l.length:=by omega
  obtain⟨b,o,a1,a2⟩:=zg (sl.ext w.ex0) hi;have hr:=wC hin (oQ hi);have ht:=yH hi;have hsc:=KW (l.take i) l[i].toNat;rw[List.length_take]at hsc;generalize l[i]=x at a2 hr ht hsc;obtain⟨s,rfl⟩:∃s:Nat,x=s:=⟨x.toNat,by omega⟩;rw[oV]at hsc;refine⟨b,o,a1,_,a2,λc2=>by omega,λ_=>⟨λc3=>by omega,λ_=>hs.on λtm1 hs1=>?_⟩⟩
  have hs256:s<256:=by omega
  have hcell:cs.get? s=some (.int .i64 (wD (l.take i) s:Nat)):=by
   rw[row.2.2.2 s hs256,oU,kR hs256];rfl
  have ev:zL (((wD (l.take i) s:Nat):Int)+1)=((wD (l.take i) s+1:Nat):Int):=zf (by omega);obtain⟨h2,cs2,e2,row2,w2,n2⟩:=w.set (cx:=zA) 0 (j:=s) (u:=.int .i64 ((wD (l.take i) s+1:Nat):Int)) row rfl (by omega) hs256 zi rfl rfl rfl rfl;rw[<-yS,zDZ hs256,<-ht]at row2;refine wpS.at hs1 zR6 rfl rfl ⟨_,_,zDH hs256,_,w.ld1 0 rfl zi rfl hcell,_,_,zDH hs256,h2,by rw[ev];exact e2,hs1.on λtm2 hs2=>?_⟩
  refine thenC.nx (wpS.at hs2 zR7 rfl rfl (hs2.on λtm3 hs3=>hs3.slt λtm4 hs4=>⟨rfl,rfl,l.length-(i+1),by omega,i+1,cs2,by omega,rfl,w2,row2,?_⟩))
  rw[<-zf (by omega)];exact hs4.sub (by kernel_rfl)
 ·have hi:i=l.length:=by omega
  subst hi;rw[List.take_length]at row;refine thenC.left (wpS.at hs' zR8 rfl rfl ⟨_,Og (n:=12) (by decide),hs'.on λtm2 hs2=>hs2.slt λtm3 hs3=>endW.r2 (hs3.get rfl) (hs3.get rfl) (hq h' w.ex0 ?_)⟩)
  refine⟨by rw[wq,wj],.inr ⟨h.next,0,_,cs,_,_,_,rfl,w.lt 0 rfl,w.get 0 rfl,λj hj=>?_⟩⟩
  rw[Nat.zero_add,row.2.2.2 j (by omega),oU,oU,kR (by omega),kR (by omega)]
theorem Z4:∀{p:List Int}{i:Nat}{x:Int},(h:i<p.length)->pts (p.set i x)=pts p-pt p[i]+pt x
 | [],_,_,h=>by cases h
 | y::p,0,x,_=>by
  rw[List.set_cons_zero,xl,xl,List.getElem_cons_zero];omega
 | y::p,i+1,x,h=>by
  rw[List.set_cons_succ,xl,xl,List.getElem_cons_succ,Z4 (p:=p) (by simpa using h)];omega
theorem jL (x:Int):0<=pt x:=by unfold pt;split<;>omega
theorem zBJ:∀{p:List Int},(∀x∈p,x<=1)->pts p<=p.length
 | [],_=>by simp[pts]
 | x::p,h=>by
  have h1:=h x (by simp);have h2:=zBJ (p:=p) λy hy=>h y (by simp[hy])
  rw[xl,oS];unfold pt;split<;>omega
theorem Yp {l:List Int}:∀{n j:Nat},j<n->l[j]?.getD 0<=l[zx l n]?.getD 0
 | 0,_,h=>by cases h
 | n+1,j,h=>by
  unfold zx;by_cases c:l[zx l n]?.getD 0<l[n]?.getD 0
  ·rw[if_pos c]
   by_cases e:j=n
   ·rw[e];exact Int.le_refl _
   ·have:=Yp (l:=l) (n:=n) (j:=j) (by omega)
    omega
  ·rw[if_neg c]
   by_cases e:j=n
   ·rw[e];omega
   ·exact Yp (by omega)
theorem yY {l:List Int}{i:Nat}(h:i<l.length):l[i]?.getD 0=l[i]:=by rw[oM h];rfl
theorem zHc {l:List Int}(h:0<l.length):zx l l.length<l.length:=by
 obtain⟨n,hn⟩:∃n,l.length=n+1:=⟨l.length-1,by omega⟩;rw[hn];have:=Yo l n;omega
def Zb (p:List Int):List Int:=p.set (zx p p.length) (p[zx p p.length]?.getD 0-1)
theorem zD3 (p:List Int):(Zb p).length=p.length:=by simp[Zb]
structure PR (p:List Int):Prop where
 pos:1<=p.length
 len:p.length<=12
 low:∀x∈p,-1<=x
 last:p.getLast?≠some 0
theorem PR.big {p:List Int}(g:PR p) (h:32<pts p):2<=p[zx p p.length]?.getD 0:=by
 have hg:=g.len;by_cases c:2<=p[zx p p.length]?.getD 0
 ·exact c
 ·have:=zBJ (p:=p) λx hx=>by
   obtain⟨i,hi,rfl⟩:=List.mem_iff_getElem.1 hx;have:=Yp (l:=p) hi;rw[yY hi]at this;omega
  omega
theorem zEd {p:List Int}{i:Nat}{x:Int}(hx:x≠0) (h:p.getLast?≠some 0):(p.set i x).getLast?≠some 0:=by
 rw[List.getLast?_eq_getElem?]at h ⊢;rw[oc];by_cases e:i=p.length-1
 ·by_cases hp:i<p.length
  ·rw[<-e,List.getElem?_set_self hp]
   intro g;exact hx (Option.some.inj g)
  ·rw[oa (by rw[oc];omega)]
   intro g;cases g
 ·rw[oW e]
  exact h
theorem PR.set {p:List Int}(g:PR p) {i:Nat}{x:Int}(hx:1<=x):PR (p.set i x) where
 pos:=by rw[oc];exact g.pos
 len:=by rw[oc];exact g.len
 low:=λy hy=>by
  rcases List.mem_or_eq_of_mem_set hy with h|rfl
  ·exact g.low y h
  ·omega
 last:=zEd (by omega) g.last
theorem PR.dec {p:List Int}(g:PR p) (h:32<pts p):PR (Zb p)/\pts (Zb p)=pts p-1:=by
 have hb:=g.big h;have hi:=zHc (l:=p) g.pos;refine⟨g.set (by omega),?_⟩;unfold Zb;rw[Z4 hi];rw[yY hi]at hb ⊢;have e1:pt p[zx p p.length]=p[zx p p.length]:=by unfold pt;rw[if_neg (by omega)]
 have e2:pt (p[zx p p.length]-1)=p[zx p p.length]-1:=by unfold pt;rw[if_neg (by omega)]
 omega
def Zc:Nat->List Int->List Int
 | 0,p=>p
 | k+1,p=>Zc k (Zb p)
theorem zH5:∀{k:Nat}{p:List Int},PR p->pts p=32+k->GD 5 (Zc k p)
 | 0,p,g,h=>⟨.inl rfl,g.pos,g.len,g.low,g.last,by show pts p=2^5;omega⟩
 | k+1,p,g,h=>by
  obtain⟨g1,h1⟩:=g.dec (by omega);exact zH5 (p:=Zb p) g1 (by omega)
def jf (tot:Nat) (n:Int):Int:=if 0<n then (if n.toNat*32/tot=0 then -1 else ((n.toNat*32/tot:Nat):Int)) else 0
theorem zEQ (tot:Nat) (n:Int) : -1<=jf tot n:=by
 unfold jf;split
 ·split
  ·decide
  ·exact Int.le_trans (by decide) (Int.natCast_nonneg _)
 ·decide
theorem zHv {tot:Nat}{n:Int}(h:0<n):jf tot n≠0:=by unfold jf;rw[if_pos h];split<;>omega
theorem zBH {tot:Nat}{n:Int}(h:¬0<n):jf tot n=0:=by unfold jf;rw[if_neg h]
theorem zHu {tot:Nat}{n:Int}(h:n.toNat<=tot):jf tot n<=32:=by
 unfold jf;split
 ·split
  ·decide
  ·have:n.toNat*32/tot<=32:=by
    rcases Nat.eq_zero_or_pos tot with h0|h0
    ·subst h0;simp
    ·exact Nat.le_of_lt_succ ((Nat.div_lt_iff_lt_mul h0).2 (by
      have:n.toNat*32<=tot*32:=Nat.mul_le_mul_right _ h;omega))
   omega
 ·decide
def shr (tot n:Nat) (c:List Int) (i:Nat):List Int:=(List.range n).map λs=>if s<i then jf tot (c[s]?.getD 0) else 0
theorem jW (tot n:Nat) (c:List Int) (i:Nat):(shr tot n c i).length=n:=by simp[shr]
theorem ZO {tot n:Nat}{c:List Int}{i s:Nat}(h:s<n):(shr tot n c i)[s]? = some (if s<i then jf tot (c[s]?.getD 0) else 0):=by
 unfold shr;rw[oU,List.getElem?_range h];rfl
theorem zOZ (tot n:Nat) (c:List Int):shr tot n c 0=List.replicate n 0:=by
 apply List.ext_getElem?;intro i;by_cases h:i<n
 ·rw[ZO h,List.getElem?_replicate,if_pos h,if_neg (by omega)]
 ·rw[oa (by rw[jW];omega),oa (by simp;omega)]
theorem zII {tot n:Nat}{c:List Int}{i:Nat}(h:i<n):(shr tot n c i).set i (jf tot (c[i]?.getD 0))=shr tot n c (i+1):=by
 apply List.ext_getElem?;intro j;by_cases hj:j<n
 ·rw[ZO hj]
  by_cases e:i=j
  ·subst e
   rw[List.getElem?_set_self (by rw[jW];exact h),if_pos (by omega)]
  ·rw[oW e,ZO hj]
   by_cases c1:j<i
   ·rw[if_pos c1,if_pos (by omega)]
   ·rw[if_neg c1,if_neg (by omega)]
 ·rw[oa (by rw[oc,jW];omega),oa (by rw[jW];omega)]
theorem zOY {tot n:Nat}{c:List Int}{i:Nat}(h:i<n->¬0<c[i]?.getD 0):shr tot n c (i+1)=shr tot n c i:=by
 apply List.ext_getElem?;intro j;by_cases hj:j<n
 ·rw[ZO hj,ZO hj]
  by_cases e:i=j
  ·subst e
   rw[if_pos (by omega),if_neg (by omega),zBH (h hj)]
  ·by_cases c1:j<i
   ·rw[if_pos c1,if_pos (by omega)]
   ·rw[if_neg c1,if_neg (by omega)]
 ·rw[oa (by rw[jW];omega),oa (by rw[jW];omega)]
theorem zEv {x:Int}{h:H}{Q:V->H->Prop}(hq:Q (.int .i64 (pt x)) h):RF P zA 239 [.int .i64 x] h Q:=by
 unfold pt at hq;refine RF.enterS zG zZL (ble _ _ rfl) (ble _ _ rfl) z1Y ⟨λc=>?_,λc=>?_⟩
 ·rw[if_pos c]at hq;exact hq
 ·rw[if_neg c]at hq;exact hq
theorem zAD {x:Int}{b n:Nat}{cp:Cap}{k:V->Prop}(hk:k (.agg [.int .i64 x,.slice b 0 n cp])):j7 zA 59 (wc zA 59 [(0,(.int .i64 x)),(1,.slice b 0 n cp)]) k:=by
 have h1:wc zA 59 [(0,(.int .i64 x)),(1,.slice b 0 n cp)]=some (.agg [.int .i64 x,.slice b 0 n cp]):=by kernel_rfl
 have h2:qk zA 59=false:=by kernel_rfl
 unfold j7;rw[h1];simp only[h2];exact hk
theorem PR.rng {p:List Int}(g:PR p):pts p<=100000->∀x∈p,x<=100000:=λh x hx=>by
 obtain⟨i,hi,rfl⟩:=List.mem_iff_getElem.1 hx;have h1:=Z4 (p:=p) (i:=i) (x:=0) hi;have h2:0<=pts (p.set i 0):=by
  have:=xF (l:=p.set i 0) λy hy=>by
   rcases List.mem_or_eq_of_mem_set hy with q|rfl
   ·exact g.low y q
   ·decide
  omega
 have h3:pt 0=0:=rfl;have h4:p[i]<=pt p[i]:=by unfold pt;split<;>omega
 omega
theorem zBT {hb h:H}{cc lp df b14 p11 p6 b p9 p2 p0 m k:Nat}{o1 o3 o4 o5:O}{cs:Cs}{p:List Int}{tm:Tm}{d:List AD}{R:AX->St->Prop}(hs:Has tm [(4,.ptr p2 0),(3,.ptr p0 0),(11,.ptr p6 0),(12,.ptr p11 0)])
  (w:Vw zW hb h cc [(lp,o1),(df,o3),(b14,o4),(p11,YO (-(k:Nat))),(p6,zEI (.slice b 0 m (.exact m))),(b,yv cs),(p9,o5),(p2,oD 0 .nilslice),(p0,YO 5)]) (row:Row cs m (zM p)) (g:PR p) (hp:pts p=32+k) (hk:k<=1000) (hn:h.next<=T.top) (hlow:hb.low<=T.top)
  (hR:∀h' tm' cs',Vw zW hb h' cc [(lp,o1),(df,o3),(b14,o4),(p11,YO 0),(p6,zEI (.slice b 0 m (.exact m))),(b,yv cs'),(p9,o5),(p2,oD 5 (.slice b 0 m (.exact m))),(p0,YO 5)]->h'.next=h.next->Row cs' m (zM (Zc k p))->Has tm' [(4,.ptr p2 0),(5,.int .i64 0)]->R .ret ⟨105,tm',d,h'⟩) :
  j9 false zCV ⟨105,tm,d,h⟩ R:=by
 refine wpS.at hs zSK rfl rfl (hs.on λtm1 hs1=>?_);refine wpC.round (λj tm h'=>∃(q:List Int) (cs:Cs),PR q/\pts q=32+j/\Zc j q=Zc k p/\j<=k/\h'.next=h.next/\Row cs m (zM q)/\Has tm [(4,.ptr p2 0),(3,.ptr p0 0),(11,.ptr p6 0),(12,.ptr p11 0)] /\
  Vw zW hb h' cc [(lp,o1),(df,o3),(b14,o4),(p11,YO (-(j:Nat))),(p6,zEI (.slice b 0 m (.exact m))),(b,yv cs),(p9,o5),(p2,oD 0 .nilslice),(p0,YO 5)]) k ⟨p,cs,g,hp,rfl,oO _,rfl,row,hs1.sub (by kernel_rfl),w⟩ ?_
 clear hs hs1 w row g hp cs;rintro j tm h' ⟨q,cs,g,hp,hd,hjk,hnx,row,hs,w⟩;refine wpC.at hs zQt rfl rfl ⟨_,w.ld1 3 rfl zi rfl rfl,λc=>?_,λc=>?_⟩
 ·have hj:j=0:=by omega
  subst hj;obtain⟨h2,e2,w2,n2,_⟩:=w.st (cx:=zA) 7 (t:=59) (f:=0) (u:=.agg [.int .i64 5,.slice b 0 m (.exact m)]) rfl (by omega) xo rfl (oJ _) rfl rfl;refine hs.on λtm1 hs1=>thenC.left (wpS.at hs1 zSJ rfl rfl ⟨_,w.ld1 8 rfl zi rfl rfl,_,w.ld1 4 rfl zQ rfl rfl,zAD ⟨h2,e2,hs1.on λtm2 hs2=>hs2.slt λtm3 hs3=>?_⟩⟩)
  refine hR h2 tm3 cs w2 (by omega) ?_ (hs3.sub (by kernel_rfl));rw[<-hd];exact row
 ·obtain⟨j',rfl⟩:∃j',j=j'+1:=⟨j-1,by omega⟩
  have hl':h'.low<=T.top:=by have:=w.low;omega
  have hi:=zHc (l:=q) g.pos;have hb2:=g.big (by omega);rw[yY hi]at hb2;have hrow:row.2.2.1=row.2.2.1:=rfl;have hqm:q.length=m:=by have:=row.2.2.1;rwa [wq]at this
  have sq:Sl h' (.slice b 0 m (.exact m)) 1 q.length (zM q):=by rw[hqm];exact row.sl (w.lt 5 rfl) (w.get 5 rfl)
  have g12:=g.len;have hrg:=g.rng (by omega) _ (oQ hi);obtain⟨g2,p2'⟩:=g.dec (by omega);have hcell:cs.get? (zx q q.length)=some (.int .i64 q[zx q q.length]):=by rw[row.2.2.2 _ (by omega),oU,oM hi];rfl
  obtain⟨h2,cs2,e2,row2,w2,n2⟩:=w.set (cx:=zA) 5 (j:=zx q q.length) (u:=.int .i64 (q[zx q q.length]-1)) row rfl (by omega) (by omega) zi rfl rfl rfl rfl;have er:(zM q).set (zx q q.length) (.int .i64 (q[zx q q.length]-1))=zM (Zb q):=by unfold Zb;rw[yS,yY hi]
  rw[er]at row2;obtain⟨h3,e3,w3,n3,_⟩:=w2.st (cx:=zA) 3 (t:=3) (f:=0) (u:=.int .i64 (-((j':Nat):Int))) rfl (by omega) zi rfl (oJ _) rfl rfl;have i1:=yb (h:=h') (by omega) hl';refine⟨⟨by omega,hl'⟩,_,w.ld1 4 rfl zQ rfl rfl,_,w.ld1 4 rfl zQ rfl rfl,zDp (show Sl (za h') _ 1 q.length (zM q)from sq) (by omega) (show h'.next<=_ by omega) (oO _) ⟨_,rfl,i1.1,λh6 e6=>?_⟩⟩
  rw[i1.2]at e6;subst e6;refine⟨b,_,zr zQ rfl zi rfl (by omega),_,w.ld1 5 rfl zi rfl hcell,b,_,zr zQ rfl zi rfl (by omega),h2,by rw[zH (by omega) (by omega)];exact e2,_,w2.ld1 3 rfl zi rfl rfl,h3,?_,hs.on λtm1 hs1=>?_⟩
  ·rw[zH (by omega) (by omega),show -(((j'+1:Nat):Int))+1 = -((j':Nat):Int)by omega];exact e3
  ·exact⟨rfl,rfl,j',by omega,Zb q,cs2,g2,by omega,hd,by omega,by show h3.next=h.next;omega,row2,hs1.sub (by kernel_rfl),w3⟩
structure LP (c:List Int) (m:Nat):Prop where
 pos:1<=m
 le:m<=c.length
 at':0<c[m-1]?.getD 0
 hi:∀j,m<=j->¬0<c[j]?.getD 0
 is:jj c c.length=(m:Int)-1
theorem zDw (l:List Int):∀{n j:Nat},j<n->0<l[j]?.getD 0->(j:Int)<=jj l n
 | 0,_,h,_=>by cases h
 | n+1,j,h,h0=>by
  unfold jj;by_cases c:0<l[n]?.getD 0
  ·rw[if_pos c];omega
  ·rw[if_neg c]
   have:j≠n:=λe=>c (by rw[<-e];exact h0)
   exact zDw l (by omega) h0
theorem zDv (l:List Int):∀{n:Nat},0<=jj l n->∃s:Nat,jj l n=s/\s<n/\0<l[s]?.getD 0
 | 0,h=>absurd (show(0:Int)<=-1 from h) (by decide)
 | n+1,h=>by
  unfold jj at h ⊢;by_cases c:0<l[n]?.getD 0
  ·rw[if_pos c];exact⟨n,rfl,by omega,c⟩
  ·rw[if_neg c]at h ⊢
   obtain⟨s,h1,h2,h3⟩:=zDv l h;exact⟨s,h1,by omega,h3⟩
def wM (c:List Int):Nat:=(jj c c.length+1).toNat
theorem OA {c:List Int}(g:GC c) (hc:xM c≠0):LP c (wM c):=by
 have h0:=(Xy g c.length (oO _)).2 (by rw[List.take_length];exact hc);obtain⟨s,h1,h2,h3⟩:=zDv c h0;have hm:wM c=s+1:=by unfold wM;omega
 rw[hm];refine⟨by omega,by omega,by simpa using h3,λj hj q=>?_,by omega⟩
 have hl:j<c.length:=by
  by_cases e:j<c.length
  ·exact e
  ·rw[oa (by omega)]at q;exact absurd q (by decide)
 have:=zDw c hl q;omega
theorem zW8 {p:List Int}{b:Nat}(h:∀x∈p,x<=b) (hb:1<=b):pts p<=((b*p.length:Nat):Int):=by
 induction p with
 | nil=>simp[pts]
 | cons x p ih =>
  have h1:=h x (by simp);have h2:=ih λy hy=>h y (by simp[hy])
  rw[xl,oS,Nat.mul_succ];have:pt x<=b:=by unfold pt;split<;>omega
  omega
structure CD (c:List Int):Prop where
 gc:GC c
 len:c.length<=12
 ne:xM c≠0
 sum:zu c<=255
 pos:0<zu c
 each:∀x∈c,x.toNat<=zu c
def xA (c:List Int) (i:Nat):List Int:=shr (zu c) (wM c) c i
theorem CD.get {c:List Int}(g:CD c) (j:Nat):(c[j]?.getD 0).toNat<=zu c:=by
 by_cases h:j<c.length
 ·rw[yY h];exact g.each _ (oQ h)
 ·rw[oa (by omega)];exact oJ _
theorem CD.mem {c:List Int}(g:CD c) {i:Nat}{x:Int}(h:x∈xA c i) : -1<=x/\x<=((32:Nat):Int):=by
 unfold xA shr at h;obtain⟨s,_,rfl⟩:=List.mem_map.1 h;split
 ·exact⟨zEQ _ _,zHu (g.get s)⟩
 ·omega
theorem CD.pb {c:List Int}(g:CD c) (i:Nat):0<=pts (xA c i)/\pts (xA c i)<=384:=by
 have h1:=zW8 (p:=xA c i) (b:=32) (λx hx=>(g.mem hx).2) (by decide)
 have h2:=xF (l:=xA c i) λx hx=>(g.mem hx).1
 have h3:(xA c i).length=wM c:=jW _ _ _ _;have h4:=(OA g.gc g.ne).le;have h5:=g.len;rw[h3]at h1;omega
theorem CD.pr {c:List Int}(g:CD c):PR (xA c c.length):=by
 have l:=OA g.gc g.ne;have hl:(xA c c.length).length=wM c:=jW _ _ _ _;refine⟨by rw[hl];exact l.pos,by rw[hl];have:=l.le;have:=g.len;omega,λx hx=>(g.mem hx).1,?_⟩
 rw[List.getLast?_eq_getElem?,hl];unfold xA;have:=l.pos;have:=l.le;rw[ZO (by omega),if_pos (by omega)];intro q;exact zHv l.at' (Option.some.inj q)
theorem CD.g_lt {c:List Int}(g:CD c):zx c c.length<wM c:=by
 have l:=OA g.gc g.ne;have h1:=Yp (l:=c) (n:=c.length) (j:=wM c-1) (by have:=l.pos;have:=l.le;omega);have h2:=l.at';rcases Nat.lt_or_ge (zx c c.length) (wM c)with h|h
 ·exact h
 ·exact absurd (show 0<c[zx c c.length]?.getD 0 by omega) (l.hi _ h)
def jG (c:List Int):List Int :=
 if 0<32-pts (xA c c.length) then (xA c c.length).set (zx c c.length) (pt ((xA c c.length)[zx c c.length]?.getD 0)+(32-pts (xA c c.length))) else xA c c.length
def wI (c:List Int):List Int:=Zc (pts (jG c)-32).toNat (jG c)
theorem CD.fix {c:List Int}(g:CD c):PR (jG c)/\32<=pts (jG c)/\pts (jG c)<=384/\(jG c).length=wM c:=by
 have h0:=g.pb c.length;have hl:(xA c c.length).length=wM c:=jW _ _ _ _;unfold jG;split
 ·rename_i h
  have hi:zx c c.length<(xA c c.length).length:=by rw[hl];exact g.g_lt
  have:=jL ((xA c c.length)[zx c c.length]?.getD 0);refine⟨g.pr.set (by omega),?_,?_,by rw[oc];exact hl⟩
  all_goals
   rw[Z4 hi,yY hi];rw[yY hi]at this;generalize pt (xA c c.length)[zx c c.length]=z at *;have:pt (z+(32-pts (xA c c.length)))=z+(32-pts (xA c c.length)):=by unfold pt;rw[if_neg (by omega)]
   omega
 ·exact⟨g.pr,by omega,by omega,hl⟩
theorem CD.gd {c:List Int}(g:CD c):GD 5 (wI c):=by
 obtain⟨h1,h2,h3,_⟩:=g.fix;exact zH5 h1 (by omega)
theorem zD4:∀(k:Nat) (p:List Int),(Zc k p).length=p.length
 | 0,_=>rfl
 | k+1,p=>by
  show(Zc k (Zb p)).length=_;rw[zD4 k,zD3]
theorem CD.nlen {c:List Int}(g:CD c):(wI c).length=wM c:=by unfold wI;rw[zD4,g.fix.2.2.2]
theorem zH2 {l:List Int}(hin:jJ l=true) (hl:l.length<=255) (h2:xM (yi l)≠0):CD (yi l):=by
 have hs:=Z0 hin;refine⟨zBl hl,by rw[wj];decide,h2,by omega,?_,λx hx=>?_⟩
 ·rw[hs]
  rcases Nat.eq_zero_or_pos l.length with h|h
  ·have:l=[]:=List.eq_nil_of_length_eq_zero h
   subst this;exact absurd (by unfold yi;rw[Yf];rfl) h2
  ·exact h
 ·unfold yi Jt at hx
  obtain⟨s,_,rfl⟩:=List.mem_map.1 hx;have:=KW l s;omega
theorem jT (c:List Int) (i:Nat):(xA c i).length=wM c:=jW _ _ _ _
theorem OO (c:List Int):xA c 0=List.replicate (wM c) 0:=zOZ _ _ _
theorem CD.step {c:List Int}(g:CD c) {i:Nat}(hi:i<c.length) (h0:0<c[i]):i<wM c/\(xA c i).set i (jf (zu c) c[i])=xA c (i+1)/\pts (xA c (i+1))=pts (xA c i)+pt (jf (zu c) c[i]):=by
 have l:=OA g.gc g.ne;have him:i<wM c:=by
  rcases Nat.lt_or_ge i (wM c)with h|h
  ·exact h
  ·exact absurd (show 0<c[i]?.getD 0 by rw[yY hi];exact h0) (l.hi _ h)
 have e1:(xA c i).set i (jf (zu c) c[i])=xA c (i+1):=by
  have:=zII (tot:=zu c) (n:=wM c) (c:=c) him;rw[yY hi]at this;exact this
 have hl:i<(xA c i).length:=by rw[jT];exact him
 refine⟨him,e1,?_⟩;rw[<-e1,Z4 hl];have:(xA c i)[i]=0:=by
  have h2:(xA c i)[i]? = some (if i<i then jf (zu c) (c[i]?.getD 0) else 0):=ZO him;rw[oM hl,if_neg (by omega)]at h2;exact Option.some.inj h2
 rw[this];have:pt 0=0:=rfl;omega
theorem CD.skip {c:List Int}(_g:CD c) {i:Nat}(hi:i<c.length) (h0:¬0<c[i]):xA c (i+1)=xA c i:=zOY λ_=>by rw[yY hi];exact h0
theorem CD.fix32 {c:List Int}(g:CD c) (h:0<32-pts (xA c c.length)):pts (jG c)=32:=by
 have hi:zx c c.length<(xA c c.length).length:=by rw[jT];exact g.g_lt
 unfold jG;rw[if_pos h,Z4 hi,yY hi];have h1:=jL (xA c c.length)[zx c c.length];have:pt (pt (xA c c.length)[zx c c.length]+(32-pts (xA c c.length)))=pt (xA c c.length)[zx c c.length]+(32-pts (xA c c.length)):=by
  generalize pt (xA c c.length)[zx c c.length]=y at *;unfold pt;rw[if_neg (by omega)]
 omega
theorem zHt {tot n:Nat}(h:0<n):jf tot (n:Int)=if n*32/tot=0 then -1 else ((n*32/tot:Nat):Int):=by
 unfold jf;rw[if_pos (by omega),oV]
theorem zTX {v : V}{c : List Int}{h : H}{Q : V -> H -> Prop}(sl : Sl h v 1 c.length (zM c)) (g : CD c) (hn : h.next + 20 <= T.top) (hlow : h.low <= T.top)
    (hq : ∀h' b, Ext h h' 9 -> h.next <= b -> Sl h' (.slice b 0 (wI c).length (.exact (wI c).length)) 1 (wI c).length (zM (wI c)) -> Q (.tuple [.agg [.int .i64 5, .slice b 0 (wI c).length (.exact (wI c).length)], .int .i64 0]) h') : RF P zA 172 [v, .int .i64 5] h Q := by
  have hlen := g.len;have l := OA g.gc g.ne;have lp1 := l.pos;have lp2 := l.le;have hsum := g.sum;have hpos := g.pos;have hcl := qm c;refine RF.enterS zG zYh (ble _ _ rfl) (ble _ _ rfl) z0u ⟨rfl, by omega, ?_⟩;rintro p0 h1 rfl e1;have w1 := (Vw.nil (S := zW) (h := h)).new e1 (by omega);have t1 := w1.top;refine⟨by omega, ?_⟩;rintro p2 h3 rfl e3;have w3 := w1.new e3 (by omega);have t3 := w3.top;refine Kj (sl.ext w3.ex0) g.gc g.ne ⟨_, _, _, rfl, rfl, by omega, ?_⟩;rintro p9 h10 rfl e10;have w10 := w3.new e10 (by omega);have t10 := w10.top;obtain⟨h11, e11, w11, n11, _⟩ := w10.st (cx := zA) 0 (t := 3) (f := 0) (u := .int .i64 (zu c : Nat)) rfl (by omega) zi rfl (oJ _) rfl rfl;have t11 := w11.top;refine⟨h11, e11, λq => absurd rfl q, λ_ => ⟨_, w11.ld1 2 rfl zi rfl rfl, λq => absurd q (by decide), λ_ => ⟨_, w11.ld1 2 rfl zi rfl rfl, λq => absurd q (by decide), λ_ => Has.nil.on λtm hs => ?_⟩⟩⟩
  refine wpS.at hs zSH rfl rfl ?_;refine⟨_, w11.ld1 2 rfl zi rfl rfl, ((1 * 2 ^ 5 : Nat) : Int), zb (a := 1) (n := 5) (by decide) (by decide), λq => by omega, λ_ => hs.on λtm2 hs2 => ?_⟩
  refine thenC.nx (hs2.sealK λtm3 hs3 => ?_);clear hs hs2 tm tm2;refine wpS.at hs3 zSM rfl rfl (zPz (sl.ext w11.ex0) g.gc g.ne ⟨_, _, rfl, ?_⟩);have em : zL (jj c c.length + 1) = ((wM c : Nat) : Int) := by rw[l.is, zH (by omega) (by omega)];omega
  rw[em];obtain⟨csp, emk, row0⟩ := Row.make (cx := zA) (k := wM c) (h := h11) zQ rfl zi rfl rfl rfl (by omega) (by show 8 * _ <= _;omega) (by omega);obtain⟨h5, e5⟩ : ∃h5, h5 = h11.new (yv csp) := ⟨_, rfl⟩;rw[<-e5]at emk;have w5 := w11.new e5 (by omega);have t5 := w5.top;refine⟨_, h5, emk, rfl, by omega, ?_⟩;rintro p6 h7 rfl e7;have w7 := w5.new e7 (by omega);have t7 := w7.top;obtain⟨h8, e8, w8, n8, _⟩ := w7.st (cx := zA) 0 (t := 23) (f := 0) (u := .slice h11.next 0 (wM c) (.exact (wM c))) rfl (by omega) zQ rfl (oJ _) rfl rfl;have t8 := w8.top;refine⟨h8, e8, _, w8.ld1 4 rfl zi rfl rfl, ((1 * 2 ^ 5 : Nat) : Int), zb (a := 1) (n := 5) (by decide) (by decide), rfl, by omega, ?_⟩;rintro p11 h12 rfl e12;have w12 := w8.new e12 (by omega);have t12 := w12.top;obtain⟨h13, e13, w13, n13, _⟩ := w12.st (cx := zA) 0 (t := 3) (f := 0) (u := .int .i64 ((1 * 2 ^ 5 : Nat) : Int)) rfl (by omega) zi rfl (oJ _) rfl rfl;have t13 := w13.top;refine⟨h13, e13, RF.enterS zG zZK (ble _ _ rfl) (ble _ _ rfl) z1X ⟨zCI sl, by omega, ?_⟩⟩;rintro p14 h15 rfl e15;have w15 := w13.new e15 (by omega);have t15 := w15.top;refine⟨_, rfl, hs3.on λtm4 hs4 => ?_⟩
  refine Vw.range (s := ⟨105, tm4, [], h15⟩) w15 (captured := [.ptr h13.next 0]) (show yQ tm4 (t 55) = _ from congrArg some (hs4.get rfl)) (by show h15.next + 2 <= _;omega) λh17 w17 n17 => ?_
  refine zG2 (l := c) (v := v) (λi h' => ∃cs, Vw zW h h' 9 [(h15.next + 1, .loop .ready none 105 tm4 #[56, 57] K2 Kw h15.next), (h15.next, .deferred true), (h13.next, .cells (.ls [v]) ⟨0, 24, 0⟩ true false), (h8.next, YO (32 - pts (xA c i))), (h5.next, zEI (.slice h11.next 0 (wM c) (.exact (wM c)))), (h11.next, yv cs), (h3.next, YO (zu c : Nat)), (h1.next, oD 0 .nilslice), (h.next, YO 5)] /\ Row cs (wM c) (zM (xA c i))) (by omega)
    ⟨csp, by rw[OO];have : pts (List.replicate (wM c) 0) = 0 := by { have := xF (l := List.replicate (wM c) 0) (λx hx => by rw[List.eq_of_mem_replicate hx];decide);have h3 : OG (List.replicate (wM c) 0) = 0 := by { unfold OG;simp };have h4 : zz (List.replicate (wM c) 0) = 0 := by { unfold zz;simp };omega }
             rw[this];exact w17, by rw[OO, wV];exact row0⟩ (w17.ld1 2 rfl zQ rfl rfl) (λi h' w => sl.ext w.choose_spec.1.ex0) (λi h' hi q w => by rw[g.skip hi q];exact w) (λi h' hi q w => ?_) λh8' w8' => ?_
  · obtain⟨cs, w, row⟩ := w
    have tw := w.top;obtain⟨him, es, ep⟩ := g.step hi q;have hrng := g.gc.at hi;have heach := g.each _ (oQ hi);have hpb := g.pb i;have hpt : 0 <= pt (jf (zu c) c[i]) := jL _;have hple := zHu heach;have hplo := zEQ (zu c) c[i];obtain⟨n, hnn⟩ : ∃n : Nat, c[i] = n := ⟨c[i].toNat, by omega⟩;rw[hnn]at q hrng heach es ep hpt hple hplo;rw[oV]at heach;have hpi := zHt (tot := zu c) (n := n) (by omega);refine w.round (il := 0) (c' := 9) rfl (by omega) (hs4.sub (l' := [(3, .ptr h.next 0), (11, .ptr h5.next 0), (12, .ptr h8.next 0), (6, .ptr h3.next 0)]) (by kernel_rfl)) rfl λtm0 hs0 => ?_
    rw[hnn]at hs0;refine wpC.at hs0 zQ1 rfl rfl (hs0.on λtm1 hs1 => ⟨rfl, rfl, rfl, rfl, λh1' w1' n1' => ?_⟩);have hdv : n * 32 / zu c <= n * 32 := Nat.div_le_self _ _;have e1 : zN .u64 (n : Int) = ((n : Nat) : Int) := zP (by omega);have e3 : zL (zN .u64 (Int.tdiv ((n * 2 ^ 5 : Nat) : Int) (zN .u64 ((zu c : Nat) : Int)))) = ((n * 32 / zu c : Nat) : Int) := by
      rw[zP (by omega), show Int.tdiv ((n * 2 ^ 5 : Nat) : Int) ((zu c : Nat) : Int) = ((n * 2 ^ 5 / zu c : Nat) : Int)from rfl, show n * 2 ^ 5 = n * 32 from rfl, zP (by omega), zH (by omega) (by omega)]
    have keep : ∀(x : Int) (tm5 : Tm), x = jf (zu c) n -> Has tm5 [(11, .ptr h5.next 0), (13, .int .i64 (i : Nat)), (15, .int .i64 x), (12, .ptr h8.next 0)] ->
        j9 true (wZ zCU) ⟨105, tm5, [], h1'⟩ (λe s1 => zD jv (λe2 s2 => e2 = .normal /\ s2.dfr = [] /\ ∃L', Vw zW h s2.heap 9 L' /\ s2.heap.next <= T.top /\ L'[0]? = some (h15.next + 1, .loop .busy none 105 tm4 #[56, 57] K2 Kw h15.next) /\
          ∀h', Vw zW h h' 9 (L'.set 0 (h15.next + 1, .loop .ready none 105 tm4 #[56, 57] K2 Kw h15.next)) -> h'.next = s2.heap.next -> (∀b, b ≠ h15.next + 1 -> h'.get b = s2.heap.get b) -> V.bool true = V.bool true /\ ∃cs, Vw zW h h' 9 [(h15.next + 1, .loop .ready none 105 tm4 #[56, 57] K2 Kw h15.next), (h15.next, .deferred true), (h13.next, .cells (.ls [v]) ⟨0, 24, 0⟩ true false), (h8.next, YO (32 - pts (xA c (i + 1)))), (h5.next, zEI (.slice h11.next 0 (wM c) (.exact (wM c)))), (h11.next, yv cs), (h3.next, YO (zu c : Nat)), (h1.next, oD 0 .nilslice), (h.next, YO 5)] /\ Row cs (wM c) (zM (xA c (i + 1)))) (zK 2 e) s1) := by
      intro x tm5 hx hs5;obtain⟨h2', cs2, e2', row2, w2', n2'⟩ := w1'.set (cx := zA) 5 (j := i) (u := .int .i64 x) row rfl (by omega) him zi rfl rfl rfl rfl;rw[<-yS, hx, es]at row2;have l2 : h2'.low <= T.top := by have := w2'.low;omega
      have i2 := yb (h := h2') (by omega) l2;obtain⟨h3', e3', w3', n3', _⟩ := w2'.st (cx := zA) 3 (t := 3) (f := 0) (u := .int .i64 (32 - pts (xA c (i + 1)))) rfl (by omega) zi rfl (oJ _) rfl rfl;refine wpS.at hs5 zSI rfl rfl ⟨_, w1'.ld1 4 rfl zQ rfl rfl, h11.next, i, zr zQ rfl zi rfl him, h2', e2', ⟨by omega, l2⟩, _, w2'.ld1 3 rfl zi rfl rfl, zEv ⟨_, rfl, i2.1, λh8'' e8'' => ?_⟩⟩
      rw[i2.2]at e8'';subst e8'';have ee : zL ((32 - pts (xA c i)) - pt x) = 32 - pts (xA c (i + 1)) := by
        rw[ep, hx, zH (by unfold pt;split<;>omega) (by omega)];omega
      refine⟨h3', by rw[ee];exact e3', hs5.on λtm6 hs6 => hs6.slt λtm7 hs7 => ⟨rfl, rfl, _, w3', by show h3'.next <= _;omega, rfl, λh4' w4' n4' _ => ⟨rfl, cs2, w4', row2⟩⟩⟩
    refine wpC.at hs1 zQ6 rfl rfl ⟨_, w1'.ld1 8 rfl zi rfl rfl, _, by rw[e1, show zN .u64 (5 : Int) = ((5 : Nat) : Int)from zP (by decide)];exact ZN (a := n) (n := 5) (by decide) (by omega), _, w1'.ld1 6 rfl zi rfl rfl, by rw[zP (by omega)];omega, λq2 => ?_, λq2 => ?_⟩
    · rw[e3]at q2
      rw[if_pos (by omega)]at hpi;exact hs1.on λtm5 hs5 => keep _ tm5 hpi.symm (hs5.sub (by kernel_rfl))
    · rw[e3]at q2 ⊢
      rw[if_neg (by omega)]at hpi;exact hs1.on λtm5 hs5 => keep _ tm5 hpi.symm (hs5.sub (by kernel_rfl))
  · obtain⟨cs, w18, row⟩ := w8'
    have t18 := w18.top;refine⟨9, _, w18, by omega, λh19 o w19 n19 _ => ?_⟩
    show j9 false zG9 ⟨105, tm4, [.coll h15.next], h19⟩ (zD jv (endW zA ⟨105, [.cell 4 59, .tmp 5], ja⟩ Q));have hpb := g.pb c.length;have l19 : h19.low <= T.top := by have := w19.low;omega
    obtain⟨f1, f2, f3, f4⟩ := g.fix;have fin : ∀(h' : H) (tm' : Tm) (cs' : Cs), Vw zW h h' 9 [(h15.next + 1, o), (h15.next, .deferred true), (h13.next, .cells (.ls [v]) ⟨0, 24, 0⟩ true false), (h8.next, YO 0), (h5.next, zEI (.slice h11.next 0 (wM c) (.exact (wM c)))), (h11.next, yv cs'), (h3.next, YO (zu c : Nat)), (h1.next, oD 5 (.slice h11.next 0 (wM c) (.exact (wM c)))), (h.next, YO 5)] -> Row cs' (wM c) (zM (wI c)) -> Has tm' [(4, .ptr h1.next 0), (5, .int .i64 0)] ->
        endW zA ⟨105, [.cell 4 59, .tmp 5], ja⟩ Q .ret ⟨105, tm', [.coll h15.next], h'⟩ := by
      intro h' tm' cs' w' row' hs';have tw' := w'.top;show wpD [.coll h15.next] h' _;refine w'.ends (i := 1) rfl (by omega) λh'' w'' n'' _ => ?_
      have el : leave zA [.cell 4 59, .tmp 5] tm' h'' [.cell 4 59, .tmp 5] [] = some [.agg [.int .i64 5, .slice h11.next 0 (wM c) (.exact (wM c))], .int .i64 0] := by
        refine leave.cell (hs'.get (t := 4) rfl) (w''.ldA 7 rfl xo rfl rfl) ?_;exact leave.tmp (hs'.get (t := 5) rfl) rfl
      show(match leave zA [.cell 4 59, .tmp 5] tm' h'' [.cell 4 59, .tmp 5] []with|some vs => Q (yj vs) h''|none => False)
      rw[el];have hl2 := g.nlen;have := hq h'' h11.next w''.ex0 (by have := w11.le;omega);rw[hl2]at this;exact this (row'.sl (w''.lt 5 rfl) (w''.get 5 rfl))
    refine wpS.at hs4 zSL rfl rfl ⟨_, w19.ld1 3 rfl zi rfl rfl, λq => ?_, λq => ?_⟩
    · have hgl := g.g_lt
      have hgi : zx c c.length < (xA c c.length).length := by rw[jT];exact hgl
      have sv := sl.ext w19.ex0;have hcell : cs.get? (zx c c.length) = some (.int .i64 (xA c c.length)[zx c c.length]) := by rw[row.2.2.2 _ hgl, oU, oM (by rw[jT];exact hgl)];rfl
      have hm := g.mem (oQ (l := xA c c.length) (n := zx c c.length) (by rw[jT];exact hgl));have hfix : jG c = (xA c c.length).set (zx c c.length) (pt (xA c c.length)[zx c c.length] + (32 - pts (xA c c.length))) := by
        unfold jG;rw[if_pos q, yY (by rw[jT];exact hgl)]
      generalize (xA c c.length)[zx c c.length] = z at hcell hm hfix;have i1 := yb (h := h19) (by omega) l19;obtain⟨h20, cs2, e20, row2, w20, n20⟩ := w19.set (cx := zA) 5 (j := zx c c.length) (u := .int .i64 (pt z + (32 - pts (xA c c.length)))) row rfl (by omega) hgl zi rfl rfl rfl rfl;rw[<-yS, <-hfix]at row2;obtain⟨h21, e21, w21, n21, _⟩ := w20.st (cx := zA) 3 (t := 3) (f := 0) (u := .int .i64 0) rfl (by omega) zi rfl (oJ _) rfl rfl;refine zDp sv (by omega) (by omega) l19 ⟨_, rfl, ⟨by omega, l19⟩, _, w19.ld1 4 rfl zQ rfl rfl, _, w19.ld1 4 rfl zQ rfl rfl, h11.next, _, zr zQ rfl zi rfl hgl, _, w19.ld1 5 rfl zi rfl hcell, zEv ⟨_, rfl, i1.1, λh12' e12' => ?_⟩⟩
      rw[i1.2]at e12';subst e12';have hz : 0 <= pt z /\ pt z <= 32 := by unfold pt;split<;>omega
      refine⟨_, w19.ld1 3 rfl zi rfl rfl, h11.next, _, zr zQ rfl zi rfl hgl, h20, by rw[zH (by omega) (by omega)];exact e20, h21, e21, hs4.on λtm5 hs5 => ?_⟩
      have hz2 := g.fix32 q;refine zBT (k := 0) (p := jG c) (hs5.sub (by kernel_rfl)) w21 row2 f1 (by omega) (by decide) (by omega) hlow λh' tm' cs' w' n' row' hs' => ?_
      have en : wI c = Zc 0 (jG c) := by unfold wI;rw[hz2];rfl
      rw[<-en]at row';exact hs'.slt λtm6 hs6 => hs6.slt λtm7 hs7 => fin h' tm7 cs' w' row' (hs7.sub (by kernel_rfl))
    · have hfix : jG c = xA c c.length := by unfold jG;rw[if_neg (by omega)]
      refine hs4.on λtm5 hs5 => ?_
      obtain⟨k, hk⟩ : ∃k : Nat, pts (xA c c.length) = 32 + k := ⟨(pts (xA c c.length) - 32).toNat, by omega⟩;have e3 : 32 - pts (xA c c.length) = -((k : Nat) : Int) := by omega
      rw[e3]at w19;refine zBT (k := k) (p := jG c) (hs5.sub (by kernel_rfl)) w19 (by rw[hfix];exact row) f1 (by rw[hfix];exact hk) (by omega) (by omega) hlow λh' tm' cs' w' n' row' hs' => ?_
      have en : wI c = Zc k (jG c) := by
        unfold wI;rw[show(pts (jG c) - 32).toNat = k by rw[hfix];omega]
      rw[<-en]at row';exact hs'.slt λtm6 hs6 => hs6.slt λtm7 hs7 => fin h' tm7 cs' w' row' (hs7.sub (by kernel_rfl))
theorem _root_.Go.Sim.Sl.kept {h h':H}{v:V}{esz n:Nat}{xs:List V}(s:Sl h v esz n xs) (hn:h.next<=h'.next) (hg:∀b,ym v=some b->h'.get b=h.get b):Sl h' v esz n xs:=by
 obtain⟨h1,h2⟩:=s;refine⟨h1,h2.imp id ?_⟩;rintro⟨b,o,cp,cs,k,w,op,rfl,h3,h4,h5⟩;exact⟨b,o,cp,cs,k,w,op,rfl,oI h3 hn,by rw[hg b rfl];exact h4,h5⟩
theorem zJT {v:V}{c:List Int}{h:H}{Q:V->H->Prop}(sl:Sl h v 1 c.length (zM c)) (g:CD c) (hn:h.next+30<=T.top) (hlow:h.low<=T.top)
  (hq:∀h' b,Ext h h' 10->h.next<=b->Sl h' (.slice b 0 (wI c).length (.exact (wI c).length)) 1 (wI c).length (zM (wI c))->Q (.tuple [.agg [.int .i64 5,.slice b 0 (wI c).length (.exact (wI c).length)],.int .i64 0]) h'):RF P zA 102 [v,.int .i64 6] h Q:=by
 have hc:=qm c;have hlen:=g.len;refine RF.enterS zG zYR (ble _ _ rfl) (ble _ _ rfl) z04 ⟨by omega,?_⟩;rintro p0 h1 rfl e1;have w1:=(Vw.nil (S:=zW) (h:=h)).new e1 (by omega);have t1:=w1.top;have s1:=sl.ext w1.ex0;have l1:h1.low<=T.top:=zGM w1.ex0 hlow;refine zWY s1 g.gc g.ne (by omega) g.sum ⟨_,_,rfl,λq=>absurd rfl q,λ_=>zTX s1 g (by omega) l1 λh8 b x8 hb s8=>⟨_,_,_,rfl,?_⟩⟩
 have w8:=w1.ext x8;have t8:=w8.top;obtain⟨h9,e9,w9,n9,_⟩:=w8.st (cx:=zA) 0 (t:=59) (f:=0) (u:=.agg [.int .i64 5,.slice b 0 (wI c).length (.exact (wI c).length)]) rfl (by omega) xo rfl (oJ _) rfl rfl;refine⟨h9,e9,endL.ok (leaveL.cell (w9.ldA 0 rfl xo rfl rfl) rfl) ?_⟩;have hb':h.next<b:=by have:=w1.lt 0 rfl;omega
 refine hq h9 b (w9.ex0.mono (by omega)) (by omega) ?_;have x9:yA zA 59 h8 (.ptr h.next 0) (.agg [.int .i64 5,.slice b 0 (wI c).length (.exact (wI c).length)])=some (h8.upd h.next (some (oD 5 (.slice b 0 (wI c).length (.exact (wI c).length))))):=k9 xo (w8.get 0 rfl) rfl (oJ _) rfl rfl;rw[x9]at e9;cases e9;exact s8.kept (oO _) λb' hb2=>by
  cases hb2;exact yy _ (by omega) (by omega)
structure Wr where
 s:List UInt8
 p:Nat
 n:Nat
def kd (w:Wr) (b:Nat):Wr:=if w.n=7 then ⟨w.s++[UInt8.ofNat (w.p+b*2^w.n)],0,0⟩ else ⟨w.s,w.p+b*2^w.n,w.n+1⟩
def zn (w:Wr) (v:Nat):Nat->Wr
 | 0=>w
 | k+1=>kd (zn w v k) (v/2^k % 2)
structure Wr.ok (w:Wr) (m:Nat):Prop where
 p:w.p<2^w.n
 n:w.n<=7
 s:8*w.s.length+w.n<=m
theorem zTV {w:Wr}{m b:Nat}(h:w.ok m) (hb:b<2):(kd w b).ok (m+1):=by
 obtain⟨h1,h2,h3⟩:=h;unfold kd;split
 ·refine⟨?_,?_,?_⟩
  ·exact Nat.one_pos
  ·exact oJ _
  ·show 8*(w.s++_).length+0<=_
   rw[oR];simp;omega
 ·refine⟨?_,?_,?_⟩
  ·show w.p+b*2^w.n<2^(w.n+1)
   have:b*2^w.n<=1*2^w.n:=Nat.mul_le_mul_right _ (by omega);rw[Nat.pow_succ];omega
  ·show w.n+1<=7
   omega
  ·show 8*w.s.length+(w.n+1)<=_
   omega
theorem yK {w:Wr}{m v:Nat}(h:w.ok m):∀k,(zn w v k).ok (m+k)
 | 0=>h
 | k+1=>zTV (yK h k) (Nat.mod_lt _ (by decide))
theorem Wr.ok.up {w:Wr}{m k:Nat}(h:w.ok m) (hk:m<=k):w.ok k:=⟨h.p,h.n,oP h.s hk⟩
abbrev wH (w:Wr):V:=.agg [.str w.s,.int .i64 (w.p:Nat),.int .i64 (w.n:Nat)]
abbrev YP (w:Wr) (k:Nat):O:=.cells (.ls [.str w.s,.int .i64 (w.p:Nat),.int .i64 (w.n:Nat)]) ⟨0,k,0⟩ true false
theorem yR {p o:Nat}{h:H}{k:V->H->Prop}:zY zA 339 0 h (.ptr p o) k=k (.ptr p (o+0)) h:=by kernel_rfl
theorem Xs {p o:Nat}{h:H}{k:V->H->Prop}:zY zA 209 0 h (.ptr p o) k=k (.ptr p (o+0)) h:=by kernel_rfl
theorem zBv {p o:Nat}{h:H}{k:V->H->Prop}:zY zA 209 1 h (.ptr p o) k=k (.ptr p (o+1)) h:=by kernel_rfl
theorem YE {p o:Nat}{h:H}{k:V->H->Prop}:zY zA 209 2 h (.ptr p o) k=k (.ptr p (o+2)) h:=by kernel_rfl
theorem qI {a b:List UInt8}{x y:Nat}{k:V->Prop}(hl:a.length+b.length<=4611686018427387904) (hk:k (.str (a++b))):wx zA .add 9 (t x) (t y) 9 (.str a) (.str b) k:=⟨hl,hk⟩
theorem zW7 {p n b:Nat}(hp:p<2^n):p ||| b*2^n=p+b*2^n:=zG0 hp
theorem zTU {S:Nat->Prop}{hb h:H}{c i p m b:Nat}{L:List (Nat×O)}{w:Wr}{Q:V->H->Prop}(vw:Vw S hb h c L) (hL:L[i]? = some (p,YP w (339+1))) (ok:w.ok m) (hm:m<=8388600) (hb2:b<2) (hn:h.next+1<=T.top) (hlow:h.low<=T.top)
  (hq:∀h',Vw S hb h' (c+1) (L.set i (p,YP (kd w b) (339+1)))->h'.next<=h.next+1->h'.low<=T.top->Q (.tuple []) h'):RF P zA 310 [.ptr p 0,.int .i64 b] h Q:=by
 obtain⟨s,pp,n⟩:=w;obtain⟨hp,hn7,hs⟩:=ok;simp only at hp hn7 hs
 replace hL:L[i]? = some (p,.cells (.ls [.str s,.int .i64 (pp:Nat),.int .i64 (n:Nat)]) ⟨0,339+1,0⟩ true false):=hL
 have hpn:2^n<=2^7:=Nat.pow_le_pow_right (by decide) hn7;have hbb:b*2^n<=1*2^n:=Nat.mul_le_mul_right _ (by omega);refine RF.enterS zG zZl (ble _ _ rfl) (ble _ _ rfl) z1x ⟨⟨by omega,hlow⟩,.ptr p 0,za h,rfl,(yb (by omega) hlow).1,qb (by omega) hlow ?_⟩;rw[yR,zBv];refine⟨_,vw.ld1 i hL zi rfl rfl,.ptr p 0,za h,rfl,(yb (by omega) hlow).1,qb (by omega) hlow ?_⟩;rw[yR,YE];refine⟨_,vw.ld1 i hL zi rfl rfl,((b*2^n:Nat):Int),by rw[zP (by omega)];exact zb (by omega) (by omega),((pp+b*2^n:Nat):Int),by rw[<-zW7 hp];exact zQG (by omega) (by omega),.ptr p 0,h,rfl,?_⟩;rw[yR,zBv];obtain⟨h1,e1,w1,n1,_⟩:=vw.st (cx:=zA) i (t:=3) (f:=0+0+1) (u:=.int .i64 ((pp+b*2^n:Nat):Int)) hL (by omega) zi rfl (oJ _) rfl rfl;refine⟨h1,e1,.ptr p 0,h1,rfl,?_⟩;have hi:i<L.length:=(List.getElem?_eq_some_iff.1 hL).1;have g1:(L.set i (p,O.cells (.ls [.str s,.int .i64 ((pp+b*2^n:Nat):Int),.int .i64 (n:Nat)]) ⟨0,339+1,0⟩ true false))[i]? = some (p,.cells (.ls [.str s,.int .i64 ((pp+b*2^n:Nat):Int),.int .i64 (n:Nat)]) ⟨0,339+1,0⟩ true false):=List.getElem?_set_self hi;rw[yR,YE];refine⟨_,w1.ld1 i g1 zi rfl rfl,.ptr p 0,h1,rfl,?_⟩;rw[yR,YE,zf (by omega)];obtain⟨h2,e2,w2,n2,_⟩:=w1.st (cx:=zA) i (t:=3) (f:=0+0+2) (u:=.int .i64 ((n+1:Nat):Int)) g1 (by omega) zi rfl (oJ _) rfl rfl;rw[List.set_set]at w2;refine⟨h2,e2,.ptr p 0,h2,rfl,?_⟩;have g2:(L.set i (p,O.cells (.ls [.str s,.int .i64 ((pp+b*2^n:Nat):Int),.int .i64 ((n+1:Nat):Int)]) ⟨0,339+1,0⟩ true false))[i]? = some (p,.cells (.ls [.str s,.int .i64 ((pp+b*2^n:Nat):Int),.int .i64 ((n+1:Nat):Int)]) ⟨0,339+1,0⟩ true false):=List.getElem?_set_self hi;have l2:h2.low<=T.top:=by
  have a1:=w2.low;have a2:=vw.low;have:h2.low<=h.low:=by
   have x1:h1=h.upd p (some (.cells (.ls [.str s,.int .i64 ((pp+b*2^n:Nat):Int),.int .i64 (n:Nat)]) ⟨0,339+1,0⟩ true false)):=Option.some.inj (e1.symm.trans (k9 zi (vw.get i hL) rfl (oJ _) rfl rfl));have x2:h2=h1.upd p (some (.cells (.ls [.str s,.int .i64 ((pp+b*2^n:Nat):Int),.int .i64 ((n+1:Nat):Int)]) ⟨0,339+1,0⟩ true false)):=Option.some.inj (e2.symm.trans (k9 zi (w1.get i g1) rfl (oJ _) rfl rfl));rw[x2,H.low_upd,x1,H.low_upd];omega
  omega
 rw[yR,YE];refine⟨_,w2.ld1 i g2 zi rfl rfl,λc=>?_,λc=>?_⟩
 ·have n8:n=7:=by omega
  subst n8;refine⟨⟨by omega,l2⟩,.ptr p 0,za h2,rfl,(yb (by omega) l2).1,qb (by omega) l2 ?_⟩;rw[yR,Xs];refine⟨_,w2.ld1 i g2 Y3 rfl rfl,.ptr p 0,za h2,rfl,(yb (by omega) l2).1,qb (by omega) l2 ?_⟩;rw[yR,zBv];have hps:pp+b*2^7<256:=by omega
  obtain⟨h3,e3,s3,x3⟩:=wh (h:=h2) ((pp+b*2^7:Nat):Int) (by omega);have l3:h3.low<=T.top:=oP x3.low l2;have t3:=x3.top;have w3:=w2.ext x3;refine⟨_,w2.ld1 i g2 zi rfl rfl,_,h3,by rw[yf,oZ hps];exact e3,?_⟩;have s3':Sl (za h3) (.slice h2.next 0 1 (.exact 1)) 1 [UInt8.ofNat (pp+b*2^7)].length (Js [UInt8.ofNat (pp+b*2^7)]):=by
   show Sl (za h3) _ 1 1 [byv _];rw[jb hps];exact s3
  refine wk s3' (by simp) ⟨(yb (by omega) l3).1,qb (by omega) l3 ?_⟩;refine qI (by simp;omega) ⟨.ptr p 0,h3,rfl,?_⟩;rw[yR,Xs];obtain⟨h4,e4,w4,n4,_⟩:=w3.st (cx:=zA) i (t:=9) (f:=0+0+0) (u:=.str (s++[UInt8.ofNat (pp+b*2^7)])) g2 (by omega) Y3 rfl (oJ _) rfl rfl;rw[List.set_set]at w4;refine⟨h4,e4,.ptr p 0,h4,rfl,?_⟩;rw[yR,zBv];obtain⟨h5,e5,w5,n5,_⟩:=w4.st (cx:=zA) i (t:=3) (f:=0+0+1) (u:=.int .i64 0) (List.getElem?_set_self hi) (by omega) zi rfl (oJ _) rfl rfl;rw[List.set_set]at w5;refine⟨h5,e5,.ptr p 0,h5,rfl,?_⟩;rw[yR,YE];obtain⟨h6,e6,w6,n6,_⟩:=w5.st (cx:=zA) i (t:=3) (f:=0+0+2) (u:=.int .i64 0) (List.getElem?_set_self hi) (by omega) zi rfl (oJ _) rfl rfl;rw[List.set_set]at w6;have x4:h4=h3.upd p (some (.cells (.ls [.str (s++[UInt8.ofNat (pp+b*2^7)]),.int .i64 ((pp+b*2^7:Nat):Int),.int .i64 ((7+1:Nat):Int)]) ⟨0,339+1,0⟩ true false)):=Option.some.inj (e4.symm.trans (k9 Y3 (w3.get i g2) rfl (oJ _) rfl rfl));have x5:h5=h4.upd p (some (.cells (.ls [.str (s++[UInt8.ofNat (pp+b*2^7)]),.int .i64 0,.int .i64 ((7+1:Nat):Int)]) ⟨0,339+1,0⟩ true false)):=Option.some.inj (e5.symm.trans (k9 zi (w4.get i (List.getElem?_set_self hi)) rfl (oJ _) rfl rfl));have x6:h6=h5.upd p (some (.cells (.ls [.str (s++[UInt8.ofNat (pp+b*2^7)]),.int .i64 0,.int .i64 0]) ⟨0,339+1,0⟩ true false)):=Option.some.inj (e6.symm.trans (k9 zi (w5.get i (List.getElem?_set_self hi)) rfl (oJ _) rfl rfl));refine⟨h6,e6,hq h6 w6 (by omega) ?_⟩;rw[x6,H.low_upd,x5,H.low_upd,x4,H.low_upd];omega
 ·have:kd ⟨s,pp,n⟩ b=⟨s,pp+b*2^n,n+1⟩:=by unfold kd;rw[if_neg (by show ¬n=7;omega)]
  rw[this]at hq;exact hq h2 (w2.more (by omega)) (by omega) l2
def YB (v n:Nat):List Int:=(List.range n).map λi=>((v/2^i % 2:Nat):Int)
theorem kp (v n:Nat):(YB v n).length=n:=by simp[YB]
theorem zIr (v n:Nat):YB v (n+1)=YB v n++[((v/2^n % 2:Nat):Int)]:=by unfold YB;rw[List.range_succ,List.map_append];rfl
theorem zPb {v n i:Nat}(h:i<n):(YB v n)[i]'(by rw[kp];exact h)=((v/2^i % 2:Nat):Int):=by simp[YB]
theorem zEh {S:Nat->Prop}{hb h:H}{c:Nat}{L:List (Nat×O)}{v n:Nat}{Q:V->H->Prop}(vw:Vw S hb h c L) (hv:v<4294967296) (hn:n<=32) (ht:h.next+1<=T.top)
  (hq:∀h' cs,Vw S hb h' (c+1) ((h.next,yv cs)::L)->h'.next=h.next+1->Row cs n (zM (YB v n))->Q (.slice h.next 0 n (.exact n)) h'):RF P zA 289 [.int .i64 v,.int .i64 n] h Q:=by
 obtain⟨cs,e1,row⟩:=Row.make (cx:=zA) (k:=n) (h:=h) zQ rfl zi rfl rfl rfl (by omega) (by show 8*n<=_;omega) (by omega);have w1:=vw.new (o:=yv cs) rfl (by omega);refine RF.enterS zG zZc (ble _ _ rfl) (ble _ _ rfl) z1o ⟨_,_,e1,Has.nil.on λtm hs=>?_⟩
 have hnx:(h.new (yv cs)).next=h.next+1:=zI _ _;generalize h.new (yv cs)=h1 at w1 hs hnx;refine wpC.round (λk tm h'=>∃(i:Nat) (cs:Cs),i<=n/\k=n-i/\h'.next=h.next+1/\Vw S hb h' (c+1) ((h.next,yv cs)::L)/\Row cs n (zM (YB v i++List.replicate (n-i) 0))/\Has tm [(10,.int .i64 i),(9,.int .i64 n),(5,.slice h.next 0 n (.exact n)),(0,.int .i64 v)]) n
  ⟨0,cs,by omega,by omega,hnx,w1,by rw[show YB v 0=[]from rfl,List.nil_append,Nat.sub_zero,wV];exact row,hs.sub (by kernel_rfl)⟩ ?_
 clear hs w1 row hnx e1 h1;rintro k tm h' ⟨i,cs,hi,rfl,hnx,w,row,hs⟩;refine wpC.at hs zRU rfl rfl ⟨λq=>?_,λq=>hs.on λtm' hs'=>?_⟩
 ·have hin:i<n:=by omega
  have hdv:v/2^i<=v:=Nat.div_le_self _ _;obtain⟨h2,cs2,e2,row2,w2,n2⟩:=w.set (cx:=zA) 0 (j:=i) (u:=.int .i64 ((v/2^i % 2:Nat):Int)) row rfl (by omega) hin zi rfl rfl rfl rfl;rw[<-yS,zIF (kp v i) hin,<-zIr]at row2;refine⟨_,by rw[zP (by omega)];exact j4 (by omega),((v/2^i % 2:Nat):Int),?_,h.next,i,zr zQ rfl zi rfl hin,h2,e2,hs.on λtm' hs'=>⟨rfl,rfl,n-(i+1),by omega,i+1,cs2,by omega,rfl,by show h2.next=_;omega,w2,row2,?_⟩⟩
  ·rw[<-Nat.and_one_is_mod]
   exact jx (b:=1) (by omega) (by decide)
  ·rw[<-zf (by omega)]
   exact hs'.sub (by kernel_rfl)
 ·have hin:i=n:=by omega
  subst hin;rw[Nat.sub_self,List.replicate_zero,List.append_nil]at row;refine thenC.left (wpS.at hs' zTB rfl rfl (hs'.on λtm2 hs2=>endW.r1 (hs2.get rfl) (hq h' cs w hnx row)))
theorem zEt {S:Nat->Prop}{hb h:H}{c b p m v n:Nat}{L:List (Nat×O)}{cs:Cs}{w:Wr}{Q:V->H->Prop}(vw:Vw S hb h c ((b,yv cs)::(p,YP w (339+1))::L)) (row:Row cs n (zM (YB v n))) (ok:w.ok m) (hm:m+n<=8388600) (hn:hb.next+c+n+1<=T.top) (hlow:h.low<=T.top)
  (hq:∀h',Vw S hb h' (c+n) ((b,yv cs)::(p,YP (zn w v n) (339+1))::L)->h'.low<=T.top->Q (.tuple []) h'):RF P zA 288 [.ptr p 0,.slice b 0 n (.exact n)] h Q:=by
 have sl0:Sl h (.slice b 0 n (.exact n)) 1 (YB v n).length (zM (YB v n)):=by rw[kp];exact row.sl (vw.lt 0 rfl) (vw.get 0 rfl)
 refine RF.enterS zG zZb (ble _ _ rfl) (ble _ _ rfl) z1n ⟨_,by have:=sl0.len (t:=23) zQ rfl;rwa [kp]at this,Has.nil.on λtm hs=>?_⟩
 refine wpC.round (λk tm h'=>∃i:Nat,i<=n/\k=n-i/\h'.low<=T.top/\Vw S hb h' (c+i) ((b,yv cs)::(p,YP (zn w v i) (339+1))::L)/\Has tm [(8,.int .i64 i),(7,.int .i64 n),(6,.slice b 0 n (.exact n)),(0,.ptr p 0)]) n ⟨0,by omega,by omega,hlow,vw,hs.sub (by kernel_rfl)⟩ ?_
 clear hs sl0 vw hlow;rintro k tm h' ⟨i,hi,rfl,hlow,vw,hs⟩;have tv:=vw.top;refine wpC.at hs zRT rfl rfl ⟨λq=>?_,λq=>hs.on λtm' hs'=>?_⟩
 ·have hin:i<n:=by omega
  have sl:Sl h' (.slice b 0 n (.exact n)) 1 (YB v n).length (zM (YB v n)):=by rw[kp];exact row.sl (vw.lt 0 rfl) (vw.get 0 rfl)
  obtain⟨b2,o,a1,a2⟩:=zg sl (i:=i) (by rw[kp];exact hin);rw[zPb hin]at a2;refine⟨b2,o,a1,_,a2,zTU vw (i:=1) rfl (yK ok i) (by omega) (Nat.mod_lt _ (by decide)) (by omega) hlow λh2 w2 t2 l2=>⟨rfl,hs.on λtm' hs'=>⟨rfl,rfl,n-(i+1),by omega,i+1,by omega,rfl,l2,w2,?_⟩⟩⟩
  rw[<-zf (by omega)];exact hs'.sub (by kernel_rfl)
 ·have hin:i=n:=by omega
  subst hin;show endW zA ⟨16,[],zIm⟩ Q (zK 0 (.exit 0)) _;rw[xf];exact hq h' vw hlow
theorem ws {f:Bool->Prop}(h:f false):jk false f:=h
theorem Kz {S:Nat->Prop}{hb h:H}{c i p k:Nat}{L:List (Nat×O)}{w:Wr}(vw:Vw S hb h c L) (hL:L[i]? = some (p,YP w k)):zO zA 209 h (.ptr p 0)=some (wH w):=vw.ldA i hL xH rfl rfl
theorem zEu {S:Nat->Prop}{hb h:H}{c i p m:Nat}{L:List (Nat×O)}{w:Wr}{Q:V->H->Prop}(vw:Vw S hb h c L) (hL:L[i]? = some (p,YP w (339+1))) (ok:w.ok m) (hm:m<=8388600) (hn:h.next+1<=T.top)
  (hq:∀h' o,Vw S hb h' (c+1) ((h.next,o)::L)->h'.next=h.next+1->Q (.tuple [wH w,.int .i64 0]) h'):RF P zA 290 [.ptr p 0] h Q:=by
 have hs:=ok.s;refine RF.enterS zG zZd (ble _ _ rfl) (ble _ _ rfl) z1p ⟨by omega,?_⟩;rintro p0 h1 rfl e1;have w1:=vw.new e1 (by omega);have n1:h1.next=h.next+1:=by rw[e1,zI]
 refine⟨.ptr p 0,h1,rfl,?_⟩;rw[yR,Xs];refine⟨_,w1.ld1 (i+1) (by simpa using hL) Y3 rfl rfl,λc=>absurd (show(1048576:Int)<(w.s.length:Int)from c) (by omega),λ_=>⟨.ptr p 0,h1,rfl,?_⟩⟩
 rw[yR];obtain⟨h2,e2,w2,n2,_⟩:=w1.st (cx:=zA) 0 (t:=209) (f:=0) (u:=wH w) rfl (by omega) xH rfl (oJ _) rfl rfl;refine⟨_,_,_,Kz w1 (i:=i+1) (by simpa using hL),h2,e2,endL.ok (leaveL.cell (w2.ldA 0 rfl xH rfl rfl) rfl) (hq h2 _ w2 (by omega))⟩
theorem zBS {w:Wr}{m:Nat}{h:H}{Q:V->H->Prop}(ok:w.ok m) (hm:m<=8388600) (hq:Q (.int .i64 0) h):RF P zA 287 [wH w] h Q:=by
 refine RF.plain ?_ (zy rfl);have hq:∀h':H,Plain (.int .i64 0)/\Q (.int .i64 0) h:=λ_=>⟨xG _ _,hq⟩
 obtain⟨hp,hn,hs⟩:=ok;have hpn:2^w.n<=2^7:=Nat.pow_le_pow_right (by decide) hn;refine RF.enterS zG zZa (ble _ _ rfl) (ble _ _ rfl) z1m ⟨by decide,?_⟩;rintro p0 h1 rfl e1;have w1:=(Vw.nil (S:=zW) (h:=H0)).new e1 (by decide);refine⟨_,w1.ld1 0 rfl zi rfl rfl,λc=>by omega,λ_=>⟨_,w1.ld1 0 rfl zi rfl rfl,λc=>by omega,λ_=>⟨_,w1.ld1 0 rfl zi rfl rfl,λc=>by omega,λ_=>⟨_,w1.ld1 0 rfl zi rfl rfl,_,w1.ld1 0 rfl zi rfl rfl,_,by rw[zP (by omega)];exact j4 (by omega),λc=>?_,λ_=>Has.nil.on λtm hs=>?_⟩⟩⟩⟩
 ·exact absurd (by rw[Nat.div_eq_of_lt hp];rfl) c
 ·refine wpS.at hs zSz rfl rfl (ws ?_)
  rw[Xs];refine⟨_,w1.ld1 0 rfl Y3 rfl rfl,λc=>absurd (show(1048576:Int)<(w.s.length:Int)from c) (by omega),λ_=>hs.on λtm2 hs2=>thenC.nx (wpS.at hs2 zTA rfl rfl (hs2.on λtm3 hs3=>endW.r1 (hs3.get rfl) (hq h1)))⟩
theorem zTS {w:Wr}{m v n:Nat}{h:H}{Q:V->H->Prop}(ok:w.ok m) (hm:m+n<=8388600) (hn:n<=32) (hv:v<2^n) (hq:Q (.tuple [wH (zn w v n),.int .i64 0]) h):RF P zA 246 [wH w,.int .i64 n,.int .i64 v] h Q:=by
 refine RF.plain ?_ (zy rfl);have hq:∀h':H,Plain (.tuple [wH (zn w v n),.int .i64 0])/\Q (.tuple [wH (zn w v n),.int .i64 0]) h:=λ_=>⟨ze rfl,hq⟩
 have ht:=zt;have hv2:v<4294967296:=oI hv (show 2^n<=2^32 from Nat.pow_le_pow_right (by decide) hn);have z0:H0.next=0:=rfl;have zl:H0.low<=T.top:=oE rfl;refine RF.enterS zG zZS (ble _ _ rfl) (ble _ _ rfl) z14 ⟨by decide,?_⟩;rintro p0 h1 rfl e1;have w1:=(Vw.nil (S:=zW) (h:=H0)).new (o:=YP w (209+1)) e1 (by decide);have t1:=w1.top;refine⟨by omega,?_⟩;rintro p2 h3 rfl e3;have w3:=w1.new (o:=YP ⟨[],0,0⟩ (209+1)) e3 (by omega);have t3:=w3.top;refine⟨_,_,_,Kz w3 (i:=1) rfl,zBS ok (by omega) ⟨_,rfl,λc=>absurd rfl c,λ_=>⟨λc=>by omega,λ_=>⟨λc=>by omega,λ_=>⟨λc=>by omega,λ_=>⟨_,by rw[zP (by omega)];exact j4 (by omega),λc=>?_,λ_=>Has.nil.on λtm hs=>?_⟩⟩⟩⟩⟩⟩
 ·exact absurd (by rw[Nat.div_eq_of_lt hv];rfl) c
 refine wpS.at hs zSn rfl rfl ⟨_,_,_,Kz w3 (i:=1) rfl,by omega,?_⟩;rintro p4 h4 rfl e4;have w4:=w3.new (o:=YP w (339+1)) e4 (by omega);have t4:=w4.top;have l4:h4.low<=T.top:=by have:=w4.low;omega
 refine zEh w4 hv2 hn (by omega) λh6 cs w6 n6 row=>⟨_,rfl,?_⟩
 have l6:h6.low<=T.top:=by have:=w6.low;omega
 refine zEt w6 row ok (by omega) (by omega) l6 λh9 w9 l9=>⟨rfl,?_⟩
 have t9:=w9.top;refine zEu w9 (i:=1) rfl (yK ok n) (by omega) (by omega) λh11 o w11 n11=>⟨_,_,_,_,rfl,?_⟩
 obtain⟨h12,e12,w12,n12,_⟩:=w11.st (cx:=zA) 3 (t:=209) (f:=0) (u:=wH (zn w v n)) rfl (by omega) xH rfl (oJ _) rfl rfl;refine⟨h12,e12,hs.on λtm2 hs2=>endW.ok (leave.cell (hs2.get (t:=6) rfl) (w12.ldA 3 rfl xH rfl rfl) (leave.tmp (hs2.get (t:=7) rfl) rfl)) (hq h12)⟩
theorem zOi {w:Wr}{m:Nat}{h:H}{Q:V->H->Prop}(ok:w.ok m) (hm:m+8<=8388600) (hq:Q (.tuple [.str (zn w 0 ((8-w.n) % 8)).s,.int .i64 0]) h):RF P zA 174 [wH w] h Q:=by
 refine RF.plain ?_ (zy rfl);have hq:∀h':H,Plain (.tuple [.str (zn w 0 ((8-w.n) % 8)).s,.int .i64 0])/\Q (.tuple [.str (zn w 0 ((8-w.n) % 8)).s,.int .i64 0]) h:=λ_=>⟨ze rfl,hq⟩
 have ht:=zt;have hn7:=ok.n;have z0:H0.next=0:=rfl;have zl:H0.low<=T.top:=oE rfl;refine RF.enterS zG zYj (ble _ _ rfl) (ble _ _ rfl) z0w ⟨by decide,?_⟩;rintro q0 g1 rfl f1;have u1:=(Vw.nil (S:=zW) (h:=H0)).new (o:=YP w (209+1)) f1 (by decide);have s1:=u1.top;refine⟨_,_,_,Kz u1 (i:=0) rfl,RF.enterS zG zZQ (ble _ _ rfl) (ble _ _ rfl) z12 ⟨by omega,?_⟩⟩;rintro p0 h1 rfl e1;have w1:=u1.new (o:=YP w (209+1)) e1 (by omega);have t1:=w1.top;refine⟨by omega,?_⟩;rintro p2 h3 rfl e3;have w3:=w1.new (o:=YP ⟨[],0,0⟩ (209+1)) e3 (by omega);have t3:=w3.top;refine⟨_,_,_,Kz w3 (i:=1) rfl,zBS ok (by omega) ⟨_,rfl,λc=>absurd rfl c,λ_=>⟨_,_,_,Kz w3 (i:=1) rfl,by omega,?_⟩⟩⟩
 rintro p4 h4 rfl e4;have w4:=w3.new (o:=YP w (339+1)) e4 (by omega);have t4:=w4.top;have l4:h4.low<=T.top:=by have:=w4.low;omega
 refine⟨.ptr h3.next 0,h4,rfl,?_⟩;rw[yR,YE];have er:Int.tmod (zL (8-((w.n:Nat):Int))) 8=(((8-w.n) % 8:Nat):Int):=by
  rw[zH (by omega) (by omega),show(8:Int)-((w.n:Nat):Int)=((8-w.n:Nat):Int)by omega];rfl
 refine⟨_,w4.ld1 0 rfl zi rfl rfl,by decide,?_⟩;rw[er];have hk:(8-w.n) % 8<8:=Nat.mod_lt _ (by decide);generalize (8-w.n) % 8=k at *;refine zEh (v:=0) w4 (by decide) (by omega) (by omega) λh6 cs w6 n6 row=>⟨_,rfl,?_⟩
 have l6:h6.low<=T.top:=by have:=w6.low;omega
 refine zEt w6 row ok (by omega) (by omega) l6 λh9 w9 l9=>⟨rfl,?_⟩
 have t9:=w9.top;refine zEu w9 (i:=1) rfl (yK ok k) (by omega) (by omega) λh11 o w11 n11=>⟨_,_,_,_,rfl,?_⟩
 obtain⟨h12,e12,w12,n12,_⟩:=w11.st (cx:=zA) 3 (t:=209) (f:=0) (u:=wH (zn w 0 k)) rfl (by omega) xH rfl (oJ _) rfl rfl;refine⟨h12,e12,endL.ok (leaveL.cell (w12.ldA 3 rfl xH rfl rfl) rfl) ⟨_,_,_,_,rfl,by omega,?_⟩⟩;rintro p13 h13 rfl e13;have w13:=w12.new (o:=YP ⟨[],0,0⟩ (209+1)) e13 (by omega);have n13:h13.next=h12.next+1:=by rw[e13,zI]
 obtain⟨h14,e14,w14,n14,_⟩:=w13.st (cx:=zA) 0 (t:=209) (f:=0) (u:=wH (zn w 0 k)) rfl (by omega) xH rfl (oJ _) rfl rfl;exact⟨h14,e14,_,w14.ld1 0 rfl Y3 rfl rfl,hq h14⟩
def xK:List Int->Nat
 | []=>0
 | x::l=>if x=0 then xK l+1 else 0
def xJ:Nat->Wr->Nat->Wr
 | 0,w,z=>zn w z 2
 | f+1,w,z=>if 3<=z then xJ f (zn w 3 2) (z-3) else zn w z 2
def jQ (left:Nat) (v:Nat):Nat×Nat:=if v<shT left then (qC left-1,v) else if v<2^(qC left-1) then (qC left,v) else (qC left,v+shT left)
def wS:Nat->Wr->Nat->List Int->Wr
 | 0,w,_,_=>w
 | _,w,_,[]=>w
 | f+1,w,left,p::l =>
  if p≠0 then wS f (zn w (jQ left (p+1).toNat).2 (jQ left (p+1).toNat).1) (left-(pt p).toNat) l
  else wS f (xJ l.length (zn w (jQ left 1).2 (jQ left 1).1) (xK l)) left (l.drop (xK l))
def jA (log:Nat) (l:List Int):Wr:=wS l.length (zn ⟨[],0,0⟩ (log-5) 4) (2^log) l
def Ju (log:Nat) (l:List Int):List UInt8:=(zn (jA log l) 0 ((8-(jA log l).n) % 8)).s
theorem KZ:∀l:List Int,xK l<=l.length
 | []=>oO _
 | x::l=>by
  unfold xK;split
  ·have:=KZ l;simp;omega
  ·exact oJ _
theorem X4 {l:List Int}:∀{i:Nat},i<xK l->l[i]? = some 0:=by
 induction l with
 | nil=>intro i h;cases h
 | cons x l ih =>
  intro i h;unfold xK at h;split at h
  ·rename_i hx
   cases i with
   | zero=>rw[hx];rfl
   | succ i=>exact ih (i:=i) (by omega)
  ·cases h
theorem zFC {l:List Int}(h:xK l<l.length):l[xK l]≠0:=by
 induction l with
 | nil=>cases h
 | cons x l ih =>
  by_cases hx:x=0
  ·have e:xK (x::l)=xK l+1:=by show(if x=0 then xK l+1 else 0)=_;rw[if_pos hx]
   have h2:xK l<l.length:=by rw[e]at h;simpa using h
   have:(x::l)[xK (x::l)]=l[xK l]:=by simp only[e,List.getElem_cons_succ]
   rw[this];exact ih h2
  ·have e:xK (x::l)=0:=by show(if x=0 then xK l+1 else 0)=_;rw[if_neg hx]
   have:(x::l)[xK (x::l)]=x:=by simp only[e,List.getElem_cons_zero]
   rw[this];exact hx
theorem XH:∀l:List Int,pts (l.drop (xK l))=pts l
 | []=>rfl
 | x::l=>by
  by_cases hx:x=0
  ·have e:xK (x::l)=xK l+1:=by show(if x=0 then xK l+1 else 0)=_;rw[if_pos hx]
   rw[e,List.drop_succ_cons,XH l,xl,hx];have:pt 0=0:=rfl;omega
  ·have e:xK (x::l)=0:=by show(if x=0 then xK l+1 else 0)=_;rw[if_neg hx]
   rw[e];rfl
theorem Z9:∀{f:Nat}{w:Wr}{m z:Nat},w.ok m->(xJ f w z).ok (m+2*f+2)
 | 0,w,m,z,h=>(yK h 2).up (by omega)
 | f+1,w,m,z,h=>by
  unfold xJ;split
  ·exact(Z9 (yK h 2)).up (by omega)
  ·exact(yK h 2).up (by omega)
theorem zCr {left v:Nat}(h0:0<left) (hl:left<=64) (hv:v<=left+1):(jQ left v).1<=7/\(jQ left v).2<2^(jQ left v).1:=by
 obtain⟨h1,h2,h3⟩:=Od left;have hb:qC left<=7:=yE (by omega);have ht:shT left=2^qC left-2-left:=rfl;unfold jQ;split
 ·exact⟨by show qC left-1<=7;omega,by show v<2^(qC left-1);omega⟩
 ·split
  ·exact⟨hb,by show v<2^qC left;omega⟩
  ·exact⟨hb,by show v+shT left<2^qC left;omega⟩
abbrev vwW {hb:H}(h:H) (c p5 p3 p0:Nat) (w:Wr) (log:Int) (v:V):Prop:=Vw zW hb h c [(p5,YP w (209+1)),(p3,YP ⟨[],0,0⟩ (209+1)),(p0,oD log v)]
abbrev z4X (p5:Nat):V:=.func (.func 245) [] [.ptr p5 0]
theorem KL {hb h:H}{c p5 p3 p0 m v n:Nat}{log:Int}{vd:V}{w:Wr}{Q:V->H->Prop}(vw:vwW (hb:=hb) h c p5 p3 p0 w log vd) (ok:w.ok m) (hm:m+n<=8388600) (hn:n<=32) (hv:v<2^n) (ht:h.next<=T.top)
  (hq:∀h',vwW (hb:=hb) h' c p5 p3 p0 (zn w v n) log vd->h'.next=h.next->Q (.tuple []) h'):RF P zA 245 [.int .i64 n,.int .i64 v,.ptr p5 0] h Q:=by
 obtain⟨h2,e2,w2,n2,_⟩:=vw.st (cx:=zA) 0 (t:=209) (f:=0) (u:=wH (zn w v n)) rfl ht xH rfl (oJ _) rfl rfl;exact RF.enterS zG zZR (ble _ _ rfl) (ble _ _ rfl) z13 ⟨_,_,_,Kz vw (i:=0) rfl,zTS ok hm hn hv ⟨_,_,_,_,rfl,h2,e2,hq h2 w2 n2⟩⟩
abbrev knW (p5 p3 p0 i left:Nat):Kn:=[(6,.int .i64 i),(1,.ptr p0 0),(5,.int .i64 left),(4,z4X p5),(3,.ptr p5 0),(2,.ptr p3 0)]
theorem zT0 {hb h:H}{c p5 p3 p0 m z f i left:Nat}{log:Int}{vd:V}{w:Wr}{tm:Tm}{d:List AD}{R:AX->St->Prop}(hs:Has tm ((11,.int .i64 z)::knW p5 p3 p0 i left)) (vw:vwW (hb:=hb) h c p5 p3 p0 w log vd) (ok:w.ok m) (hm:m+2*f+2<=100000) (hf:z<=f) (hz:z<=1000) (ht:hb.next+c<=T.top)
  (hR:∀tm' h',Has tm' (knW p5 p3 p0 i left)->vwW (hb:=hb) h' c p5 p3 p0 (xJ f w z) log vd->R .normal ⟨100,tm',d,h'⟩):wY false zCX ⟨100,tm,d,h⟩ R:=by
 refine wpS.at hs zSQ rfl rfl (hs.on λtm1 hs1=>?_);refine wpC.round (λk tm h'=>∃(w1:Wr) (z1 f1:Nat),k=z1/\z1<=z/\z1<=f1/\f1<=f/\w1.ok (m+2*(f-f1))/\xJ f1 w1 z1=xJ f w z/\vwW (hb:=hb) h' c p5 p3 p0 w1 log vd/\Has tm ((11,.int .i64 z1)::knW p5 p3 p0 i left)) z
  ⟨w,z,f,rfl,oO _,hf,oO _,ok.up (by omega),rfl,vw,hs1.sub (by kernel_rfl)⟩ ?_
 clear hs hs1 vw ok;rintro k tm h' ⟨w1,z1,f1,rfl,hz1,hzf,hff,ok,he,vw,hs⟩;have tv:=vw.top;refine wpC.at hs zQv rfl rfl ⟨λq=>?_,λq=>hs.on λtm' hs'=>?_⟩
 ·obtain⟨f2,rfl⟩:∃f2,f1=f2+1:=⟨f1-1,by omega⟩
  show RF P zA 245 [.int .i64 2,.int .i64 3,.ptr p5 0] h' _;refine KL (v:=3) (n:=2) vw ok (by omega) (by decide) (by decide) (by omega) λh2 w2 n2=>zE5 (hs.on λtm' hs'=>⟨rfl,rfl,k-3,by omega,zn w1 3 2,k-3,f2,rfl,by omega,by omega,by omega,(yK ok 2).up (by omega),?_,w2,?_⟩)
  ·rw[<-he]
   show _=(if 3<=k then _ else _);rw[if_pos (by omega)]
  ·have:zL (((k:Nat):Int)-3)=((k-3:Nat):Int):=by rw[zH (by omega) (by omega)];omega
   rw[<-this];exact hs'.sub (by kernel_rfl)
 ·have he2:xJ f1 w1 k=zn w1 k 2:=by
   cases f1 with
   | zero=>rfl
   | succ f1=>unfold xJ;rw[if_neg (by omega)]
  refine thenC.left (wpS.at hs' zSP rfl rfl ?_);show RF P zA 245 [.int .i64 2,.int .i64 (k:Nat),.ptr p5 0] h' _;refine KL (v:=k) (n:=2) vw ok (by omega) (by decide) (by show k<4;omega) (by omega) λh2 w2 n2=>zE5 (hs'.on λtm2 hs2=>hs2.slt λtm3 hs3=>hR tm3 h2 (hs3.sub (by kernel_rfl)) ?_)
  rw[<-he,he2];exact w2
end Go.Proofs.YtnpeieeomokomaaGreat
