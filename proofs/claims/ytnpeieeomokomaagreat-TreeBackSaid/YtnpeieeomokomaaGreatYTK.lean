/- TK. No condition. -/
import Derived.Test.YtnpeieeomokomaaGreatYTJ
set_option maxRecDepth 100000
set_option maxHeartbeats 4000000
namespace Go.Proofs.YtnpeieeomokomaaGreat
open Go.Sim
variable {h:H}{Q:V->H->Prop}
variable{hb:H}{L:List (Nat×O)}{c l p:List Int}{b i m n tot v:Nat}{S:Nat->Prop}{k:V->H->Prop}
def xB(l:List Int)(s:Nat):Nat:=(l.filter λx=>decide (x=(s:Int))).length
theorem zLc(l:List Int)(x:Int)(s:Nat):xB (l++[x]) s=xB l s+(if x=s then 1 else 0):=by
 unfold xB;rw[List.filter_append,oU]
 congr 1
 by_cases c:x=(s:Int)<;>simp[c]
theorem zDu(l:List Int)(s:Nat):xB l s<=l.length:=List.length_filter_le _ _
def Kp(n:Nat)(l:List Int):List Int:=(List.range n).map λs=>((xB l s:Nat):Int)
abbrev xm(l:List Int):List Int:=Kp 12 l
theorem jH(n:Nat)(l:List Int):(Kp n l).length=n:=by simp[Kp]
theorem ku{s:Nat}(h:s<n):(Kp n l)[s]? = some ((xB l s:Nat):Int):=by
 unfold Kp;rw[oW,List.getElem?_range h];rfl
theorem zMi{s:Nat}(h:s<n):(Kp n l).set s ((xB l s+1:Nat):Int)=Kp n (l++[(s:Int)]):=by
 apply List.ext_getElem?;intro i;by_cases c:i<n
 ·rw[ku c,zLc]
  by_cases e:s=i
  ·subst e
   rw[List.getElem?_set_self (by rw[jH];exact h),if_pos rfl]
  ·rw[oY e,ku c,if_neg (by omega)];rfl
 ·rw[og (by rw[oh,jH];omega),og (by rw[jH];omega)]
theorem Ot(n:Nat):Kp n []=List.replicate n 0:=by
 apply List.ext_getElem?;intro i;by_cases c:i<n
 ·rw[ku c,List.getElem?_replicate,if_pos c];rfl
 ·rw[og (by rw[jH];omega),og (by simp;omega)]
theorem zDA(hl:l.length<=255):GC (xm l):=⟨by rw[jH];decide,λx hx=>by
 unfold xm Kp at hx;obtain⟨s,_,rfl⟩:=List.mem_map.1 hx;have:=zDu l s;omega⟩
theorem YT:∀{l:List Int},jk l=true->yo (xm l)=l.length
 | [],_=>by unfold xm;rw[Ot];rfl
 | x::l,h=>by
  have h2:jk l=true:=by
   have:jk ([x]++l)=true:=h;rw[ZA,oG]at this;exact this.2
  have hx:=wk h (List.mem_cons_self ..);have ih:=YT h2;have e:∀s,xB (x::l) s=xB l s+(if x=(s:Int) then 1 else 0):=λs=>by
   unfold xB;by_cases c:x=(s:Int)
   ·rw[List.filter_cons_of_pos (by simpa using c),if_pos c];rfl
   ·rw[List.filter_cons_of_neg (by simpa using c),if_neg c];rfl
  have f:∀m:List Int,yo (xm m)=xB m 0+(xB m 1+(xB m 2+(xB m 3+(xB m 4+(xB m 5+(xB m 6+(xB m 7+(xB m 8+(xB m 9+(xB m 10+(xB m 11+0))))))))))):=λm=>by
   have:List.range 12=[0,1,2,3,4,5,6,7,8,9,10,11]:=by decide
   unfold yo xm Kp;rw[this];simp
  rw[f,oV,<-ih,f];simp only[e];have:x=0\/x=1\/x=2\/x=3\/x=4\/x=5\/x=6\/x=7\/x=8\/x=9\/x=10\/x=11:=by omega
  rcases this with rfl|rfl|rfl|rfl|rfl|rfl|rfl|rfl|rfl|rfl|rfl|rfl<;>simp<;>omega
theorem zEW{p k:Nat}(hk:k<256):z8 zA 206 (.ptr p 0) (.int .i64 k)=some (.ptr p k):=by
 unfold z8;have e1:yx (k:Int)=some k:=rfl;simp only[e1,zVr,zd,(zY _ _).2 hk,oK,Nat.mul_one,Nat.zero_add]
theorem zII{v:V}{l:List Int}(sl:Sl h v 1 l.length (zJ l))(hin:jk l=true)(hl:l.length<=255)(hn:h.nx+1<=T.top)(hq:∀h',Ext h h' 1->Sl h' (.slice h.nx 0 12 (.exact 12)) 1 12 (zJ (xm l))->Q (.tuple [.slice h.nx 0 12 (.exact 12),.int .i64 0]) h'):RF P zA 100 [v,.int .i64 11] h Q:=by
 obtain⟨cs0,er,row0⟩:=zAb;refine yK zZz rfl rfl z2I ⟨λc=>absurd c (by decide),λ_=>⟨λc=>absurd c (by decide),λ_=>Has.nil.on λtm hs=>?_⟩⟩
 refine wpS.av hs zTc rfl rfl ⟨_,sl.len zP rfl,λc=>by omega,λ_=>Y3 er ⟨by omega,?_⟩⟩
 rintro p1 h2 rfl e2;have w2:=(Vw.nil (S:=zS) (h:=h)).new e2 (by omega);have t2:=w2.top;refine⟨_,(sl.ext w2.ex0).len zP rfl,hs.on λtm1 hs1=>?_⟩
 refine wpC.round (λk tm h'=>∃(i:Nat) (cs:Cs),i<=l.length/\k=l.length-i/\Vw zS h h' 1 [(h.nx,.cells cs ⟨0,206+1,0⟩ true false)]/\Row cs 256 (zJ (Kp 256 (l.take i))) /\
  Has tm [(20,.int .i64 i),(19,.int .i64 l.length),(18,v),(1,.int .i64 11),(6,.ptr h.nx 0)]) l.length ⟨0,cs0,by omega,by omega,w2,by rw[List.take_zero,Ot];exact row0,hs1.sub (by kernel_rfl)⟩ ?_
 clear hs hs1 w2 e2 t2;rintro k tm h' ⟨i,cs,hi1,rfl,w,row,hs⟩;have tw:=w.top;refine wpC.av hs zSv rfl rfl ⟨λc=>?_,λc=>hs.on λtm' hs'=>?_⟩
 ·have hi:i<l.length:=by omega
  obtain⟨b,o,a1,a2⟩:=yj (sl.ext w.ex0) hi;have hr:=wk hin (oS hi);have ht:=xY hi;have hsc:=zDu (l.take i) l[i].toNat;rw[List.length_take]at hsc;generalize l[i]=x at a2 hr ht hsc;obtain⟨s,rfl⟩:∃s:Nat,x=s:=⟨x.toNat,by omega⟩;rw[oX]at hsc;refine⟨b,o,a1,_,a2,λc2=>by omega,λ_=>⟨λc3=>by omega,λ_=>hs.on λtm1 hs1=>?_⟩⟩
  have hs256:s<256:=by omega
  have hcell:cs.get? s=some (.int .i64 (xB (l.take i) s:Nat)):=by
   rw[row.2.2.2 s hs256,oW,ku hs256];rfl
  have ev:zG (((xB (l.take i) s:Nat):Int)+1)=((xB (l.take i) s+1:Nat):Int):=yQ (by omega);obtain⟨h2,cs2,e2,row2,w2,n2⟩:=w.set (cx:=zA) 0 (j:=s) (u:=.int .i64 ((xB (l.take i) s+1:Nat):Int)) row rfl (by omega) hs256 zd rfl rfl rfl rfl;rw[<-xH,zMi hs256,<-ht]at row2;refine wpS.av hs1 zT9 rfl rfl ⟨_,_,zEW hs256,_,w.ld1 0 rfl zd rfl hcell,_,_,zEW hs256,h2,by rw[ev];exact e2,hs1.on λtm2 hs2=>?_⟩
  refine thenC.nx (wpS.av hs2 zTa rfl rfl (hs2.on λtm3 hs3=>hs3.slt λtm4 hs4=>⟨rfl,rfl,l.length-(i+1),by omega,i+1,cs2,by omega,rfl,w2,row2,?_⟩))
  rw[<-yQ (by omega)];exact hs4.sub (by kernel_rfl)
 ·have hi:i=l.length:=by omega
  subst hi;rw[List.take_length]at row;refine thenC.left (wpS.av hs' zTb rfl rfl ⟨_,zAj (n:=12) (by decide),hs'.on λtm2 hs2=>hs2.slt λtm3 hs3=>endW.r2 (hs3.get rfl) (hs3.get rfl) (hq h' w.ex0 ?_)⟩)
  refine⟨by rw[jM,jH],.inr ⟨h.nx,0,_,cs,_,_,_,rfl,w.lt 0 rfl,w.get 0 rfl,λj hj=>?_⟩⟩
  rw[Nat.zero_add,row.2.2.2 j (by omega),oW,oW,ku (by omega),ku (by omega)]
theorem YW:∀{p:List Int}{i:Nat}{x:Int},(h:i<p.length)->pts (p.set i x)=pts p-pt p[i]+pt x
 | [],_,_,h=>by cases h
 | y::p,0,x,_=>by
  rw[List.set_cons_zero,yr,yr,List.getElem_cons_zero];omega
 | y::p,i+1,x,h=>by
  rw[List.set_cons_succ,yr,yr,List.getElem_cons_succ,YW (p:=p) (by simpa using h)];omega
theorem kM(x:Int):0<=pt x:=by unfold pt;split<;>omega
theorem zCM:∀{p:List Int},(∀x∈p,x<=1)->pts p<=p.length
 | [],_=>by simp[pts]
 | x::p,h=>by
  have h1:=h x (by simp);have h2:=zCM (p:=p) λy hy=>h y (by simp[hy])
  rw[yr,oV];unfold pt;split<;>omega
theorem Xk{l:List Int}:∀{n j:Nat},j<n->l[j]?.getD 0<=l[yc l n]?.getD 0
 | 0,_,h=>by cases h
 | n+1,j,h=>by
  unfold yc;by_cases c:l[yc l n]?.getD 0<l[n]?.getD 0
  ·rw[if_pos c]
   by_cases e:j=n
   ·rw[e];exact Int.le_refl _
   ·have:=Xk (l:=l) (n:=n) (j:=j) (by omega)
    omega
  ·rw[if_neg c]
   by_cases e:j=n
   ·rw[e];omega
   ·exact Xk (by omega)
theorem xy(h:i<l.length):l[i]?.getD 0=l[i]:=by rw[oO h];rfl
theorem zIt(h:0<l.length):yc l l.length<l.length:=by
 obtain⟨n,hn⟩:∃n,l.length=n+1:=⟨l.length-1,by omega⟩;rw[hn];have:=zIu l n;omega
def Kq(p:List Int):List Int:=p.set (yc p p.length) (p[yc p p.length]?.getD 0-1)
theorem zMm(p:List Int):(Kq p).length=p.length:=by simp[Kq]
structure PR (p:List Int):Prop where
 pos:1<=p.length
 len:p.length<=12
 low:∀x∈p,-1<=x
 last:p.getLast?≠some 0
theorem PR.big(g:PR p)(h:32<pts p):2<=p[yc p p.length]?.getD 0:=by
 have hg:=g.len;by_cases c:2<=p[yc p p.length]?.getD 0
 ·exact c
 ·have:=zCM (p:=p) λx hx=>by
   obtain⟨i,hi,rfl⟩:=List.mem_iff_getElem.1 hx;have:=Xk (l:=p) hi;rw[xy hi]at this;omega
  omega
theorem zGM{x:Int}(hx:x≠0)(h:p.getLast?≠some 0):(p.set i x).getLast?≠some 0:=by
 rw[List.getLast?_eq_getElem?]at h ⊢;rw[oh];by_cases e:i=p.length-1
 ·by_cases hp:i<p.length
  ·rw[<-e,List.getElem?_set_self hp]
   intro g;exact hx (Option.some.inj g)
  ·rw[og (by rw[oh];omega)]
   intro g;cases g
 ·rw[oY e]
  exact h
theorem PR.set(g:PR p){x:Int}(hx:1<=x):PR (p.set i x) where
 pos:=by rw[oh];exact g.pos
 len:=by rw[oh];exact g.len
 low:=λy hy=>by
  rcases List.mem_or_eq_of_mem_set hy with h|rfl
  ·exact g.low y h
  ·omega
 last:=zGM (by omega) g.last
theorem PR.dec(g:PR p)(h:32<pts p):PR (Kq p)/\pts (Kq p)=pts p-1:=by
 have hb:=g.big h;have hi:=zIt (l:=p) g.pos;refine⟨g.set (by omega),?_⟩;unfold Kq;rw[YW hi];rw[xy hi]at hb ⊢;have e1:pt p[yc p p.length]=p[yc p p.length]:=by unfold pt;rw[if_neg (by omega)]
 have e2:pt (p[yc p p.length]-1)=p[yc p p.length]-1:=by unfold pt;rw[if_neg (by omega)]
 omega
def Ov:Nat->List Int->List Int
 | 0,p=>p
 | k+1,p=>Ov k (Kq p)
theorem zIl:∀{k:Nat}{p:List Int},PR p->pts p=32+k->GD 5 (Ov k p)
 | 0,p,g,h=>⟨.inl rfl,g.pos,g.len,g.low,g.last,by show pts p=2^5;omega⟩
 | k+1,p,g,h=>by
  obtain⟨g1,h1⟩:=g.dec (by omega);exact zIl (p:=Kq p) g1 (by omega)
def ZE(tot:Nat)(n:Int):Int:=if 0<n then (if n.toNat*32/tot=0 then -1 else ((n.toNat*32/tot:Nat):Int)) else 0
theorem zFp(tot:Nat)(n:Int): -1<=ZE tot n:=by
 unfold ZE;split
 ·split
  ·decide
  ·exact Int.le_trans (by decide) (Int.natCast_nonneg _)
 ·decide
theorem zJN{n:Int}(h:0<n):ZE tot n≠0:=by unfold ZE;rw[if_pos h];split<;>omega
theorem zLS{n:Int}(h:¬0<n):ZE tot n=0:=by unfold ZE;rw[if_neg h]
theorem zJM{n:Int}(h:n.toNat<=tot):ZE tot n<=32:=by
 unfold ZE;split
 ·split
  ·decide
  ·have:n.toNat*32/tot<=32:=by
    rcases Nat.eq_zero_or_pos tot with h0|h0
    ·subst h0;simp
    ·exact Nat.le_of_lt_succ ((Nat.div_lt_iff_lt_mul h0).2 (by
      have:n.toNat*32<=tot*32:=Nat.mul_le_mul_right _ h;omega))
   omega
 ·decide
def shr(tot n:Nat)(c:List Int)(i:Nat):List Int:=(List.range n).map λs=>if s<i then ZE tot (c[s]?.getD 0) else 0
theorem jc(tot n:Nat)(c:List Int)(i:Nat):(shr tot n c i).length=n:=by simp[shr]
theorem Zy{s:Nat}(h:s<n):(shr tot n c i)[s]? = some (if s<i then ZE tot (c[s]?.getD 0) else 0):=by
 unfold shr;rw[oW,List.getElem?_range h];rfl
theorem zPt(tot n:Nat)(c:List Int):shr tot n c 0=List.replicate n 0:=by
 apply List.ext_getElem?;intro i;by_cases h:i<n
 ·rw[Zy h,List.getElem?_replicate,if_pos h,if_neg (by omega)]
 ·rw[og (by rw[jc];omega),og (by simp;omega)]
theorem zSd(h:i<n):(shr tot n c i).set i (ZE tot (c[i]?.getD 0))=shr tot n c (i+1):=by
 apply List.ext_getElem?;intro j;by_cases hj:j<n
 ·rw[Zy hj]
  by_cases e:i=j
  ·subst e
   rw[List.getElem?_set_self (by rw[jc];exact h),if_pos (by omega)]
  ·rw[oY e,Zy hj]
   by_cases c1:j<i
   ·rw[if_pos c1,if_pos (by omega)]
   ·rw[if_neg c1,if_neg (by omega)]
 ·rw[og (by rw[oh,jc];omega),og (by rw[jc];omega)]
theorem zPs(h:i<n->¬0<c[i]?.getD 0):shr tot n c (i+1)=shr tot n c i:=by
 apply List.ext_getElem?;intro j;by_cases hj:j<n
 ·rw[Zy hj,Zy hj]
  by_cases e:i=j
  ·subst e
   rw[if_pos (by omega),if_neg (by omega),zLS (h hj)]
  ·by_cases c1:j<i
   ·rw[if_pos c1,if_pos (by omega)]
   ·rw[if_neg c1,if_neg (by omega)]
 ·rw[og (by rw[jc];omega),og (by rw[jc];omega)]
theorem zG8{x:Int}(hq:Q (.int .i64 (pt x)) h):RF P zA 239 [.int .i64 x] h Q:=by
 unfold pt at hq;refine yK z0e rfl rfl z2o ⟨λc=>?_,λc=>?_⟩
 ·rw[if_pos c]at hq;exact hq
 ·rw[if_neg c]at hq;exact hq
theorem zIU{x:Int}{cp:Cap}{k:V->Prop}(hk:k (.agg [.int .i64 x,.slice b 0 n cp])):xp zA 59 (xA zA 59 [(0,(.int .i64 x)),(1,.slice b 0 n cp)]) k:=by
 have h1:xA zA 59 [(0,(.int .i64 x)),(1,.slice b 0 n cp)]=some (.agg [.int .i64 x,.slice b 0 n cp]):=by kernel_rfl
 have h2:qU zA 59=false:=by kernel_rfl
 unfold xp;rw[h1];simp only[h2];exact hk
theorem PR.rng(g:PR p):pts p<=100000->∀x∈p,x<=100000:=λh x hx=>by
 obtain⟨i,hi,rfl⟩:=List.mem_iff_getElem.1 hx;have h1:=YW (p:=p) (i:=i) (x:=0) hi;have h2:0<=pts (p.set i 0):=by
  have:=xU (l:=p.set i 0) λy hy=>by
   rcases List.mem_or_eq_of_mem_set hy with q|rfl
   ·exact g.low y q
   ·decide
  omega
 have h3:pt 0=0:=rfl;have h4:p[i]<=pt p[i]:=by unfold pt;split<;>omega
 omega
theorem zC0{hb h:H}{cc lp df b14 p11 p6 b p9 p2 p0 m k:Nat}{o1 o3 o4 o5:O}{cs:Cs}{p:List Int}{tm:Tm}{d:List AD}{R:AX->St->Prop}(hs:Has tm [(4,.ptr p2 0),(3,.ptr p0 0),(11,.ptr p6 0),(12,.ptr p11 0)])(w:Vw zS hb h cc [(lp,o1),(df,o3),(b14,o4),(p11,xh (-(k:Nat))),(p6,j5 (.slice b 0 m (.exact m))),(b,xu cs),(p9,o5),(p2,oD 0 .nilslice),(p0,xh 5)])(row:Row cs m (zJ p))(g:PR p)(hp:pts p=32+k)(hk:k<=1000)(hn:h.nx<=T.top)(hlow:hb.low<=T.top)(hR:∀h' tm' cs',Vw zS hb h' cc [(lp,o1),(df,o3),(b14,o4),(p11,xh 0),(p6,j5 (.slice b 0 m (.exact m))),(b,xu cs'),(p9,o5),(p2,oD 5 (.slice b 0 m (.exact m))),(p0,xh 5)]->h'.nx=h.nx->Row cs' m (zJ (Ov k p))->Has tm' [(4,.ptr p2 0),(5,.int .i64 0)]->R .ret ⟨105,tm',d,h'⟩):
  kQ false zD9 ⟨105,tm,d,h⟩ R:=by
 refine wpS.av hs zTs rfl rfl (hs.on λtm1 hs1=>?_);refine wpC.round (λj tm h'=>∃(q:List Int) (cs:Cs),PR q/\pts q=32+j/\Ov j q=Ov k p/\j<=k/\h'.nx=h.nx/\Row cs m (zJ q)/\Has tm [(4,.ptr p2 0),(3,.ptr p0 0),(11,.ptr p6 0),(12,.ptr p11 0)] /\
  Vw zS hb h' cc [(lp,o1),(df,o3),(b14,o4),(p11,xh (-(j:Nat))),(p6,j5 (.slice b 0 m (.exact m))),(b,xu cs),(p9,o5),(p2,oD 0 .nilslice),(p0,xh 5)]) k ⟨p,cs,g,hp,rfl,oP _,rfl,row,hs1.sub (by kernel_rfl),w⟩ ?_
 clear hs hs1 w row g hp cs;rintro j tm h' ⟨q,cs,g,hp,hd,hjk,hnx,row,hs,w⟩;refine wpC.av hs zTB rfl rfl ⟨_,w.ld1 3 rfl zd rfl rfl,λc=>?_,λc=>?_⟩
 ·have hj:j=0:=by omega
  subst hj;obtain⟨h2,e2,w2,n2,_⟩:=w.st (cx:=zA) 7 (t:=59) (f:=0) (u:=.agg [.int .i64 5,.slice b 0 m (.exact m)]) rfl (by omega) yv rfl (oJ _) rfl rfl;refine hs.on λtm1 hs1=>thenC.left (wpS.av hs1 zTr rfl rfl ⟨_,w.ld1 8 rfl zd rfl rfl,_,w.ld1 4 rfl zP rfl rfl,zIU ⟨h2,e2,hs1.on λtm2 hs2=>hs2.slt λtm3 hs3=>?_⟩⟩)
  refine hR h2 tm3 cs w2 (by omega) ?_ (hs3.sub (by kernel_rfl));rw[<-hd];exact row
 ·obtain⟨j',rfl⟩:∃j',j=j'+1:=⟨j-1,by omega⟩
  have hl':h'.low<=T.top:=by have:=w.low;omega
  have hi:=zIt (l:=q) g.pos;have hb2:=g.big (by omega);rw[xy hi]at hb2;have hrow:row.2.2.1=row.2.2.1:=rfl;have hqm:q.length=m:=by have:=row.2.2.1;rwa [jM]at this
  have sq:Sl h' (.slice b 0 m (.exact m)) 1 q.length (zJ q):=by rw[hqm];exact row.sl (w.lt 5 rfl) (w.get 5 rfl)
  have g12:=g.len;have hrg:=g.rng (by omega) _ (oS hi);obtain⟨g2,p2'⟩:=g.dec (by omega);have hcell:cs.get? (yc q q.length)=some (.int .i64 q[yc q q.length]):=by rw[row.2.2.2 _ (by omega),oW,oO hi];rfl
  obtain⟨h2,cs2,e2,row2,w2,n2⟩:=w.set (cx:=zA) 5 (j:=yc q q.length) (u:=.int .i64 (q[yc q q.length]-1)) row rfl (by omega) (by omega) zd rfl rfl rfl rfl;have er:(zJ q).set (yc q q.length) (.int .i64 (q[yc q q.length]-1))=zJ (Kq q):=by unfold Kq;rw[xH,xy hi]
  rw[er]at row2;obtain⟨h3,e3,w3,n3,_⟩:=w2.st (cx:=zA) 3 (t:=3) (f:=0) (u:=.int .i64 (-((j':Nat):Int))) rfl (by omega) zd rfl (oJ _) rfl rfl;have i1:=yI (h:=h') (by omega) hl';refine⟨⟨by omega,hl'⟩,_,w.ld1 4 rfl zP rfl rfl,_,w.ld1 4 rfl zP rfl rfl,zFR (show Sl (zM h') _ 1 q.length (zJ q)from sq) (by omega) (show h'.nx<=_ by omega) (oP _) ⟨_,rfl,i1.1,λh6 e6=>?_⟩⟩
  rw[i1.2]at e6;subst e6;refine⟨b,_,yd zP rfl zd rfl (by omega),_,w.ld1 5 rfl zd rfl hcell,b,_,yd zP rfl zd rfl (by omega),h2,by rw[zD (by omega) (by omega)];exact e2,_,w2.ld1 3 rfl zd rfl rfl,h3,?_,hs.on λtm1 hs1=>?_⟩
  ·rw[zD (by omega) (by omega),show -(((j'+1:Nat):Int))+1 = -((j':Nat):Int)by omega];exact e3
  ·exact⟨rfl,rfl,j',by omega,Kq q,cs2,g2,by omega,hd,by omega,by show h3.nx=h.nx;omega,row2,hs1.sub (by kernel_rfl),w3⟩
structure LP (c:List Int) (m:Nat):Prop where
 pos:1<=m
 le:m<=c.length
 at':0<c[m-1]?.getD 0
 hi:∀j,m<=j->¬0<c[j]?.getD 0
 is:kA c c.length=(m:Int)-1
theorem zFZ(l:List Int):∀{n j:Nat},j<n->0<l[j]?.getD 0->(j:Int)<=kA l n
 | 0,_,h,_=>by cases h
 | n+1,j,h,h0=>by
  unfold kA;by_cases c:0<l[n]?.getD 0
  ·rw[if_pos c];omega
  ·rw[if_neg c]
   have:j≠n:=λe=>c (by rw[<-e];exact h0)
   exact zFZ l (by omega) h0
theorem zFY(l:List Int):∀{n:Nat},0<=kA l n->∃s:Nat,kA l n=s/\s<n/\0<l[s]?.getD 0
 | 0,h=>absurd (show(0:Int)<=-1 from h) (by decide)
 | n+1,h=>by
  unfold kA at h ⊢;by_cases c:0<l[n]?.getD 0
  ·rw[if_pos c];exact⟨n,rfl,by omega,c⟩
  ·rw[if_neg c]at h ⊢
   obtain⟨s,h1,h2,h3⟩:=zFY l h;exact⟨s,h1,by omega,h3⟩
def qd(c:List Int):Nat:=(kA c c.length+1).toNat
theorem zCF(g:GC c)(hc:cnt c≠0):LP c (qd c):=by
 have h0:=(Je g c.length (oP _)).2 (by rw[List.take_length];exact hc);obtain⟨s,h1,h2,h3⟩:=zFY c h0;have hm:qd c=s+1:=by unfold qd;omega
 rw[hm];refine⟨by omega,by omega,by simpa using h3,λj hj q=>?_,by omega⟩
 have hl:j<c.length:=by
  by_cases e:j<c.length
  ·exact e
  ·rw[og (by omega)]at q;exact absurd q (by decide)
 have:=zFZ c hl q;omega
theorem zYB{p:List Int}{b:Nat}(h:∀x∈p,x<=b)(hb:1<=b):pts p<=((b*p.length:Nat):Int):=by
 induction p with
 | nil=>simp[pts]
 | cons x p ih =>
  have h1:=h x (by simp);have h2:=ih λy hy=>h y (by simp[hy])
  rw[yr,oV,Nat.mul_succ];have:pt x<=b:=by unfold pt;split<;>omega
  omega
structure CD (c:List Int):Prop where
 gc:GC c
 len:c.length<=12
 ne:cnt c≠0
 sum:yo c<=255
 pos:0<yo c
 each:∀x∈c,x.toNat<=yo c
def wp(c:List Int)(i:Nat):List Int:=shr (yo c) (qd c) c i
theorem CD.get(g:CD c)(j:Nat):(c[j]?.getD 0).toNat<=yo c:=by
 by_cases h:j<c.length
 ·rw[xy h];exact g.each _ (oS h)
 ·rw[og (by omega)];exact oJ _
theorem CD.mem(g:CD c){x:Int}(h:x∈wp c i): -1<=x/\x<=((32:Nat):Int):=by
 unfold wp shr at h;obtain⟨s,_,rfl⟩:=List.mem_map.1 h;split
 ·exact⟨zFp _ _,zJM (g.get s)⟩
 ·omega
theorem CD.pb(g:CD c)(i:Nat):0<=pts (wp c i)/\pts (wp c i)<=384:=by
 have h1:=zYB (p:=wp c i) (b:=32) (λx hx=>(g.mem hx).2) (by decide)
 have h2:=xU (l:=wp c i) λx hx=>(g.mem hx).1
 have h3:(wp c i).length=qd c:=jc _ _ _ _;have h4:=(zCF g.gc g.ne).le;have h5:=g.len;rw[h3]at h1;omega
theorem CD.pr(g:CD c):PR (wp c c.length):=by
 have l:=zCF g.gc g.ne;have hl:(wp c c.length).length=qd c:=jc _ _ _ _;refine⟨by rw[hl];exact l.pos,by rw[hl];have:=l.le;have:=g.len;omega,λx hx=>(g.mem hx).1,?_⟩
 rw[List.getLast?_eq_getElem?,hl];unfold wp;have:=l.pos;have:=l.le;rw[Zy (by omega),if_pos (by omega)];intro q;exact zJN l.at' (Option.some.inj q)
theorem CD.g_lt(g:CD c):yc c c.length<qd c:=by
 have l:=zCF g.gc g.ne;have h1:=Xk (l:=c) (n:=c.length) (j:=qd c-1) (by have:=l.pos;have:=l.le;omega);have h2:=l.at';rcases Nat.lt_or_ge (yc c c.length) (qd c)with h|h
 ·exact h
 ·exact absurd (show 0<c[yc c c.length]?.getD 0 by omega) (l.hi _ h)
def qv(c:List Int):List Int :=
 if 0<32-pts (wp c c.length) then (wp c c.length).set (yc c c.length) (pt ((wp c c.length)[yc c c.length]?.getD 0)+(32-pts (wp c c.length))) else wp c c.length
def qJ(c:List Int):List Int:=Ov (pts (qv c)-32).toNat (qv c)
theorem CD.fix{c:List Int}(g:CD c):PR (qv c)/\32<=pts (qv c)/\pts (qv c)<=384/\(qv c).length=qd c:=by
 have h0:=g.pb c.length;have hl:(wp c c.length).length=qd c:=jc _ _ _ _;unfold qv;split
 ·rename_i h
  have hi:yc c c.length<(wp c c.length).length:=by rw[hl];exact g.g_lt
  have:=kM ((wp c c.length)[yc c c.length]?.getD 0);refine⟨g.pr.set (by omega),?_,?_,by rw[oh];exact hl⟩
  all_goals
   rw[YW hi,xy hi];rw[xy hi]at this;generalize pt (wp c c.length)[yc c c.length]=z at *;have:pt (z+(32-pts (wp c c.length)))=z+(32-pts (wp c c.length)):=by unfold pt;rw[if_neg (by omega)]
   omega
 ·exact⟨g.pr,by omega,by omega,hl⟩
theorem CD.gd(g:CD c):GD 5 (qJ c):=by
 obtain⟨h1,h2,h3,_⟩:=g.fix;exact zIl h1 (by omega)
theorem zEo:∀(k:Nat) (p:List Int),(Ov k p).length=p.length
 | 0,_=>rfl
 | k+1,p=>by
  show(Ov k (Kq p)).length=_;rw[zEo k,zMm]
theorem CD.nlen(g:CD c):(qJ c).length=qd c:=by unfold qJ;rw[zEo,g.fix.2.2.2]
theorem zIg(hin:jk l=true)(hl:l.length<=255)(h2:cnt (xm l)≠0):CD (xm l):=by
 have hs:=YT hin;refine⟨zDA hl,by rw[jH];decide,h2,by omega,?_,λx hx=>?_⟩
 ·rw[hs]
  rcases Nat.eq_zero_or_pos l.length with h|h
  ·have:l=[]:=List.eq_nil_of_length_eq_zero h
   subst this;exact absurd (by unfold xm;rw[Ot];rfl) h2
  ·exact h
 ·unfold xm Kp at hx
  obtain⟨s,_,rfl⟩:=List.mem_map.1 hx;have:=zDu l s;omega
theorem YV(c:List Int)(i:Nat):(wp c i).length=qd c:=jc _ _ _ _
theorem zFs(c:List Int):wp c 0=List.replicate (qd c) 0:=zPt _ _ _
theorem CD.step{c:List Int}(g:CD c){i:Nat}(hi:i<c.length)(h0:0<c[i]):i<qd c/\(wp c i).set i (ZE (yo c) c[i])=wp c (i+1)/\pts (wp c (i+1))=pts (wp c i)+pt (ZE (yo c) c[i]):=by
 have l:=zCF g.gc g.ne;have him:i<qd c:=by
  rcases Nat.lt_or_ge i (qd c)with h|h
  ·exact h
  ·exact absurd (show 0<c[i]?.getD 0 by rw[xy hi];exact h0) (l.hi _ h)
 have e1:(wp c i).set i (ZE (yo c) c[i])=wp c (i+1):=by
  have:=zSd (tot:=yo c) (n:=qd c) (c:=c) him;rw[xy hi]at this;exact this
 have hl:i<(wp c i).length:=by rw[YV];exact him
 refine⟨him,e1,?_⟩;rw[<-e1,YW hl];have:(wp c i)[i]=0:=by
  have h2:(wp c i)[i]? = some (if i<i then ZE (yo c) (c[i]?.getD 0) else 0):=Zy him;rw[oO hl,if_neg (by omega)]at h2;exact Option.some.inj h2
 rw[this];have:pt 0=0:=rfl;omega
theorem CD.skip(_g:CD c)(hi:i<c.length)(h0:¬0<c[i]):wp c (i+1)=wp c i:=zPs λ_=>by rw[xy hi];exact h0
theorem CD.fix32{c:List Int}(g:CD c)(h:0<32-pts (wp c c.length)):pts (qv c)=32:=by
 have hi:yc c c.length<(wp c c.length).length:=by rw[YV];exact g.g_lt
 unfold qv;rw[if_pos h,YW hi,xy hi];have h1:=kM (wp c c.length)[yc c c.length];have:pt (pt (wp c c.length)[yc c c.length]+(32-pts (wp c c.length)))=pt (wp c c.length)[yc c c.length]+(32-pts (wp c c.length)):=by
  generalize pt (wp c c.length)[yc c c.length]=y at *;unfold pt;rw[if_neg (by omega)]
 omega
theorem zSQ(h:0<n):ZE tot (n:Int)=if n*32/tot=0 then -1 else ((n*32/tot:Nat):Int):=by
 unfold ZE;rw[if_pos (by omega),oX]
theorem zVC{v : V}{c : List Int}{h : H}{Q : V -> H -> Prop}(sl : Sl h v 1 c.length (zJ c))(g : CD c)(hn : h.nx + 20 <= T.top)(hlow : h.low <= T.top)(hq : ∀h' b, Ext h h' 9 -> h.nx <= b -> Sl h' (.slice b 0 (qJ c).length (.exact (qJ c).length)) 1 (qJ c).length (zJ (qJ c)) -> Q (.tuple [.agg [.int .i64 5, .slice b 0 (qJ c).length (.exact (qJ c).length)], .int .i64 0]) h'): RF P zA 172 [v, .int .i64 5] h Q := by
  have hlen := g.len;have l := zCF g.gc g.ne;have lp1 := l.pos;have lp2 := l.le;have hsum := g.sum;have hpos := g.pos;have hcl := J6 c;refine yK z0R rfl rfl z20 ⟨rfl, by omega, ?_⟩;rintro p0 h1 rfl e1;have w1 := (Vw.nil (S := zS) (h := h)).new e1 (by omega);have t1 := w1.top;refine⟨by omega, ?_⟩;rintro p2 h3 rfl e3;have w3 := w1.new e3 (by omega);have t3 := w3.top;refine On (sl.ext w3.ex0) g.gc g.ne ⟨_, _, _, rfl, rfl, by omega, ?_⟩;rintro p9 h10 rfl e10;have w10 := w3.new e10 (by omega);have t10 := w10.top;obtain⟨h11, e11, w11, n11, _⟩ := w10.st (cx := zA) 0 (t := 3) (f := 0) (u := .int .i64 (yo c : Nat)) rfl (by omega) zd rfl (oJ _) rfl rfl;have t11 := w11.top;refine⟨h11, e11, λq => absurd rfl q, λ_ => ⟨_, w11.ld1 2 rfl zd rfl rfl, λq => absurd q (by decide), λ_ => ⟨_, w11.ld1 2 rfl zd rfl rfl, λq => absurd q (by decide), λ_ => Has.nil.on λtm hs => ?_⟩⟩⟩
  refine wpS.av hs zTp rfl rfl ?_;refine⟨_, w11.ld1 2 rfl zd rfl rfl, ((1 * 2 ^ 5 : Nat) : Int), yH (a := 1) (n := 5) (by decide) (by decide), λq => by omega, λ_ => hs.on λtm2 hs2 => ?_⟩
  refine thenC.nx (hs2.sealK λtm3 hs3 => ?_);clear hs hs2 tm tm2;refine wpS.av hs3 zTu rfl rfl (zRx (sl.ext w11.ex0) g.gc g.ne ⟨_, _, rfl, ?_⟩);have em : zG (kA c c.length + 1) = ((qd c : Nat) : Int) := by rw[l.is, zD (by omega) (by omega)];omega
  rw[em];obtain⟨csp, emk, row0⟩ := Row.make (cx := zA) (k := qd c) (h := h11) zP rfl zd rfl rfl rfl (by omega) (by show 8 * _ <= _;omega) (by omega);obtain⟨h5, e5⟩ : ∃h5, h5 = h11.new (xu csp) := ⟨_, rfl⟩;rw[<-e5]at emk;have w5 := w11.new e5 (by omega);have t5 := w5.top;refine⟨_, h5, emk, rfl, by omega, ?_⟩;rintro p6 h7 rfl e7;have w7 := w5.new e7 (by omega);have t7 := w7.top;obtain⟨h8, e8, w8, n8, _⟩ := w7.st (cx := zA) 0 (t := 23) (f := 0) (u := .slice h11.nx 0 (qd c) (.exact (qd c))) rfl (by omega) zP rfl (oJ _) rfl rfl;have t8 := w8.top;refine⟨h8, e8, _, w8.ld1 4 rfl zd rfl rfl, ((1 * 2 ^ 5 : Nat) : Int), yH (a := 1) (n := 5) (by decide) (by decide), rfl, by omega, ?_⟩;rintro p11 h12 rfl e12;have w12 := w8.new e12 (by omega);have t12 := w12.top;obtain⟨h13, e13, w13, n13, _⟩ := w12.st (cx := zA) 0 (t := 3) (f := 0) (u := .int .i64 ((1 * 2 ^ 5 : Nat) : Int)) rfl (by omega) zd rfl (oJ _) rfl rfl;have t13 := w13.top;refine⟨h13, e13, yK z0d rfl rfl z2n ⟨zDW sl, by omega, ?_⟩⟩;rintro p14 h15 rfl e15;have w15 := w13.new e15 (by omega);have t15 := w15.top;refine⟨_, rfl, hs3.on λtm4 hs4 => ?_⟩
  refine Vw.range (s := ⟨105, tm4, [], h15⟩) w15 (captured := [.ptr h13.nx 0]) (show yF tm4 (t 55) = _ from congrArg some (hs4.get rfl)) (by show h15.nx + 2 <= _;omega) λh17 w17 n17 => ?_
  refine zHc (l := c) (v := v) (λi h' => ∃cs, Vw zS h h' 9 [(h15.nx + 1, .loop .ready none 105 tm4 #[56, 57] O0 zAH h15.nx), (h15.nx, .deferred true), (h13.nx, .cells (.ls [v]) ⟨0, 24, 0⟩ true false), (h8.nx, xh (32 - pts (wp c i))), (h5.nx, j5 (.slice h11.nx 0 (qd c) (.exact (qd c)))), (h11.nx, xu cs), (h3.nx, xh (yo c : Nat)), (h1.nx, oD 0 .nilslice), (h.nx, xh 5)] /\ Row cs (qd c) (zJ (wp c i))) (by omega)
    ⟨csp, by rw[zFs];have : pts (List.replicate (qd c) 0) = 0 := by { have := xU (l := List.replicate (qd c) 0) (λx hx => by rw[List.eq_of_mem_replicate hx];decide);have h3 : Jf (List.replicate (qd c) 0) = 0 := by { unfold Jf;simp };have h4 : yU (List.replicate (qd c) 0) = 0 := by { unfold yU;simp };omega }
             rw[this];exact w17, by rw[zFs, jY];exact row0⟩ (w17.ld1 2 rfl zP rfl rfl) (λi h' w => sl.ext w.choose_spec.1.ex0) (λi h' hi q w => by rw[g.skip hi q];exact w) (λi h' hi q w => ?_) λh8' w8' => ?_
  · obtain⟨cs, w, row⟩ := w
    have tw := w.top;obtain⟨him, es, ep⟩ := g.step hi q;have hrng := g.gc.at hi;have heach := g.each _ (oS hi);have hpb := g.pb i;have hpt : 0 <= pt (ZE (yo c) c[i]) := kM _;have hple := zJM heach;have hplo := zFp (yo c) c[i];obtain⟨n, hnn⟩ : ∃n : Nat, c[i] = n := ⟨c[i].toNat, by omega⟩;rw[hnn]at q hrng heach es ep hpt hple hplo;rw[oX]at heach;have hpi := zSQ (tot := yo c) (n := n) (by omega);refine w.round (il := 0) (c' := 9) rfl (by omega) (hs4.sub (l' := [(3, .ptr h.nx 0), (11, .ptr h5.nx 0), (12, .ptr h8.nx 0), (6, .ptr h3.nx 0)]) (by kernel_rfl)) rfl λtm0 hs0 => ?_
    rw[hnn]at hs0;refine wpC.av hs0 zSm rfl rfl (hs0.on λtm1 hs1 => ⟨rfl, rfl, rfl, rfl, λh1' w1' n1' => ?_⟩);have hdv : n * 32 / yo c <= n * 32 := Nat.div_le_self _ _;have e1 : zT .u64 (n : Int) = ((n : Nat) : Int) := zW (by omega);have e3 : zG (zT .u64 (Int.tdiv ((n * 2 ^ 5 : Nat) : Int) (zT .u64 ((yo c : Nat) : Int)))) = ((n * 32 / yo c : Nat) : Int) := by
      rw[zW (by omega), show Int.tdiv ((n * 2 ^ 5 : Nat) : Int) ((yo c : Nat) : Int) = ((n * 2 ^ 5 / yo c : Nat) : Int)from rfl, show n * 2 ^ 5 = n * 32 from rfl, zW (by omega), zD (by omega) (by omega)]
    have keep : ∀(x : Int) (tm5 : Tm), x = ZE (yo c) n -> Has tm5 [(11, .ptr h5.nx 0), (13, .int .i64 (i : Nat)), (15, .int .i64 x), (12, .ptr h8.nx 0)] ->
        kQ true (jB zD8) ⟨105, tm5, [], h1'⟩ (λe s1 => yE qE (λe2 s2 => e2 = .normal /\ s2.dfr = [] /\ ∃L', Vw zS h s2.heap 9 L' /\ s2.heap.nx <= T.top /\ L'[0]? = some (h15.nx + 1, .loop .busy none 105 tm4 #[56, 57] O0 zAH h15.nx) /\
          ∀h', Vw zS h h' 9 (L'.set 0 (h15.nx + 1, .loop .ready none 105 tm4 #[56, 57] O0 zAH h15.nx)) -> h'.nx = s2.heap.nx -> (∀b, b ≠ h15.nx + 1 -> h'.get b = s2.heap.get b) -> V.bool true = V.bool true /\ ∃cs, Vw zS h h' 9 [(h15.nx + 1, .loop .ready none 105 tm4 #[56, 57] O0 zAH h15.nx), (h15.nx, .deferred true), (h13.nx, .cells (.ls [v]) ⟨0, 24, 0⟩ true false), (h8.nx, xh (32 - pts (wp c (i + 1)))), (h5.nx, j5 (.slice h11.nx 0 (qd c) (.exact (qd c)))), (h11.nx, xu cs), (h3.nx, xh (yo c : Nat)), (h1.nx, oD 0 .nilslice), (h.nx, xh 5)] /\ Row cs (qd c) (zJ (wp c (i + 1)))) (ze 2 e) s1) := by
      intro x tm5 hx hs5;obtain⟨h2', cs2, e2', row2, w2', n2'⟩ := w1'.set (cx := zA) 5 (j := i) (u := .int .i64 x) row rfl (by omega) him zd rfl rfl rfl rfl;rw[<-xH, hx, es]at row2;have l2 : h2'.low <= T.top := by have := w2'.low;omega
      have i2 := yI (h := h2') (by omega) l2;obtain⟨h3', e3', w3', n3', _⟩ := w2'.st (cx := zA) 3 (t := 3) (f := 0) (u := .int .i64 (32 - pts (wp c (i + 1)))) rfl (by omega) zd rfl (oJ _) rfl rfl;refine wpS.av hs5 zTq rfl rfl ⟨_, w1'.ld1 4 rfl zP rfl rfl, h11.nx, i, yd zP rfl zd rfl him, h2', e2', ⟨by omega, l2⟩, _, w2'.ld1 3 rfl zd rfl rfl, zG8 ⟨_, rfl, i2.1, λh8'' e8'' => ?_⟩⟩
      rw[i2.2]at e8'';subst e8'';have ee : zG ((32 - pts (wp c i)) - pt x) = 32 - pts (wp c (i + 1)) := by
        rw[ep, hx, zD (by unfold pt;split<;>omega) (by omega)];omega
      refine⟨h3', by rw[ee];exact e3', hs5.on λtm6 hs6 => hs6.slt λtm7 hs7 => ⟨rfl, rfl, _, w3', by show h3'.nx <= _;omega, rfl, λh4' w4' n4' _ => ⟨rfl, cs2, w4', row2⟩⟩⟩
    refine wpC.av hs1 zSr rfl rfl ⟨_, w1'.ld1 8 rfl zd rfl rfl, _, by rw[e1, show zT .u64 (5 : Int) = ((5 : Nat) : Int)from zW (by decide)];exact Zx (a := n) (n := 5) (by decide) (by omega), _, w1'.ld1 6 rfl zd rfl rfl, by rw[zW (by omega)];omega, λq2 => ?_, λq2 => ?_⟩
    · rw[e3]at q2
      rw[if_pos (by omega)]at hpi;exact hs1.on λtm5 hs5 => keep _ tm5 hpi.symm (hs5.sub (by kernel_rfl))
    · rw[e3]at q2 ⊢
      rw[if_neg (by omega)]at hpi;exact hs1.on λtm5 hs5 => keep _ tm5 hpi.symm (hs5.sub (by kernel_rfl))
  · obtain⟨cs, w18, row⟩ := w8'
    have t18 := w18.top;refine⟨9, _, w18, by omega, λh19 o w19 n19 _ => ?_⟩
    show kQ false zHg ⟨105, tm4, [.coll h15.nx], h19⟩ (yE qE (endW zA ⟨105, [.cell 4 59, .tmp 5], qG⟩ Q));have hpb := g.pb c.length;have l19 : h19.low <= T.top := by have := w19.low;omega
    obtain⟨f1, f2, f3, f4⟩ := g.fix;have fin : ∀(h' : H) (tm' : Tm) (cs' : Cs), Vw zS h h' 9 [(h15.nx + 1, o), (h15.nx, .deferred true), (h13.nx, .cells (.ls [v]) ⟨0, 24, 0⟩ true false), (h8.nx, xh 0), (h5.nx, j5 (.slice h11.nx 0 (qd c) (.exact (qd c)))), (h11.nx, xu cs'), (h3.nx, xh (yo c : Nat)), (h1.nx, oD 5 (.slice h11.nx 0 (qd c) (.exact (qd c)))), (h.nx, xh 5)] -> Row cs' (qd c) (zJ (qJ c)) -> Has tm' [(4, .ptr h1.nx 0), (5, .int .i64 0)] ->
        endW zA ⟨105, [.cell 4 59, .tmp 5], qG⟩ Q .ret ⟨105, tm', [.coll h15.nx], h'⟩ := by
      intro h' tm' cs' w' row' hs';have tw' := w'.top;show wpD [.coll h15.nx] h' _;refine w'.ends (i := 1) rfl (by omega) λh'' w'' n'' _ => ?_
      have el : leave zA [.cell 4 59, .tmp 5] tm' h'' [.cell 4 59, .tmp 5] [] = some [.agg [.int .i64 5, .slice h11.nx 0 (qd c) (.exact (qd c))], .int .i64 0] := by
        refine leave.cell (hs'.get (t := 4) rfl) (w''.ldA 7 rfl yv rfl rfl) ?_;exact leave.tmp (hs'.get (t := 5) rfl) rfl
      show(match leave zA [.cell 4 59, .tmp 5] tm' h'' [.cell 4 59, .tmp 5] []with|some vs => Q (yO vs) h''|none => False)
      rw[el];have hl2 := g.nlen;have := hq h'' h11.nx w''.ex0 (by have := w11.le;omega);rw[hl2]at this;exact this (row'.sl (w''.lt 5 rfl) (w''.get 5 rfl))
    refine wpS.av hs4 zTt rfl rfl ⟨_, w19.ld1 3 rfl zd rfl rfl, λq => ?_, λq => ?_⟩
    · have hgl := g.g_lt
      have hgi : yc c c.length < (wp c c.length).length := by rw[YV];exact hgl
      have sv := sl.ext w19.ex0;have hcell : cs.get? (yc c c.length) = some (.int .i64 (wp c c.length)[yc c c.length]) := by rw[row.2.2.2 _ hgl, oW, oO (by rw[YV];exact hgl)];rfl
      have hm := g.mem (oS (l := wp c c.length) (n := yc c c.length) (by rw[YV];exact hgl));have hfix : qv c = (wp c c.length).set (yc c c.length) (pt (wp c c.length)[yc c c.length] + (32 - pts (wp c c.length))) := by
        unfold qv;rw[if_pos q, xy (by rw[YV];exact hgl)]
      generalize (wp c c.length)[yc c c.length] = z at hcell hm hfix;have i1 := yI (h := h19) (by omega) l19;obtain⟨h20, cs2, e20, row2, w20, n20⟩ := w19.set (cx := zA) 5 (j := yc c c.length) (u := .int .i64 (pt z + (32 - pts (wp c c.length)))) row rfl (by omega) hgl zd rfl rfl rfl rfl;rw[<-xH, <-hfix]at row2;obtain⟨h21, e21, w21, n21, _⟩ := w20.st (cx := zA) 3 (t := 3) (f := 0) (u := .int .i64 0) rfl (by omega) zd rfl (oJ _) rfl rfl;refine zFR sv (by omega) (by omega) l19 ⟨_, rfl, ⟨by omega, l19⟩, _, w19.ld1 4 rfl zP rfl rfl, _, w19.ld1 4 rfl zP rfl rfl, h11.nx, _, yd zP rfl zd rfl hgl, _, w19.ld1 5 rfl zd rfl hcell, zG8 ⟨_, rfl, i1.1, λh12' e12' => ?_⟩⟩
      rw[i1.2]at e12';subst e12';have hz : 0 <= pt z /\ pt z <= 32 := by unfold pt;split<;>omega
      refine⟨_, w19.ld1 3 rfl zd rfl rfl, h11.nx, _, yd zP rfl zd rfl hgl, h20, by rw[zD (by omega) (by omega)];exact e20, h21, e21, hs4.on λtm5 hs5 => ?_⟩
      have hz2 := g.fix32 q;refine zC0 (k := 0) (p := qv c) (hs5.sub (by kernel_rfl)) w21 row2 f1 (by omega) (by decide) (by omega) hlow λh' tm' cs' w' n' row' hs' => ?_
      have en : qJ c = Ov 0 (qv c) := by unfold qJ;rw[hz2];rfl
      rw[<-en]at row';exact hs'.slt λtm6 hs6 => hs6.slt λtm7 hs7 => fin h' tm7 cs' w' row' (hs7.sub (by kernel_rfl))
    · have hfix : qv c = wp c c.length := by unfold qv;rw[if_neg (by omega)]
      refine hs4.on λtm5 hs5 => ?_
      obtain⟨k, hk⟩ : ∃k : Nat, pts (wp c c.length) = 32 + k := ⟨(pts (wp c c.length) - 32).toNat, by omega⟩;have e3 : 32 - pts (wp c c.length) = -((k : Nat) : Int) := by omega
      rw[e3]at w19;refine zC0 (k := k) (p := qv c) (hs5.sub (by kernel_rfl)) w19 (by rw[hfix];exact row) f1 (by rw[hfix];exact hk) (by omega) (by omega) hlow λh' tm' cs' w' n' row' hs' => ?_
      have en : qJ c = Ov k (qv c) := by
        unfold qJ;rw[show(pts (qv c) - 32).toNat = k by rw[hfix];omega]
      rw[<-en]at row';exact hs'.slt λtm6 hs6 => hs6.slt λtm7 hs7 => fin h' tm7 cs' w' row' (hs7.sub (by kernel_rfl))
theorem _root_.Go.Sim.Sl.kept{h h':H}{v:V}{esz:Nat}{xs:List V}(s:Sl h v esz n xs)(hn:h.nx<=h'.nx)(hg:∀b,zy v=some b->h'.get b=h.get b):Sl h' v esz n xs:=by
 obtain⟨h1,h2⟩:=s;refine⟨h1,h2.imp id ?_⟩;rintro⟨b,o,cp,cs,k,w,op,rfl,h3,h4,h5⟩;exact⟨b,o,cp,cs,k,w,op,rfl,oI h3 hn,by rw[hg b rfl];exact h4,h5⟩
theorem zLF{v:V}(sl:Sl h v 1 c.length (zJ c))(g:CD c)(hn:h.nx+30<=T.top)(hlow:h.low<=T.top)(hq:∀h' b,Ext h h' 10->h.nx<=b->Sl h' (.slice b 0 (qJ c).length (.exact (qJ c).length)) 1 (qJ c).length (zJ (qJ c))->Q (.tuple [.agg [.int .i64 5,.slice b 0 (qJ c).length (.exact (qJ c).length)],.int .i64 0]) h'):RF P zA 102 [v,.int .i64 6] h Q:=by
 have hc:=J6 c;have hlen:=g.len;refine yK z0B rfl rfl z2K ⟨by omega,?_⟩;rintro p0 h1 rfl e1;have w1:=(Vw.nil (S:=zS) (h:=h)).new e1 (by omega);have t1:=w1.top;have s1:=sl.ext w1.ex0;have l1:h1.low<=T.top:=zHY w1.ex0 hlow;refine zXo s1 g.gc g.ne (by omega) g.sum ⟨_,_,rfl,λq=>absurd rfl q,λ_=>zVC s1 g (by omega) l1 λh8 b x8 hb s8=>⟨_,_,_,rfl,?_⟩⟩
 have w8:=w1.ext x8;have t8:=w8.top;obtain⟨h9,e9,w9,n9,_⟩:=w8.st (cx:=zA) 0 (t:=59) (f:=0) (u:=.agg [.int .i64 5,.slice b 0 (qJ c).length (.exact (qJ c).length)]) rfl (by omega) yv rfl (oJ _) rfl rfl;refine⟨h9,e9,endL.ok (leaveL.cell (w9.ldA 0 rfl yv rfl rfl) rfl) ?_⟩;have hb':h.nx<b:=by have:=w1.lt 0 rfl;omega
 refine hq h9 b (w9.ex0.mono (by omega)) (by omega) ?_;have x9:zg zA 59 h8 (.ptr h.nx 0) (.agg [.int .i64 5,.slice b 0 (qJ c).length (.exact (qJ c).length)])=some (h8.upd h.nx (some (oD 5 (.slice b 0 (qJ c).length (.exact (qJ c).length))))):=zo yv (w8.get 0 rfl) rfl (oJ _) rfl rfl;rw[x9]at e9;cases e9;exact s8.kept (oP _) λb' hb2=>by
  cases hb2;exact zQ _ (by omega) (by omega)
structure Wr where
 s:List UInt8
 p:Nat
 n:Nat
def KC(w:Wr)(b:Nat):Wr:=if w.n=7 then ⟨w.s++[UInt8.ofNat (w.p+b*2^w.n)],0,0⟩ else ⟨w.s,w.p+b*2^w.n,w.n+1⟩
def yC(w:Wr)(v:Nat):Nat->Wr
 | 0=>w
 | k+1=>KC (yC w v k) (v/2^k % 2)
structure Wr.ok (w:Wr) (m:Nat):Prop where
 p:w.p<2^w.n
 n:w.n<=7
 s:8*w.s.length+w.n<=m
theorem zVA{w:Wr}(h:w.ok m)(hb:b<2):(KC w b).ok (m+1):=by
 obtain⟨h1,h2,h3⟩:=h;unfold KC;split
 ·refine⟨?_,?_,?_⟩
  ·exact Nat.one_pos
  ·exact oJ _
  ·show 8*(w.s++_).length+0<=_
   rw[oU];simp;omega
 ·refine⟨?_,?_,?_⟩
  ·show w.p+b*2^w.n<2^(w.n+1)
   have:b*2^w.n<=1*2^w.n:=Nat.mul_le_mul_right _ (by omega);rw[Nat.pow_succ];omega
  ·show w.n+1<=7
   omega
  ·show 8*w.s.length+(w.n+1)<=_
   omega
theorem zj{w:Wr}(h:w.ok m):∀k,(yC w v k).ok (m+k)
 | 0=>h
 | k+1=>zVA (zj h k) (Nat.mod_lt _ (by decide))
theorem Wr.ok.up{w:Wr}{k:Nat}(h:w.ok m)(hk:m<=k):w.ok k:=⟨h.p,h.n,oQ h.s hk⟩
abbrev Ym(w:Wr):V:=.agg [.str w.s,.int .i64 (w.p:Nat),.int .i64 (w.n:Nat)]
abbrev oWr(w:Wr)(k:Nat):O:=.cells (.ls [.str w.s,.int .i64 (w.p:Nat),.int .i64 (w.n:Nat)]) ⟨0,k,0⟩ true false
theorem yX{p o:Nat}:zR zA 339 0 h (.ptr p o) k=k (.ptr p (o+0)) h:=by kernel_rfl
theorem zDH{p o:Nat}:zR zA 209 0 h (.ptr p o) k=k (.ptr p (o+0)) h:=by kernel_rfl
theorem zDI{p o:Nat}:zR zA 209 1 h (.ptr p o) k=k (.ptr p (o+1)) h:=by kernel_rfl
theorem Ja{p o:Nat}:zR zA 209 2 h (.ptr p o) k=k (.ptr p (o+2)) h:=by kernel_rfl
theorem zI4{a b:List UInt8}{x y:Nat}{k:V->Prop}(hl:a.length+b.length<=4611686018427387904)(hk:k (.str (a++b))):wh zA .add 9 (t x) (t y) 9 (.str a) (.str b) k:=⟨hl,hk⟩
theorem zXy{p:Nat}(hp:p<2^n):p ||| b*2^n=p+b*2^n:=zAX hp
theorem zUz{h:H}{c p:Nat}{w:Wr}(vw:Vw S hb h c L)(hL:L[i]? = some (p,oWr w (339+1)))(ok:w.ok m)(hm:m<=8388600)(hb2:b<2)(hn:h.nx+1<=T.top)(hlow:h.low<=T.top)(hq:∀h',Vw S hb h' (c+1) (L.set i (p,oWr (KC w b) (339+1)))->h'.nx<=h.nx+1->h'.low<=T.top->Q (.tuple []) h'):RF P zA 310 [.ptr p 0,.int .i64 b] h Q:=by
 obtain⟨s,pp,n⟩:=w;obtain⟨hp,hn7,hs⟩:=ok;simp only at hp hn7 hs
 replace hL:L[i]? = some (p,.cells (.ls [.str s,.int .i64 (pp:Nat),.int .i64 (n:Nat)]) ⟨0,339+1,0⟩ true false):=hL
 have hpn:2^n<=2^7:=Nat.pow_le_pow_right (by decide) hn7;have hbb:b*2^n<=1*2^n:=Nat.mul_le_mul_right _ (by omega);refine yK z1Z rfl rfl z38 ⟨⟨by omega,hlow⟩,.ptr p 0,zM h,rfl,(yI (by omega) hlow).1,jm (by omega) hlow ?_⟩;rw[yX,zDI];refine⟨_,vw.ld1 i hL zd rfl rfl,.ptr p 0,zM h,rfl,(yI (by omega) hlow).1,jm (by omega) hlow ?_⟩;rw[yX,Ja];refine⟨_,vw.ld1 i hL zd rfl rfl,((b*2^n:Nat):Int),by rw[zW (by omega)];exact yH (by omega) (by omega),((pp+b*2^n:Nat):Int),by rw[<-zXy hp];exact zJJ (by omega) (by omega),.ptr p 0,h,rfl,?_⟩;rw[yX,zDI];obtain⟨h1,e1,w1,n1,_⟩:=vw.st (cx:=zA) i (t:=3) (f:=0+0+1) (u:=.int .i64 ((pp+b*2^n:Nat):Int)) hL (by omega) zd rfl (oJ _) rfl rfl;refine⟨h1,e1,.ptr p 0,h1,rfl,?_⟩;have hi:i<L.length:=(List.getElem?_eq_some_iff.1 hL).1;have g1:(L.set i (p,O.cells (.ls [.str s,.int .i64 ((pp+b*2^n:Nat):Int),.int .i64 (n:Nat)]) ⟨0,339+1,0⟩ true false))[i]? = some (p,.cells (.ls [.str s,.int .i64 ((pp+b*2^n:Nat):Int),.int .i64 (n:Nat)]) ⟨0,339+1,0⟩ true false):=List.getElem?_set_self hi;rw[yX,Ja];refine⟨_,w1.ld1 i g1 zd rfl rfl,.ptr p 0,h1,rfl,?_⟩;rw[yX,Ja,yQ (by omega)];obtain⟨h2,e2,w2,n2,_⟩:=w1.st (cx:=zA) i (t:=3) (f:=0+0+2) (u:=.int .i64 ((n+1:Nat):Int)) g1 (by omega) zd rfl (oJ _) rfl rfl;rw[List.set_set]at w2;refine⟨h2,e2,.ptr p 0,h2,rfl,?_⟩;have g2:(L.set i (p,O.cells (.ls [.str s,.int .i64 ((pp+b*2^n:Nat):Int),.int .i64 ((n+1:Nat):Int)]) ⟨0,339+1,0⟩ true false))[i]? = some (p,.cells (.ls [.str s,.int .i64 ((pp+b*2^n:Nat):Int),.int .i64 ((n+1:Nat):Int)]) ⟨0,339+1,0⟩ true false):=List.getElem?_set_self hi;have l2:h2.low<=T.top:=by
  have a1:=w2.low;have a2:=vw.low;have:h2.low<=h.low:=by
   have x1:h1=h.upd p (some (.cells (.ls [.str s,.int .i64 ((pp+b*2^n:Nat):Int),.int .i64 (n:Nat)]) ⟨0,339+1,0⟩ true false)):=Option.some.inj (e1.symm.trans (zo zd (vw.get i hL) rfl (oJ _) rfl rfl));have x2:h2=h1.upd p (some (.cells (.ls [.str s,.int .i64 ((pp+b*2^n:Nat):Int),.int .i64 ((n+1:Nat):Int)]) ⟨0,339+1,0⟩ true false)):=Option.some.inj (e2.symm.trans (zo zd (w1.get i g1) rfl (oJ _) rfl rfl));rw[x2,H.low_upd,x1,H.low_upd];omega
  omega
 rw[yX,Ja];refine⟨_,w2.ld1 i g2 zd rfl rfl,λc=>?_,λc=>?_⟩
 ·have n8:n=7:=by omega
  subst n8;refine⟨⟨by omega,l2⟩,.ptr p 0,zM h2,rfl,(yI (by omega) l2).1,jm (by omega) l2 ?_⟩;rw[yX,zDH];refine⟨_,w2.ld1 i g2 ZN rfl rfl,.ptr p 0,zM h2,rfl,(yI (by omega) l2).1,jm (by omega) l2 ?_⟩;rw[yX,zDI];have hps:pp+b*2^7<256:=by omega
  obtain⟨h3,e3,s3,x3⟩:=YK (h:=h2) ((pp+b*2^7:Nat):Int) (by omega);have l3:h3.low<=T.top:=oQ x3.low l2;have t3:=x3.top;have w3:=w2.ext x3;refine⟨_,w2.ld1 i g2 zd rfl rfl,_,h3,by rw[jr,oe hps];exact e3,?_⟩;have s3':Sl (zM h3) (.slice h2.nx 0 1 (.exact 1)) 1 [UInt8.ofNat (pp+b*2^7)].length (Ko [UInt8.ofNat (pp+b*2^7)]):=by
   show Sl (zM h3) _ 1 1 [byv _];rw[Yw hps];exact s3
  refine X8 s3' (by simp) ⟨(yI (by omega) l3).1,jm (by omega) l3 ?_⟩;refine zI4 (by simp;omega) ⟨.ptr p 0,h3,rfl,?_⟩;rw[yX,zDH];obtain⟨h4,e4,w4,n4,_⟩:=w3.st (cx:=zA) i (t:=9) (f:=0+0+0) (u:=.str (s++[UInt8.ofNat (pp+b*2^7)])) g2 (by omega) ZN rfl (oJ _) rfl rfl;rw[List.set_set]at w4;refine⟨h4,e4,.ptr p 0,h4,rfl,?_⟩;rw[yX,zDI];obtain⟨h5,e5,w5,n5,_⟩:=w4.st (cx:=zA) i (t:=3) (f:=0+0+1) (u:=.int .i64 0) (List.getElem?_set_self hi) (by omega) zd rfl (oJ _) rfl rfl;rw[List.set_set]at w5;refine⟨h5,e5,.ptr p 0,h5,rfl,?_⟩;rw[yX,Ja];obtain⟨h6,e6,w6,n6,_⟩:=w5.st (cx:=zA) i (t:=3) (f:=0+0+2) (u:=.int .i64 0) (List.getElem?_set_self hi) (by omega) zd rfl (oJ _) rfl rfl;rw[List.set_set]at w6;have x4:h4=h3.upd p (some (.cells (.ls [.str (s++[UInt8.ofNat (pp+b*2^7)]),.int .i64 ((pp+b*2^7:Nat):Int),.int .i64 ((7+1:Nat):Int)]) ⟨0,339+1,0⟩ true false)):=Option.some.inj (e4.symm.trans (zo ZN (w3.get i g2) rfl (oJ _) rfl rfl));have x5:h5=h4.upd p (some (.cells (.ls [.str (s++[UInt8.ofNat (pp+b*2^7)]),.int .i64 0,.int .i64 ((7+1:Nat):Int)]) ⟨0,339+1,0⟩ true false)):=Option.some.inj (e5.symm.trans (zo zd (w4.get i (List.getElem?_set_self hi)) rfl (oJ _) rfl rfl));have x6:h6=h5.upd p (some (.cells (.ls [.str (s++[UInt8.ofNat (pp+b*2^7)]),.int .i64 0,.int .i64 0]) ⟨0,339+1,0⟩ true false)):=Option.some.inj (e6.symm.trans (zo zd (w5.get i (List.getElem?_set_self hi)) rfl (oJ _) rfl rfl));refine⟨h6,e6,hq h6 w6 (by omega) ?_⟩;rw[x6,H.low_upd,x5,H.low_upd,x4,H.low_upd];omega
 ·have:KC ⟨s,pp,n⟩ b=⟨s,pp+b*2^n,n+1⟩:=by unfold KC;rw[if_neg (by show ¬n=7;omega)]
  rw[this]at hq;exact hq h2 (w2.more (by omega)) (by omega) l2
def Yu(v n:Nat):List Int:=(List.range n).map λi=>((v/2^i % 2:Nat):Int)
theorem qT(v n:Nat):(Yu v n).length=n:=by simp[Yu]
theorem zK3(v n:Nat):Yu v (n+1)=Yu v n++[((v/2^n % 2:Nat):Int)]:=by unfold Yu;rw[List.range_succ,List.map_append];rfl
theorem zRY(h:i<n):(Yu v n)[i]'(by rw[qT];exact h)=((v/2^i % 2:Nat):Int):=by simp[Yu]
theorem zGS{S:Nat->Prop}{hb h:H}{c:Nat}{L:List (Nat×O)}{v n:Nat}(vw:Vw S hb h c L)(hv:v<4294967296)(hn:n<=32)(ht:h.nx+1<=T.top)(hq:∀h' cs,Vw S hb h' (c+1) ((h.nx,xu cs)::L)->h'.nx=h.nx+1->Row cs n (zJ (Yu v n))->Q (.slice h.nx 0 n (.exact n)) h'):RF P zA 289 [.int .i64 v,.int .i64 n] h Q:=by
 obtain⟨cs,e1,row⟩:=Row.make (cx:=zA) (k:=n) (h:=h) zP rfl zd rfl rfl rfl (by omega) (by show 8*n<=_;omega) (by omega);have w1:=vw.new (o:=xu cs) rfl (by omega);refine yK z1K rfl rfl z3T ⟨_,_,e1,Has.nil.on λtm hs=>?_⟩
 have hnx:(h.new (xu cs)).nx=h.nx+1:=zH _ _;generalize h.new (xu cs)=h1 at w1 hs hnx;refine wpC.round (λk tm h'=>∃(i:Nat) (cs:Cs),i<=n/\k=n-i/\h'.nx=h.nx+1/\Vw S hb h' (c+1) ((h.nx,xu cs)::L)/\Row cs n (zJ (Yu v i++List.replicate (n-i) 0))/\Has tm [(10,.int .i64 i),(9,.int .i64 n),(5,.slice h.nx 0 n (.exact n)),(0,.int .i64 v)]) n
  ⟨0,cs,by omega,by omega,hnx,w1,by rw[show Yu v 0=[]from rfl,List.nil_append,Nat.sub_zero,jY];exact row,hs.sub (by kernel_rfl)⟩ ?_
 clear hs w1 row hnx e1 h1;rintro k tm h' ⟨i,cs,hi,rfl,hnx,w,row,hs⟩;refine wpC.av hs zTU rfl rfl ⟨λq=>?_,λq=>hs.on λtm' hs'=>?_⟩
 ·have hin:i<n:=by omega
  have hdv:v/2^i<=v:=Nat.div_le_self _ _;obtain⟨h2,cs2,e2,row2,w2,n2⟩:=w.set (cx:=zA) 0 (j:=i) (u:=.int .i64 ((v/2^i % 2:Nat):Int)) row rfl (by omega) hin zd rfl rfl rfl rfl;rw[<-xH,zJY (qT v i) hin,<-zK3]at row2;refine⟨_,by rw[zW (by omega)];exact qn (by omega),((v/2^i % 2:Nat):Int),?_,h.nx,i,yd zP rfl zd rfl hin,h2,e2,hs.on λtm' hs'=>⟨rfl,rfl,n-(i+1),by omega,i+1,cs2,by omega,rfl,by show h2.nx=_;omega,w2,row2,?_⟩⟩
  ·rw[<-Nat.and_one_is_mod]
   exact Z1 (b:=1) (by omega) (by decide)
  ·rw[<-yQ (by omega)]
   exact hs'.sub (by kernel_rfl)
 ·have hin:i=n:=by omega
  subst hin;rw[Nat.sub_self,List.replicate_zero,List.append_nil]at row;refine thenC.left (wpS.av hs' zU9 rfl rfl (hs'.on λtm2 hs2=>endW.r1 (hs2.get rfl) (hq h' cs w hnx row)))
theorem zG6{S:Nat->Prop}{hb h:H}{c b p m v n:Nat}{L:List (Nat×O)}{cs:Cs}{w:Wr}(vw:Vw S hb h c ((b,xu cs)::(p,oWr w (339+1))::L))(row:Row cs n (zJ (Yu v n)))(ok:w.ok m)(hm:m+n<=8388600)(hn:hb.nx+c+n+1<=T.top)(hlow:h.low<=T.top)(hq:∀h',Vw S hb h' (c+n) ((b,xu cs)::(p,oWr (yC w v n) (339+1))::L)->h'.low<=T.top->Q (.tuple []) h'):RF P zA 288 [.ptr p 0,.slice b 0 n (.exact n)] h Q:=by
 have sl0:Sl h (.slice b 0 n (.exact n)) 1 (Yu v n).length (zJ (Yu v n)):=by rw[qT];exact row.sl (vw.lt 0 rfl) (vw.get 0 rfl)
 refine yK z1J rfl rfl z3S ⟨_,by have:=sl0.len (t:=23) zP rfl;rwa [qT]at this,Has.nil.on λtm hs=>?_⟩
 refine wpC.round (λk tm h'=>∃i:Nat,i<=n/\k=n-i/\h'.low<=T.top/\Vw S hb h' (c+i) ((b,xu cs)::(p,oWr (yC w v i) (339+1))::L)/\Has tm [(8,.int .i64 i),(7,.int .i64 n),(6,.slice b 0 n (.exact n)),(0,.ptr p 0)]) n ⟨0,by omega,by omega,hlow,vw,hs.sub (by kernel_rfl)⟩ ?_
 clear hs sl0 vw hlow;rintro k tm h' ⟨i,hi,rfl,hlow,vw,hs⟩;have tv:=vw.top;refine wpC.av hs zTT rfl rfl ⟨λq=>?_,λq=>hs.on λtm' hs'=>?_⟩
 ·have hin:i<n:=by omega
  have sl:Sl h' (.slice b 0 n (.exact n)) 1 (Yu v n).length (zJ (Yu v n)):=by rw[qT];exact row.sl (vw.lt 0 rfl) (vw.get 0 rfl)
  obtain⟨b2,o,a1,a2⟩:=yj sl (i:=i) (by rw[qT];exact hin);rw[zRY hin]at a2;refine⟨b2,o,a1,_,a2,zUz vw (i:=1) rfl (zj ok i) (by omega) (Nat.mod_lt _ (by decide)) (by omega) hlow λh2 w2 t2 l2=>⟨rfl,hs.on λtm' hs'=>⟨rfl,rfl,n-(i+1),by omega,i+1,by omega,rfl,l2,w2,?_⟩⟩⟩
  rw[<-yQ (by omega)];exact hs'.sub (by kernel_rfl)
 ·have hin:i=n:=by omega
  subst hin;show endW zA ⟨16,[],zKP⟩ Q (ze 0 (.exit 0)) _;rw[xG];exact hq h' vw hlow
theorem zJL{f:Bool->Prop}(h:f false):ZT false f:=h
theorem ldW{h:H}{c p k:Nat}{w:Wr}(vw:Vw S hb h c L)(hL:L[i]? = some (p,oWr w k)):zK zA 209 h (.ptr p 0)=some (Ym w):=vw.ldA i hL YD rfl rfl
theorem zG7{h:H}{c p:Nat}{w:Wr}(vw:Vw S hb h c L)(hL:L[i]? = some (p,oWr w (339+1)))(ok:w.ok m)(hm:m<=8388600)(hn:h.nx+1<=T.top)(hq:∀h' o,Vw S hb h' (c+1) ((h.nx,o)::L)->h'.nx=h.nx+1->Q (.tuple [Ym w,.int .i64 0]) h'):RF P zA 290 [.ptr p 0] h Q:=by
 have hs:=ok.s;refine yK z1L rfl rfl z3U ⟨by omega,?_⟩;rintro p0 h1 rfl e1;have w1:=vw.new e1 (by omega);have n1:h1.nx=h.nx+1:=by rw[e1,zH]
 refine⟨.ptr p 0,h1,rfl,?_⟩;rw[yX,zDH];refine⟨_,w1.ld1 (i+1) (by simpa using hL) ZN rfl rfl,λc=>absurd (show(1048576:Int)<(w.s.length:Int)from c) (by omega),λ_=>⟨.ptr p 0,h1,rfl,?_⟩⟩
 rw[yX];obtain⟨h2,e2,w2,n2,_⟩:=w1.st (cx:=zA) 0 (t:=209) (f:=0) (u:=Ym w) rfl (by omega) YD rfl (oJ _) rfl rfl;refine⟨_,_,_,ldW w1 (i:=i+1) (by simpa using hL),h2,e2,endL.ok (leaveL.cell (w2.ldA 0 rfl YD rfl rfl) rfl) (hq h2 _ w2 (by omega))⟩
theorem zCZ{w:Wr}(ok:w.ok m)(hm:m<=8388600)(hq:Q (.int .i64 0) h):RF P zA 287 [Ym w] h Q:=by
 refine RF.plain ?_ (zn rfl);have hq:∀h':H,Plain (.int .i64 0)/\Q (.int .i64 0) h:=λ_=>⟨ym _ _,hq⟩
 obtain⟨hp,hn,hs⟩:=ok;have hpn:2^w.n<=2^7:=Nat.pow_le_pow_right (by decide) hn;refine yK z1I rfl rfl z3R ⟨by decide,?_⟩;rintro p0 h1 rfl e1;have w1:=(Vw.nil (S:=zS) (h:=H0)).new e1 (by decide);refine⟨_,w1.ld1 0 rfl zd rfl rfl,λc=>by omega,λ_=>⟨_,w1.ld1 0 rfl zd rfl rfl,λc=>by omega,λ_=>⟨_,w1.ld1 0 rfl zd rfl rfl,λc=>by omega,λ_=>⟨_,w1.ld1 0 rfl zd rfl rfl,_,w1.ld1 0 rfl zd rfl rfl,_,by rw[zW (by omega)];exact qn (by omega),λc=>?_,λ_=>Has.nil.on λtm hs=>?_⟩⟩⟩⟩
 ·exact absurd (by rw[Nat.div_eq_of_lt hp];rfl) c
 ·refine wpS.av hs zU7 rfl rfl (zJL ?_)
  rw[zDH];refine⟨_,w1.ld1 0 rfl ZN rfl rfl,λc=>absurd (show(1048576:Int)<(w.s.length:Int)from c) (by omega),λ_=>hs.on λtm2 hs2=>thenC.nx (wpS.av hs2 zU8 rfl rfl (hs2.on λtm3 hs3=>endW.r1 (hs3.get rfl) (hq h1)))⟩
theorem zUw{w:Wr}(ok:w.ok m)(hm:m+n<=8388600)(hn:n<=32)(hv:v<2^n)(hq:Q (.tuple [Ym (yC w v n),.int .i64 0]) h):RF P zA 246 [Ym w,.int .i64 n,.int .i64 v] h Q:=by
 refine RF.plain ?_ (zn rfl);have hq:∀h':H,Plain (.tuple [Ym (yC w v n),.int .i64 0])/\Q (.tuple [Ym (yC w v n),.int .i64 0]) h:=λ_=>⟨zm rfl,hq⟩
 have ht:=zt;have hv2:v<4294967296:=oI hv (show 2^n<=2^32 from Nat.pow_le_pow_right (by decide) hn);have z0:H0.nx=0:=rfl;have zl:H0.low<=T.top:=oE rfl;refine yK z0l rfl rfl z2u ⟨by decide,?_⟩;rintro p0 h1 rfl e1;have w1:=(Vw.nil (S:=zS) (h:=H0)).new (o:=oWr w (209+1)) e1 (by decide);have t1:=w1.top;refine⟨by omega,?_⟩;rintro p2 h3 rfl e3;have w3:=w1.new (o:=oWr ⟨[],0,0⟩ (209+1)) e3 (by omega);have t3:=w3.top;refine⟨_,_,_,ldW w3 (i:=1) rfl,zCZ ok (by omega) ⟨_,rfl,λc=>absurd rfl c,λ_=>⟨λc=>by omega,λ_=>⟨λc=>by omega,λ_=>⟨λc=>by omega,λ_=>⟨_,by rw[zW (by omega)];exact qn (by omega),λc=>?_,λ_=>Has.nil.on λtm hs=>?_⟩⟩⟩⟩⟩⟩
 ·exact absurd (by rw[Nat.div_eq_of_lt hv];rfl) c
 refine wpS.av hs zUN rfl rfl ⟨_,_,_,ldW w3 (i:=1) rfl,by omega,?_⟩;rintro p4 h4 rfl e4;have w4:=w3.new (o:=oWr w (339+1)) e4 (by omega);have t4:=w4.top;have l4:h4.low<=T.top:=by have:=w4.low;omega
 refine zGS w4 hv2 hn (by omega) λh6 cs w6 n6 row=>⟨_,rfl,?_⟩
 have l6:h6.low<=T.top:=by have:=w6.low;omega
 refine zG6 w6 row ok (by omega) (by omega) l6 λh9 w9 l9=>⟨rfl,?_⟩
 have t9:=w9.top;refine zG7 w9 (i:=1) rfl (zj ok n) (by omega) (by omega) λh11 o w11 n11=>⟨_,_,_,_,rfl,?_⟩
 obtain⟨h12,e12,w12,n12,_⟩:=w11.st (cx:=zA) 3 (t:=209) (f:=0) (u:=Ym (yC w v n)) rfl (by omega) YD rfl (oJ _) rfl rfl;refine⟨h12,e12,hs.on λtm2 hs2=>endW.ok (leave.cell (hs2.get (t:=6) rfl) (w12.ldA 3 rfl YD rfl rfl) (leave.tmp (hs2.get (t:=7) rfl) rfl)) (hq h12)⟩
theorem zQP{w:Wr}{m:Nat}(ok:w.ok m)(hm:m+8<=8388600)(hq:Q (.tuple [.str (yC w 0 ((8-w.n) % 8)).s,.int .i64 0]) h):RF P zA 174 [Ym w] h Q:=by
 refine RF.plain ?_ (zn rfl);have hq:∀h':H,Plain (.tuple [.str (yC w 0 ((8-w.n) % 8)).s,.int .i64 0])/\Q (.tuple [.str (yC w 0 ((8-w.n) % 8)).s,.int .i64 0]) h:=λ_=>⟨zm rfl,hq⟩
 have ht:=zt;have hn7:=ok.n;have z0:H0.nx=0:=rfl;have zl:H0.low<=T.top:=oE rfl;refine yK z0T rfl rfl z22 ⟨by decide,?_⟩;rintro q0 g1 rfl f1;have u1:=(Vw.nil (S:=zS) (h:=H0)).new (o:=oWr w (209+1)) f1 (by decide);have s1:=u1.top;refine⟨_,_,_,ldW u1 (i:=0) rfl,yK z0j rfl rfl z2s ⟨by omega,?_⟩⟩;rintro p0 h1 rfl e1;have w1:=u1.new (o:=oWr w (209+1)) e1 (by omega);have t1:=w1.top;refine⟨by omega,?_⟩;rintro p2 h3 rfl e3;have w3:=w1.new (o:=oWr ⟨[],0,0⟩ (209+1)) e3 (by omega);have t3:=w3.top;refine⟨_,_,_,ldW w3 (i:=1) rfl,zCZ ok (by omega) ⟨_,rfl,λc=>absurd rfl c,λ_=>⟨_,_,_,ldW w3 (i:=1) rfl,by omega,?_⟩⟩⟩
 rintro p4 h4 rfl e4;have w4:=w3.new (o:=oWr w (339+1)) e4 (by omega);have t4:=w4.top;have l4:h4.low<=T.top:=by have:=w4.low;omega
 refine⟨.ptr h3.nx 0,h4,rfl,?_⟩;rw[yX,Ja];have er:Int.tmod (zG (8-((w.n:Nat):Int))) 8=(((8-w.n) % 8:Nat):Int):=by
  rw[zD (by omega) (by omega),show(8:Int)-((w.n:Nat):Int)=((8-w.n:Nat):Int)by omega];rfl
 refine⟨_,w4.ld1 0 rfl zd rfl rfl,by decide,?_⟩;rw[er];have hk:(8-w.n) % 8<8:=Nat.mod_lt _ (by decide);generalize (8-w.n) % 8=k at *;refine zGS (v:=0) w4 (by decide) (by omega) (by omega) λh6 cs w6 n6 row=>⟨_,rfl,?_⟩
 have l6:h6.low<=T.top:=by have:=w6.low;omega
 refine zG6 w6 row ok (by omega) (by omega) l6 λh9 w9 l9=>⟨rfl,?_⟩
 have t9:=w9.top;refine zG7 w9 (i:=1) rfl (zj ok k) (by omega) (by omega) λh11 o w11 n11=>⟨_,_,_,_,rfl,?_⟩
 obtain⟨h12,e12,w12,n12,_⟩:=w11.st (cx:=zA) 3 (t:=209) (f:=0) (u:=Ym (yC w 0 k)) rfl (by omega) YD rfl (oJ _) rfl rfl;refine⟨h12,e12,endL.ok (leaveL.cell (w12.ldA 3 rfl YD rfl rfl) rfl) ⟨_,_,_,_,rfl,by omega,?_⟩⟩;rintro p13 h13 rfl e13;have w13:=w12.new (o:=oWr ⟨[],0,0⟩ (209+1)) e13 (by omega);have n13:h13.nx=h12.nx+1:=by rw[e13,zH]
 obtain⟨h14,e14,w14,n14,_⟩:=w13.st (cx:=zA) 0 (t:=209) (f:=0) (u:=Ym (yC w 0 k)) rfl (by omega) YD rfl (oJ _) rfl rfl;exact⟨h14,e14,_,w14.ld1 0 rfl ZN rfl rfl,hq h14⟩
def yq:List Int->Nat
 | []=>0
 | x::l=>if x=0 then yq l+1 else 0
def wL:Nat->Wr->Nat->Wr
 | 0,w,z=>yC w z 2
 | f+1,w,z=>if 3<=z then wL f (yC w 3 2) (z-3) else yC w z 2
def wQ(left:Nat)(v:Nat):Nat×Nat:=if v<K2 left then (xL left-1,v) else if v<2^(xL left-1) then (xL left,v) else (xL left,v+K2 left)
def xC:Nat->Wr->Nat->List Int->Wr
 | 0,w,_,_=>w
 | _,w,_,[]=>w
 | f+1,w,left,p::l =>
  if p≠0 then xC f (yC w (wQ left (p+1).toNat).2 (wQ left (p+1).toNat).1) (left-(pt p).toNat) l
  else xC f (wL l.length (yC w (wQ left 1).2 (wQ left 1).1) (yq l)) left (l.drop (yq l))
def wW(log:Nat)(l:List Int):Wr:=xC l.length (yC ⟨[],0,0⟩ (log-5) 4) (2^log) l
def zBW(log:Nat)(l:List Int):List UInt8:=(yC (wW log l) 0 ((8-(wW log l).n) % 8)).s
theorem OV:∀l:List Int,yq l<=l.length
 | []=>oP _
 | x::l=>by
  unfold yq;split
  ·have:=OV l;simp;omega
  ·exact oJ _
theorem zEF{l:List Int}:∀{i:Nat},i<yq l->l[i]? = some 0:=by
 induction l with
 | nil=>intro i h;cases h
 | cons x l ih =>
  intro i h;unfold yq at h;split at h
  ·rename_i hx
   cases i with
   | zero=>rw[hx];rfl
   | succ i=>exact ih (i:=i) (by omega)
  ·cases h
theorem zQ2{l:List Int}(h:yq l<l.length):l[yq l]≠0:=by
 induction l with
 | nil=>cases h
 | cons x l ih =>
  by_cases hx:x=0
  ·have e:yq (x::l)=yq l+1:=by show(if x=0 then yq l+1 else 0)=_;rw[if_pos hx]
   have h2:yq l<l.length:=by rw[e]at h;simpa using h
   have:(x::l)[yq (x::l)]=l[yq l]:=by simp only[e,List.getElem_cons_succ]
   rw[this];exact ih h2
  ·have e:yq (x::l)=0:=by show(if x=0 then yq l+1 else 0)=_;rw[if_neg hx]
   have:(x::l)[yq (x::l)]=x:=by simp only[e,List.getElem_cons_zero]
   rw[this];exact hx
theorem zA1:∀l:List Int,pts (l.drop (yq l))=pts l
 | []=>rfl
 | x::l=>by
  by_cases hx:x=0
  ·have e:yq (x::l)=yq l+1:=by show(if x=0 then yq l+1 else 0)=_;rw[if_pos hx]
   rw[e,List.drop_succ_cons,zA1 l,yr,hx];have:pt 0=0:=rfl;omega
  ·have e:yq (x::l)=0:=by show(if x=0 then yq l+1 else 0)=_;rw[if_neg hx]
   rw[e];rfl
theorem KH:∀{f:Nat}{w:Wr}{m z:Nat},w.ok m->(wL f w z).ok (m+2*f+2)
 | 0,w,m,z,h=>(zj h 2).up (by omega)
 | f+1,w,m,z,h=>by
  unfold wL;split
  ·exact(KH (zj h 2)).up (by omega)
  ·exact(zj h 2).up (by omega)
theorem zJn{left:Nat}(h0:0<left)(hl:left<=64)(hv:v<=left+1):(wQ left v).1<=7/\(wQ left v).2<2^(wQ left v).1:=by
 obtain⟨h1,h2,h3⟩:=qm left;have hb:xL left<=7:=zw (by omega);have ht:K2 left=2^xL left-2-left:=rfl;unfold wQ;split
 ·exact⟨by show xL left-1<=7;omega,by show v<2^(xL left-1);omega⟩
 ·split
  ·exact⟨hb,by show v<2^xL left;omega⟩
  ·exact⟨hb,by show v+K2 left<2^xL left;omega⟩
abbrev vwW{hb:H}(h:H)(c p5 p3 p0:Nat)(w:Wr)(log:Int)(v:V):Prop:=Vw zS hb h c [(p5,oWr w (209+1)),(p3,oWr ⟨[],0,0⟩ (209+1)),(p0,oD log v)]
abbrev z6o(p5:Nat):V:=.func (.func 245) [] [.ptr p5 0]
theorem OH{h:H}{c p5 p3 p0:Nat}{log:Int}{vd:V}{w:Wr}(vw:vwW (hb:=hb) h c p5 p3 p0 w log vd)(ok:w.ok m)(hm:m+n<=8388600)(hn:n<=32)(hv:v<2^n)(ht:h.nx<=T.top)(hq:∀h',vwW (hb:=hb) h' c p5 p3 p0 (yC w v n) log vd->h'.nx=h.nx->Q (.tuple []) h'):RF P zA 245 [.int .i64 n,.int .i64 v,.ptr p5 0] h Q:=by
 obtain⟨h2,e2,w2,n2,_⟩:=vw.st (cx:=zA) 0 (t:=209) (f:=0) (u:=Ym (yC w v n)) rfl ht YD rfl (oJ _) rfl rfl;exact yK z0k rfl rfl z2t ⟨_,_,_,ldW vw (i:=0) rfl,zUw ok hm hn hv ⟨_,_,_,_,rfl,h2,e2,hq h2 w2 n2⟩⟩
abbrev knW(p5 p3 p0 i left:Nat):Kn:=[(6,.int .i64 i),(1,.ptr p0 0),(5,.int .i64 left),(4,z6o p5),(3,.ptr p5 0),(2,.ptr p3 0)]
theorem zVI{hb h:H}{c p5 p3 p0 m z f i left:Nat}{log:Int}{vd:V}{w:Wr}{tm:Tm}{d:List AD}{R:AX->St->Prop}(hs:Has tm ((11,.int .i64 z)::knW p5 p3 p0 i left))(vw:vwW (hb:=hb) h c p5 p3 p0 w log vd)(ok:w.ok m)(hm:m+2*f+2<=100000)(hf:z<=f)(_:z<=1000)(ht:hb.nx+c<=T.top)(hR:∀tm' h',Has tm' (knW p5 p3 p0 i left)->vwW (hb:=hb) h' c p5 p3 p0 (wL f w z) log vd->R .normal ⟨100,tm',d,h'⟩):jE false zDb ⟨100,tm,d,h⟩ R:=by
 refine wpS.av hs zTy rfl rfl (hs.on λtm1 hs1=>?_);refine wpC.round (λk tm h'=>∃(w1:Wr) (z1 f1:Nat),k=z1/\z1<=z/\z1<=f1/\f1<=f/\w1.ok (m+2*(f-f1))/\wL f1 w1 z1=wL f w z/\vwW (hb:=hb) h' c p5 p3 p0 w1 log vd/\Has tm ((11,.int .i64 z1)::knW p5 p3 p0 i left)) z
  ⟨w,z,f,rfl,oP _,hf,oP _,ok.up (by omega),rfl,vw,hs1.sub (by kernel_rfl)⟩ ?_
 clear hs hs1 vw ok;rintro k tm h' ⟨w1,z1,f1,rfl,hz1,hzf,hff,ok,he,vw,hs⟩;have tv:=vw.top;refine wpC.av hs zTD rfl rfl ⟨λq=>?_,λq=>hs.on λtm' hs'=>?_⟩
 ·obtain⟨f2,rfl⟩:∃f2,f1=f2+1:=⟨f1-1,by omega⟩
  show RF P zA 245 [.int .i64 2,.int .i64 3,.ptr p5 0] h' _;refine OH (v:=3) (n:=2) vw ok (by omega) (by decide) (by decide) (by omega) λh2 w2 n2=>zGG (hs.on λtm' hs'=>⟨rfl,rfl,k-3,by omega,yC w1 3 2,k-3,f2,rfl,by omega,by omega,by omega,(zj ok 2).up (by omega),?_,w2,?_⟩)
  ·rw[<-he]
   show _=(if 3<=k then _ else _);rw[if_pos (by omega)]
  ·have:zG (((k:Nat):Int)-3)=((k-3:Nat):Int):=by rw[zD (by omega) (by omega)];omega
   rw[<-this];exact hs'.sub (by kernel_rfl)
 ·have he2:wL f1 w1 k=yC w1 k 2:=by
   cases f1 with
   | zero=>rfl
   | succ f1=>unfold wL;rw[if_neg (by omega)]
  refine thenC.left (wpS.av hs' zTx rfl rfl ?_);show RF P zA 245 [.int .i64 2,.int .i64 (k:Nat),.ptr p5 0] h' _;refine OH (v:=k) (n:=2) vw ok (by omega) (by decide) (by show k<4;omega) (by omega) λh2 w2 n2=>zGG (hs'.on λtm2 hs2=>hs2.slt λtm3 hs3=>hR tm3 h2 (hs3.sub (by kernel_rfl)) ?_)
  rw[<-he,he2];exact w2
end Go.Proofs.YtnpeieeomokomaaGreat
