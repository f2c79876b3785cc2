/- BA. No condition. -/
import Derived.Test.YtnpeieeomokomaaGreatZTQ
import Derived.Test.YtnpeieeomokomaaGreatZTT
import Derived.Test.YtnpeieeomokomaaGreatZTA
import Derived.Test.YtnpeieeomokomaaGreatZTV
import Derived.Test.YtnpeieeomokomaaGreatZTG
import Derived.Test.YtnpeieeomokomaaGreatZCG
set_option maxRecDepth 100000
set_option maxHeartbeats 4000000
namespace Go.Proofs.YtnpeieeomokomaaGreat
open Go.Sim
variable{l:Ub}
theorem vU{m:Nat}{ys:List (Int×Int)}{i j:Nat}(a:i<j)(b:j<=ys.length):xu m ys i+2^(m-(ys[i]'dd).2.toNat)<=xu m ys j:=by
 induction j with
 | zero=>omega
 | succ j ih =>
  rw[Xd]
  grind
theorem QH(g:yk l){x k v:Nat}(h:(Yc l)[x]? = some ((k:Int),(v:Int)))(t:0<k):k<=yQ l/\∃i,∃hi:i<(yW jW (yA l)).length,(yW jW (yA l))[i].1=(x:Int)/\(yW jW (yA l))[i].2=(k:Int)/\xu (yQ l) (yW jW (yA l)) i=v*2^(yQ l-k):=by
 have hr:∀p∈yW jW (yA l),0<=p.1/\p.1<l.length:=λp hp=>by obtain⟨k,j,o,_⟩:=Jg hp;omega
 by_cases c:∃i,∃hi:i<(yW jW (yA l)).length,(yW jW (yA l))[i].1.toNat=x
 .obtain⟨i,hi,e⟩:=c;have b:=bE (m:=yQ l) (n:=l.length) (uY l) hr _ (oR _) i hi hi;have u:=hr _ (oV hi);rw[e]at b;have a:(Yc l)[x]? = _:=b;rw[h]at a;obtain⟨q,d⟩:=B8 (fe l) (Rl g) hi;obtain⟨w,j,o,r,y⟩:=Jg (oV hi);have s:=ZX (List.mem_of_getElem? r);have hp:=Prod.mk.inj (Option.some.inj a);have f:(yW jW (yA l))[i].2.toNat=k:=dd
  rw[f]at d hp;refine⟨dd,i,hi,dd,dd,?_⟩;rw[d,Nat.mul_div_cancel_left _ (Nat.pow_pos dg)]at hp;rw[d,Nat.mul_comm,show q=v by omega]
 exfalso;have:=PD (m:=yQ l) (n:=l.length) (ys:=yW jW (yA l)) (x:=x) (λi hi e=>c ⟨i,hi,e⟩) _ (oR _);have h2:(Yc l)[x]? = _:=this;rw[h,List.getElem?_replicate]at h2;split at h2
 .have:=(Prod.mk.inj (Option.some.inj h2)).1;omega
 cases h2
theorem Vn{cs:List (Int×Int)}{b v x:Nat}:∀n,Xz cs b v n=some x->cs[x]? = some ((b:Int),(v:Int))
 | 0,h=>by cases h
 | n+1,h=>by
  unfold Xz at h;split at h
  .grind
  exact Vn n h
theorem gA(e:yk l){x k v j:Nat}(h:(Yc l)[x]? = some ((k:Int),(v:Int)))(g:1<=j)(n:j<=k):Y3 l j (v/2^(k-j))=if j=k then some x else none:=by
 obtain⟨hm,i,hi,z,o,p⟩:=QH e h dd;have key:∀y,Y3 l j (v/2^(k-j))=some y->j=k/\y=x:=λy q=>by
  obtain⟨r,a,b,f1,s,t⟩:=QH e (Vn _ q) g;have hp:2^(yQ l-j)=2^(k-j)*2^(yQ l-k):=by rw[<-Nat.pow_add];congr 1;omega
  have u:=Nat.div_add_mod v (2^(k-j));have hr:v % 2^(k-j)<2^(k-j):=Nat.mod_lt _ (Nat.pow_pos dg);have A:xu (yQ l) (yW jW (yA l)) i=xu (yQ l) (yW jW (yA l)) a+v % 2^(k-j)*2^(yQ l-k):=by
   rw[p,t,hp]
   conv=>lhs;rw[<-u]
   rw[Nat.add_mul,Nat.mul_comm (2^(k-j)) (v/2^(k-j)),Nat.mul_assoc]
  have B:v % 2^(k-j)*2^(yQ l-k)<2^(yQ l-j):=by rw[hp];exact(Nat.mul_lt_mul_right (Nat.pow_pos dg)).2 hr
  have f:0<2^(yQ l-k):=Nat.pow_pos dg;have d:i=a:=by
   rcases Nat.lt_trichotomy i a with c|c|c
   .have:=vU (m:=yQ l) c (Nat.le_of_lt b);rw[o]at this;simp only[oe]at this;omega
   .exact c
   have:=vU (m:=yQ l) c (Nat.le_of_lt hi);rw[s]at this;simp only[oe]at this;omega
  subst d;exact⟨dd,dd⟩
 by_cases c:j=k
 .subst c;rw[if_pos rfl];rw[Nat.sub_self,Nat.pow_zero,Nat.div_one]at key ⊢;cases hl:Y3 l j v with
  | none =>
   have w:x<l.length:=by
    have:=(List.getElem?_eq_some_iff.1 h).1
    rwa [QI]at this
   exact absurd hl (J2 h _ w)
  | some y=>rw[(key y hl).2]
 rw[if_neg c];rcases hl:Y3 l j (v/2^(k-j)) with _|y
 .rfl
 exact absurd (key y hl).1 c
def nK(l:Ub)(b:UInt8):Nat×Nat:=match (Yc l)[b.toNat]? with|some p=>(p.1.toNat,p.2.toNat)|none=>(0,0)
def hw(l:Ub)(w:Wr):Ua->Wr
 | []=>w
 | b::s=>zu (hw l w s) (nK l b).2 (nK l b).1
abbrev w0:Wr:=⟨[],0,0⟩
def Z5(l:Ub)(s:Ua):Ua:=(zu (hw l w0 s) 1 (8-(hw l w0 s).n)).s
def Tx(l:Ub)(s:Ua):Prop:=∀b∈s,∃x,l[b.toNat]? = some x/\0<x
theorem PT:∀{l:Ub}{i k:Nat}{y:Int},l[k]? = some y->0<y->(((i+k:Nat):Int),y)∈qQ i l
 | [],_,_,_,h,_=>by grind
 | x::l,i,0,y,h,a=>by
  simp_all[qQ]
 | x::l,i,k+1,y,h,a=>by
  rw[qQ];have:=PT (i:=i+1) (l:=l) (k:=k) (by grind) a
  grind
theorem eU{b:UInt8}{x:Int}(g:yk l)(h:l[b.toNat]? = some x)(k:0<x):(Yc l)[b.toNat]? = some ((((nK l b).1:Nat):Int),(((nK l b).2:Nat):Int))/\0<(nK l b).1/\(nK l b).1<=11/\(nK l b).2<2^(nK l b).1/\((nK l b).1:Int)=x:=by
 have hm:=ZY g.2.1;have hr:∀p∈yW jW (yA l),0<=p.1/\p.1<l.length:=λp hp=>by
  grind[Jg]
 have d:=(jh qO (yA l)).1.mem_iff.2 (PT (i:=0) h k);obtain⟨i,hi,e⟩:=List.getElem_of_mem d;have a:=bE (m:=yQ l) (n:=l.length) (uY l) hr _ (oR _) i hi hi;rw[e]at a;simp only[Nat.zero_add,oe]at a;have j:(Yc l)[b.toNat]? = _:=a;have o:=ZX (List.mem_of_getElem? h);have q:nK l b=(x.toNat,xu (yQ l) (yW jW (yA l)) i/2^(yQ l-x.toNat)):=by
  grind[nK]
 rw[q];have f:((x.toNat:Nat):Int)=x:=dd
 refine⟨by grind,dd,dd,?_,f⟩;show xu (yQ l) (yW jW (yA l)) i/2^(yQ l-x.toNat)<2^x.toNat;have h2:=vU (m:=yQ l) (ys:=yW jW (yA l)) hi (oR _);rw[Rl g,e]at h2;replace h2:xu (yQ l) (yW jW (yA l)) i+2^(yQ l-x.toNat)<=2^yQ l:=h2;have hp:2^yQ l=2^x.toNat*2^(yQ l-x.toNat):=by rw[<-Nat.pow_add];grind
 rw[hp]at h2;have c:0<2^(yQ l-x.toNat):=Nat.pow_pos dg;rw[Nat.div_lt_iff_lt_mul c];omega
theorem gQ{l:Ub}{w:Wr}{m:Nat}(a:yk l)(h:w.ok m):∀{s:Ua},Tx l s->(hw l w s).ok (m+11*s.length)
 | [],_=>h
 | b::s,d=>by
  have ih:=gQ a h (s:=s) λc e=>d c (oJ _ e)
  obtain⟨x,f,h2⟩:=d b (List.mem_cons_self ..);have:=(eU a f h2).2.2.1;exact(zj ih _).up (by grind)
theorem S8{S:Ua}{l:Ub}{n x k v base:Nat}{out:Ua}(b:yk l)(h:(Yc l)[x]? = some ((k:Int),(v:Int)))(_:v<2^k)(hb:∀j,j<k->wk S (base+j)=v/2^j % 2)(c:¬n<=out.length):∀d,d<k ->
  wU S l n (base+(d+1)) (k-(d+1)) (v/2^(d+1)) out=wU S l n base 0 0 (out++[UInt8.ofNat x]):=by
 intro d;induction d with
 | zero =>
  intro hd;have a:xH S (base+0+1) 1=v % 2:=by
   show 2*0+(if 0<base+0+1 then wk S (base+0+1-1-0) else 0)=_
   grind
  show wU S l n (base+0+1) _ _ out=_;rw[wU];rw[if_neg c,a,show 2*(v/2^(0+1))+v % 2=v by omega,show k-(0+1)+1=k by omega];have:=gA b h (j:=k) dd (oR _)
  grind
 | succ d ih =>
  intro hd;have a:xH S (base+(d+1)+1) 1=v/2^(d+1) % 2:=by
   show 2*0+(if 0<base+(d+1)+1 then wk S (base+(d+1)+1-1-0) else 0)=_
   grind
  have xN:2*(v/2^(d+1+1))+v/2^(d+1) % 2=v/2^(d+1):=by rw[Nat.pow_succ 2 (d+1),<-Nat.div_div_eq_div_mul];omega
  show wU S l n (base+(d+1)+1) _ _ out=_;rw[wU];rw[if_neg c,a,xN,show k-(d+1+1)+1=k-(d+1)by omega];have:=gA b h (j:=k-(d+1)) dd dd
  grind
theorem gP{S:Ua}{n m:Nat}{w:Wr}(f:yk l)(a:w.ok m)(h0:wl w=0):∀{s out:Ua},Tx l s->out.length+s.length=n->Ag (hw l w s) S->wU S l n (wl (hw l w s)) 0 0 out=(out++s,0)
 | [],out,_,g,_=>by
  show wU S l n (wl w) 0 0 out=_
  simp_all[wU]
 | b::s,out,h,g,k=>by
  have d:Tx l s:=λc o=>h c (oJ _ o)
  obtain⟨x,p,h2⟩:=h b (List.mem_cons_self ..);obtain⟨q,r,t,i,_⟩:=eU f p h2;have ok:=gQ f a d;have e:Ag (zu (hw l w s) (nK l b).2 (nK l b).1) S:=k;rw[oc]at g;have step:=S8 (S:=S) (n:=n) (out:=out) (base:=wl (hw l w s)) f q i (λj u=>by
   rw[e.2 _ (by grind[xF]),Xm ok,if_pos dd,Nat.add_sub_cancel_left]) dd ((nK l b).1-1) dd
  show wU S l n (wl (zu (hw l w s) (nK l b).2 (nK l b).1)) 0 0 out=_;rw[xF];rw[show(nK l b).1-1+1=(nK l b).1 by omega,Nat.sub_self,Nat.div_eq_of_lt i]at step;rw[step,show UInt8.ofNat b.toNat=b from UInt8.ofNat_toNat,gP f a h0 d (by grind) (e.of_put ok),List.append_assoc];rfl
theorem T3:w0.ok 0:=⟨Nat.one_pos,oM _,oR _⟩
theorem Vk{s:Ua}(a:yk l)(b:Tx l s):qn (Z5 l s) l s.length=(s,0):=by
 have ok:=gQ a T3 b;obtain⟨c,d⟩:=tX ok;unfold qn;rw[show yH (Z5 l s)=_ from c,if_neg dd,oe];have:=gP (S:=Z5 l s) (n:=s.length) a T3 rfl b (out:=[]) (by simp) d
 rwa [List.nil_append]at this
theorem KR{s:Ua}(b:yk l)(c:Tx l s):(Z5 l s).length<=2*s.length+1:=by
 have ok:=gQ b T3 c;have a:=zj (v:=1) ok (8-(hw l w0 s).n);have d:=a.s;have h2:wl (zu (hw l w0 s) 1 (8-(hw l w0 s).n))=wl (hw l w0 s)+(8-(hw l w0 s).n):=xF _
 grind[Z5]
theorem GV{m:Nat}{x:Int}(hm:m<=11)(h0:0<=x)(h1:x<=(m:Int)):lone 11 (if x≠0 then (m:Int)+1-x else 0)=2^(11-m)*ZA x:=by
 unfold ZA lone;by_cases c:x≠0
 .rw[if_pos c,if_pos c,if_pos dd,<-Nat.pow_add];congr 1;omega
 rw[if_neg c,if_neg c];rfl
theorem Vx{m:Nat}(hm:m<=11): {l:Ub}->(∀x∈l,0<=x/\x<=(m:Int))->ym 11 (JJ m l)=2^(11-m)*yh l
 | [],_=>rfl
 | x::l,h=>by
  have a:=h x (by simp);have h2:=Vx hm (l:=l) λy b=>h y (by simp[b])
  have c:ym 11 (JJ m (x::l))=lone 11 (if x≠0 then (m:Int)+1-x else 0)+ym 11 (JJ m l):=by simp[ym,JJ]
  have d:yh (x::l)=ZA x+yh l:=by simp[yh]
  rw[c,d,GV hm a.1 a.2,h2,Nat.mul_add]
theorem QR{m:Nat}: {l:Ub}->(∀x∈l,0<=x/\x<=(m:Int))->cnt (JJ m l)=cnt l
 | [],_=>rfl
 | x::l,h=>by
  have b:=h x (by simp);have h2:=QR (m:=m) (l:=l) λy a=>h y (by simp[a])
  have e:∀(y:Int) (l:Ub),cnt (y::l)=(if y≠0 then 1 else 0)+cnt l:=λy l=>by
   rw[show y::l=[y]++l from rfl,j7];congr 1;unfold cnt;by_cases c:y≠0
   .rw[if_pos c];simp[c]
   have c:=Decidable.not_not.1 c;subst c;rfl
  show cnt ((if x≠0 then (m:Int)+1-x else 0)::JJ m l)=_;rw[e,e,h2];congr 1;by_cases c:x≠0
  .rw[if_pos c,if_pos c,if_pos dd]
  rw[if_neg c,if_neg c,if_neg dd]
theorem uQ{x:Int}: {l:Ub}->x∈l->ZA x<=yh l
 | y::l,h=>by
  have e:yh (y::l)=ZA y+yh l:=by simp[yh]
  rw[e];rcases oq.1 h with rfl|h
  .omega
  have:=uQ h;omega
theorem G6{n m:Nat}(h1:2^m<=n)(h2:n<2^(m+1)):zQ n=m+1:=by
 have a:=zo h2;have b:=kh n;by_cases c:zQ n<=m
 .have:2^zQ n<=2^m:=Nat.pow_le_pow_right dg c;omega
 omega
theorem Nm{l:Ub}(h:qD l=0):jE (lens l)=0:=by
 unfold qD at h;by_cases c1:l.length<1\/255<l.length
 .rw[if_pos c1]at h;cases h
 rw[if_neg c1]at h;by_cases f:wO l=true
 case neg=>rw[if_neg f]at h;cases h
 rw[if_pos f]at h;by_cases i:EZ l
 case neg=>rw[if_neg i]at h;cases h
 obtain⟨k,o,p⟩:=i;have hw:=kh (yh l);have hb:∀x∈l,0<=x/\x<=(zQ (yh l):Int):=λx b=>by
  refine⟨(yq f b).1,?_⟩;by_cases c:x≠0
  .have d:=uQ b;unfold ZA at d;rw[if_pos c]at d;have:=(Nat.pow_lt_pow_iff_right (a:=2) dg).1 (Nat.lt_of_le_of_lt d hw);omega
  omega
 have j:1<=yh l:=by obtain⟨x,b⟩:=List.exists_mem_of_length_pos (Nat.pos_of_ne_zero k);obtain⟨b,g⟩:=List.mem_filter.1 b;have g:=of_decide_eq_true g;have d:=uQ b;unfold ZA at d;rw[if_pos g]at d;exact oS (Nat.pow_pos dg) d
 have q:xo l+yh l=2^zQ (yh l):=by unfold xo;omega
 generalize hm:zQ (yh l)=m at *;generalize hr:xo l=W at *;have u:W.log2<m:=by refine(Nat.pow_lt_pow_iff_right (a:=2) dg).1 ?_;omega
 have r:zQ W=W.log2+1:=G6 dd (by rw[Nat.pow_succ];have:=Nat.pow_pos (n:=W.log2) (show 0<2 by decide);omega);have hl:lens l=JJ m (l++[((W.log2+1:Nat):Int)]):=by unfold lens;rw[hm,hr,r]
 have e:∀x∈l++[((W.log2+1:Nat):Int)],0<=x/\x<=(m:Int):=λx b=>by
  rcases List.mem_append.1 b with b|b
  .exact hb x b
  rw[List.mem_singleton.1 b];omega
 have s:ZA ((W.log2+1:Nat):Int)=W:=by unfold ZA;rw[if_pos dd];exact p.symm
 have es:ym 11 (lens l)=2048:=by have:yh [((W.log2+1:Nat):Int)]=W:=(show ZA ((W.log2+1:Nat):Int)+0=W by rw[Nat.add_zero];exact s);rw[hl,Vx o e,Tj,this,Nat.add_comm,q,<-Nat.pow_add,show 11-m+m=11 by omega]
 have v:2<=cnt (lens l):=by rw[hl,QR e,Ym,if_pos dd];omega
 have hi:wO (lens l)=true:=by rw[hl];unfold wO;rw[List.all_eq_true];intro y t;obtain⟨x,b,rfl⟩:=List.mem_map.1 t;have:=e x b;rw[oI,decide_eq_true_iff,decide_eq_true_iff];split<;>omega
 unfold jE;rw[KW,if_neg dd,if_pos hi,if_neg dd,if_pos es]
structure LR where
 out:Ua
 nx:Option Ub
 fin:Int
 e:Int
 y:Int
def vF(e y:Int):LR:=⟨[],none,0,e,y⟩
def lrC(s:Ua)(l:Ub)(a b n st:Nat):LR :=
 if (qJ (zS s a b) l n st a).2.1=0 then ⟨(qJ (zS s a b) l n st a).1,some l,b,0,0⟩ else vF (qJ (zS s a b) l n st a).2.1 (qJ (zS s a b) l n st a).2.2
def lrT(s:Ua)(x:Int)(st n m b:Nat):LR :=
 if (xO (zS s 0 (b+m)) b).e=0 then lrC s (xO (zS s 0 (b+m)) b).l (xO (zS s 0 (b+m)) b).nx (b+m) n st
 else if (xO (zS s 0 (b+m)) b).e=5 then vF 21 x else vF (xO (zS s 0 (b+m)) b).e (xO (zS s 0 (b+m)) b).fat
def vG(k n m:Nat):Nat:=if k=0 then n else if k=1 then 1 else m
def To(s:Ua)(x:Int)(last:Ub)(k st n m b:Nat):LR :=
 if k=0 then ⟨zS s b (b+n),some last,(b+n:Nat),0,0⟩
 else if k=1 then ⟨List.replicate n (s[b]?.getD 0),some last,(b+1:Nat),0,0⟩
 else if k=3/\last.length=0 then vF 26 x
 else if st=4/\n<6 then vF 20 x
 else if k=2 then lrT s x st n m b else lrC s last b (b+m) n st
def lrB(s:Ua)(x:Int)(last:Ub)(most:Int)(k st n m b:Nat):LR :=
 if most<0\/131072<most then vF 2 0
 else if last.length≠0/\jE last≠0 then vF (jE last) 0
 else if most<n\/s.length<b+vG k n m then vF 20 x
 else To s x last k st n m b
def lW(s:Ua)(x:Int)(last:Ub)(most:Int):LR :=
 if x<0\/s.length<x then vF 2 0
 else if s.length<x.toNat+fw (hb s x.toNat % 4) (hb s x.toNat/4 % 4) then vF 20 x
 else lrB s x last most (hb s x.toNat % 4) (fz (hb s x.toNat % 4) (hb s x.toNat/4 % 4))
  (kq (zS s x.toNat (x.toNat+fw (hb s x.toNat % 4) (hb s x.toNat/4 % 4)))/2^ff (hb s x.toNat % 4) (hb s x.toNat/4 % 4) % 2^fx (hb s x.toNat % 4) (hb s x.toNat/4 % 4))
  (kq (zS s x.toNat (x.toNat+fw (hb s x.toNat % 4) (hb s x.toNat/4 % 4)))/2^ff (hb s x.toNat % 4) (hb s x.toNat/4 % 4)/2^fx (hb s x.toNat % 4) (hb s x.toNat/4 % 4) % 2^fy (hb s x.toNat % 4) (hb s x.toNat/4 % 4))
  (x.toNat+fw (hb s x.toNat % 4) (hb s x.toNat/4 % 4))
theorem FT(s:Ua)(x:Int)(last:Ub)(most:Int):(∃e y,e≠0/\rh s x=rhN 0 0 0 0 0 e y/\lW s x last most=vF e y) \/
  ∃k st n m b:Nat,k<4/\(st=1\/st=4\/k<2)/\n<2^20/\m<2^18/\b<=s.length/\0<=x/\x<=s.length/\rh s x=rhN k st n m b 0 0/\lW s x last most=lrB s x last most k st n m b:=by
 unfold rh lW rhA;by_cases c:x<0\/s.length<x
 .exact .inl ⟨2,0,dg,by rw[if_pos c],by rw[if_pos c]⟩
 rw[if_neg c,if_neg c];by_cases a:s.length<x.toNat+fw (hb s x.toNat % 4) (hb s x.toNat/4 % 4)
 .refine .inl ⟨20,x,dg,?_,by rw[if_pos a]⟩;rw[if_neg dd,show((x.toNat:Nat):Int)=x by omega]
 refine .inr ⟨_,_,_,_,_,Nat.mod_lt _ dg,?_,?_,?_,Nat.le_of_not_lt a,dd,dd,by rw[if_pos dd],by rw[if_neg a]⟩
 .unfold fz;split
  .omega
  split<;>omega
 .exact oL (Nat.mod_lt _ (Nat.pow_pos dg)) (Nat.pow_le_pow_right dg (De _ _))
 exact oL (Nat.mod_lt _ (Nat.pow_pos dg)) (Nat.pow_le_pow_right dg (Df _ _))
theorem Jx{ops:List Go.Oper}{bs:Uf}{m k:Nat}{v:V}{h:H}{Q:Uc}(s:Sls h v l)(hl:l.length<=1000)(c:∀a v',(∀K:H->Prop,(∀h',Ext h h' 2->Sl h' v' 1 l.length (zI l)->K h')->lowOk ops bs m k h a/\∀h2,h2=wW h a->K h2)->Q v' a)(b:h.nx+2<=T.top:=by omega):RF P zB 65 [v] (z8 h) Q :=
 NA (show Sls (z8 h) v l from s) hl b λh' v' x d=>c h' v' λK f=>nx x b λh2 e g=>f h2 g (by subst e;exact d)
theorem Sl.same{h h':H}{v:V}{e n:Nat}{xs:Ug}(s:Sl h v e n xs)(a:∀q,h'.get q=h.get q)(j:h.nx<=h'.nx):Sl h' v e n xs:=by obtain⟨c,d⟩:=s;refine⟨c,d.imp id ?_⟩;rintro⟨b,o,f,cs,k,w,op,rfl,hb,g,i⟩;exact⟨b,o,f,cs,k,w,op,rfl,dd,by rw[a];exact g,i⟩
def zGE(h:H)(v:V):Option Ub->Prop
 | some l=>Sl h v 1 l.length (zI l)
 | none=>v = .nilslice
def F30(Q:Ud)(hb:H)(p0:Nat)(R:LR):Prop :=
 ∀tm h v,Has tm [(8,.str R.out),(9,v),(10,.int .i64 R.fin),(11,.ptr p0 0)]->ye zB 26 h (.ptr p0 0)=some (.agg [.int .i64 R.e,.int .i64 R.y])->Ext hb h 2600->zGE h v R.nx->Q .ret ⟨186,tm,[],h⟩
section
variable {Q:Ud}{hb h:H}{c p0 pd pc pr:Nat}{s:Ua}{x:Int}{last:Ub}{k st n m b:Nat}{v:V}{tm:Tm}{R:LR}
theorem F30.slt(F:F30 Q hb p0 R):F30 (yL ua Q) hb p0 R:=λtm h v hs e f g=>hs.slt λa d=>F a h v (d.sub de) e f g
abbrev E0(p0 pd pc pr:Nat)(v:V)(s:Ua)(k st n b:Int):Kn:=[(18,.ptr pd 0),(11,.ptr p0 0),(12,.int .i64 k),(0,.str s),(16,.int .i64 b),(21,.ptr pr 0),(20,.ptr pc 0),(2,v),(14,.int .i64 n),(13,.int .i64 st)]
theorem Ry{d g:O}{a e y:Int}{K:H->Prop}(w:Vw zH hb h c [(pr,d),(pc,g),(pd,PA s b 0 0 x),(p0,oF e y)])(p:h.nx+1<=T.top)(r:∀h4,ye zB 26 h4 (.ptr p0 0)=some (.agg [.int .i64 a,.int .i64 x])->Vw zH hb h4 c [(pr,d),(pc,g),(pd,PA s b 0 0 x),(p0,oF a x)]->(∀q,q≠p0->h4.get q=h.get q)->h4.nx=h.nx->K h4):
  RF P zB 64 [.ptr pd 0,.int .i64 a] h λv0 h1=>∃(i:Int) (j:Int),v0 = .agg [.int .i64 i,.int .i64 j]/\∃h4,jP zB 26 h1 (.ptr p0 0) (.agg [.int .i64 i,.int .i64 j])=some h4/\K h4:=by
 obtain⟨h4,z,o,n4,A⟩:=w.st (cx:=zB) 3 (t:=26) (f:=0) (u:=.agg [.int .i64 a,.int .i64 x]) (cs':=.ls [.int .i64 a,.int .i64 x]) rfl dd zp rfl;exact Ew (w.get 2 rfl) (w.lt 2 rfl) p ⟨_,_,rfl,h4,z,r h4 (o.ldA 3 rfl zp rfl) o A n4⟩
theorem Gp{f g:O}{t:Bool}(w:Vw zH hb h c [(pr,f),(pc,g),(pd,PA s b 0 0 x),(p0,oF 0 0)])(i:c<=2600)(j:h.nx+1<=T.top)(hs:Has tm ((126,.bool t)::E0 p0 pd pc pr v s k st n b))(o:t=true->F30 Q hb p0 (vF 20 x))(p:t=false->∀e,Has e (E0 p0 pd pc pr v s k st n b)->Q .normal ⟨186,e,[],h⟩):Wf ua zGQ ⟨186,tm,[],h⟩ Q:=by
 refine sg hs ?_;cases t with
 | true=>exact Ry w j λh4 q r _ _=>λa d=>o rfl a h4 .nilslice (d.sub de) q (r.ex0.mono i) rfl
 | false=>exact λa d=>p rfl a (d.sub de)
theorem Gq{q r:O}{t:Bool}(w:Vw zH hb h c [(pr,q),(pc,r),(pd,PA s b 0 0 x),(p0,oF 0 0)])(i:c<=2600)(j:h.nx+1<=T.top)(hs:Has tm ((116,.bool t)::E0 p0 pd pc pr v s k st n b))(u:t=true->F30 Q hb p0 (vF 26 x))(o:t=false->st=4/\n<6->F30 Q hb p0 (vF 20 x))(y:t=false->¬(st=4/\n<6)->∀a,Has a (E0 p0 pd pc pr v s k st n b)->Q .normal ⟨186,a,[],h⟩):Wf ua zGR ⟨186,tm,[],h⟩ Q:=by
 refine sg hs ?_;cases t with
 | true=>exact Ry w j λh4 z A _ _=>λf g=>u rfl f h4 .nilslice (g.sub de) z (A.ex0.mono i) rfl
 | false =>
  have p:¬(st=4/\n<6)->∀a,Has a (E0 p0 pd pc pr v s k st n b)->yL ua Q .normal ⟨186,a,[],h⟩:=λc a d=>d.slt λf g=>y rfl c f (g.sub de)
  refine⟨λB=>⟨λC=>λa d=>Gp (k:=k) (st:=st) (n:=n) (v:=v) (t:=true) w i j (d.sub de) (λ_=>(o rfl ⟨dd,dd⟩).slt) (λe=>by cases e),λC=>λa d=>Gp (k:=k) (st:=st) (n:=n) (v:=v) (t:=false) w i j (d.sub de) (λe=>by cases e) (λ_=>p dd)⟩,
   λB=>λa d=>Gp (k:=k) (st:=st) (n:=n) (v:=v) (t:=false) w i j (d.sub de) (λe=>by cases e) (λ_=>p dd)⟩
theorem Gs{Z o2:O}{t:Bool}(w:Vw zH hb h c [(pr,Z),(pc,o2),(pd,PA s b 0 0 x),(p0,oF 0 0)])(S:t=false->Z=oC s (b+vG k n m:Nat) 0 0)(hc:c<=2000)(hn:h.nx+10<=T.top)(r:h.low<=T.top)(G:Sls h v last)(M:last.length<=1000)(hk:k<4)(hn2:n<=1048576)(hs:Has tm ((76,.bool t)::E0 p0 pd pc pr v s k st n b))(y:t=false->b+vG k n m<=s.length)(hF:t=true->F30 Q hb p0 (vF 20 x))(I:t=false->k<2\/(k=3/\last.length=0)\/(st=4/\n<6)->F30 Q hb p0 (To s x last k st n m b))(hN:t=false->2<=k->¬(k=3/\last.length=0)->¬(st=4/\n<6)->∀a,Has a (E0 p0 pd pc pr v s k st n b)->Q .normal ⟨186,a,[],h⟩):Wf ua zGS ⟨186,tm,[],h⟩ Q:=by
 refine sg hs ?_;cases t with
 | true=>exact Ry w dd λh4 l4 w4 _ _=>λz A=>hF rfl z h4 .nilslice (A.sub de) l4 (w4.ex0.mono dd) rfl
 | false =>
  have y:=y rfl;have S:=S rfl;subst S;have fin:∀(out:Ua) (f:Int) (j:H) (v':V),Vw zH hb j (c+2) [(pr,oC s (b+vG k n m:Nat) 0 0),(pc,o2),(pd,PA s b 0 0 x),(p0,oF 0 0)]->j.nx<=T.top->Sl j v' 1 last.length (zI last)->f=((b+vG k n m:Nat):Int)->k<2->To s x last k st n m b=⟨out,some last,f,0,0⟩ ->
    ∃(p:Int),ye zB 3 j (.ptr pr (0+1))=some (.int .i64 p)/\∃o,jP zB 26 j (.ptr p0 0) (.agg [.int .i64 0,.int .i64 0])=some o/\∀a,Has a [(8,.str out),(9,v'),(10,.int .i64 p),(11,.ptr p0 0)]->Q .ret ⟨186,a,[],o⟩:=by
   intro out f j v' J t12 B ef U er;obtain⟨o,C,K,n16,W⟩:=J.st (cx:=zB) 3 (t:=26) (f:=0) (u:=.agg [.int .i64 0,.int .i64 0]) (cs':=.ls [.int .i64 0,.int .i64 0]) rfl dd zp rfl;refine⟨_,J.ld1 0 rfl zX rfl,o,C,λz A=>?_⟩;have F:=I rfl (.inl U);rw[er,ef]at F;refine F z o v' (A.sub de) (K.ldA 3 rfl zp rfl) (K.ex0.mono dd) (Sl.same B (λq=>?_) dd);by_cases P:q=p0
   .subst P;rw[K.get 3 rfl,J.get 3 rfl];rfl
   exact W q P
  refine⟨λP=>?_,λP=>⟨λc2=>?_,λc2=>?_⟩⟩
  .have D:k=0:=dd
   have N:vG k n m=n:=by unfold vG;rw[if_pos D]
   refine⟨de,⟨dd,r⟩,?_⟩;refine⟨_,w.ld1 0 rfl zX rfl,_,kV dd y,Jx G M λX v' g=>⟨v',rfl,g _ λj E B=>?_⟩⟩;have:=fin (zS s b (b+n)) _ j v' (w.ext E) (by have:=E.top;omega) B rfl dd (by unfold To;rw[if_pos D,N]);obtain⟨p,L,o,C,F⟩:=this;rw[N]at *;exact⟨p,L,o,C,λa i=>F a (i.sub de)⟩
  .have D:k=1:=dd
   have N:vG k n m=1:=by unfold vG;rw[if_neg dd,if_pos D]
   have Y:zS s b (b+vG k n m)=[s[b]?.getD 0]:=by
    rw[N]at y ⊢;have hb:b<s.length:=dd
    unfold zS;rw[oQ hb];rw[show b+1-b=1 by omega,List.drop_eq_getElem_cons hb];rfl
   refine⟨de,⟨dd,r⟩,?_⟩;refine⟨_,w.ld1 0 rfl zX rfl,[s[b]?.getD 0],by rw[<-Y];exact kV dd y,?_⟩;refine L4 dd ⟨_,rfl,nd dd r (Jx G M λX v' g=>⟨v',rfl,g _ λj E B=>?_⟩)⟩;have:=fin (List.replicate n (s[b]?.getD 0)) _ j v' (w.ext E) (by have:=E.top;omega) B rfl dd (by unfold To;rw[if_neg dd,if_pos D,N]);obtain⟨p,L,o,C,F⟩:=this;exact⟨p,L,o,C,λa i=>F a (i.sub de)⟩
  have nN:¬(k=3/\last.length=0)->¬(st=4/\n<6)->∀a,Has a (E0 p0 pd pc pr v s k st n b)->yL ua Q .normal ⟨186,a,[],h⟩:=λd1 d2 a i=>i.slt λz A=>hN rfl dd d1 d2 z (A.sub de)
  have f2:¬(k=3/\last.length=0)->st=4/\n<6->F30 (yL ua Q) hb p0 (vF 20 x):=λd1 d2=>by have F:=I rfl (.inr (.inr d2));unfold To at F;rw[if_neg dd,if_neg dd,if_neg d1,if_pos d2]at F;exact F.slt
  refine⟨λc3=>⟨_,G.1.len zM rfl,λc4=>λa i=>?_,λc4=>λa i=>?_⟩,λc3=>λa i=>?_⟩
  .have d:k=3/\last.length=0:=⟨dd,dd⟩
   have F:=I rfl (.inr (.inl d));unfold To at F;rw[if_neg dd,if_neg dd,if_pos d]at F;exact Gq (k:=k) (st:=st) (n:=n) (v:=v) (t:=true) w dd dd (i.sub de) (λ_=>F.slt) (λe=>by cases e) (λe=>by cases e)
  .have d:¬(k=3/\last.length=0):=dd
   exact Gq (k:=k) (st:=st) (n:=n) (v:=v) (t:=false) w dd dd (i.sub de) (λe=>by cases e) (λ_=>f2 d) (λ_=>nN d)
  have d:¬(k=3/\last.length=0):=dd
  exact Gq (k:=k) (st:=st) (n:=n) (v:=v) (t:=false) w dd dd (i.sub de) (λe=>by cases e) (λ_=>f2 d) (λ_=>nN d)
end
theorem LY(s:Ua)(a:Int):(yM s a).nx<=s.length:=by
 unfold yM;by_cases c:a<0\/s.length<a
 .rw[if_pos c];exact oM _
 rw[if_neg c];rcases d:s[a.toNat]? with _|b
 .exact oM _
 simp only;split
 .unfold xw;split
  .exact oM _
  split
  .show a.toNat+1+(b.toNat-127+1)/2<=_;omega
  exact oM _
 split
 .exact oM _
 rw[ZP];split
 .exact oM _
 split
 .show a.toNat+1+b.toNat<=_;omega
 exact oM _
theorem LX(s:Ua)(a:Int):(xO s a).nx<=s.length:=by
 unfold xO;split
 .exact LY s a
 exact oM _
theorem Wa{s:Ua}{a:Int}(h:(xO s a).e=0):(xO s a).l.length<=256/\1<=(xO s a).l.length/\jE (xO s a).l=0:=by
 unfold xO at h ⊢;by_cases c:(yM s a).e=0
 .rw[if_pos c];have:=RD s a;refine⟨?_,?_,Nm (fE c).1⟩
  .show(lens _).length<=256;rw[KW];omega
  show 1<=(lens _).length;rw[KW];omega
 rw[if_neg c]at h;exact absurd h c
theorem DP{s:Ua}{n st a:Nat}(h:(qJ s l n st a).2.1=0):(qJ s l n st a).2.2=0:=by
 unfold qJ at h ⊢;split
 .rename_i c;rw[if_pos c]at h;split
  .rfl
  rename_i b;rw[if_neg b]at h;cases h
 rename_i c;rw[if_neg c]at h;split
 .rfl
 rename_i b;rw[if_neg b]at h;cases h
theorem Sls.keep{h h':H}{v:V}(s:Sls h v l)(n:h.nx<=h'.nx)(c:∀q,z6 v=some q->h'.get q=h.get q):Sls h' v l:=by
 obtain⟨s,d⟩:=s;obtain⟨a,⟨rfl,f⟩|⟨b,o,g,cs,k,w,op,rfl,hb,i,j⟩⟩:=s
 .exact⟨⟨a,.inl ⟨rfl,f⟩⟩,λ_=>rfl⟩
 have e:=c b rfl;refine⟨⟨a,.inr ⟨b,o,g,cs,k,w,op,rfl,dd,by rw[e];exact i,j⟩⟩,λm=>(?_:_=_).trans (d m)⟩;unfold yT;simp only[e]
section
variable {Q:Ud}{hb h:H}{c p0 pd pc pr:Nat}{s:Ua}{x:Int}{last:Ub}{k st n m b:Nat}{v:V}{tm:Tm}
abbrev K35(p0 pd pr:Nat)(u:V)(s:Ua)(st n:Int):Kn:=[(18,.ptr pd 0),(22,u),(0,.str s),(21,.ptr pr 0),(14,.int .i64 n),(13,.int .i64 st),(11,.ptr p0 0)]
theorem AC{p q r:O}{e y:Int}{u:V}(w:Vw zH hb h c [(pr,p),(pc,q),(pd,r),(p0,oF e y)])(z:c<=2600)(A:h.nx<=T.top)(g:h.low<=T.top)(hs:Has tm (K35 p0 pd pr u s st n))(B:e≠0->F30 Q hb p0 (vF e y))(C:e=0->∀i,Has i (K35 p0 pd pr u s st n)->Q .normal ⟨186,i,[],h⟩):Wf ua zGT ⟨186,tm,[],h⟩ Q:=by refine sg hs ?_;refine⟨e,w.ld1 3 rfl kK rfl,λj=>⟨de,⟨A,g⟩,e,y,w.ldA 3 rfl zp rfl,?_⟩,λj=>λa d=>C dd a (d.sub de)⟩;obtain⟨h4,D,o,n4,_⟩:=w.st (cx:=zB) 3 (t:=26) (f:=0) (u:=.agg [.int .i64 e,.int .i64 y]) (cs':=.ls [.int .i64 e,.int .i64 y]) rfl dd zp rfl;exact⟨h4,D,λa d=>B j a h4 .nilslice (d.sub de) (o.ldA 3 rfl zp rfl) (o.ex0.mono z) rfl⟩
theorem AE{o2:O}{y0:Int}{a z:Nat}{l:Ub}{u:V}(w:Vw zH hb h c [(pr,oC s (z:Nat) 0 0),(pc,o2),(pd,PA s a 0 0 x),(p0,oF 0 y0)])(hc:c<=2500)(Y:Sls h u l)(K:∀q,z6 u=some q->q≠p0)(hl:l.length<=1000)(ha:a<=z)(hz:z<=s.length)(Z:s.length<=1500)(L:n<=131072)(hn:h.nx+62010<=T.top)(D:hb.low<=T.top)(hs:Has tm (K35 p0 pd pr u s st n))(o:F30 Q hb p0 (lrC s l a z n st)):Wf ua zGU ⟨186,tm,[],h⟩ Q:=by
 have i:=oS w.low D;refine sg hs ⟨de,⟨dd,i⟩,?_⟩;refine⟨_,w.ld1 2 rfl zX rfl,?_⟩;refine⟨_,w.ld1 0 rfl zX rfl,_,kV ha hz,?_⟩;have M:(zS s a z).length<=1500:=by unfold zS;simp;omega
 refine HQ (e:=0) (y:=0) (b:=x) (show(z8 h).get pd=_ from w.get 2 rfl) (show pd<(z8 h).nx from w.lt 2 rfl) (show Sl (z8 h) u 1 l.length (zI l)from Y.1) hl M L dd (show h.nx+62000<=T.top by omega) (oR _) ⟨_,_,_,rfl,show h.nx<=T.top by omega,zGD dd i ?_⟩;unfold lrC at o;have xI:=DP (s:=zS s a z) (l:=l) (n:=n) (st:=st) (a:=a);generalize qJ (zS s a z) l n st a=C at o xI;obtain⟨out,e,y⟩:=C;simp only at o xI;obtain⟨E,N,d,n18,P⟩:=w.st (cx:=zB) 3 (t:=26) (f:=0) (u:=.agg [.int .i64 e,.int .i64 y]) (cs':=.ls [.int .i64 e,.int .i64 y]) rfl dd zp rfl;have j:=oS d.low D;refine⟨E,N,?_⟩;refine⟨_,d.ld1 3 rfl kK rfl,λF=>⟨de,⟨dd,j⟩,_,_,d.ldA 3 rfl zp rfl,?_⟩,λF=>⟨de,⟨dd,j⟩,?_⟩⟩
 .rw[if_neg F]at o;obtain⟨G,R,H,n24,k24⟩:=d.st (cx:=zB) 3 (t:=26) (f:=0) (u:=.agg [.int .i64 e,.int .i64 y]) (cs':=.ls [.int .i64 e,.int .i64 y]) rfl dd zp rfl;exact⟨G,R,λp r=>o p G .nilslice (r.sub de) (H.ldA 3 rfl zp rfl) (H.ex0.mono dd) rfl⟩
 have c0:e=0:=dd
 have y1:=xI c0;rw[if_pos c0]at o;subst c0 y1;have S:Sls E u l:=by refine Y.keep dd λq hq=>P q (K q hq)
 refine Jx S hl λh10 v' g=>⟨v',rfl,g _ λh28 I U=>?_⟩
 have A:=d.ext I;have t28:=I.top;obtain⟨J,W,B,n32,X⟩:=A.st (cx:=zB) 3 (t:=26) (f:=0) (u:=.agg [.int .i64 0,.int .i64 0]) (cs':=.ls [.int .i64 0,.int .i64 0]) rfl dd zp rfl;refine⟨_,A.ld1 0 rfl zX rfl,J,W,λp r=>o p J v' (r.sub de) (B.ldA 3 rfl zp rfl) (B.ex0.mono dd) (Sl.same U (λq=>?_) dd)⟩;by_cases F:q=p0
 .subst F;rw[B.get 3 rfl,A.get 3 rfl]
 exact X q F
end
theorem F30.thenC{Q:Ud}{hb:H}{p0:Nat}{R:LR}{K:St->Prop}(F:F30 Q hb p0 R):F30 (thenC K Q) hb p0 R:=F
section
variable {Q:Ud}{hb h:H}{c p0 pd pc pr:Nat}{s:Ua}{x:Int}{last:Ub}{k st n m b:Nat}{v:V}{tm:Tm}
theorem zGI(w:Vw zH hb h c [(pr,oC s (b+m:Nat) 0 0),(pc,oC (zS s 0 (b+m)) b 0 0),(pd,PA s b 0 0 x),(p0,oF 0 0)])(hc:c<=300)(hv:Sls h v last)(J:∀q,z6 v=some q->q<hb.nx)(K:last.length<=1000)(hz:b+m<=s.length)(p:s.length<=1500)(z:n<=131072)(hn:h.nx+64500<=T.top)(i:hb.low<=T.top)(hs:Has tm (E0 p0 pd pc pr v s k st n b))(j:F30 Q hb p0 (if k=2 then lrT s x st n m b else lrC s last b (b+m) n st)):Wf ua AJ ⟨186,tm,[],h⟩ Q:=by
 have A:=oS w.low i;have hp0:hb.nx<=p0:=by rcases w.own 3 rfl with g|g;exact g.elim;exact g
 have hpd:hb.nx<=pd:=by rcases w.own 2 rfl with g|g;exact g.elim;exact g
 refine sg hs ⟨λc1=>?_,λc1=>λB o=>?_⟩
 .have L:k=2:=dd
  rw[if_pos L]at j;unfold lrT at j;have hlen:(zS s 0 (b+m)).length=b+m:=by unfold zS;simp;omega
  refine⟨_,w.ld1 1 rfl xk rfl,uK (at':=(b:Nat)) dd dd A λh4 M x4 s5 C=>⟨_,_,_,_,rfl,?_⟩⟩;have N:=LX (zS s 0 (b+m)) (b:Nat);have D:=Wa (s:=zS s 0 (b+m)) (a:=(b:Nat));generalize xO (zS s 0 (b+m)) (b:Nat)=R at j s5 N D ⊢;have w4:=w.ext x4;have t4:=x4.top;obtain⟨O,P,S,n15,U⟩:=w4.st (cx:=zB) 2 (t:=3) (f:=1) (u:=.int .i64 (R.nx:Nat)) (cs':=.ls [.str s,.int .i64 (R.nx:Nat),.int .i64 0,.int .i64 0,.int .i64 x]) rfl dd zX rfl;obtain⟨r,V,d,n16,W⟩:=S.st (cx:=zB) 3 (t:=26) (f:=0) (u:=.agg [.int .i64 R.e,.int .i64 R.fat]) (cs':=.ls [.int .i64 R.e,.int .i64 R.fat]) rfl dd zp rfl;refine⟨O,P,r,V,?_⟩;have E:=oS d.low i;refine⟨_,d.ld1 3 rfl kK rfl,λX=>?_,λX=>λB o=>?_⟩
  .rw[if_neg dd,if_pos X]at j;refine Ry (b:=R.nx) (e:=R.e) (y:=R.fat) d dd λh24 l24 F k24 n24=>λB o=>?_
   exact AC (u:=M) (s:=s) (st:=st) (n:=n) F dd dd (oS F.low i) (o.sub de) (λ_=>j.slt.thenC) (λe=>by cases e)
  refine AC (u:=M) (s:=s) (st:=st) (n:=n) (e:=R.e) (y:=R.fat) d dd dd E (o.sub de) (λG=>?_) λG tm2 Y=>thenC.nx (Y.sealK λtm3 Z=>?_)
  .rw[if_neg G,if_neg X]at j;exact j.slt.thenC
  rw[if_pos G]at j;obtain⟨g1,g2,g3⟩:=D G;have H:Vw zH hb r (c+2100) [(pr,oC s (b+m:Nat) 0 0),(pc,oC (zS s 0 (b+m)) b 0 0),(pd,PA s R.nx 0 0 x),(p0,oF 0 R.fat)]:=by rw[G]at d;exact d
  have lt0:=w.lt 3 rfl;have ltd:=w.lt 2 rfl;have u16:Sls r M R.l:=(Sls.of s5 dd).keep dd λq I=>by have:=C q I;rw[W q dd,U q dd]
  exact AE (y0:=R.fat) H dd u16 (λq I=>by have:=C q I;omega) dd dd hz p z dd i (Z.sub de) j.slt
 have hk3:¬k=2:=dd
 rw[if_neg hk3]at j;exact AE (y0:=0) w dd hv (λq I=>by have:=J q I;omega) K dd hz p z dd i (o.sub de) j.slt
end
theorem F30.exitB{Q:Ud}{hb:H}{p0:Nat}{R:LR}{K:St->Prop}(F:F30 Q hb p0 R):F30 (λe s1=>Go.Sim.thenC K Q (Go.Sim.exitB 1 e) s1) hb p0 R:=λtm h v hs a b c=>F tm h v hs a b c
theorem Sa{s:Ua}{x n:Nat}{h:H}{Q:Uc}(i:x<=s.length)(hs:s.length<4611686018427387904)(j:n<4611686018427387904)(a:∀(s1 b:Ua) (a1 d f a2 e2 g:Int),(e2=0->x+n<=s.length/\jT s1 a1 d f=jT (zS s 0 (x+n)) x 0 0/\jT b a2 e2 g=jT s (x+n:Nat) 0 0)->(e2≠0->s.length<x+n)->Q (.tuple [.agg (jT s1 a1 d f),.agg (jT b a2 e2 g)]) h):
  RF P zB 63 [.agg (jT s x 0 0),.int .i64 n] h Q :=
 Nb i hs j (λc=>a _ _ _ _ _ _ _ _ (λ_=>⟨c,rfl,rfl⟩) λe=>absurd rfl e) λc=>a _ _ _ _ _ _ _ _ (λe=>absurd e dg) λ_=>c
section
variable {Q:Ud}{hb h:H}{c p0 pd:Nat}{s:Ua}{x most:Int}{last:Ub}{k st n m b:Nat}{v:V}{tm:Tm}
abbrev K37(p0 pd:Nat)(v:V)(s:Ua)(k st n b z most:Int):Kn:=[(18,.ptr pd 0),(19,.int .i64 z),(14,.int .i64 n),(3,.int .i64 most),(11,.ptr p0 0),(12,.int .i64 k),(0,.str s),(16,.int .i64 b),(2,v),(13,.int .i64 st)]
theorem zGJ(w:Vw zH hb h c [(pd,PA s b 0 0 x),(p0,oF 0 0)])(hc:c<=100)(hv:Sls h v last)(y:∀q,z6 v=some q->q<hb.nx)(o:last.length<=1000)(K:k<4)(z:b<=s.length)(A:s.length<=1500)(hn0:n<2^20)(hm0:m<2^18)(hmo:most<=131072)(hn:h.nx+65000<=T.top)(B:hb.low<=T.top)(hs:Has tm (K37 p0 pd v s k st n b (vG k n m:Nat) most))(p:F30 Q hb p0 (if most<n\/s.length<b+vG k n m then vF 20 x else To s x last k st n m b)):Wf ua AK ⟨186,tm,[],h⟩ Q:=by
 have hz0:vG k n m<=1048576:=by unfold vG;split;omega;split<;>omega
 refine sg hs ?_;refine⟨_,_,_,_,w.ldA 0 rfl wQ rfl,Sa z dd dd λs1 I a1 L M a2 C J g0 g1=>⟨_,_,_,_,_,_,_,_,rfl,dd,?_⟩⟩;rintro p18 r rfl D;have E:=w.new D dd;have t19:=E.top;have n19:r.nx=h.nx+1:=by rw[D,zC]
 refine⟨dd,?_⟩;rintro p20 N rfl F;have G:=E.new F dd;have n21:N.nx=r.nx+1:=by rw[F,zC]
 have t21:=G.top;obtain⟨O,P,R,n22,_⟩:=G.st (cx:=zB) 1 (t:=80) (f:=0) (u:=.agg (jT s1 a1 L M)) (cs':=.ls (jT s1 a1 L M)) rfl dd wQ rfl;obtain⟨g,S,a,n23,_⟩:=R.st (cx:=zB) 0 (t:=80) (f:=0) (u:=.agg (jT I a2 C J)) (cs':=.ls (jT I a2 C J)) rfl dd wQ rfl;have a:Vw zH hb g (c+1+1) [(r.nx,oC I a2 C J),(h.nx,oC s1 a1 L M),(pd,PA s b 0 0 x),(p0,oF 0 0)]:=a;have i:=oS a.low B;have d:Sls g v last:=hv.keep dd λq Y=>(a.ex0.get q (y q Y)).trans (w.ex0.get q (y q Y)).symm
 refine⟨O,P,g,S,λZ=>λH j=>?_,λZ=>⟨C,a.ld1 0 rfl kK rfl,λc2=>λH j=>?_,λc2=>λH j=>?_⟩⟩
 .rw[if_pos (.inl Z)]at p;exact Gs (k:=k) (st:=st) (n:=n) (v:=v) (m:=m) (last:=last) (t:=true) a (λe=>by cases e) dd dd i d o K dd (j.sub de) (λe=>by cases e) (λ_=>p.slt.exitB) (λe=>by cases e) (λe=>by cases e)
 .rw[if_pos (.inr (g1 c2))]at p;exact Gs (k:=k) (st:=st) (n:=n) (v:=v) (m:=m) (last:=last) (t:=true) a (λe=>by cases e) dd dd i d o K dd (j.sub de) (λe=>by cases e) (λ_=>p.slt.exitB) (λe=>by cases e) (λe=>by cases e)
 obtain⟨q1,q2,q3⟩:=g0 dd;rw[if_neg dd]at p;refine Gs (k:=k) (st:=st) (n:=n) (v:=v) (m:=m) (last:=last) (t:=false) a (λ_=>by show oC I a2 C J=_;unfold oC;rw[q3]) dd dd i d o K dd (j.sub de) (λ_=>q1) (λe=>by cases e) (λ_ _=>p.slt.exitB) λ_ d1 d2 d3 U V=>?_
 have hz:vG k n m=m:=by unfold vG;rw[if_neg dd,if_neg dd]
 have W:Vw zH hb g (c+1+1) [(r.nx,oC s (b+m:Nat) 0 0),(h.nx,oC (zS s 0 (b+m)) b 0 0),(pd,PA s b 0 0 x),(p0,oF 0 0)]:=by have:=a;unfold oC at this ⊢;rw[q2,q3,hz]at this;exact this
 unfold To at p;rw[if_neg dd,if_neg dd,if_neg d2,if_neg d3]at p;exact(show sealK ua (λs1=>Wf ua AJ s1 (yL ua Q)) ⟨186,U,[],g⟩from V.sealK λtm3 X=>zGI W dd d y o dd A dd dd B (X.sub de) p.slt)
abbrev K38(p0:Nat)(v:V)(s:Ua)(k st n m b x most:Int):Kn:=[(0,.str s),(16,.int .i64 b),(1,.int .i64 x),(15,.int .i64 m),(12,.int .i64 k),(14,.int .i64 n),(11,.ptr p0 0),(2,v),(13,.int .i64 st),(3,.int .i64 most)]
theorem AG(w:Vw zH hb h c [(p0,oF 0 0)])(H:c<=90)(B:Sls h v last)(g:∀q,z6 v=some q->q<hb.nx)(i:last.length<=1000)(C:k<4)(e:b<=s.length)(f:s.length<=1500)(j:n<2^20)(o:m<2^18)(p:most<=131072)(I:h.nx+65010<=T.top)(r:hb.low<=T.top)(hs:Has tm (K38 p0 v s k st n m b x most))(D:F30 Q hb p0 (if most<n\/s.length<b+vG k n m then vF 20 x else To s x last k st n m b)):Wf ua zGV ⟨186,tm,[],h⟩ Q:=by
 refine sg hs (So ⟨_,_,_,_,rfl,dd,?_⟩);rintro J t rfl u;have y:=w.new u dd;have K:=y.top;have L:=w.top;have A:Ext h t 1:=by rw[u];exact Ext.new _ dd
 have go:∀(z:Nat) a,z=vG k n m->Has a (K37 p0 h.nx v s k st n b z most)->Wf ua AK ⟨186,a,[],t⟩ (yL ua Q):=λz a E d=>by subst E;exact zGJ y dd (B.ext A) g i C e f j o p (by have:=A.top;omega) r d D.slt
 refine⟨λF=>λa d=>go n a (by unfold vG;rw[if_pos dd]) (d.sub de),λF=>⟨λG=>λa d=>go 1 a (by unfold vG;rw[if_neg dd,if_pos dd]) (d.sub de),λG=>λa d=>go m a (by unfold vG;rw[if_neg dd,if_neg dd]) (d.sub de)⟩⟩
theorem zGK(w:Vw zH hb h c [(p0,oF 0 0)])(I:c<=90)(C:Sls h v last)(r:∀q,z6 v=some q->q<hb.nx)(i:last.length<=1000)(J:k<4)(a:b<=s.length)(d:s.length<=1500)(y:n<2^20)(z:m<2^18)(A:most<=131072)(K:h.nx+65010<=T.top)(B:hb.low<=T.top)(hs:Has tm (K38 p0 v s k st n m b x most))(p:F30 Q hb p0 (if last.length≠0/\jE last≠0 then vF (jE last) 0 else if most<n\/s.length<b+vG k n m then vF 20 x else To s x last k st n m b)):Wf ua AL ⟨186,tm,[],h⟩ Q:=by
 refine sg hs ⟨_,C.1.len zM rfl,λD=>bA C.1 i ⟨_,rfl,λE=>?_,λE=>λF j=>?_⟩,λD=>λF j=>?_⟩
 .have o:last.length≠0:=λe=>by rw[e]at D;exact absurd D dg
  rw[if_pos ⟨o,E⟩]at p;obtain⟨h4,M,L,n4,_⟩:=w.st (cx:=zB) 0 (t:=26) (f:=0) (u:=.agg [.int .i64 (jE last),.int .i64 0]) (cs':=.ls [.int .i64 (jE last),.int .i64 0]) rfl dd zp rfl;exact⟨h4,M,λG H=>p G h4 .nilslice (H.sub de) (L.ldA 0 rfl zp rfl) (L.ex0.mono dd) rfl⟩
 .rw[if_neg λg=>E g.2]at p;exact AG w I C r i J a d y z A K B (j.sub de) p.slt
 have o:last.length=0:=by
  by_cases g:last.length=0
  .exact g
  exact absurd (show(0:Int)<Int.ofNat last.length by simp;omega) D
 rw[if_neg λg=>g.1 o]at p;exact AG w I C r i J a d y z A K B (j.sub de) p.slt
theorem Gn{t:Bool}(w:Vw zH hb h c [(p0,oF 0 0)])(p:c<=90)(q:h.nx<=T.top)(hs:Has tm ((43,.bool t)::K38 p0 v s k st n m b x most))(i:t=true->F30 Q hb p0 (vF 2 0))(j:t=false->∀e,Has e (K38 p0 v s k st n m b x most)->Q .normal ⟨186,e,[],h⟩):Wf ua zGP ⟨186,tm,[],h⟩ Q:=by
 refine sg hs ?_;cases t with
 | true=>obtain⟨h4,o,g,n4,_⟩:=w.st (cx:=zB) 0 (t:=26) (f:=0) (u:=.agg [.int .i64 2,.int .i64 0]) (cs':=.ls [.int .i64 2,.int .i64 0]) rfl dd zp rfl;exact⟨h4,o,λa d=>i rfl a h4 .nilslice (d.sub de) (g.ldA 0 rfl zp rfl) (g.ex0.mono dd) rfl⟩
 | false=>exact λa d=>j rfl a (d.sub de)
end
theorem Yu{s:Ua}{x most:Int}{v:V}{last:Ub}{h:H}{Q:Uc}(D:Sls h v last)(E:∀q,z6 v=some q->q<h.nx)(G:last.length<=1000)(p:s.length<=1500)(hn:h.nx+65100<=T.top)(i:h.low<=T.top)(B:∀h' v',Ext h h' 2600->zGE h' v' (lW s x last most).nx->Q (.tuple [.str (lW s x last most).out,v',.int .i64 (lW s x last most).fin,.agg [.int .i64 (lW s x last most).e,.int .i64 (lW s x last most).y]]) h'):RF P zB 30 [.str s,.int .i64 x,v,.int .i64 most] h Q:=by
 refine zh ua zIg ⟨dd,?_⟩;rintro p0 h1 rfl U;have I:=(Vw.nil (S:=zH) (h:=h)).new U dd;have t1:=I.top;refine ZQ ?_ dd;rcases FT s x last most with⟨e,y,W,hr,j⟩|⟨k,st,n,m,b,X,Y,J,K,r,Z,hx1,hr,j⟩
 .rw[hr];rw[j]at B;obtain⟨c,o,a,L,_⟩:=I.st (cx:=zB) 0 (t:=26) (f:=0) (u:=.agg [.int .i64 e,.int .i64 y]) (cs':=.ls [.int .i64 e,.int .i64 y]) rfl dd zp rfl;refine⟨_,_,_,_,_,_,_,rfl,c,o,e,a.ld1 0 rfl kK rfl,λg=>⟨de,⟨dd,oS a.low i⟩,e,y,a.ldA 0 rfl zp rfl,?_⟩,λg=>absurd W g⟩;obtain⟨w,M,z,n15,_⟩:=a.st (cx:=zB) 0 (t:=26) (f:=0) (u:=.agg [.int .i64 e,.int .i64 y]) (cs':=.ls [.int .i64 e,.int .i64 y]) rfl dd zp rfl;exact⟨w,M,endL.ok (leaveL.tmp (leaveL.tmp (leaveL.tmp (leaveL.cell (z.ldA 0 rfl zp rfl) rfl)))) (B w .nilslice (z.ex0.mono dd) rfl)⟩
 rw[hr];rw[j]at B;obtain⟨c,o,a,L,_⟩:=I.st (cx:=zB) 0 (t:=26) (f:=0) (u:=.agg [.int .i64 0,.int .i64 0]) (cs':=.ls [.int .i64 0,.int .i64 0]) rfl dd zp rfl;have a:Vw zH h c 1 [(h.nx,oF 0 0)]:=a;have F:F30 (endW zB ⟨186,[.tmp 8,.tmp 9,.tmp 10,.cell 11 26],bf 30⟩ Q) h h.nx (lrB s x last most k st n m b):=λtm h' v' hs ha hx D =>
  endW.ok (leave.tmp (hs.get (t:=8) rfl) (leave.tmp (hs.get (t:=9) rfl) (leave.tmp (hs.get (t:=10) rfl) (leave.cell (hs.get (t:=11) rfl) ha rfl)))) (B h' v' hx D)
 refine⟨_,_,_,_,_,_,_,rfl,c,o,0,a.ld1 0 rfl kK rfl,λg=>absurd rfl g,λ_=>?_⟩;unfold lrB at F;by_cases cm:most<0\/131072<most
 .rw[if_pos cm]at F;refine⟨λg=>λA d=>?_,λg=>⟨λC=>λA d=>?_,λC=>?_⟩⟩
  .exact Gn (v:=v) (s:=s) (k:=k) (st:=st) (n:=n) (m:=m) (b:=b) (x:=x) (most:=most) (t:=true) a dd dd (d.sub de) (λ_=>F.thenC) (λe=>by cases e)
  .exact Gn (v:=v) (s:=s) (k:=k) (st:=st) (n:=n) (m:=m) (b:=b) (x:=x) (most:=most) (t:=true) a dd dd (d.sub de) (λ_=>F.thenC) (λe=>by cases e)
  omega
 rw[if_neg cm]at F;refine⟨λg=>absurd (Or.inl g) cm,λg=>⟨λC=>absurd (Or.inr C) cm,λC=>λA d=>?_⟩⟩;exact Gn (v:=v) (s:=s) (k:=k) (st:=st) (n:=n) (m:=m) (b:=b) (x:=x) (most:=most) (t:=false) a dd dd (d.sub de) (λe=>by cases e) λ_ N O =>
  (show sealK ua (λs1=>Wf ua AL s1 (endW zB ⟨186,[.tmp 8,.tmp 9,.tmp 10,.cell 11 26],bf 30⟩ Q)) ⟨186,N,[],c⟩from O.sealK λtm3 R=>zGK a dd (D.ext a.ex0) E G X r p J K dd dd i (R.sub de) F)
theorem GS(x y:Nat)(a b c d:Int):Yf zB .neq 26 (t x) (t y) (.agg [.int .i64 a,.int .i64 b]) (.agg [.int .i64 c,.int .i64 d])=(match (match some (sS a c)with|some true=>(match some (sS b d)with|some true=>some true|r=>r)|r=>r)with|some r=>some (.bool (!r))|none=>none):=de
theorem IN(b:rE l=0):YC l = .tuple [.str [],.int .i64 7]\/∃s,YC l = .tuple [.str s,.int .i64 0]/\(Y9 (ku l)=some s\/kf (ku l)=some s):=by
 cases hd:Y9 (ku l)with
 | none =>
  rcases a:kf (ku l) with _|c
  .exact .inl (zBg b hd a)
  exact .inr ⟨c,zBh b hd a,.inr rfl⟩
 | some d =>
  rcases a:kf (ku l) with _|c
  .exact .inr ⟨d,zBi b hd a,.inl rfl⟩
  obtain⟨s,e,h,_⟩:=zBj b hd a;exact .inr ⟨s,e,h.imp (λq=>by rw[q]) (λq=>by rw[q])⟩
end Go.Proofs.YtnpeieeomokomaaGreat
