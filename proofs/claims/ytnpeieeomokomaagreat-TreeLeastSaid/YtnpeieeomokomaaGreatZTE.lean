/- TE. No condition. -/
import Derived.Test.YtnpeieeomokomaaGreatZTC
import Derived.Test.YtnpeieeomokomaaGreatZTA
import Derived.Test.YtnpeieeomokomaaGreatZCF
import Derived.Test.YtnpeieeomokomaaGreatZW
set_option maxRecDepth 100000
set_option maxHeartbeats 4000000
noncomputable section
namespace Go.Proofs.YtnpeieeomokomaaGreat
open Go.Sim
variable {h:H}{Q:V->H->Prop}
abbrev Cl:=Int×Nat×Nat
def wy (log x:Nat):Nat:=log-(zQ x-1)
def zE5 (log x:Nat):Nat:=x*2^wy log x-2^log
def cel (log:Nat) (s:Int) (x:Nat):Cl:=(s,wy log x,zE5 log x)
def zCo (log:Nat):(Int->Nat)->List Int->List Cl
 | _,[]=>[]
 | nx,s::l=>cel log s (nx s)::zCo log (λj=>if j=s then nx s+1 else nx j) l
def kY (l:List Int) (s:Int):Nat:=(l[s.toNat]?.getD 0).natAbs
def wo (log:Nat) (l:List Int):List Cl:=zCo log (kY l) (yi log l)
theorem zE6 {log:Nat}:∀{nx:Int->Nat}{l:List Int},(zCo log nx l).length=l.length
 | _,[]=>rfl
 | nx,s::l=>by unfold zCo;rw[oV,zE6,oV]
theorem On (log:Nat) (l:List Int):(wo log l).length=2^log:=by unfold wo;rw[zE6,Zs]
theorem KP {x:Nat}(h:1<=x):1<=zQ x:=by unfold zQ;rw[if_neg (by omega)];omega
theorem zBd {log x:Nat}(h1:1<=x) (h2:x<2^(log+1)):zQ x-1<=log/\wy log x<=log/\2^log<=x*2^wy log x/\x*2^wy log x<=2^(log+1)/\zE5 log x+2^wy log x<=2^log:=by
 have a:=KP h1;have b:=zF1 (n:=x) (by omega);have c:=Zb x;have d:zQ x<=log+1:=yA h2;have e:zQ x-1+wy log x=log:=by unfold wy;omega
 have e1:2^log=2^(zQ x-1)*2^wy log x:=by rw[<-Nat.pow_add,e]
 have e2:2^zQ x=2*2^(zQ x-1):=by rw[<-Nat.pow_succ'];congr 1;omega
 have f1:2^(zQ x-1)*2^wy log x<=x*2^wy log x:=Nat.mul_le_mul_right _ b;have f2:(x+1)*2^wy log x<=2^zQ x*2^wy log x:=Nat.mul_le_mul_right _ c;rw[e2,Nat.mul_assoc,<-e1,Nat.add_mul,Nat.one_mul]at f2;have e3:2^(log+1)=2*2^log:=Nat.pow_succ';have e4:0<2^wy log x:=Nat.pow_pos (by decide);refine⟨by omega,by unfold wy;omega,by omega,by omega,?_⟩;unfold zE5;omega
theorem Of {all:List Int}{log:Nat}:∀{nx:Int->Nat}{l:List Int}{k:Nat},(∀s∈l,Occ all s/\1<=nx s)->(∀s,nx s<=k)->k+l.length<=2^(log+1) ->
  ∀c∈zCo log nx l,Occ all c.1/\c.2.1<=log/\c.2.2+2^c.2.1<=2^log
 | _,[],_,_,_,_=>λc hc=>by cases hc
 | nx,s::l,k,h1,h2,h3=>λc hc=>by
  rw[oV]at h3;have hs:=h1 s (List.mem_cons_self ..);have hk:=h2 s;rcases od.1 hc with rfl|hc
  ·obtain⟨a1,a2,a3,a4,a5⟩:=zBd (log:=log) hs.2 (by omega)
   exact⟨hs.1,a2,a5⟩
  ·refine Of (k:=k+1) (λs' hs'=>⟨(h1 s' (oH _ hs')).1,?_⟩) (λs'=>?_) (by omega) c hc
   ·have:=(h1 s' (oH _ hs')).2
    show 1<=(if s'=s then nx s+1 else nx s');split<;>omega
   ·have:=h2 s'
    show(if s'=s then nx s+1 else nx s')<=k+1;split<;>omega
theorem zDU:∀{l:List Int}{x:Int},(∀y∈l,-1<=y)->x∈l->(x.natAbs:Int)<=pts l
 | y::l,x,h,hx=>by
  have h0:0<=pts l:=by
   have:=xy (l:=l) λz hz=>h z (oH _ hz)
   omega
  have h1:=h y (List.mem_cons_self ..);rw[xh];rcases od.1 hx with rfl|hx
  ·unfold pt;split<;>omega
  ·have:=zDU (l:=l) (λz hz=>h z (oH _ hz)) hx
   unfold pt;split<;>omega
theorem zIs {log:Nat}{l:List Int}(g:GD log l) (s:Int):kY l s<=2^log:=by
 unfold kY;cases h:l[s.toNat]? with
 | none=>simp
 | some p =>
  have:=zDU g.low (List.mem_of_getElem? h);rw[g.pts]at this;have e:((2^log:Nat):Int)=2^log:=by simp
  simp only[Option.getD_some];omega
theorem zF4 {l:List Int}{s:Int}(h:Occ l s):1<=kY l s:=by
 obtain⟨n,rfl,p,h1,h2⟩:=h;unfold kY;rw[oX,h1];simp only[Option.getD_some];omega
theorem Om {log:Nat}{l:List Int}(g:GD log l):∀c∈wo log l,Occ l c.1/\c.2.1<=log/\c.2.2+2^c.2.1<=2^log:=by
 have hp:=xD g.lg;refine Of (k:=2^log) (λs hs=>?_) (zIs g) (by rw[Zs,Nat.pow_succ];omega);obtain⟨i,hi⟩:=List.getElem?_of_mem hs;have:=JH g hi;exact⟨this,zF4 this⟩
def two (cs:List Cl) (s:List UInt8):Nat->Nat->Nat->Nat->List Int->Option (List Int)
 | 0,_,_,_,_=>none
 | f+1,left,a,b,out=>match cs[a]? with
  | none=>none
  | some c =>
   if left<c.2.1 then
    (if f=0\/0<left then none else match cs[b]? with|none=>none|some d=>some (out++[c.1,d.1]))
   else two cs s f (left-c.2.1) b (c.2.2+wQ s left c.2.1) (out++[c.1])
def wW (log:Nat) (l:List Int) (s:List UInt8):Int×List Int :=
 if zp s<0 then (22,[])
 else if zp s<log then (21,[])
 else if zp s<2*log then (21,[])
 else match two (wo log l) s 255 ((zp s).toNat-log-log) (wQ s (zp s).toNat log) (wQ s ((zp s).toNat-log) log) []with
 | none=>(21,[])
 | some out=>(0,out)
theorem Oo {log:Nat}{l:List Int}(g:GD log l) {c:Cl}(hc:c∈wo log l):0<=c.1/\c.1<12:=by
 obtain⟨⟨s,h1,p,h2,_⟩,_⟩:=Om g c hc;have:=(List.getElem?_eq_some_iff.1 h2).1;have:=g.len;omega
theorem zP6 {log:Nat}{l:List Int}(g:GD log l) {s:List UInt8}:∀{f left a b:Nat}{out r:List Int},two (wo log l) s f left a b out=some r->kK out=true->f+out.length=255->kK r=true/\r.length<=255
 | 0,_,_,_,_,_,h,_,_=>by cases h
 | f+1,left,a,b,out,r,h,ho,hf=>by
  unfold two at h;cases ha:(wo log l)[a]? with
  | none=>rw[ha]at h;cases h
  | some c =>
   rw[ha]at h;have hc:=Oo g (List.mem_of_getElem? ha);have h1:kK [c.1]=true:=by simp[kK];omega
   simp only at h;split at h
   ·split at h
    ·cases h
    ·rename_i hn
     cases hb:(wo log l)[b]? with
     | none=>rw[hb]at h;cases h
     | some d =>
      rw[hb]at h;have hd:=Oo g (List.mem_of_getElem? hb);cases h;refine⟨?_,by simp;omega⟩;rw[qq,ho];simp[kK];omega
   ·exact zP6 g h (by rw[qq,ho,h1];rfl) (by simp;omega)
theorem zPJ {log:Nat}{l:List Int}(g:GD log l) {s:List UInt8}:kK (wW log l s).2=true/\(wW log l s).2.length<=255:=by
 unfold wW;split
 ·exact⟨rfl,by simp⟩
 ·split
  ·exact⟨rfl,by simp⟩
  ·split
   ·exact⟨rfl,by simp⟩
   ·split
    ·exact⟨rfl,by simp⟩
    ·rename_i h
     exact zP6 g h rfl rfl
theorem qz {s:List UInt8}{symbols log:Nat}:∀{f left p:Nat}{l r:List Int}{q:Nat},xE s symbols f left p l=some (r,q)->l.length<=symbols->(∀x∈l,-1<=x)->pts l+left=2^log->(left=0->l.getLast?≠some 0/\1<=l.length) ->
  (∀x∈r,-1<=x)/\pts r=2^log/\r.getLast?≠some 0/\1<=r.length/\r.length<=symbols
 | 0,_,_,_,_,_,h,_,_,_,_=>by cases h
 | f+1,left,p,l,r,q,h,hn,h1,h2,h3=>by
  unfold xE at h;split at h
  ·rename_i c
   cases h;exact⟨h1,by rw[<-h2,c];omega,(h3 c).1,(h3 c).2,hn⟩
  ·rename_i c
   cases ho:qY s left p with
   | none=>rw[ho]at h;cases h
   | some x =>
    obtain⟨v,p'⟩:=x;rw[ho]at h;obtain⟨hv,_⟩:=zA1 (by omega) ho;simp only at h;split at h
    ·cases h
    ·rename_i hls
     split at h
     ·rename_i hv1
      cases hz:xF s symbols (symbols+1) p' (l.length+1)with
      | none=>rw[hz]at h;cases h
      | some y =>
       obtain⟨n,p2⟩:=y;rw[hz]at h;simp only at h;have hzl:∀{f p n m q:Nat},xF s symbols f p n=some (m,q)->m<=symbols:=by
        intro f
        induction f with
        | zero=>intro p n m q h;cases h
        | succ f ih =>
         intro p n m q h;unfold xF at h;split at h
         ·cases h
         ·split at h
          ·cases h
          ·split at h
           ·exact ih h
           ·cases h;omega
       have hm:=hzl hz;refine qz h (by simp;omega) (λx hx=>?_) ?_ (λg=>absurd g c)
       ·rcases List.mem_append.1 hx with hx|hx
        ·exact h1 x hx
        ·rw[List.eq_of_mem_replicate hx];decide
       ·rw[qw]
        have:∀k,pts (List.replicate k 0)=0:=λk=>by
         induction k with
         | zero=>rfl
         | succ k ih=>rw[List.replicate_succ,xh,ih];rfl
        rw[this];omega
     ·rename_i hv1
      refine qz h (by simp;omega) (λx hx=>?_) ?_ (λg=>?_)
      ·rcases List.mem_append.1 hx with hx|hx
       ·exact h1 x hx
       ·rw[List.mem_singleton.1 hx];omega
      ·rw[qw,zDV]
       unfold pt;split<;>omega
      ·refine⟨?_,by simp⟩
       rw[List.getLast?_append];simp;omega
theorem KU {s:List UInt8}{log p:Nat}{l:List Int}(h:wA s 6 12=some (log,l,p)):GD log l:=by
 unfold wA at h;split at h
 ·cases h
 ·split at h
  ·cases h
  ·rename_i c1 c2
   cases hr:xE s 12 (12+2) (2^(yO s 0 4+5)) 4 []with
   | none=>rw[hr]at h;cases h
   | some x =>
    obtain⟨r,q⟩:=x;rw[hr]at h;simp only[oZ,oA,oB]at h;obtain⟨rfl,rfl,rfl⟩:=h;have hp:0<2^(yO s 0 4+5):=Nat.pow_pos (by decide);obtain⟨a1,a2,a3,a4,a5⟩:=qz (log:=yO s 0 4+5) hr (by simp) (λx hx=>by cases hx) (by simp[pts]) (λg=>by omega);exact⟨by omega,a4,a5,a1,a3,a2⟩
def YZ (s:List UInt8) (a:Nat) (n:Nat):List Int:=(List.range n).map λi=>((if i % 2=0 then (s[a+i/2]?.getD 0).toNat/16 else (s[a+i/2]?.getD 0).toNat % 16:Nat):Int)
structure Rd where
 l:List Int
 nx:Nat
 e:Int
 fat:Int
def xz (s:List UInt8) (a h:Nat):Rd :=
 if s.length<a+1+(h-127+1)/2 then ⟨[],0,5,s.length⟩
 else if jz (YZ s (a+1) (h-127))=0 then ⟨YZ s (a+1) (h-127),a+1+(h-127+1)/2,0,0⟩
 else ⟨[],0,21,a⟩
def zPI (b:List UInt8) (a fin:Nat):Rd :=
 match wA b 6 12 with
 | none=>⟨[],0,if Ya b 6 then 31 else 23,a+1⟩
 | some (log,l,p) =>
  if (wW log l (b.drop ((p+7)/8))).1≠0 then ⟨[],0,(wW log l (b.drop ((p+7)/8))).1,a+1+(p+7)/8⟩
  else if jz (wW log l (b.drop ((p+7)/8))).2=0 then ⟨(wW log l (b.drop ((p+7)/8))).2,fin,0,0⟩
  else ⟨[],0,21,a⟩
def yU (s:List UInt8) (at':Int):Rd :=
 if at'<0\/s.length<at' then ⟨[],0,2,0⟩
 else match s[at'.toNat]? with
 | none=>⟨[],0,5,at'⟩
 | some c =>
  if 127<c.toNat then xz s at'.toNat c.toNat
  else if s.length<at'.toNat+1+c.toNat then ⟨[],0,5,s.length⟩
  else zPI ((s.drop (at'.toNat+1)).take c.toNat) at'.toNat (at'.toNat+1+c.toNat)
def trn (m:Nat) (l:List Int):List Int:=l.map λx=>if x≠0 then (m:Int)+1-x else 0
def zRU (l:List Int):List Int:=trn (zQ (xM l)) (l++[((zQ (wD l):Nat):Int)])
theorem zF3 (s:List UInt8) (a n:Nat):(YZ s a n).length=n:=by simp[YZ]
theorem YT (m:Nat) (l:List Int):(trn m l).length=l.length:=by simp[trn]
theorem qM {p o:Nat}{k:V->H->Prop}:zS zA 59 0 h (.ptr p o) k=k (.ptr p (o+0)) h:=by kernel_rfl
theorem xf {p o:Nat}{k:V->H->Prop}:zS zA 59 1 h (.ptr p o) k=k (.ptr p (o+1)) h:=by kernel_rfl
theorem zFu {k:V->H->Prop}(hk:k (.tuple []) h):qZ zA 0 k (.tuple []) h:=⟨rfl,hk⟩
theorem yv {v:V}{e n:Nat}{xs:List V}(s:Sl h v e n xs) {a:Int}{k:Cs->Prop}(hk:k (.ls [.int .i64 a,v])):wh (cond (zL (V.cells (.agg [(.int .i64 a),v]))) (Cs.ofL (V.cells (.agg [(.int .i64 a),v]))) none) k:=by
 obtain⟨_,⟨rfl,_⟩|⟨b,o,cp,cs,k,w,op,rfl,_⟩⟩:=s
 ·exact hk
 ·exact hk
theorem zHR {v:V}{l:List Int}{m:Int}(sl:Sl h v 1 l.length (zJ l)) (hl:l.length<=1000) (h0:1<=l.length) (hx:∀x∈l,m<=x) (hq:∀x,m<=x->Q (.int .i64 x) h):RF P zA 242 [v] h Q:=by
 refine yD z0E rfl rfl z2K ⟨_,sl.len zO rfl,λc=>by omega,λ_=>Has.nil.on λtm hs=>?_⟩
 have at':∀i,i<l.length->∃x b o,m<=x/\z7 zA 23 v (.int .i64 (i:Nat))=some (.ptr b o)/\zK zA 3 h (.ptr b o)=some (.int .i64 x):=λi hi=>by
  obtain⟨b,o,e1,e2⟩:=sl.at1 (u:=.int .i64 l[i]) hi zO rfl zb rfl rfl (by rw[oW,oO hi];rfl);exact⟨_,b,o,hx _ (oS hi),e1,e2⟩
 obtain⟨x,b,o,hx0,e1,e2⟩:=at' 0 (by omega);refine wpS.av hs zT3 rfl rfl ⟨b,o,e1,x,e2,hs.on λtm' hs'=>?_⟩
 clear hs;refine wpC.round (λk tm h'=>∃(i:Nat) (x:Int),i<=l.length/\k=l.length-i/\h'=h/\m<=x/\Has tm [(4,.int .i64 i),(0,v),(3,.int .i64 x)]) (l.length-1) ⟨1,x,by omega,rfl,rfl,hx0,hs'.sub rfl⟩ ?_
 rintro k tm h' ⟨i,x,h1,rfl,rfl,h2,hs⟩;refine wpC.av hs zS1 rfl rfl ⟨_,sl.len zO rfl,λc=>?_,λc=>hs.on λtm' hs'=>?_⟩
 ·obtain⟨y,b,o,hy,e1,e2⟩:=at' i (by omega)
  have e:zH ((i:Int)+1)=((i+1:Nat):Int):=by rw[zD (by omega) (by omega)];rfl
  refine⟨b,o,e1,y,e2,hs.on λtm' hs'=>⟨rfl,rfl,l.length-(i+1),by omega,i+1,min x y,by omega,rfl,rfl,Int.le_min.2 ⟨h2,hy⟩,?_⟩⟩
  rw[<-e];exact hs'.sub rfl
 ·refine thenC.left (wpS.av hs' zT2 rfl rfl (hs'.on λtm2 hs2=>hs2.slt λtm3 hs3=>?_))
  exact endW.r1 (hs3.get rfl) (hq x h2)
theorem zAU {l:List Int}(h:∀x∈l,-1<=x):0<=pts l:=by
 have:=xy h;omega
theorem Xw {l:List Int}(h:∀x∈l,-1<=x) (i:Nat):0<=pts (l.take i)/\pts (l.take i)<=pts l:=by
 have h1:=zAU (l:=l.take i) λx hx=>h x (List.mem_of_mem_take hx)
 have h2:=zAU (l:=l.drop i) λx hx=>h x (List.mem_of_mem_drop hx)
 have h3:=qw (l.take i) (l.drop i);rw[List.take_append_drop]at h3;omega
theorem zLB {v:V}{log:Int}{l:List Int}(sl:Sl h v 1 l.length (zJ l)) (hl:l.length<=1000) (hx:∀x∈l,-1<=x) (hp:pts l<=1048576) (hn:h.nx+2<=T.top)
  (hq:∀h',Ext h h' 2->Q (.int .i64 (pts l)) h'):RF P zA 243 [.agg [.int .i64 log,v]] h Q:=by
 refine yD z0F rfl rfl z2L (yv sl ⟨by omega,?_⟩);rintro p0 h1 rfl e1;have w1:=(Vw.nil (S:=zR) (h:=h)).new e1 (by omega);have t1:=w1.top;refine⟨rfl,by omega,?_⟩;rintro p3 h4 rfl e4;have w4:=w1.new e4 (by omega);have t4:=w4.top;obtain⟨h5,e5,w5,n5,_⟩:=w4.st (cx:=zA) 0 (f:=0) (u:=.int .i64 0) rfl (by omega) zb rfl (oJ _) rfl rfl;refine⟨h5,e5,v,w5.ld1 1 rfl zO rfl rfl,_,(sl.ext w5.ex0).len zO rfl,Has.nil.on λtm hs=>?_⟩
 refine wpC.round (λk tm h'=>∃i:Nat,i<=l.length/\k=l.length-i/\Vw zR h h' 2 [(h1.nx,.cells (.ls [.int .i64 (pts (l.take i))]) ⟨0,3+1,0⟩ true false),(h.nx,.cells (.ls [.int .i64 log,v]) ⟨0,59+1,0⟩ true false)] /\
  Has tm [(11,.int .i64 i),(10,.int .i64 l.length),(9,v),(4,.func (.func 286) [] [.ptr h1.nx 0]),(3,.ptr h1.nx 0)]) l.length ⟨0,by omega,by omega,w5,hs.sub rfl⟩ ?_
 clear hs w5 e5 n5;rintro k tm h' ⟨i,hi1,rfl,w,hs⟩;have tw:=w.top;refine wpC.av hs zS2 rfl rfl ⟨λc=>?_,λc=>hs.on λtm' hs'=>?_⟩
 ·have hi:i<l.length:=by omega
  have hg:l[i]? = some l[i]:=oO hi;obtain⟨b,o,e1,e2⟩:=(sl.ext w.ex0).at1 (u:=.int .i64 l[i]) hi zO rfl zb rfl rfl (by rw[oW,hg];rfl);have ht:l.take (i+1)=l.take i++[l[i]]:=by rw[List.take_add_one,hg];rfl
  have hr:=hx l[i] (oS hi);have hb:=Xw hx i;have hb2:=Xw hx (i+1);generalize l[i]=x at hg e2 ht hr;have e:zH ((i:Int)+1)=((i+1:Nat):Int):=by rw[zD (by omega) (by omega)];rfl
  have hw:pts (l.take (i+1))=pts (l.take i)+pt x:=by rw[ht,qw,zDV]
  refine⟨b,o,e1,x,e2,λc2=>?_,λc2=>?_⟩
  ·show RF P zA 286 [.int .i64 1,.ptr h1.nx 0] h' _
   have hp1:pt x=1:=by unfold pt;rw[if_pos c2]
   have es:min (zH (pts (l.take i)+1)) 1048576=pts (l.take (i+1)):=by rw[zD (by omega) (by omega)];omega
   obtain⟨h6,e6,w6,n6,_⟩:=w.st (cx:=zA) 0 (f:=0) (u:=.int .i64 (pts (l.take (i+1)))) rfl (by omega) zb rfl (oJ _) rfl rfl;refine yD zUd rfl rfl zVX ⟨_,w.ld1 0 rfl zb rfl rfl,h6,by rw[es];exact e6,?_⟩;refine zFu (hs.on λtm' hs'=>⟨rfl,rfl,l.length-(i+1),by omega,i+1,by omega,rfl,w6,?_⟩)
   rw[<-e];exact hs'.sub rfl
  ·show RF P zA 286 [.int .i64 (min x 1048576),.ptr h1.nx 0] h' _
   have hp1:pt x=x:=by unfold pt;rw[if_neg c2]
   have es:min (zH (pts (l.take i)+min x 1048576)) 1048576=pts (l.take (i+1)):=by rw[zD (by omega) (by omega)];omega
   obtain⟨h6,e6,w6,n6,_⟩:=w.st (cx:=zA) 0 (f:=0) (u:=.int .i64 (pts (l.take (i+1)))) rfl (by omega) zb rfl (oJ _) rfl rfl;refine yD zUd rfl rfl zVX ⟨_,w.ld1 0 rfl zb rfl rfl,h6,by rw[es];exact e6,?_⟩;refine zFu (hs.on λtm' hs'=>⟨rfl,rfl,l.length-(i+1),by omega,i+1,by omega,rfl,w6,?_⟩)
   rw[<-e];exact hs'.sub rfl
 ·have hi:i=l.length:=by omega
  subst hi;rw[List.take_length]at w;refine thenC.left (wpS.av hs' zT4 rfl rfl ⟨_,w.ld1 0 rfl zb rfl rfl,hs'.on λtm2 hs2=>?_⟩);exact endW.r1 (hs2.get rfl) (hq _ w.ex0)
theorem wG {v:V}{log:Nat}{l:List Int}{h:H}{Q:V->H->Prop}(sl:Sl h v 1 l.length (zJ l)) (g:GD log l) (hq:Q (.int .i64 0) h):RF P zA 173 [.agg [.int .i64 log,v]] h Q:=by
 show RF P zA 173 ((λv=>V.agg ([.int .i64 log]++[v])::[]) v) h Q
 refine RF.ro (One.struct (zj rfl) (λa ha=>(by cases ha))) sl (XG l) (ye _ _) (λv0 h0 s0 hn0 hl0=>?_) hq
 clear sl hq h Q v;have ht:=zt;have hpos:=g.pos;have hlen:=g.len;have hlg:=g.lg;have hp:=g.pts;have hpw:=xD g.lg;have hpc:((2^log:Nat):Int)=2^log:=by simp
 show RF P zA 173 [.agg [.int .i64 log,v0]] h0 _;refine yD zZf rfl rfl z1m (yv s0 ⟨by omega,?_⟩);rintro p0 h1 rfl e1;have w1:=(Vw.nil (S:=zR) (h:=h0)).new e1 (by omega);have t1:=w1.top;refine⟨_,w1.ld1 0 rfl zb rfl rfl,λc=>by omega,λ_=>⟨_,w1.ld1 0 rfl zb rfl rfl,λc=>by omega,λ_=>Has.nil.on λtm hs=>?_⟩⟩
 refine wpS.av hs zTN rfl rfl ?_;rw[xf];have s1:=s0.ext w1.ex0;refine⟨v0,w1.ld1 0 rfl zO rfl rfl,_,s1.len zO rfl,⟨by omega,by have:=w1.low;omega⟩,λc=>by omega,λ_=>⟨λc=>by omega,λ_=>?_⟩⟩
 rw[xf];have hlast:l[l.length-1]? = some l[l.length-1]:=oO (by omega);obtain⟨b,o,a1,a2⟩:=s1.at1 (u:=.int .i64 l[l.length-1]) (i:=l.length-1) (by omega) zO rfl zb rfl rfl (by rw[oW,hlast];rfl);have hne:l[l.length-1]≠0:=λe=>g.last (by rw[List.getLast?_eq_getElem?,hlast,e])
 refine⟨v0,w1.ld1 0 rfl zO rfl rfl,b,o,?_,_,a2,λc=>absurd c hne,λ_=>?_⟩
 ·rw[zD (by omega) (by omega),show((l.length:Nat):Int)-1=((l.length-1:Nat):Int)by omega];exact a1
 rw[xf];have sT:Sl (zM h1) v0 1 l.length (zJ l):=s1;refine⟨v0,w1.ld1 0 rfl zO rfl rfl,zHR sT (by omega) hpos g.low λx hx=>⟨x,rfl,(show h1.nx<=T.top by omega),?_⟩⟩
 intro h16 e16;have hx2:=yE (h:=h1) (by omega) (by have:=w1.low;omega);rw[hx2.2]at e16;subst h16;refine⟨λc=>by omega,λ_=>⟨_,_,w1.ldA 0 rfl yr rfl rfl,?_⟩⟩
 refine zLB sT (by omega) g.low (by omega) (show h1.nx+2<=T.top by omega) λh20 x20=>⟨_,rfl,?_⟩
 have xd:=Ext.drawn x20 (by omega);have t20:=x20.top;refine⟨⟨xd.1,(show h20.nx<=T.top by have:(zM h1).nx=h1.nx:=rfl;omega)⟩,?_⟩;intro h22 e22;rw[<-e22]at xd;have w2:=w1.ext xd.2;rw[qM];refine⟨_,w2.ld1 0 rfl zb rfl rfl,((1*2^log:Nat):Int),yC (a:=1) (by omega) (by omega),λc=>absurd ?_ c,λ_=>hs.on λtm2 hs2=>?_⟩
 ·rw[hp,Nat.one_mul,hpc]
 ·exact endW.r1 (hs2.get rfl) rfl
theorem zJM {log:Nat}(hl:log=5\/log=6) {h:H}{Q:V->H->Prop}(hq:Q (.int .i64 (stp log:Nat)) h):RF P zA 324 [.int .i64 log] h Q:=by
 have hp:=xD hl;refine yD z0u rfl rfl z3B ⟨((1*2^log:Nat):Int),yC (a:=1) (by omega) (by omega),((1*2^log/2^1:Nat):Int),q8 (n:=1) (by decide),((1*2^log/2^3:Nat):Int),q8 (n:=3) (by decide),?_⟩;have e:zH (zH (((1*2^log/2^1:Nat):Int)+((1*2^log/2^3:Nat):Int))+3)=((stp log:Nat):Int):=by
  rw[Nat.one_mul];unfold stp;rw[zD (n:=((2^log/2^1:Nat):Int)+((2^log/2^3:Nat):Int)) (by omega) (by omega),zD (by omega) (by omega)];omega
 rw[e];exact hq
theorem zFv {k:V->H->Prop}(hk:k (.bool true) h):qZ zA 4 k (.bool true) h:=⟨true,rfl,λ_=>hk,λg=>(by cases g)⟩
theorem Xn {k:Bool->Prop}(hk:k false):zAv .not (.bool true) (λv=>xJ v k):=hk
theorem z39 (i:Nat):zc i .normal = .normal:=rfl
theorem thenC.left2 {i j:Nat}{K I:St->Prop}{R:AX->St->Prop}{s:St}(h:K s):thenC I (λe s1=>(λe s1=>(λe s1=>thenC K R (zc j e) s1) (zc i e) s1) e s1) (.exit i) s:=by
 show thenC K R (zc j (zc i (.exit i))) s;rw[xB];exact h
theorem thenC.out2 {i j:Nat}{K:St->Prop}{R:AX->St->Prop}{s:St}(h:K s):thenC K R (zc j (zc i (.exit i))) s:=by
 rw[xB];exact h
abbrev oLp (tm:Tm) (df:Nat):O:=.loop .ready none 26 tm #[19,20] Yh Z7 df
abbrev zR1 (tm:Tm) (df:Nat):O:=.loop .busy none 26 tm #[19,20] Yh Z7 df
abbrev jS (v:V):O:=.cells (.ls [v]) ⟨0,23+1,0⟩ true false
theorem xC (l:List Int) (j:Nat) (x:Int):zJ (l.set j x)=(zJ l).set j (.int .i64 x):=by simp[zJ,List.map_set]
theorem jQ (n:Nat):zJ (List.replicate n 0)=List.replicate n (.int .i64 0):=by simp[zJ]
structure SpI (hb h:H) (c r l df pc p12 b p0 n:Nat) (tm:Tm) (dc:O) (f:Int->Option V) (xs:List Int):Prop where
 vw:∃o cs,Vw zR hb h c [(r,o),(l,oLp tm df),(df,.deferred true),(pc,dc),(p12,jS (.slice b 0 n (.exact n))),(b,xn cs),(p0,dc)]/\Row cs n (zJ xs)
 mp:MapI h r f
theorem SpI.round {hb h:H}{c r l df pc p12 b p0 n:Nat}{tm:Tm}{dc:O}{f:Int->Option V}{xs:List Int}{j:Nat}{s:Int}(i:SpI hb h c r l df pc p12 b p0 n tm dc f xs) (ht:Has tm [(5,.ptr p12 0)]) (hj:j<n) (hn:h.nx<=T.top)
  (hq:∀h',SpI hb h' c r l df pc p12 b p0 n tm dc f (xs.set j s)->h'.nx=h.nx->Q (.bool true) h'):RR P l [.int .i64 j,.int .i64 s] h Q:=by
 obtain⟨⟨o,cs,w,row⟩,mp⟩:=i;have hl:l<T.top:=oI (w.lt 1 rfl) hn;refine RR.intro hl (w.get 1 rfl) rfl (RC.of_wp kJ Yh ?_);refine wpC.sealS zSH (ht.on λtm1 hs1=>?_);refine⟨rfl,_,_,_,_,_,_,_,w.get 1 rfl,RC.of_wp kJ Z7 ?_⟩;have w1:=w.upd 1 (o':=zR1 tm df) rfl hn;show wpC P zA true (wq Z7) ⟨26,tm1,[],h.upd l (some (zR1 tm df))⟩ _;have n1:(h.upd l (some (zR1 tm df))).nx=h.nx:=rfl;generalize h.upd l (some (zR1 tm df))=h1 at w1 n1 ⊢;obtain⟨h2,cs2,e2,row2,w2,n2⟩:=w1.set (cx:=zA) 5 (j:=j) (u:=.int .i64 s) row rfl (by omega) hj zb rfl rfl rfl rfl;refine wpC.av hs1 zSM rfl rfl ⟨_,w1.ld1 4 rfl zO rfl rfl,b,j,yb zO rfl zb rfl hj,h2,e2,hs1.on λtm2 hs2=>?_⟩
 have g2:=w2.get 1 rfl;show(match jf l .normal ⟨26,tm2,[],h2⟩with|some (.ret v h')=>Q v h'|_=>False)
 simp only[jf,g2];have w3:=w2.upd 1 (o':=oLp tm df) rfl (by omega);refine hq _ ⟨⟨o,cs2,w3,by rw[xC];exact row2⟩,mp.mono ((w3.get 0 rfl).trans (w.get 0 rfl).symm)⟩ ?_;show h2.nx=h.nx;omega
def tkn (size n:Nat):Int->Option V:=λk=>if (n:Int)<=k/\k<size then some (.bool true) else none
theorem zP4 (size:Nat):tkn size size=λ_=>none:=by
 funext k
 unfold tkn;rw[if_neg (by omega)]
theorem zP3 {size n:Nat}(h:n<=size) (h0:0<n):(λj=>if j=((n-1:Nat):Int) then some (.bool true) else tkn size n j)=tkn size (n-1):=by
 funext k
 unfold tkn;by_cases c:k=((n-1:Nat):Int)
 ·rw[if_pos c,if_pos (by omega)]
 ·rw[if_neg c]
  by_cases c2:(n:Int)<=k/\k<size
  ·rw[if_pos c2,if_pos (by omega)]
  ·rw[if_neg c2,if_neg (by omega)]
theorem SpI.taken {hb h:H}{c r l df pc p12 b p0 n size m:Nat}{tm:Tm}{dc:O}{xs:List Int}{p:Nat}(i:SpI hb h c r l df pc p12 b p0 n tm dc (tkn size m) xs) (hp:p<size) :
  ZH zA 377 h (.map r) (.int .i64 p) false=some (.bool (decide (m<=p))):=by
 rw[i.mp.look zVR rfl zb rfl ty4 rfl];unfold tkn;by_cases c:m<=p
 ·rw[if_pos (by omega),decide_eq_true c];rfl
 ·rw[if_neg (by omega),decide_eq_false c];rfl
theorem SpI.top {hb h:H}{c r l df pc p12 b p0 n:Nat}{tm:Tm}{dc:O}{f:Int->Option V}{xs:List Int}(i:SpI hb h c r l df pc p12 b p0 n tm dc f xs):h.nx<=hb.nx+c:=by
 obtain⟨⟨o,cs,w,row⟩,mp⟩:=i;exact w.top
theorem SpI.ex {hb h:H}{c r l df pc p12 b p0 n:Nat}{tm:Tm}{dc:O}{f:Int->Option V}{xs:List Int}(i:SpI hb h c r l df pc p12 b p0 n tm dc f xs):Ext hb h c:=by
 obtain⟨⟨o,cs,w,row⟩,mp⟩:=i;exact w.ex0
theorem zIQ {log p:Nat}(hl:log=5\/log=6) (hp:p<2^log):zn .and .i64 (zH ((p:Int)+(stp log:Nat))) (zH (((2^log:Nat):Int)-1))=some (.int .i64 (((p+stp log) % 2^log:Nat):Int)):=by
 have h1:=xD hl;have h2:stp log<=2^log+3:=by unfold stp;omega
 rw[zD (n:=(p:Int)+(stp log:Nat)) (by omega) (by omega),zD (by omega) (by omega),show((2^log:Nat):Int)-1=((2^log-1:Nat):Int)by omega,show(p:Int)+(stp log:Nat)=((p+stp log:Nat):Int)from rfl,ZU (by omega) (by omega),qD]
theorem zUX {hb h:H}{c r l df pc p12 b p0 n m log:Nat}{tm0:Tm}{v:V}{xs:List Int}{f p tgt:Nat}{tm:Tm}{R:AX->St->Prop}{y0 x47 x46 x9 x40 x39 x38:V}(hl:log=5\/log=6) (i:SpI hb h c r l df pc p12 b p0 n tm0 (oD log v) (tkn (2^log) (2^log-m)) xs) (hp:p<2^log) (hx:nxt log m f p=tgt) (ht:tgt<2^log-m)
  (hs:Has tm [(4,.map r),(8,.int .i64 p),(1,.ptr pc 0),(3,.int .i64 (2^log:Nat)),(0,y0),(47,x47),(46,x46),(9,x9),(40,x40),(39,x39),(38,x38)])
  (hq:∀tm',Has tm' [(4,.map r),(8,.int .i64 tgt),(1,.ptr pc 0),(3,.int .i64 (2^log:Nat)),(0,y0),(47,x47),(46,x46),(9,x9),(40,x40),(39,x39),(38,x38)]->R (.exit 6) ⟨75,tm',[],h⟩) :
  wpC P zA false (.loop zHI) ⟨75,tm,[],h⟩ R:=by
 refine wpC.round (λk tm h'=>h'=h/\∃p,p<2^log/\nxt log m k p=tgt/\Has tm [(4,.map r),(8,.int .i64 p),(1,.ptr pc 0),(3,.int .i64 (2^log:Nat)),(0,y0),(47,x47),(46,x46),(9,x9),(40,x40),(39,x39),(38,x38)]) f ⟨rfl,p,hp,hx,hs⟩ ?_
 clear hs hp hx;rintro k tm h' ⟨rfl,p,hp,hx,hs⟩;refine wpC.av hs zSn rfl rfl ⟨_,i.taken hp,λc=>?_,λc=>hs.on λtm' hs'=>?_⟩
 ·have c:=of_decide_eq_true c
  cases k with
  | zero=>have:p=tgt:=hx;omega
  | succ k =>
   unfold nxt at hx;rw[if_neg (by omega)]at hx;obtain⟨⟨o,cs,w,row⟩,mp⟩:=i;rw[qM];refine⟨_,w.ld1 3 rfl zb rfl rfl,zJM hl ⟨_,rfl,_,zIQ hl hp,hs.on λtm' hs'=>⟨rfl,rfl,k,oc k,rfl,(p+stp log) % 2^log,Nat.mod_lt _ (Nat.pow_pos (by decide)),hx,hs'.sub rfl⟩⟩⟩
 ·have c:=of_decide_eq_false c
  have:p=tgt:=by
   cases k with
   | zero=>exact hx
   | succ k =>
    unfold nxt at hx;rw[if_pos (by omega)]at hx;exact hx
  subst this;exact hq tm' (hs'.sub rfl)
theorem kD {l:List Int}{i:Nat}(hi:i<l.length):l.drop i=l[i]::l.drop (i+1):=List.drop_eq_getElem_cons hi
theorem zHT {l:List Int}{i:Nat}(hi:i<l.length):yf (l.drop i)=(if l[i] = -1 then 1 else 0)+yf (l.drop (i+1)):=by rw[kD hi,kR]
theorem zK9 {hb h:H}{c l df pc p12 b p0 log:Nat}{tm0:Tm}{v:V}{probs:List Int}{cs:Cs}{Q:V->H->Prop}(g:GD log probs) (t5:Has tm0 [(5,.ptr p12 0)])
  (w:Vw zR hb h c [(l,oLp tm0 df),(df,.deferred true),(pc,oD log v),(p12,jS (.slice b 0 (2^log) (.exact (2^log)))),(b,xn cs),(p0,oD log v)])
  (row:Row cs (2^log) (zJ (List.replicate (2^log) 0))) (sl:Sl hb v 1 probs.length (zJ probs)) (hn:h.nx+1<=T.top)
  (hq:∀h' r f,SpI hb h' (c+1) r l df pc p12 b p0 (2^log) tm0 (oD log v) f (yi log probs)->Q (.tuple []) h'):RF P zA 323 [.yield l,.ptr pc 0] h Q:=by
 have hl:=g.lg;have hlen:=g.len;have hpw:=xD g.lg;have hcells:=g.cells;have hr12:yf probs<=12:=oQ (zAP probs) g.len;refine yD z0t rfl rfl z3A ?_;rw[qM];obtain⟨h5,e5⟩:∃h5,h5=h.new (.map [] 0):=⟨_,rfl⟩;have w5:=w.new e5 (by omega);have m5:MapI h5 h.nx (λ_=>none):=by rw[e5];exact MapI.new (by omega)
 have t5':=w5.top;refine⟨_,w.ld1 2 rfl zb rfl rfl,((1*2^log:Nat):Int),yC (a:=1) (by omega) (by omega),.map h.nx,h5,by rw[e5];exact KF rfl (by omega),?_⟩;rw[xf];have e1:zH (((1*2^log:Nat):Int)-1)=((2^log:Nat):Int)-1:=by rw[zD (by omega) (by omega)];omega
 rw[e1,Nat.one_mul];refine⟨_,w5.ld1 3 rfl zO rfl rfl,_,(sl.ext w5.ex0).len zO rfl,Has.nil.on λtm hs=>?_⟩
 have ix:SpI hb h5 (c+1) h.nx l df pc p12 b p0 (2^log) tm0 (oD log v) (tkn (2^log) (2^log)) (List.replicate (2^log) 0):=⟨⟨_,cs,w5,row⟩,by rw[zP4];exact m5⟩;have n5:h5.nx<=T.top:=by rw[e5,zG];omega
 clear w5 m5 e5 t5';generalize h.nx=r at hs ix n5;refine wpC.round (λk tm h'=>∃(i n:Nat) (xs:List Int),i<=probs.length/\k=probs.length-i/\h'.nx=h5.nx/\SpI hb h' (c+1) r l df pc p12 b p0 (2^log) tm0 (oD log v) (tkn (2^log) n) xs /\
  Y0 (probs.drop i) i n xs=Y0 probs 0 (2^log) (List.replicate (2^log) 0)/\n+yf probs=2^log+yf (probs.drop i)/\n<=2^log /\
  Has tm [(20,.int .i64 i),(19,.int .i64 probs.length),(18,v),(4,.map r),(5,.int .i64 ((n:Int)-1)),(0,.yield l),(1,.ptr pc 0),(3,.int .i64 (2^log:Nat))]) probs.length
  ⟨0,2^log,_,by omega,by omega,rfl,ix,rfl,rfl,oP _,hs.sub rfl⟩ ?_
 clear hs ix;rintro k tm h' ⟨i,n,xs,hi1,rfl,hnx,ix,hR,hN,hnl,hs⟩;have slk:=sl.ext ix.ex;refine wpC.av hs zSm rfl rfl ⟨λc1=>?_,λc1=>hs.on λtm' hs'=>?_⟩
 ·have hi:i<probs.length:=by omega
  have hd:=kD hi;have hnr:=zHT hi;obtain⟨pb,po,a1,a2⟩:=slk.at1 (u:=.int .i64 probs[i]) hi zO rfl zb rfl rfl (by rw[oW,oO hi];rfl);have e:zH ((i:Int)+1)=((i+1:Nat):Int):=by rw[zD (by omega) (by omega)];rfl
  refine⟨pb,po,a1,_,a2,λc2=>?_,λc2=>hs.on λtm' hs'=>?_⟩
  ·rw[if_pos c2]at hnr
   have hn1:1<=n:=by omega
   have en:(n:Int)-1=((n-1:Nat):Int):=by omega
   obtain⟨⟨o,cs',w',row'⟩,mp⟩:=ix;have hrt:r<T.top:=oI (w'.lt 0 rfl) (by omega);obtain⟨es,ck,eu,mu⟩:=mp.upd (c:=zA) zVR rfl zb rfl hrt ((n-1:Nat):Int) (.bool true);rw[zP3 hnl (by omega)]at mu;have w2:=w'.upd 0 (o':=.map es ck) rfl (by omega);rw[en];refine⟨_,eu,?_⟩;have n2:(h'.upd r (some (.map es ck))).nx=h'.nx:=rfl;generalize h'.upd r (some (.map es ck))=h2 at w2 mu n2 ⊢;have i2:SpI hb h2 (c+1) r l df pc p12 b p0 (2^log) tm0 (oD log v) (tkn (2^log) (n-1)) xs:=⟨⟨_,cs',w2,row'⟩,mu⟩;show RR P l [.int .i64 ((n-1:Nat):Int),.int .i64 (i:Nat)] h2 _;refine i2.round (s:=(i:Int)) t5 (by omega) (by omega) λh3 i3 n3=>zFv (Xn ?_)
   refine hs.on λtm' hs'=>⟨rfl,rfl,probs.length-(i+1),by omega,i+1,n-1,_,by omega,rfl,(show h3.nx=h5.nx by omega),i3,?_,by omega,by omega,?_⟩
   ·rw[<-hR,hd]
    exact(if_pos c2).symm
   ·have e2:zH ((n:Int)-1-1)=((n-1:Nat):Int)-1:=by rw[zD (by omega) (by omega)];omega
    have q:=hs'.sub (l':=[(20,.int .i64 (zH ((i:Int)+1))),(19,.int .i64 probs.length),(18,v),(4,.map r),(5,.int .i64 (zH (((n-1:Nat):Int)-1))),(0,.yield l),(1,.ptr pc 0),(3,.int .i64 (2^log:Nat))]) rfl;rw[e,<-en,e2]at q;exact q
  ·rw[if_neg c2]at hnr
   refine⟨rfl,rfl,probs.length-(i+1),by omega,i+1,n,xs,by omega,rfl,hnx,ix,?_,by omega,hnl,?_⟩
   ·rw[<-hR,hd]
    exact(if_neg c2).symm
   ·rw[<-e];exact hs'.sub (by kernel_rfl)
 have hi:i=probs.length:=by omega
 subst hi;rw[List.drop_length]at hR hN;have hn9:n=2^log-yf probs:=by have:yf []=0:=rfl;omega
 subst hn9;have hx0:xs=Y0 probs 0 (2^log) (List.replicate (2^log) 0):=hR;subst hx0;refine thenC.left (wpS.av hs' zUH rfl rfl ?_);rw[xf];obtain⟨⟨o,cs',w',row'⟩,mp⟩:=ix;refine⟨_,w'.ld1 3 rfl zO rfl rfl,_,slk.len zO rfl,hs'.on λtm2 hs2=>?_⟩
 have ix:SpI hb h' (c+1) r l df pc p12 b p0 (2^log) tm0 (oD log v) (tkn (2^log) (2^log-yf probs)) (Y0 probs 0 (2^log) (List.replicate (2^log) 0)):=⟨⟨o,cs',w',row'⟩,mp⟩;refine wpC.round (λk tm h'=>∃(i n:Nat) (xs:List Int),i<=probs.length/\k=probs.length-i/\h'.nx=h5.nx/\SpI hb h' (c+1) r l df pc p12 b p0 (2^log) tm0 (oD log v) (tkn (2^log) (2^log-yf probs)) xs /\
  XH log (yf probs) (probs.drop i) i n xs=yi log probs /\
  Has tm [(40,.int .i64 i),(39,.int .i64 probs.length),(38,v),(4,.map r),(8,.int .i64 (KR log (yf probs) n:Nat)),(0,.yield l),(1,.ptr pc 0),(3,.int .i64 (2^log:Nat))]) probs.length
  ⟨0,0,_,by omega,by omega,hnx,ix,rfl,hs2.sub rfl⟩ ?_
 clear hs hs2 hs' ix w' mp row' hR hN hnl slk hnx;rintro k tm h' ⟨i,n,xs,hi1,rfl,hnx,ix,hR,hs⟩;have slk:=sl.ext ix.ex;refine wpC.av hs zSp rfl rfl ⟨λc1=>?_,λc1=>hs.on λtm' hs'=>?_⟩
 rotate_left
 ·have hi:i=probs.length:=by omega
  subst hi;rw[List.drop_length]at hR;have hx:xs=yi log probs:=hR;subst hx;show zy zBC (endW zA ⟨75,[],Kj⟩ Q) (zc 2 (.exit 2)) _;rw[xB];exact hs'.slt λtm3 _=>hq h' _ _ ix
 have hi:i<probs.length:=by omega
 have hd:=kD hi;obtain⟨pb,po,a1,a2⟩:=slk.at1 (u:=.int .i64 probs[i]) hi zO rfl zb rfl rfl (by rw[oW,oO hi];rfl);have e:zH ((i:Int)+1)=((i+1:Nat):Int):=by rw[zD (by omega) (by omega)];rfl
 have hb64:=zDU g.low (oS hi);rw[g.pts]at hb64;have hpc:((2^log:Nat):Int)=2^log:=by simp
 rw[hd]at hR;unfold XH at hR;generalize probs[i]=x at a2 hR hb64;have ex:max x 0=((x.toNat:Nat):Int):=by omega
 refine⟨pb,po,a1,x,a2,hs.on λtm' hs'=>?_⟩
 rw[ex]at hs';refine wpC.round (λk tm h'=>∃(j:Nat) (xs1:List Int),j<=x.toNat/\k=x.toNat-j/\h'.nx=h5.nx/\SpI hb h' (c+1) r l df pc p12 b p0 (2^log) tm0 (oD log v) (tkn (2^log) (2^log-yf probs)) xs1 /\
  Xx log (yf probs) i (x.toNat-j) (n+j) xs1=Xx log (yf probs) i x.toNat n xs /\
  Has tm [(47,.int .i64 j),(46,.int .i64 x.toNat),(9,.int .i64 i),(40,.int .i64 i),(39,.int .i64 probs.length),(38,v),(4,.map r),(8,.int .i64 (KR log (yf probs) (n+j):Nat)),(0,.yield l),(1,.ptr pc 0),(3,.int .i64 (2^log:Nat))]) x.toNat
  ⟨0,xs,by omega,by omega,hnx,ix,rfl,hs'.sub rfl⟩ ?_
 clear hs hs' ix slk a2 hnx;rintro k tm h' ⟨j,xs1,hj1,rfl,hnx,ix,hP,hs⟩;refine wpC.av hs zSo rfl rfl ⟨λc1=>?_,λc1=>hs.on λtm' hs'=>?_⟩
 ·have hj:j<x.toNat:=by omega
  have hpl:=Jd hl hr12 (n+j);have e2:zH ((j:Int)+1)=((j+1:Nat):Int):=by rw[zD (by omega) (by omega)];rfl
  show RR P l [.int .i64 (KR log (yf probs) (n+j):Nat),.int .i64 (i:Nat)] h' _;refine ix.round (s:=(i:Int)) t5 (by omega) (by omega) λh3 i3 n3=>zFv (Xn ?_)
  show zS zA 59 0 h3 (.ptr pc 0) _;rw[qM];have i3':=i3;obtain⟨⟨o,cs',w',row'⟩,mp⟩:=i3;refine⟨_,w'.ld1 3 rfl zb rfl rfl,zJM hl ⟨_,rfl,_,zIQ hl (by omega),hs.on λtm' hs'=>?_⟩⟩
  refine zUX (f:=13) (tgt:=KR log (yf probs) (n+(j+1))) hl i3' (Nat.mod_lt _ (Nat.pow_pos (by decide))) rfl (Jd hl hr12 _) (hs'.sub rfl) λtm2 hs2=>?_
  refine thenC.out2 ?_;refine wpS.av hs2 zUF rfl rfl (hs2.on λtm3 hs3=>hs3.slt λtm4 hs4=>⟨rfl,rfl,x.toNat-(j+1),by omega,j+1,_,by omega,rfl,(show h3.nx=h5.nx by omega),i3',?_,?_⟩)
  ·rw[<-hP,show x.toNat-j=(x.toNat-(j+1))+1 by omega]
   rfl
  ·rw[<-e2];exact hs4.sub (by kernel_rfl)
 ·have hj:j=x.toNat:=by omega
  subst hj;rw[Nat.sub_self]at hP;have hx1:xs1=Xx log (yf probs) i x.toNat n xs:=hP;subst hx1;refine thenC.left2 ?_;refine wpS.av hs' zUG rfl rfl (hs'.on λtm3 hs3=>hs3.slt λtm4 hs4=>⟨rfl,rfl,probs.length-(i+1),by omega,i+1,n+x.toNat,_,by omega,rfl,hnx,ix,hR,?_⟩)
  rw[<-e];exact hs4.sub (by kernel_rfl)
theorem _root_.Go.Sim.exitB_nm (i:Nat):zc i .normal = .normal:=rfl
theorem K3 {v:V}{log:Nat}{l:List Int}(sl:Sl h v 1 l.length (zJ l)) (g:GD log l) (hn:h.nx+10<=T.top)
  (hq:∀h' v',Ext h h' 7->Sl h' v' 1 (2^log) (zJ (yi log l))->Q (.tuple [v',.int .i64 0]) h'):RF P zA 274 [.agg [.int .i64 log,v]] h Q:=by
 have hpw:=xD g.lg;have hlg:=g.lg;refine yD z0Y rfl rfl z24 (yv sl ⟨by omega,?_⟩);rintro p0 h1 rfl e1;have w1:=(Vw.nil (S:=zR) (h:=h)).new e1 (by omega);have t1:=w1.top;refine⟨_,_,w1.ldA 0 rfl yr rfl rfl,wG (sl.ext w1.ex0) g ⟨0,rfl,λc=>absurd rfl c,λ_=>⟨_,w1.ld1 0 rfl zb rfl rfl,((1*2^log:Nat):Int),yC (a:=1) (by omega) (by omega),?_⟩⟩⟩
 rw[Nat.one_mul];obtain⟨cs,e2,row⟩:=Row.make (cx:=zA) (k:=2^log) (h:=h1) zO rfl zb rfl rfl rfl (by omega) (by show 8*2^log<=_;omega) (by omega);obtain⟨h11,e11⟩:∃h11,h11=h1.new (xn cs):=⟨_,rfl⟩;rw[<-e11]at e2;have w11:=w1.new e11 (by omega);have t11:=w11.top;refine⟨_,h11,e2,rfl,by omega,?_⟩;rintro p12 h13 rfl e13;have w13:=w11.new e13 (by omega);have t13:=w13.top;obtain⟨h14,e14,w14,n14,_⟩:=w13.st (cx:=zA) 0 (f:=0) (u:=.slice h1.nx 0 (2^log) (.exact (2^log))) rfl (by omega) zO rfl (oJ _) rfl rfl;refine⟨h14,e14,_,_,w14.ldA 2 rfl yr rfl rfl,?_⟩;have sl14:=sl.ext w14.ex0;have t14:=w14.top;refine yD z0j rfl rfl z2q (yv sl14 ⟨by omega,?_⟩);rintro p18 h18 rfl e18;have w18:=w14.new e18 (by omega);have t18:=w18.top;refine⟨_,rfl,Has.nil.on λtm hs=>?_⟩
 refine RC.rangeFunc kJ (g:=323) (first:=[]) (captured:=[.ptr h14.nx 0]) (show zz tm (t 18)=_ from congrArg some (hs.get rfl)) (by show h18.nx+1<_;omega) ?_;show RF P zA 323 [.yield (h18.nx+1),.ptr h14.nx 0] ((h18.new (.deferred true)).new (oLp tm h18.nx)) _;obtain⟨h19,e19⟩:∃h19,h19=h18.new (.deferred true):=⟨_,rfl⟩;have w19:=w18.new e19 (by omega);have t19:=w19.top;have n19:h19.nx=h18.nx+1:=by rw[e19,zG]
 obtain⟨h20,e20⟩:∃h20,h20=h19.new (oLp tm h18.nx):=⟨_,rfl⟩;have w20:=w19.new e20 (by omega);have t20:=w20.top;rw[<-e19,<-e20,<-n19];refine zK9 g (hs.sub (by kernel_rfl)) w20 (by rw[jQ];exact row) sl (by omega) λh21 r f i=>?_
 have t21:=i.top;obtain⟨⟨o,cs2,w21,row2⟩,_⟩:=i;have gl:=w21.get 1 rfl;simp only[qX,gl];have w22:=w21.upd 1 (o':=.loop .exhausted none 26 tm #[19,20] Yh Z7 h18.nx) rfl (by omega);have n22:(h21.upd h19.nx (some (.loop .exhausted none 26 tm #[19,20] Yh Z7 h18.nx))).nx=h21.nx:=rfl;generalize h21.upd h19.nx (some (.loop .exhausted none 26 tm #[19,20] Yh Z7 h18.nx))=h22 at w22 n22 ⊢;show zJj false zHa ⟨26,tm,[.coll h18.nx],h22⟩ (endW zA ⟨26,[.tmp 2,.tmp 3],zCj⟩ Q);refine wpS.av hs zTj rfl rfl ?_;refine⟨_,w22.ld1 4 rfl zO rfl rfl,hs.on λtm2 hs2=>?_⟩
 show wpD [.coll h18.nx] h22 _;simp only[wpD,w22.get 2 rfl];have w23:=w22.upd 2 (o':=.deferred false) rfl (by omega);have n23:(h22.upd h18.nx (some (.deferred false))).nx=h22.nx:=rfl;generalize h22.upd h18.nx (some (.deferred false))=h23 at w23 n23 ⊢;show Q (.tuple [zi tm2 2,zi tm2 3]) h23;rw[hs2.get (t:=2) rfl,hs2.get (t:=3) rfl];exact hq h23 _ w23.ex0 (row2.sl (w23.lt 5 rfl) (w23.get 5 rfl))
abbrev Z0 (c:Cl):List V:=[.int .i64 c.1,.int .i64 (c.2.1:Nat),.int .i64 (c.2.2:Nat)]
def xm (l:List Cl):List V:=l.flatMap Z0
theorem zGq (l m:List Cl):xm (l++m)=xm l++xm m:=List.flatMap_append ..
theorem Oe:∀{l:List Cl}{i:Nat}{c:Cl},l[i]? = some c->∀j,j<3->(xm l)[i*3+j]? = (Z0 c)[j]?
 | [],_,_,h=>by cases h
 | d::l,0,c,h=>by
  cases h;intro j hj;show(Z0 d++xm l)[0*3+j]? = _;rw[Nat.zero_mul,Nat.zero_add,List.getElem?_append_left (by show j<3;exact hj)]
 | d::l,i+1,c,h=>by
  intro j hj;have:=Oe (l:=l) (i:=i) h j hj;show(Z0 d++xm l)[(i+1)*3+j]? = _;rw[List.getElem?_append_right (by show 3<=_;omega),<-this]
  congr 1
  show(i+1)*3+j-3=_;omega
theorem zKo {x:Int}(h : -1<=x) {hp:H}{Q:V->H->Prop}(hq:Q (.int .i64 (x.natAbs:Nat)) hp):RF P zA 277 [.int .i64 x] hp Q:=by
 refine yD z01 rfl rfl z27 ⟨λc=>?_,λc=>?_⟩
 ·have:x = -1:=by omega
  subst this;exact hq
 ·rwa [show((x.natAbs:Nat):Int)=x by omega]at hq
theorem zRb {v:V}{pd:Nat}{log:Int}{l:List Int}{s:Int}(hg:h.get pd=some (oD log v)) (sl:Sl h v 1 l.length (zJ l)) (hx:∀x∈l,-1<=x) (ho:Occ l s) (hq:Q (.int .i64 (kY l s:Nat)) h):RF P zA 276 [.int .i64 s,.ptr pd 0] h Q:=by
 obtain⟨n,rfl,p,hp,hne⟩:=ho;have hn:=(List.getElem?_eq_some_iff.1 hp).1;obtain⟨b,o,a1,a2⟩:=sl.at1 (u:=.int .i64 p) hn zO rfl zb rfl rfl (by rw[oW,hp];rfl);have e:kY l (n:Int)=p.natAbs:=by unfold kY;rw[oX,hp];rfl
 rw[e]at hq;refine yD z00 rfl rfl z26 ?_;rw[xf];exact⟨v,zX zO rfl hg rfl,b,o,a1,p,a2,zKo (hx p (List.mem_of_getElem? hp)) ⟨_,rfl,hq⟩⟩
theorem zJI {k:V->H->Prop}{x:Int}(hk:k (.int .i64 x) h):qZ zA 3 k (.int .i64 x) h:=⟨x,rfl,hk⟩
theorem zRu:∃cs,cond (zL (V.cells (.agg (List.replicate 1536 (.int .i64 (0:Int)))))) (Cs.ofL (V.cells (.agg (List.replicate 1536 (.int .i64 (0:Int)))))) none=some cs/\RowE cs 3 0 512 []:=by
 obtain⟨cs,h1,h2⟩:=Cs.ofL_some (l:=List.replicate 1536 (.int .i64 (0:Int))) (by rw[List.length_replicate];decide);obtain⟨h3,_⟩:=Cs.ofL_eq h1;have e1:V.cells (.agg (List.replicate 1536 (.int .i64 (0:Int))))=List.replicate 1536 (.int .i64 (0:Int)):=by kernel_rfl
 have e2:zL (List.replicate 1536 (.int .i64 (0:Int)))=true:=by kernel_rfl
 refine⟨cs,by rw[e1,e2,oK,h1],h2,by rw[h3,List.length_replicate],rfl,by decide,λi hi=>by omega⟩
theorem YU {cs:Cs}{r:Option Cs}{k:Cs->Prop}(e:r=some cs) (hk:k cs):wh r k:=by subst e;exact hk
theorem z1I {x:Nat}(h:1<=x):hi (x:Int)=((zQ x-1:Nat):Int):=by
 have:=jc x;have:=KP h;omega
theorem zEf {v vs:V}{log:Nat}{l:List Int}{pd:Nat}(g:GD log l) (hg:h.get pd=some (oD log v)) (hpd:pd<h.nx) (sl:Sl h v 1 l.length (zJ l)) (ss:Sl h vs 1 (2^log) (zJ (yi log l))) (hn:h.nx+70<=T.top)
  (hq:∀h' v',Ext h h' 66->Sl h' v' 3 (2^log) (xm (wo log l))->Q v' h'):RF P zA 275 [.int .i64 log,.func (.func 276) [] [.ptr pd 0],vs] h Q:=by
 have hpw:=xD g.lg;have hlg:=g.lg;obtain⟨cs0,er,row0⟩:=zRu;refine yD z0Z rfl rfl z25 (YU er ⟨by omega,?_⟩);rintro p0 h1 rfl e1;have w1:=(Vw.nil (S:=zR) (h:=h)).new e1 (by omega);have t1:=w1.top;have esl:zq zA 356 h1 (.ptr h.nx 0) none (some (.int .i64 (0:Int))) (some (.int .i64 (512:Int)))=some (.slice h.nx 0 0 (.exact 512)):=by kernel_rfl
 obtain⟨h5,e5⟩:∃h5,h5=h1.new (.map [] 0):=⟨_,rfl⟩;have w5:=w1.new e5 (by omega);have m5:MapI h5 h1.nx (λ_=>none):=by rw[e5];exact MapI.new (by omega)
 refine⟨_,esl,.map h1.nx,h5,by rw[e5];exact KF rfl (by omega),_,(ss.ext w5.ex0).len zO rfl,Has.nil.on λtm hs=>?_⟩
 have hdl:=On log l;refine wpC.round (λk tm h'=>∃(i:Nat) (nx:Int->Nat) (f:Int->Option V) (o:O) (cs:Cs),i<=2^log/\k=2^log-i/\Vw zR h h' (2+i) [(h1.nx,o),(h.nx,.cells cs ⟨0,356+1,0⟩ true false)]/\MapI h' h1.nx f/\RowE cs 3 i 512 (xm ((wo log l).take i)) /\
  zCo log nx ((yi log l).drop i)=(wo log l).drop i/\(∀s,f s=none/\nx s=kY l s\/f s=some (.int .i64 (nx s:Nat)))/\(∀s,kY l s<=nx s/\nx s<=2^log+i) /\
  Has tm [(20,.int .i64 i),(19,.int .i64 (2^log:Nat)),(18,vs),(9,.map h1.nx),(0,.int .i64 log),(8,.slice h.nx 0 i (.exact 512)),(1,.func (.func 276) [] [.ptr pd 0])]) (2^log)
  ⟨0,kY l,_,_,cs0,by omega,by omega,w5,m5,row0,rfl,λs=>.inl ⟨rfl,rfl⟩,λs=>⟨oP _,by have:=zIs g s;omega⟩,hs.sub (by kernel_rfl)⟩ ?_
 clear hs m5 w5 e5 h5;rintro k tm h' ⟨i,nx,f,o,cs,hi1,rfl,w,mp,row,hce,hf,hnx,hs⟩;have tw:=w.top;have ssk:=ss.ext w.ex0;refine wpC.av hs zS9 rfl rfl ⟨λc1=>?_,λc1=>hs.on λtm' hs'=>?_⟩
 rotate_left
 ·have hil:i=2^log:=by omega
  subst hil;rw[List.take_of_length_le (by omega)]at row;refine thenC.left (wpS.av hs' zTm rfl rfl (hs'.on λtm2 hs2=>endW.r1 (hs2.get rfl) ?_))
  exact hq h' _ (w.ex0.mono (by omega)) (row.sl (w.lt 1 rfl) (w.get 1 rfl))
 have hil:i<(yi log l).length:=by rw[Zs];omega
 have hsi:(yi log l)[i]? = some (yi log l)[i]:=oO hil;have hocc:=JH g hsi;obtain⟨pb,po,a1,a2⟩:=ssk.at1 (i:=i) (u:=.int .i64 (yi log l)[i]) (show i<2^log by omega) zO rfl zb rfl rfl (by rw[oW,hsi];rfl);have hcd:=hce;rw[List.drop_eq_getElem_cons hil]at hcd;unfold zCo at hcd;have hid:i<(wo log l).length:=by omega
 rw[List.drop_eq_getElem_cons hid]at hcd;obtain⟨hc1,hc2⟩:=List.cons.inj hcd;have htk:(wo log l).take (i+1)=(wo log l).take i++[cel log (yi log l)[i] (nx (yi log l)[i])]:=by
  rw[List.take_add_one,oO hid,<-hc1];rfl
 clear hcd hce hc1 hsi;generalize (yi log l)[i]=s at hocc a2 hc2 htk;have hx1:=zF4 hocc;have hxs:=hnx s;have hxf:=hf s;obtain⟨b1,b2,b3,b4,b5⟩:=zBd (log:=log) (x:=nx s) (by omega) (by rw[Nat.pow_succ];omega);have e:zH ((i:Int)+1)=((i+1:Nat):Int):=by rw[zD (by omega) (by omega)];rfl
 have go:∀(h2:H) (f2:Int->Option V) (o2:O) (tm2:Tm),Vw zR h h2 (2+i) [(h1.nx,o2),(h.nx,.cells cs ⟨0,356+1,0⟩ true false)]->MapI h2 h1.nx f2->f2 s=some (.int .i64 (nx s:Nat))->(∀s,f2 s=none/\nx s=kY l s\/f2 s=some (.int .i64 (nx s:Nat))) ->
   Has tm2 [(20,.int .i64 i),(19,.int .i64 (2^log:Nat)),(18,vs),(9,.map h1.nx),(0,.int .i64 log),(8,.slice h.nx 0 i (.exact 512)),(1,.func (.func 276) [] [.ptr pd 0]),(11,.int .i64 s)] ->
   ∀R:AX->St->Prop,(∀tm3 h3 f3 o3 cs3,Vw zR h h3 (2+(i+1)) [(h1.nx,o3),(h.nx,.cells cs3 ⟨0,356+1,0⟩ true false)]->MapI h3 h1.nx f3->RowE cs3 3 (i+1) 512 (xm ((wo log l).take (i+1)))->(∀j,f3 j=if j=s then some (.int .i64 (nx s+1:Nat)) else f2 j) ->
    Has tm3 [(20,.int .i64 i),(19,.int .i64 (2^log:Nat)),(18,vs),(9,.map h1.nx),(0,.int .i64 log),(8,.slice h.nx 0 (i+1) (.exact 512)),(1,.func (.func 276) [] [.ptr pd 0])]->R .normal ⟨64,tm3,[],h3⟩) ->
   Kd false zD8 ⟨64,tm2,[],h2⟩ R:=by
  intro h2 f2 o2 tm2 w2 m2 hf2 _ hs2 R hR;have hrt:h1.nx<T.top:=by omega
  have tw2:=w2.top;have lk:ZH zA 357 h2 (.map h1.nx) (.int .i64 s) false=some (.int .i64 (nx s:Nat)):=by
   rw[m2.look zJT rfl zb rfl zb rfl,hf2];rfl
  obtain⟨es,ck,eu,mu⟩:=m2.upd (c:=zA) zJT rfl zb rfl hrt s (.int .i64 (nx s+1:Nat));have ex1:zH (((nx s:Nat):Int)+1)=((nx s+1:Nat):Int):=by rw[zD (by omega) (by omega)];rfl
  have w3:=w2.upd 0 (o':=.map es ck) rfl (by omega);refine wpS.av hs2 zTk rfl rfl ⟨_,lk,_,lk,h2.upd h1.nx (some (.map es ck)),by rw[ex1];exact eu,?_⟩;have n3:(h2.upd h1.nx (some (.map es ck))).nx=h2.nx:=rfl;generalize h2.upd h1.nx (some (.map es ck))=h3 at w3 mu n3 ⊢;refine zDD (by omega) ⟨_,rfl,?_⟩;have eb:zH ((log:Int)-hi ((nx s:Nat):Int))=((wy log (nx s):Nat):Int):=by
   rw[z1I (by omega),zD (by omega) (by omega)];unfold wy;omega
  rw[eb];have e2p:2^(log+1)=2*2^log:=Nat.pow_succ';refine⟨((nx s*2^wy log (nx s):Nat):Int),by rw[zW (by omega)];exact yC (by omega) (by omega),((1*2^log:Nat):Int),by rw[zW (by omega)];exact yC (a:=1) (by omega) (by omega),?_⟩;have eba:zH (((nx s*2^wy log (nx s):Nat):Int)-((1*2^log:Nat):Int))=((zE5 log (nx s):Nat):Int):=by
   rw[zD (by omega) (by omega)];unfold zE5;omega
  rw[eba];obtain⟨v8,h9,e9,sl9,x9,_⟩:=j7 (c:=zA) (h:=h3) (u:=.agg (Z0 (cel log s (nx s)))) (ys:=Z0 (cel log s (nx s))) zGM rfl zJP rfl rfl rfl rfl (oE rfl) rfl (by omega);have w9:=w3.ext x9;have t9:=w9.top;obtain⟨h11,cs11,e11,row11,w11,n11⟩:=w9.app (cx:=zA) 1 rfl row sl9 (by decide) zGM rfl zJP rfl rfl (by omega) rfl (by omega);refine⟨v8,h9,e9,trivial,_,h11,e11,hs2.on λtm3 hs3=>hR tm3 h11 (λj=>if j=s then some (.int .i64 (nx s+1:Nat)) else f2 j) _ cs11 (w11.more (by omega)) (mu.mono ?_) ?_ (λ_=>rfl) (hs3.sub (by kernel_rfl))⟩
  ·exact(w11.get 0 rfl).trans (w3.get 0 rfl).symm
  ·rw[htk,zGq]
   have:xm [cel log s (nx s)]=Z0 (cel log s (nx s)):=by simp[xm]
   rw[this];exact row11
 have fin:∀(f2:Int->Option V) (h3:H) (f3:Int->Option V) (o3:O) (cs3:Cs) (tm3:Tm) (R:AX->St->Prop),(∀s,f2 s=none/\nx s=kY l s\/f2 s=some (.int .i64 (nx s:Nat)))->Vw zR h h3 (2+(i+1)) [(h1.nx,o3),(h.nx,.cells cs3 ⟨0,356+1,0⟩ true false)]->MapI h3 h1.nx f3->RowE cs3 3 (i+1) 512 (xm ((wo log l).take (i+1)))->(∀j,f3 j=if j=s then some (.int .i64 (nx s+1:Nat)) else f2 j) ->
   Has tm3 [(20,.int .i64 i),(19,.int .i64 (2^log:Nat)),(18,vs),(9,.map h1.nx),(0,.int .i64 log),(8,.slice h.nx 0 (i+1) (.exact 512)),(1,.func (.func 276) [] [.ptr pd 0])] ->
   (λe s1=>(thenC (λs1=>Kd false zD9 s1 (zy zBB (thenC (λs1=>s1.n=64/\s1.dfr=[]/\∃j,j<2^log-i/\∃(i:Nat) (nx:Int->Nat) (f:Int->Option V) (o:O) (cs:Cs),i<=2^log/\j=2^log-i/\Vw zR h s1.heap (2+i) [(h1.nx,o),(h.nx,.cells cs ⟨0,356+1,0⟩ true false)]/\MapI s1.heap h1.nx f/\RowE cs 3 i 512 (xm ((wo log l).take i)) /\
  zCo log nx ((yi log l).drop i)=(wo log l).drop i/\(∀s,f s=none/\nx s=kY l s\/f s=some (.int .i64 (nx s:Nat)))/\(∀s,kY l s<=nx s/\nx s<=2^log+i) /\
  Has s1.tm [(20,.int .i64 i),(19,.int .i64 (2^log:Nat)),(18,vs),(9,.map h1.nx),(0,.int .i64 log),(8,.slice h.nx 0 i (.exact 512)),(1,.func (.func 276) [] [.ptr pd 0])]) R))) (zy zBB (thenC (λs1=>s1.n=64/\s1.dfr=[]/\∃j,j<2^log-i/\∃(i:Nat) (nx:Int->Nat) (f:Int->Option V) (o:O) (cs:Cs),i<=2^log/\j=2^log-i/\Vw zR h s1.heap (2+i) [(h1.nx,o),(h.nx,.cells cs ⟨0,356+1,0⟩ true false)]/\MapI s1.heap h1.nx f/\RowE cs 3 i 512 (xm ((wo log l).take i)) /\
  zCo log nx ((yi log l).drop i)=(wo log l).drop i/\(∀s,f s=none/\nx s=kY l s\/f s=some (.int .i64 (nx s:Nat)))/\(∀s,kY l s<=nx s/\nx s<=2^log+i) /\
  Has s1.tm [(20,.int .i64 i),(19,.int .i64 (2^log:Nat)),(18,vs),(9,.map h1.nx),(0,.int .i64 log),(8,.slice h.nx 0 i (.exact 512)),(1,.func (.func 276) [] [.ptr pd 0])]) R))) (zc 1 e) s1) .normal ⟨64,tm3,[],h3⟩:=by
  intro f2 h3 f3 o3 cs3 tm3 R hf2 w3 m3 row3 hf3 hs3;refine thenC.nx (wpS.av hs3 zTl rfl rfl (hs3.on λtm4 hs4=>hs4.slt λtm5 hs5=>⟨rfl,rfl,2^log-(i+1),by omega,i+1,λj=>if j=s then nx s+1 else nx j,f3,o3,cs3,by omega,rfl,w3,m3,row3,hc2,λj=>?_,λj=>?_,?_⟩))
  ·rw[hf3]
   by_cases c:j=s
   ·right
    simp only[if_pos c]
   ·simp only[if_neg c]
    exact hf2 j
  ·have:=hnx j
   show kY l j<=(if j=s then nx s+1 else nx j)/\(if j=s then nx s+1 else nx j)<=_;by_cases c:j=s
   ·subst c
    rw[if_pos rfl];omega
   ·rw[if_neg c];omega
  ·rw[<-e];exact hs5.sub (by kernel_rfl)
 refine⟨pb,po,a1,s,a2,?_⟩;have lk:=mp.look (c:=zA) (t:=357) zJT rfl zb rfl zb rfl s true;rcases hxf with⟨hn0,hn1⟩|hn0
 ·rw[hn0]at lk
  refine⟨0,false,lk,λc=>(by cases c),λ_=>?_⟩
  show RF P zA 276 [.int .i64 s,.ptr pd 0] h' _;refine zRb ((w.ex0.get _ hpd).trans hg) (sl.ext w.ex0) g.low hocc (zJI ?_);obtain⟨es,ck,eu,mu⟩:=mp.upd (c:=zA) zJT rfl zb rfl (show h1.nx<T.top by omega) s (.int .i64 (kY l s:Nat));have w3:=w.upd 0 (o':=.map es ck) rfl (by omega);refine⟨_,eu,hs.on λtm2 hs2=>?_⟩
  have hf2:∀s',(λj=>if j=s then some (.int .i64 (kY l s:Nat)) else f j) s'=none/\nx s'=kY l s'\/(λj=>if j=s then some (V.int .i64 (kY l s:Nat)) else f j) s'=some (.int .i64 (nx s':Nat)):=λs'=>by
   by_cases c:s'=s
   ·subst c;right;simp only[if_true];rw[hn1]
   ·simp only[if_neg c];exact hf s'
  refine go _ _ _ tm2 w3 mu (by simp only[if_true];rw[hn1]) hf2 (hs2.sub (by kernel_rfl)) _ λtm3 h3 f3 o3 cs3 w4 m4 row4 hf4 hs4=>?_
  exact fin _ h3 f3 o3 cs3 tm3 _ hf2 w4 m4 row4 hf4 hs4
 ·rw[hn0]at lk
  refine⟨_,true,lk,λ_=>hs.on λtm2 hs2=>?_,λc=>(by cases c)⟩
  refine go _ _ _ tm2 w mp hn0 hf (hs2.sub (by kernel_rfl)) _ λtm3 h3 f3 o3 cs3 w4 m4 row4 hf4 hs4=>?_
  exact fin _ h3 f3 o3 cs3 tm3 _ hf w4 m4 row4 hf4 hs4
theorem zEe {v:V}{log:Nat}{l:List Int}(sl:Sl h v 1 l.length (zJ l)) (g:GD log l) (hn:h.nx+90<=T.top)
  (hq:∀h' v',Ext h h' 80->Sl h' v' 3 (2^log) (xm (wo log l))->Q (.tuple [v',.int .i64 0]) h'):RF P zA 214 [.agg [.int .i64 log,v]] h Q:=by
 refine yD zZt rfl rfl z2A (yv sl ⟨by omega,?_⟩);rintro p0 h1 rfl e1;have w1:=(Vw.nil (S:=zR) (h:=h)).new e1 (by omega);have t1:=w1.top;have s1:=sl.ext w1.ex0;refine⟨_,_,w1.ldA 0 rfl yr rfl rfl,wG s1 g ⟨0,rfl,λc=>absurd rfl c,λ_=>⟨_,_,w1.ldA 0 rfl yr rfl rfl,?_⟩⟩⟩
 refine K3 s1 g (by omega) λh11 v12 x11 s11=>⟨_,_,rfl,λc=>absurd rfl c,λ_=>?_⟩
 have w11:=w1.ext x11;have t11:=w11.top;refine⟨_,w11.ld1 0 rfl zb rfl rfl,zEf g (w11.get 0 rfl) (w11.lt 0 rfl) (sl.ext w11.ex0) s11 (by omega) λh16 v17 x16 s16=>⟨_,rfl,?_⟩⟩
 exact hq h16 v17 ((w11.ex0.trans x16).mono (by omega)) s16
abbrev oSt (s:List UInt8) (left:Nat) (v:V) (log:Nat):O:=.cells (.ls [.str s,.int .i64 left,v,.int .i64 log]) ⟨0,195+1,0⟩ true false
theorem zDt {v:V}{e n:Nat}{xs:List V}(sl:Sl h v e n xs) {s:List UInt8}{left log:Int}{k:Cs->Prop}(hk:k (.ls [.str s,.int .i64 left,v,.int .i64 log])) :
  xk zA 195 (yx zA 195 [(0,(.agg [(.str s),(.int .i64 left)])),(1,v),(2,(.int .i64 log))]) (λu=>wh (cond (zL (V.cells u)) (Cs.ofL (V.cells u)) none) k):=by
 have h2:qI zA 195=false:=by kernel_rfl
 have h1:yx zA 195 [(0,(.agg [(.str s),(.int .i64 left)])),(1,v),(2,(.int .i64 log))]=some (.agg [.str s,.int .i64 left,v,.int .i64 log]):=by
  obtain⟨_,⟨rfl,_⟩|⟨b,o,cp,cs,k,w,op,rfl,_⟩⟩:=sl
  ·kernel_rfl
  ·kernel_rfl
 unfold xk;rw[h1];simp only[h2];obtain⟨_,⟨rfl,_⟩|⟨b,o,cp,cs,k,w,op,rfl,_⟩⟩:=sl
 ·exact hk
 ·exact hk
theorem zKt {v:V}{log:Nat}{l:List Int}{s:List UInt8}(sl:Sl h v 1 l.length (zJ l)) (g:GD log l) (hs:s.length<=2000) (hn:h.nx+100<=T.top)
  (hbad:zp s<0->∀h',Ext h h' 2->Q (.tuple [.nilptr,.int .i64 22]) h')
  (hgood:¬zp s<0->∀h4 h' v',Ext h h4 90->Sl h4 v' 3 (2^log) (xm (wo log l))->Vw zR h4 h' 1 [(h4.nx,oSt s (zp s).toNat v' log)]->Q (.tuple [.ptr h4.nx 0,.int .i64 0]) h') :
  RF P zA 140 [.agg [.int .i64 log,v],.str s] h Q:=by
 refine yD zZ7 rfl rfl z1e (yv sl ⟨by omega,?_⟩);rintro p0 h1 rfl e1;have w1:=(Vw.nil (S:=zR) (h:=h)).new e1 (by omega);have t1:=w1.top;have s1:=sl.ext w1.ex0;refine⟨_,_,w1.ldA 0 rfl yr rfl rfl,wG s1 g ⟨0,rfl,λc=>absurd rfl c,λ_=>zPM hs ?_⟩⟩
 unfold rdB;by_cases c:zp s<0
 ·rw[if_pos c]
  refine⟨_,_,_,rfl,by omega,?_⟩;rintro p13 h14 rfl e14;have w14:=w1.new e14 (by omega);have t14:=w14.top;obtain⟨h15,e15,w15,n15,_⟩:=w14.st (cx:=zA) 0 (f:=0) (u:=.agg [.str [],.int .i64 0]) rfl (by omega) jI rfl (oJ _) rfl rfl;exact⟨h15,e15,λ_=>hbad c h15 w15.ex0,λg=>absurd (show(22:Int)≠0 by decide) g⟩
 ·rw[if_neg c]
  refine⟨_,_,_,rfl,by omega,?_⟩;rintro p13 h14 rfl e14;have w14:=w1.new e14 (by omega);have t14:=w14.top;obtain⟨h15,e15,w15,n15,_⟩:=w14.st (cx:=zA) 0 (f:=0) (u:=.agg [.str s,.int .i64 (zp s)]) rfl (by omega) jI rfl (oJ _) rfl rfl;refine⟨h15,e15,λg=>absurd rfl g,λ_=>⟨_,_,w15.ldA 1 rfl yr rfl rfl,zEe (sl.ext w15.ex0) g (by have:=w15.top;omega) λh19 v20 x19 s19=>?_⟩⟩
  have w19:=w15.ext x19;have t19:=w19.top;refine⟨_,_,rfl,_,_,w19.ldA 0 rfl jI rfl rfl,_,w19.ld1 1 rfl zb rfl rfl,zDt s19 ⟨by omega,?_⟩⟩;rintro p26 h27 rfl e27;have eB:zp s=((zp s).toNat:Nat):=by omega
  have w27:=(Vw.nil (S:=zR) (h:=h19)).new e27 (by omega);rw[eB]at w27;exact hgood c h19 h27 v20 (w19.ex0.mono (by omega)) s19 w27
theorem Ys {p o:Nat}{k:V->H->Prop}:zS zA 195 0 h (.ptr p o) k=k (.ptr p (o+0)) h:=by kernel_rfl
theorem Ov {p o:Nat}{k:V->H->Prop}:zS zA 195 1 h (.ptr p o) k=k (.ptr p (o+2)) h:=by kernel_rfl
theorem zM5 {p o:Nat}{k:V->H->Prop}:zS zA 120 1 h (.ptr p o) k=k (.ptr p (o+1)) h:=by kernel_rfl
theorem Yd {s:List UInt8}{p left log n:Nat}{v:V}(hg:h.get p=some (oSt s left v log)) (hp:p<h.nx) (hs:s.length<=2000) (hl:(left:Int)<=zp s) (hm:n<=32) (hn:h.nx+1<=T.top)
  (hq1:n<=left->∀h',ExtX (· = p) h h' 1->h'.get p=some (oSt s (left-n) v log)->Q (.tuple [.int .i64 (wQ s left n:Nat),.bool true]) h')
  (hq2:¬n<=left->∀h',ExtX (· = p) h h' 1->h'.get p=some (oSt s left v log)->Q (.tuple [.int .i64 0,.bool false]) h'):RF P zA 141 [.ptr p 0,.int .i64 n] h Q:=by
 have w:=Vw.one (S:=(· = p)) hg hp rfl;refine yD zZ8 rfl rfl z1f ⟨.ptr p 0,h,rfl,?_⟩;rw[Ys];refine⟨_,_,w.ldA 0 rfl jI rfl rfl,zP1 hs hl hm ?_⟩;have hb:=XX s left n;have hp32:2^n<=2^32:=Nat.pow_le_pow_right (by decide) hm;unfold tkB;by_cases c:n<=left
 ·rw[if_pos c]
  refine⟨_,_,_,_,rfl,by omega,?_⟩;rintro p12 h13 rfl e13;have w13:=w.new e13 (by omega);have t13:=w13.top;obtain⟨h14,e14,w14,n14,_⟩:=w13.st (cx:=zA) 0 (f:=0) (u:=.agg [.str s,.int .i64 ((left-n:Nat):Int)]) rfl (by omega) jI rfl (oJ _) rfl rfl;refine⟨h14,e14,λg=>absurd rfl g,λ_=>⟨_,_,w14.ldA 0 rfl jI rfl rfl,.ptr p 0,h14,rfl,?_⟩⟩
  rw[Ys];obtain⟨h21,e21,w21,n21,_⟩:=w14.st (cx:=zA) 1 (f:=0) (u:=.agg [.str s,.int .i64 ((left-n:Nat):Int)]) rfl (by omega) jI rfl (oJ _) rfl rfl;refine⟨h21,e21,?_⟩;rw[zD (by omega) (by omega)];exact hq1 c h21 w21.ex (w21.get 1 rfl)
 ·rw[if_neg c]
  refine⟨_,_,_,_,rfl,by omega,?_⟩;rintro p12 h13 rfl e13;have w13:=w.new e13 (by omega);have t13:=w13.top;obtain⟨h14,e14,w14,n14,_⟩:=w13.st (cx:=zA) 0 (f:=0) (u:=.agg [.str [],.int .i64 0]) rfl (by omega) jI rfl (oJ _) rfl rfl;exact⟨h14,e14,λ_=>hq2 c h14 w14.ex (w14.get 1 rfl),λg=>absurd (show(5:Int)≠0 by decide) g⟩
theorem _root_.Go.Sim.Sl.atA {cx:Ctx}{v:V}{esz n i:Nat}{xs ys:List V}(s:Sl h v esz n xs) (hi:i<n) {t e:Nat}{ti te:TI}(ht:cx.ty.get t=some ti) (hd:ti.desc = .slice e) (he:cx.ty.get e=some te) (hs:te.size=esz) (ha:jR te.desc=true) (h0:0<esz) (hy:ys.length=esz) (hu:∀j,j<esz->xs[i*esz+j]? = ys[j]?) :
  ∃b o,z7 cx t v (.int .i64 i)=some (.ptr b o)/\zK cx e h (.ptr b o)=some (.agg ys)/\∀f tf u,cx.ty.get f=some tf->jR tf.desc=false->∀j,j<esz->ys[j]? = some u->zK cx f h (.ptr b (o+j))=some u:=by
 obtain⟨b,o,h1,cs,k,w,op,hg,hc⟩:=s.at hi ht hd he hs;have hc2:∀j,j<esz->cs.get? (o+j)=ys[j]?:=λj hj=>(hc j hj).trans (hu j hj)
 refine⟨b,o,h1,zo he ha hg (by rw[hs];exact Cs.range_is h0 hy hc2),λf tf u hf hfa j hj hju=>zX hf hfa hg ?_⟩
 rw[hc2 j hj,hju]
abbrev zIt (x y:Int):O:=.cells (.ls [.int .i64 x,.int .i64 y]) ⟨0,126+1,0⟩ true false
theorem qB {p k:Nat}(hk:k<2):z7 zA 126 (.ptr p 0) (.int .i64 k)=some (.ptr p k):=by
 rcases k with _|_|k
 ·kernel_rfl
 ·kernel_rfl
 ·omega
def Yk (i a b:Nat):Nat×Nat:=if i % 2=0 then (a,b) else (b,a)
theorem zLy (i a b x:Nat):Yk (i+1) b x=if i % 2=0 then (x,(Yk i a b).2) else ((Yk i a b).1,x):=by
 unfold Yk;by_cases c:i % 2=0
 ·rw[if_neg (by omega),if_pos c,if_pos c]
 ·rw[if_pos (by omega),if_neg c,if_neg c]
theorem YD (x:Int) (hn:h.nx<T.top):∃v h',zF zA 23 1 [(0,.int .i64 x)] h=some (v,h')/\Sl h' v 1 1 [.int .i64 x]/\Ext h h' 1:=by
 obtain⟨v,h',e,s,x,_⟩:=j7 (c:=zA) (h:=h) (u:=.int .i64 x) (ys:=[.int .i64 x]) zO rfl zb rfl rfl rfl rfl (oE rfl) rfl hn;exact⟨v,h',e,s,x⟩
theorem _root_.Go.Sim.Sep.more {S:Nat->Prop}{b0:Nat}{l:List (Nat×O)}{v:V}(s:Sep S b0 l v) {p:Nat}{o:O}(h:∀b,zu v=some b->b<p):Sep S b0 ((p,o)::l) v:=λb hb=>⟨(s b hb).1,λq hq=>by
 rcases od.1 hq with rfl|hq
 ·exact Nat.ne_of_gt (h b hb)
 ·exact(s b hb).2 q hq⟩
theorem _root_.Go.Sim.Sep.less {S:Nat->Prop}{b0:Nat}{l l':List (Nat×O)}{v:V}(s:Sep S b0 l v) (h:∀q∈l',∃q'∈l,q'.1=q.1):Sep S b0 l' v:=λb hb=>⟨(s b hb).1,λq hq=>by
 obtain⟨q',h1,h2⟩:=h q hq;rw[<-h2];exact(s b hb).2 q' h1⟩
structure TwI (hb h:H) (c p9 ps:Nat) (s:List UInt8) (v8:V) (log left i a b:Nat) (v:V) (out:List Int):Prop where
 vw:Vw zR hb h c [(p9,zIt (Yk i a b).1 (Yk i a b).2),(ps,oSt s left v8 log)]
 ow:Ow h v yt out.length (zJ out)
 sp:Sep zR hb.nx [(p9,zIt (Yk i a b).1 (Yk i a b).2),(ps,oSt s left v8 log)] v
theorem zBe {cs:List Cl}{a:Nat}{c:Cl}(h:cs[a]? = some c) {hp:H}{v:V}{n:Nat}(sl:Sl hp v 3 n (xm cs)) (ha:a<n) :
  ∃b o,z7 zA 123 v (.int .i64 a)=some (.ptr b o)/\zK zA 131 hp (.ptr b o)=some (.agg (Z0 c))/\zK zA 3 hp (.ptr b (o+0))=some (.int .i64 c.1):=by
 obtain⟨b,o,h1,h2,h3⟩:=sl.atA (cx:=zA) (i:=a) ha zGM rfl zJP rfl rfl (by decide) (ys:=Z0 c) rfl (Oe h);exact⟨b,o,h1,h2,h3 _ _ _ zb rfl 0 (by decide) rfl⟩
theorem zQh (i a b:Nat):(Cs.ls [.int .i64 ((Yk i a b).1:Nat),.int .i64 ((Yk i a b).2:Nat)]).get? (i % 2)=some (.int .i64 a):=by
 unfold Yk;by_cases c:i % 2=0
 ·rw[c,if_pos rfl];rfl
 ·have:i % 2=1:=by omega
  rw[this,if_neg (by decide)];rfl
theorem zQi (i a b:Nat):(Cs.ls [.int .i64 ((Yk i a b).1:Nat),.int .i64 ((Yk i a b).2:Nat)]).get? (1-i % 2)=some (.int .i64 b):=by
 unfold Yk;by_cases c:i % 2=0
 ·rw[c,if_pos rfl];rfl
 ·have:i % 2=1:=by omega
  rw[this,if_neg (by decide)];rfl
theorem zQj (i a b x:Nat):(Cs.ls [.int .i64 ((Yk i a b).1:Nat),.int .i64 ((Yk i a b).2:Nat)]).put (i % 2) [.int .i64 x]=some (Cs.ls [.int .i64 ((Yk (i+1) b x).1:Nat),.int .i64 ((Yk (i+1) b x).2:Nat)]):=by
 rw[zLy];by_cases c:i % 2=0
 ·rw[c,if_pos rfl];rfl
 ·have:i % 2=1:=by omega
  rw[this,if_neg (by decide)];rfl
theorem zLZ {n:Nat}(h:n<9223372036854775808):zH (n:Int)=n:=zD (by omega) (by omega)
theorem zHv {hb h:H}{c0 p9 ps:Nat}{s:List UInt8}{v8:V}{log left a b:Nat}{l:List Int}{tm:Tm}{R:AX->St->Prop}(g:GD log l) (hs:s.length<=2000) (sl8:Sl hb v8 3 (2^log) (xm (wo log l))) (hl:(left:Int)<=zp s)
  (hab:a<2^log/\b<2^log) (I:TwI hb h c0 p9 ps s v8 log left 0 a b .nilslice []) (hn:hb.nx+c0+1100<=T.top) (hlow:hb.low<=T.top) (ht:Has tm [(6,.ptr ps 0),(13,.int .i64 0),(8,.ptr p9 0),(12,.nilslice)])
  (hex:∀tm' h' left' i' a' b' v' out',TwI hb h' (c0+1100) p9 ps s v8 log left' i' a' b' v' out'->(255<out'.length\/0<left'->two (wo log l) s 255 left a b []=none)->(¬(255<out'.length\/0<left')->two (wo log l) s 255 left a b []=some out') ->
   out'.length<=300->Has tm' [(6,.ptr ps 0),(12,v')]->R (.exit 2) ⟨105,tm',[],h'⟩):wpC P zA false (.loop zN9) ⟨105,tm,[],h⟩ R:=by
 generalize hR0:two (wo log l) s 255 left a b []=R0 at hex;have hpw:=xD g.lg;have hlg:=g.lg;have hbz:=XY s;refine wpC.round (λk tm h=>∃(i f left a b:Nat) (v:V) (out:List Int),k=256-i/\i+f=255/\out.length=i/\(left:Int)<=zp s/\a<2^log/\b<2^log/\TwI hb h (c0+4*i) p9 ps s v8 log left i a b v out/\two (wo log l) s f left a b out=R0 /\
  Has tm [(6,.ptr ps 0),(13,.int .i64 i),(8,.ptr p9 0),(12,v)]) 256 ⟨0,255,left,a,b,.nilslice,[],rfl,rfl,rfl,hl,hab.1,hab.2,I,hR0,ht.sub (by kernel_rfl)⟩ ?_
 clear I ht hR0 hl hab;rintro k tm h ⟨i,f,left,a,b,v,out,rfl,hif,hol,hl,ha,hb2,I,hR0,hs1⟩;obtain⟨w,ow,sp⟩:=I;have tw:=w.top;have lw:=w.low;have hle:=w.le;have hi2:i % 2<2:=Nat.mod_lt _ (by decide);obtain⟨c,hc⟩:∃c,(wo log l)[a]? = some c:=⟨_,oO (by rw[On];exact ha)⟩;have hcm:=List.mem_of_getElem? hc;obtain⟨_,hcb,hcs⟩:=Om g c hcm;have hsym:=Oo g hcm;obtain⟨b1,o1,a1,a2,_⟩:=zBe hc (sl8.ext w.ex0) ha;have e13:Int.tmod (i:Int) 2=((i % 2:Nat):Int):=rfl;have ei:zH ((i:Int)+1)=((i+1:Nat):Int):=by rw[zD (by omega) (by omega)];rfl
 have hlid:=yE (h:=h) (by omega) (by omega);refine wpC.av hs1 zXv rfl rfl ⟨⟨by omega,by omega⟩,.ptr ps 0,zM h,rfl,hlid.1,?_⟩;intro h2 e2;rw[hlid.2]at e2;subst h2;rw[Ov,e13];refine⟨v8,w.ld1 1 rfl zGM rfl rfl,by decide,p9,i % 2,qB hi2,a,w.ld1 0 rfl zb rfl (zQh i a b),b1,o1,a1,_,_,_,a2,by omega,?_⟩;rintro p14 h15 rfl e15;obtain⟨_,x15,_⟩:=zx e15 (by omega);have w15:=w.new e15 (by omega);have t15:=w15.top;obtain⟨h16,e16,w16,n16,k16⟩:=w15.st (cx:=zA) 0 (f:=0) (u:=.agg (Z0 c)) rfl (by omega) zJP rfl (oJ _) rfl rfl;have ow16:=(ow.ext x15).keep (h':=h16) (by omega) λb' hb'=>k16 b' (by have:=ow.blk hb';omega)
 have sp16:Sep zR hb.nx [(h.nx,.cells (.ls (Z0 c)) ⟨0,131+1,0⟩ true false),(p9,zIt (Yk i a b).1 (Yk i a b).2),(ps,oSt s left v8 log)] v:=sp.more λb' hb'=>ow.blk hb'
 obtain⟨v18,h19,e19,sl19,x19⟩:=YD (h:=h16) c.1 (by omega);have w19:=w16.ext x19;have t19:=w19.top;obtain⟨v20,h21,e21,A⟩:=Ow.append (c:=zA) (te:=yt) (m:=1) (ow16.ext x19) sl19 (by decide) zO rfl zb rfl rfl (by show(out.length+1)*1<=_;omega) (by show(out.length+1)*8<=_;omega) (by omega);obtain⟨w21,ow21,sp21⟩:=w19.grow (k:=(out++[c.1]).length) (xs:=zJ (out++[c.1])) sp16 (by rw[jd,oU];exact A);have t21:=w21.top;refine⟨h16,e16,_,w16.ld1 0 rfl zb rfl rfl,v18,h19,e19,trivial,v20,h21,e21,_,w21.ld1 0 rfl zb rfl rfl,?_⟩;refine Yd (n:=c.2.1) (w21.get 2 rfl) (w21.lt 2 rfl) hs hl (by omega) (by omega) (λc1 h24 x24 g24=>?_) (λc1 h24 x24 g24=>?_)
 · -- bits enough
  have w24:=w21.extX 2 rfl x24 g24;have t24:=w24.top;have ow24:=ow21.keep (h':=h24) x24.le λb' hb'=>x24.get _ (ow21.blk hb') λq=>(sp21 b' hb').2 _ (oH _ (oH _ (List.mem_cons_self ..))) q.symm
  have hbn:=XX s left c.2.1;have ex:zH (((c.2.2:Nat):Int)+((wQ s left c.2.1:Nat):Int))=((c.2.2+wQ s left c.2.1:Nat):Int):=zLZ (n:=c.2.2+wQ s left c.2.1) (by omega);obtain⟨h30,e30,w30,n30,k30⟩:=w24.st (cx:=zA) 1 (f:=i % 2) (u:=.int .i64 (c.2.2+wQ s left c.2.1:Nat)) rfl (by omega) zb rfl (oJ _) rfl (zQj i a b _);have ow30:=ow24.keep (h':=h30) (by omega) λb' hb'=>k30 b' λq=>(sp21 b' hb').2 _ (oH _ (List.mem_cons_self ..)) q.symm
  refine⟨_,true,rfl,λ_=>⟨by decide,_,w24.ld1 0 rfl zb rfl rfl,p9,i % 2,qB hi2,h30,by rw[ex];exact e30,_,ow30.sl.len zO rfl,λc2=>?_,λc2=>?_⟩,λg=>(by cases g)⟩
  ·have hf0:f=0:=by rw[oU]at c2;simp at c2;omega
   subst hf0;have hn:R0=none:=hR0.symm;refine hs1.on λtm' hs'=>hex tm' h30 (left-c.2.1) (i+1) b (c.2.2+wQ s left c.2.1) v20 (out++[c.1]) ⟨(w30.drop 1).more (by omega),ow30,?_⟩ (λ_=>hn) (λq=>absurd (.inl (by omega)) q) (by rw[oU];simp;omega) (hs'.sub (by kernel_rfl))
   exact sp21.less λq hq=>by
    simp only[od,List.not_mem_nil,or_false]at hq;rcases hq with rfl|rfl
    ·exact⟨_,oH _ (List.mem_cons_self ..),rfl⟩
    ·exact⟨_,oH _ (oH _ (List.mem_cons_self ..)),rfl⟩
  ·obtain⟨f,rfl⟩:∃f',f=f'+1:=⟨f-1,by rw[oU]at c2;simp at c2;omega⟩
   refine hs1.on λtm' hs'=>⟨rfl,rfl,256-(i+1),by omega,i+1,f,left-c.2.1,b,c.2.2+wQ s left c.2.1,v20,out++[c.1],rfl,by omega,by rw[oU];simp;omega,by omega,hb2,by omega,⟨(w30.drop 1).more (by omega),ow30,?_⟩,?_,?_⟩
   ·exact sp21.less λq hq=>by
     simp only[od,List.not_mem_nil,or_false]at hq;rcases hq with rfl|rfl
     ·exact⟨_,oH _ (List.mem_cons_self ..),rfl⟩
     ·exact⟨_,oH _ (oH _ (List.mem_cons_self ..)),rfl⟩
   ·rw[<-hR0]
    conv=>rhs;unfold two
    rw[hc];simp only;rw[if_neg (by omega)]
   ·rw[<-ei];exact hs'.sub (by kernel_rfl)
 · -- too few bits
  have w24:=w21.extX 2 rfl x24 g24;have t24:=w24.top;have l24:=w24.low;have ow24:=ow21.keep (h':=h24) x24.le λb' hb'=>x24.get _ (ow21.blk hb') λq=>(sp21 b' hb').2 _ (oH _ (oH _ (List.mem_cons_self ..))) q.symm
  have hlid2:=yE (h:=h24) (by omega) (by omega);obtain⟨d,hd⟩:∃d,(wo log l)[b]? = some d:=⟨_,oO (by rw[On];exact hb2)⟩;obtain⟨b3,o3,a3,_,a5⟩:=zBe hd (sl8.ext w24.ex0) hb2;have e1m:zH (1-((i % 2:Nat):Int))=((1-i % 2:Nat):Int):=by rw[zD (by omega) (by omega)];omega
  refine⟨_,false,rfl,λg=>(by cases g),λ_=>⟨⟨by omega,by omega⟩,.ptr ps 0,zM h24,rfl,hlid2.1,?_⟩⟩
  intro h34 e34;rw[hlid2.2]at e34;subst h34;rw[Ov,e1m];obtain⟨v44,h45,e45,sl45,x45⟩:=YD (h:=h24) d.1 (by omega);have w45:=w24.ext x45;have t45:=w45.top;obtain⟨v46,h47,e47,A2⟩:=Ow.append (c:=zA) (te:=yt) (m:=1) (ow24.ext x45) sl45 (by decide) zO rfl zb rfl rfl (by rw[oU];show(out.length+1+1)*1<=_;omega) (by rw[oU];show(out.length+1+1)*8<=_;omega) (by omega);obtain⟨w47,ow47,sp47⟩:=w45.grow (k:=(out++[c.1,d.1]).length) (xs:=zJ (out++[c.1,d.1])) sp21 (by
   have e1:out++[c.1,d.1]=(out++[c.1])++[d.1]:=by simp
   rw[e1,jd,oU];exact A2)
  have hol2:(out++[c.1,d.1]).length=i+2:=by rw[oU];simp;omega
  refine⟨v8,w24.ld1 2 rfl zGM rfl rfl,by decide,p9,1-i % 2,qB (by omega),b,w24.ld1 1 rfl zb rfl (zQi i a b),b3,o3,a3,d.1,a5,v44,h45,e45,trivial,v46,h47,e47,?_⟩;refine hs1.on λtm' hs'=>hex tm' h47 left i a b v46 (out++[c.1,d.1]) ⟨(w47.drop 1).more (by omega),ow47,?_⟩ (λq=>?_) (λq=>?_) (by omega) (hs'.sub (by kernel_rfl))
  ·exact sp47.less λq hq=>by
    simp only[od,List.not_mem_nil,or_false]at hq;rcases hq with rfl|rfl
    ·exact⟨_,oH _ (List.mem_cons_self ..),rfl⟩
    ·exact⟨_,oH _ (oH _ (List.mem_cons_self ..)),rfl⟩
  ·rw[<-hR0]
   cases f with
   | zero=>rfl
   | succ f =>
    unfold two;rw[hc];simp only;rw[if_pos (by omega),if_pos (by omega)]
  ·rw[<-hR0]
   cases f with
   | zero=>exact absurd (.inl (by omega)) q
   | succ f =>
    unfold two;rw[hc];simp only;rw[if_pos (by omega),if_neg (by omega),hd]
theorem zHh {v:V}{log:Nat}{l:List Int}{s:List UInt8}(sl:Sl h v 1 l.length (zJ l)) (g:GD log l) (hs:s.length<=2000) (hn:h.nx+1300<=T.top) (hlow:h.low<=T.top)
  (hq:∀h' v',Ext h h' 1250->Ow h' v' yt (wW log l s).2.length (zJ (wW log l s).2)->(∀b,zu v'=some b->h.nx<=b)->Q (.tuple [v',.int .i64 (wW log l s).1]) h'):RF P zA 81 [.agg [.int .i64 log,v],.str s] h Q:=by
 have hpw:=xD g.lg;have hlg:=g.lg;have hbz:=XY s;have bad:∀e,wW log l s=(e,[])->∀h',Ext h h' 1250->Q (.tuple [.nilslice,.int .i64 e]) h':=λe he h' x=>by
  have:=hq h' .nilslice x;rw[he]at this;exact this (Ow.nil _ _) λb hb=>(by cases hb)
 refine yD z65 rfl rfl z7P (yv sl ⟨by omega,?_⟩);rintro p0 h1 rfl e1;have w1:=(Vw.nil (S:=zR) (h:=h)).new e1 (by omega);have t1:=w1.top;refine⟨_,_,w1.ldA 0 rfl yr rfl rfl,zKt (sl.ext w1.ex0) g hs (by omega) (λc h6 x6=>?_) (λc h4 h6 v8 x4 s8 w6=>?_)⟩
 ·refine⟨_,_,rfl,λ_=>bad 22 ?_ h6 ((w1.ex0.trans x6).mono (by omega)),λq=>absurd (show(22:Int)≠0 by decide) q⟩
  unfold wW;rw[if_pos c]
 have xh4:Ext h h4 91:=(w1.ex0.trans x4).mono (by omega);have g0:h4.get h.nx=some (oD log v):=(x4.get _ (w1.lt 0 rfl)).trans (w1.get 0 rfl);have l0:h.nx<h4.nx:=oI (w1.lt 0 rfl) x4.le;have t4:=xh4.top;have t6:=w6.top;have lo4:=xh4.low;obtain⟨B,hB⟩:∃B:Nat,zp s=B:=⟨(zp s).toNat,by omega⟩;have hun:wW log l s=if zp s<log then ((21:Int),[]) else if zp s<2*log then (21,[]) else match two (wo log l) s 255 (B-log-log) (wQ s B log) (wQ s (B-log) log) []with
   | none=>((21:Int),[])
   | some out=>((0:Int),out):=by
  conv=>lhs;unfold wW
  rw[if_neg c,hB,oX]
  try rfl
 rw[hB,oX]at w6;refine⟨_,_,rfl,λq=>absurd rfl q,λ_=>⟨by omega,?_⟩⟩
 rintro p9 h10 rfl e10;have w10:=w6.new e10 (by omega);have t10:=w10.top;refine Has.nil.on λtm hs0=>?_
 refine wpC.round (λk tm h'=>∃j:Nat,j<=2/\k=2-j/\j*log<=B/\Vw zR h4 h' (2+j) [(h6.nx,zIt (if 0<j then ((wQ s B log:Nat):Int) else 0) (if 1<j then ((wQ s (B-log) log:Nat):Int) else 0)),(h4.nx,oSt s (B-j*log) v8 log)] /\
  Has tm [(26,.int .i64 j),(6,.ptr h4.nx 0),(2,.ptr h.nx 0),(8,.ptr h6.nx 0)]) 2 ⟨0,by omega,rfl,by omega,by rw[Nat.zero_mul];exact w10,hs0.sub (by kernel_rfl)⟩ ?_
 clear hs0 w10 t10 e10 tm;rintro k tm h' ⟨j,hj2,rfl,hjl,w,hs0⟩;have tw:=w.top;refine wpC.av hs0 zXu rfl rfl ⟨λc1=>?_,λc1=>hs0.on λtm' hs'=>?_⟩
 ·rw[qM]
  refine⟨_,zX zb rfl ((w.ex0.get _ l0).trans g0) rfl,Yd (n:=log) (w.get 1 rfl) (w.lt 1 rfl) hs (by omega) (by omega) (by omega) (λc2 h4' x4' g4'=>?_) (λc2 h4' x4' g4'=>?_)⟩
  ·have w2:=w.extX 1 rfl x4' g4'
   have t2:=w2.top;have ej:zH ((j:Int)+1)=((j+1:Nat):Int):=by rw[zD (by omega) (by omega)];rfl
   have e2:B-j*log-log=B-(j+1)*log:=by rw[Nat.add_mul];omega
   rw[e2]at w2;have hj:j=0\/j=1:=by omega
   rcases hj with rfl|rfl
   ·obtain⟨h9,e9,w9,n9,_⟩:=w2.st (cx:=zA) 0 (f:=0) (u:=.int .i64 (wQ s (B-0*log) log:Nat)) rfl (by omega) zb rfl (oJ _) rfl rfl
    rw[Nat.zero_mul]at w9 e9 ⊢;refine⟨_,true,rfl,λ_=>⟨h6.nx,0,qB (k:=0) (by decide),h9,e9,hs0.on λtm' hs'=>⟨rfl,rfl,1,by omega,1,by omega,rfl,by omega,w9,?_⟩⟩,λq=>(by cases q)⟩
    have q:=hs'.sub (l':=[(26,.int .i64 (zH (((0:Nat):Int)+1))),(6,.ptr h4.nx 0),(2,.ptr h.nx 0),(8,.ptr h6.nx 0)]) (by kernel_rfl);rw[ej]at q;exact q
   ·obtain⟨h9,e9,w9,n9,_⟩:=w2.st (cx:=zA) 0 (f:=1) (u:=.int .i64 (wQ s (B-1*log) log:Nat)) rfl (by omega) zb rfl (oJ _) rfl rfl
    rw[Nat.one_mul]at w9 e9 ⊢;refine⟨_,true,rfl,λ_=>⟨h6.nx,1,qB (k:=1) (by decide),h9,e9,hs0.on λtm' hs'=>⟨rfl,rfl,0,by omega,2,by omega,rfl,by omega,w9,?_⟩⟩,λq=>(by cases q)⟩
    have q:=hs'.sub (l':=[(26,.int .i64 (zH (((1:Nat):Int)+1))),(6,.ptr h4.nx 0),(2,.ptr h.nx 0),(8,.ptr h6.nx 0)]) (by kernel_rfl);rw[ej]at q;exact q
  ·have w2:=w.extX 1 rfl x4' g4'
   refine⟨_,false,rfl,λq=>(by cases q),λ_=>hs0.on λtm' hs'=>thenC.rt (thenC.rt (endW.r2 (hs'.get rfl) (hs'.get rfl) (bad 21 ?_ h4' ((xh4.trans w2.ex0).mono (by omega)))))⟩
   rw[hun];have hj:j=0\/j=1:=by omega
   rcases hj with rfl|rfl
   ·rw[if_pos (by omega)]
   ·rw[if_neg (by omega),if_pos (by omega)]
 have hj:j=2:=by omega
 subst hj;rw[if_neg (by omega),if_neg (by omega)]at hun;have e2:B-2*log=B-log-log:=by omega
 rw[e2]at w;have hb1:=XX s B log;have hb2:=XX s (B-log) log;refine thenC.left (wpS.av hs' zYP rfl rfl (hs'.on λtm2 hs2=>?_));have I:TwI h4 h' 4 h6.nx h4.nx s v8 log (B-log-log) 0 (wQ s B log) (wQ s (B-log) log) .nilslice []:=⟨w,Ow.nil _ _,λb hb=>(by cases hb)⟩
 refine zHv g hs s8 (by omega) ⟨hb1,hb2⟩ I (by omega) (by omega) (hs2.sub (by kernel_rfl)) λtm3 h3 left i a b v' out I3 hno hyes hlen hs3=>?_
 obtain⟨w3,ow3,sp3⟩:=I3;have t3:=w3.top;refine thenC.out (wpS.av hs3 zYO rfl rfl ⟨_,ow3.sl.len zO rfl,λc2=>?_,λc2=>⟨.ptr h4.nx 0,h3,rfl,?_⟩⟩)
 ·refine hs3.on λtm4 hs4=>hs4.slt λtm5 hs5=>endW.r2 (hs5.get rfl) (hs5.get rfl) (bad 21 ?_ h3 ((xh4.trans w3.ex0).mono (by omega)))
  rw[hun,hno (.inl (by omega))]
 ·rw[Ys,zM5]
  refine⟨_,w3.ld1 1 rfl zb rfl rfl,λc3=>?_,λc3=>?_⟩
  ·refine hs3.on λtm4 hs4=>hs4.slt λtm5 hs5=>endW.r2 (hs5.get rfl) (hs5.get rfl) (bad 21 ?_ h3 ((xh4.trans w3.ex0).mono (by omega)))
   rw[hun,hno (.inr (by omega))]
  ·refine hs3.on λtm4 hs4=>hs4.slt λtm5 hs5=>endW.r2 (hs5.get rfl) (hs5.get rfl) ?_
   have:=hq h3 v' ((xh4.trans w3.ex0).mono (by omega));rw[hun,hyes (by omega)]at this;exact this ow3 λb hb=>by
    rcases(sp3 b hb).1 with q|q
    ·exact q.elim
    ·omega
section
variable {cx:Ctx}
theorem Kz (n:Nat):yp (n:Int)=some n:=rfl
theorem _root_.Go.Sim.Ow.full {h:H}{v:V}{te ti:TI}{n t e:Nat}{xs:List V}(s:Ow h v te n xs) (hn:0<n) (ht:cx.ty.get t=some ti) (hd:ti.desc = .slice e) (he:cx.ty.get e=some te) (h0:0<te.size) :
  ∃b,zq cx t h v none (some (.int .i64 (n:Nat))) (some (.int .i64 (n:Nat)))=some (.slice b 0 n (.exact n))/\zu v=some b/\Sl h (.slice b 0 n (.exact n)) te.size n xs:=by
 obtain⟨h1,⟨rfl,hz⟩|⟨b,cs,rfl,hb,hg,hw,hl,hc⟩⟩:=s
 ·omega
 ·refine⟨b,?_,rfl,h1,.inr ⟨b,0,_,cs,_,_,_,rfl,hb,hg,λi hi=>by rw[Nat.zero_add];exact hc i hi⟩⟩
  unfold zq;simp only[ht,hd,he,hg];have e1:Nat.beq (jU te).n te.size=true:=Nat.beq_refl _;have e2:Nat.blt 0 (jU te).n=true:=(zY _ _).2 h0;have e3:Nat.beq 0 (0*(jU te).n)=true:=by rw[Nat.zero_mul];rfl
  have e4:Nat.ble (n*(jU te).n) cs.len=true:=oC (by rw[hl];exact oP _);have e5:Nat.ble n n=true:=oC (oP _);simp only[e1,e2,e4,Bool.and_self,oK,Option.isNone_some,oM,Go.Sim.bnd,Kz,e5,Nat.zero_mul,Nat.zero_add,Nat.sub_zero];cases Nat.beq n 0<;>rfl
theorem _root_.Go.Sim.Sl.appFull {h:H}{x:V}{te ti:TI}{b n m t e:Nat}{xs ys:List V}(s:Sl h (.slice b 0 n (.exact n)) te.size n xs) (hn0:0<n) (hx:Sl h x te.size m ys) (hm:0<m) (ht:cx.ty.get t=some ti) (hd:ti.desc = .slice e) (he:cx.ty.get e=some te) (hok:kB te=true)
  (ho:zL ys=true) (hsz:(n+m)*te.size<=262143) (hby:(n+m)*te.bytes<=1099511627776) (hn:h.nx<T.top) :
  ∃v' h',za cx t h (.slice b 0 n (.exact n)) x=some (v',h')/\Ow h' v' te (n+m) (xs++ys)/\Ext h h' 1/\zu v'=some h.nx:=by
 have hs0:0<te.size:=by
  unfold kB at hok;simp only[oG]at hok;exact(zY _ _).1 hok.1.1
 have hap:za cx t h (.slice b 0 n (.exact n)) x=Go.Sim.appTo te h m ys (.slice b 0 n (.exact n)):=by
  unfold za;rw[ht];simp only[hd,he,hok,oK,hx.src hs0 hm]
 have hmul:(n+m)*te.size=n*te.size+m*te.size:=Nat.add_mul _ _ _;obtain⟨h0,⟨hv,_⟩|⟨b',o,cp,cs,k,w,op,hv,hb,hg,hc⟩⟩:=s
 ·cases hv
 ·cases hv
  obtain⟨cs',h1,h2⟩:=Cs.ofL_some (l:=xs++ys) (by rw[oU,h0,hx.1];omega);obtain⟨h3,h4⟩:=Cs.ofL_eq h1;refine⟨.slice h.nx 0 (n+m) (.skip 0),h.new (.cells cs' (jU te) true true),?_,⟨by rw[oU,h0,hx.1,hmul],.inr ⟨h.nx,cs',rfl,by rw[zG];omega,zZ _ hn,h2,by rw[h3,oU,h0,hx.1,hmul],λi _=>h4 i⟩⟩,Ext.new _ hn,rfl⟩
  rw[hap];unfold Go.Sim.appTo;simp only[hg];unfold kH;have e1:Nat.ble (n+m) n=false:=by
   cases hb:Nat.ble (n+m) n with
   | false=>rfl
   | true=>have:=oE hb;omega
  rw[e1,oM];have e2:Kf cs 0 (n*te.size) ys=some cs':=by
   unfold Kf;rw[Cs.range_is (Nat.mul_pos hn0 hs0) h0 (λi hi=>hc i hi)];simp only[ho,oK,h1]
  rw[e2];exact xv hby hn
end
theorem zAa {p n:Nat}(hn:n<=256):zq zA 206 h (.ptr p 0) none (some (.int .i64 (n:Nat))) (some (.int .i64 (n:Nat)))=some (.slice p 0 n (.exact n)):=by
 unfold zq;have e5:Nat.ble n n=true:=oC (oP _);have e6:Nat.ble n 256=true:=oC hn;simp only[zVP,zb,Go.Sim.bnd,Kz,e5,e6,oK,Option.isNone_some,Bool.and_false,oM,Nat.zero_mul,Nat.zero_add,Nat.sub_zero];cases Nat.beq n 0<;>rfl
theorem zA2:∃cs,cond (zL (V.cells (.agg (List.replicate 256 (.int .i64 (0:Int)))))) (Cs.ofL (V.cells (.agg (List.replicate 256 (.int .i64 (0:Int)))))) none=some cs/\Row cs 256 (zJ (List.replicate 256 0)):=by
 obtain⟨cs,h1,h2⟩:=Cs.ofL_some (l:=List.replicate 256 (.int .i64 (0:Int))) (by rw[List.length_replicate];decide);obtain⟨h3,h4⟩:=Cs.ofL_eq h1;have e1:V.cells (.agg (List.replicate 256 (.int .i64 (0:Int))))=List.replicate 256 (.int .i64 (0:Int)):=by kernel_rfl
 have e2:zL (List.replicate 256 (.int .i64 (0:Int)))=true:=by kernel_rfl
 refine⟨cs,by rw[e1,e2,oK,h1],h2,by rw[h3,List.length_replicate],by rw[jQ,List.length_replicate],λi _=>by rw[h4,jQ]⟩
theorem zJJ {l:List Int}{i n:Nat}(hl:l.length=i) (hi:i<n) (y:Int):(l++List.replicate (n-i) 0).set i y=(l++[y])++List.replicate (n-(i+1)) 0:=by
 obtain⟨k,hk⟩:∃k,n-i=k+1:=⟨n-i-1,by omega⟩;rw[hk,show n-(i+1)=k by omega,List.replicate_succ,List.set_append_right i y (by omega),hl,Nat.sub_self];simp
theorem zPN {l:List Int}{i n:Nat}(hi:i<n):l++List.replicate (n-i) 0=(l++[0])++List.replicate (n-(i+1)) 0:=by
 obtain⟨k,hk⟩:∃k,n-i=k+1:=⟨n-i-1,by omega⟩;rw[hk,show n-(i+1)=k by omega,List.replicate_succ];simp
theorem zCN {v:V}{l:List Int}{m:Nat}(sl:Sl h v 1 l.length (zJ l)) (hl:l.length<=256) (hx:∀x∈l,-1000000<=x/\x<=1000000) (hm:m<=1000000) (hn:h.nx+1<=T.top)
  (hq:∀h' v',Ext h h' 1->Sl h' v' 1 l.length (zJ (trn m l))->(∃b cs k op,v' = .slice b 0 l.length (.exact l.length)/\h.nx<=b/\h'.get b=some (.cells cs k true op))->Q v' h'):RF P zA 91 [v,.int .i64 m] h Q:=by
 obtain⟨cs0,er,row0⟩:=zA2;refine yD z67 rfl rfl z7R (YU er ⟨by omega,?_⟩);rintro p0 h1 rfl e1;have w1:=(Vw.nil (S:=zR) (h:=h)).new e1 (by omega);have t1:=w1.top;have s1:=sl.ext w1.ex0;refine⟨_,s1.len zO rfl,_,s1.len zO rfl,_,zAa hl,_,s1.len zO rfl,Has.nil.on λtm hs=>?_⟩
 refine wpC.round (λk tm h'=>∃(i:Nat) (cs:Cs),i<=l.length/\k=l.length-i/\Vw zR h h' 1 [(h.nx,.cells cs ⟨0,206+1,0⟩ true false)]/\Row cs 256 (zJ (trn m (l.take i)++List.replicate (256-i) 0)) /\
  Has tm [(16,.int .i64 i),(15,.int .i64 l.length),(14,v),(6,.slice h.nx 0 l.length (.exact l.length)),(1,.int .i64 m)]) l.length ⟨0,cs0,by omega,by omega,w1,row0,hs.sub (by kernel_rfl)⟩ ?_
 clear hs s1 w1 t1 e1 h1;rintro k tm h' ⟨i,cs,hi1,rfl,w,row,hs⟩;have tw:=w.top;refine wpC.av hs zXw rfl rfl ⟨λc=>?_,λc=>hs.on λtm' hs'=>?_⟩
 ·have hil:i<l.length:=by omega
  have hg:l[i]? = some l[i]:=oO hil;obtain⟨b,o,a1,a2⟩:=(sl.ext w.ex0).at1 (u:=.int .i64 l[i]) hil zO rfl zb rfl rfl (by rw[oW,hg];rfl);have hb:=hx l[i] (oS hil);have htk:trn m (l.take (i+1))=trn m (l.take i)++[if l[i]≠0 then (m:Int)+1-l[i] else 0]:=by
   rw[List.take_add_one,hg];unfold trn;rw[List.map_append];rfl
  have htl:(trn m (l.take i)).length=i:=by rw[YT,List.length_take];omega
  generalize l[i]=x at a2 hb htk;have e:zH ((i:Int)+1)=((i+1:Nat):Int):=by rw[zD (by omega) (by omega)];rfl
  refine⟨b,o,a1,x,a2,λc2=>?_,λc2=>hs.on λtm' hs'=>?_⟩
  ·rw[if_pos c2]at htk
   have ex:zH (zH ((m:Int)+1)-x)=(m:Int)+1-x:=by rw[zD (n:=(m:Int)+1) (by omega) (by omega),zD (by omega) (by omega)]
   obtain⟨h2,cs2,e2,row2,w2,n2⟩:=w.set (cx:=zA) 0 (j:=i) (u:=.int .i64 ((m:Int)+1-x)) row rfl (by omega) (by omega) zb rfl rfl rfl rfl;rw[<-xC,zJJ htl (by omega),<-htk]at row2;refine⟨h.nx,i,yb zO rfl zb rfl hil,h2,by rw[ex];exact e2,hs.on λtm' hs'=>⟨rfl,rfl,l.length-(i+1),by omega,i+1,cs2,by omega,rfl,w2,row2,?_⟩⟩
   rw[<-e];exact hs'.sub (by kernel_rfl)
  ·rw[if_neg c2]at htk
   rw[zPN (by omega),<-htk]at row;refine⟨rfl,rfl,l.length-(i+1),by omega,i+1,cs,by omega,rfl,w,row,?_⟩;rw[<-e];exact hs'.sub (by kernel_rfl)
 ·have hil:i=l.length:=by omega
  subst hil;rw[List.take_length]at row;refine thenC.left (wpS.av hs' zYS rfl rfl (hs'.on λtm2 hs2=>endW.r1 (hs2.get rfl) ?_))
  refine hq h' _ w.ex0 ⟨by rw[jE,YT,Nat.mul_one],.inr ⟨h.nx,0,_,cs,_,_,_,rfl,w.lt 0 rfl,w.get 0 rfl,λj hj=>?_⟩⟩ ⟨_,cs,_,_,rfl,oP _,w.get 0 rfl⟩
  rw[Nat.zero_add,row.2.2.2 j (by omega),jd,List.getElem?_append_left (by rw[jE,YT];omega)]
theorem zHK {v:V}{l:List Int}(ow:Ow h v yt l.length (zJ l)) (hr:jz l=0) (hn:h.nx+4<=T.top)
  (hq:∀h' v',Ext h h' 3->Sl h' v' 1 (l.length+1) (zJ (zRU l))->(∀b,zu v'=some b->h.nx<=b)->Q (.tuple [v',.int .i64 0]) h'):RF P zA 46 [v] h Q:=by
 unfold jz at hr;have c1:¬(l.length<1\/255<l.length):=λg=>by rw[if_pos g]at hr;cases hr
 rw[if_neg c1]at hr;have c2:kK l=true:=by
  by_cases g:kK l=true
  ·exact g
  ·rw[if_neg g]at hr;cases hr
 rw[if_pos c2]at hr;have c3:wok l:=by
  by_cases g:wok l
  ·exact g
  ·rw[if_neg g]at hr;cases hr
 have hb:zQ (wD l)<=12:=by
  refine yA ?_;have h2:2^zQ (xM l)<=2^11:=Nat.pow_le_pow_right (by decide) c3.2.1;unfold wD;omega
 have hin:∀x∈l,0<=x/\x<=11:=λx hx=>by
  have:=List.all_eq_true.1 c2 x hx;simpa using this
 refine yD z6U rfl rfl z7E (zAE ow.sl (by omega) ?_);unfold zKc;rw[if_neg c1,if_pos c2,if_pos c3];obtain⟨b,e7,_,s7⟩:=ow.full (cx:=zA) (by omega) zO rfl zb (by decide);obtain⟨v8,h9,e8,s8,x9⟩:=YD (h:=h) ((zQ (wD l):Nat):Int) (by omega);have t9:=x9.top;obtain⟨v10,h11,e10,ow10,x11,_⟩:=(s7.ext x9).appFull (cx:=zA) (m:=1) (by omega) s8 (by decide) zO rfl zb rfl rfl (by show(l.length+1)*1<=_;omega) (by show(l.length+1)*8<=_;omega) (by omega);have t11:=x11.top;refine⟨_,_,_,rfl,λq=>absurd rfl q,λ_=>⟨_,ow.sl.len zO rfl,_,ow.sl.len zO rfl,_,e7,v8,h9,e8,trivial,v10,h11,e10,?_⟩⟩
 have el:(l++[((zQ (wD l):Nat):Int)]).length=l.length+1:=by simp
 refine zCN (l:=l++[((zQ (wD l):Nat):Int)]) (by rw[el,jd];exact ow10.sl) (by rw[el];omega) (λx hx=>?_) (by have:=c3.2.1;omega) (by omega) λh13 v14 x13 s14 hb14=>⟨_,rfl,?_⟩
 ·rcases List.mem_append.1 hx with hx|hx
  ·have:=hin x hx;omega
  ·rw[List.mem_singleton.1 hx];omega
 ·rw[el]at s14
  refine hq h13 v14 ((x9.trans (x11.trans x13)).mono (by omega)) s14 λb hb=>?_
  obtain⟨b',_,_,_,rfl,hb',_⟩:=hb14;cases hb;have:=x9.le;have:=x11.le;omega
end Go.Proofs.YtnpeieeomokomaaGreat
namespace Go.Proofs.YtnpeieeomokomaaGreat
open Go.Sim
variable {h:H}{Q:V->H->Prop}
theorem zBn {p o:Nat}{k:V->H->Prop}:zS zA 103 0 h (.ptr p o) k=k (.ptr p (o+0)) h:=by kernel_rfl
theorem qN {p o:Nat}{k:V->H->Prop}:zS zA 103 1 h (.ptr p o) k=k (.ptr p (o+1)) h:=by kernel_rfl
theorem Z5 {p o:Nat}{k:V->H->Prop}:zS zA 105 0 h (.ptr p o) k=k (.ptr p (o+0)) h:=by kernel_rfl
theorem jb {p o:Nat}{k:V->H->Prop}:zS zA 105 1 h (.ptr p o) k=k (.ptr p (o+2)) h:=by kernel_rfl
abbrev oRg (s:List UInt8) (a:Nat) (v:V):O:=.cells (.ls [.str s,.int .i64 a,v]) ⟨0,105+1,0⟩ true false
theorem je (hn:h.nx<=T.top) (hl:h.low<=T.top) {K:H->Prop}(hk:K h):∀h2,h2=yG h (zM h)->K h2:=by
 intro h2 e2;rw[(yE hn hl).2]at e2;subst e2;exact hk
theorem Xs {s:List UInt8}{p a:Nat}{v:V}(hg:h.get p=some (oRg s a v)) (hs:s.length<=1000000) (ha:a<=s.length) (hn:h.nx<=T.top) (hl:h.low<=T.top) (hq:Q (.int .i64 (s.length-a:Nat)) h):RF P zA 77 [.ptr p 0] h Q:=by
 refine yD z61 rfl rfl z7L ⟨⟨hn,hl⟩,.ptr p 0,zM h,rfl,(yE hn hl).1,je hn hl ?_⟩;rw[zBn];refine⟨s,zX qh rfl hg rfl,.ptr p 0,zM h,rfl,(yE hn hl).1,je hn hl ?_⟩;rw[qN];refine⟨a,zX zb rfl hg rfl,?_⟩;rw[show zH (Int.ofNat s.length-(a:Int))=((s.length-a:Nat):Int)by rw[show Int.ofNat s.length=(s.length:Int)from rfl,zD (by omega) (by omega)];omega];exact hq
theorem Xt {s:List UInt8}{p a:Nat}{b:UInt8}{v:V}(hg:h.get p=some (oRg s a v)) (hp:p<h.nx) (hs:s.length<=1000000) (ha:s[a]? = some b) (hn:h.nx<=T.top) (hl:h.low<=T.top)
  (hq:∀h',ExtX (· = p) h h' 0->h'.get p=some (oRg s (a+1) v)->Q (.int .i64 (b.toNat:Nat)) h'):RF P zA 78 [.ptr p 0] h Q:=by
 have hal:=(List.getElem?_eq_some_iff.1 ha).1;have w:=Vw.one (S:=(· = p)) hg hp rfl;refine yD z62 rfl rfl z7M ⟨.ptr p 0,h,rfl,?_⟩;rw[qN];refine⟨a,w.ld1 0 rfl zb rfl rfl,.ptr p 0,h,rfl,?_⟩;rw[qN];have e:zH ((a:Int)+1)=((a+1:Nat):Int):=by rw[zD (by omega) (by omega)];rfl
 obtain⟨h9,e9,w9,n9,_⟩:=w.st (cx:=zA) 0 (f:=0+1) (u:=.int .i64 (a+1:Nat)) rfl hn zb rfl (oJ _) rfl rfl;have hn9:h9.nx<=T.top:=by omega
 have hl9:h9.low<=T.top:=oQ w9.low hl;refine⟨h9,by rw[e];exact e9,⟨hn9,hl9⟩,.ptr p 0,zM h9,rfl,(yE hn9 hl9).1,je hn9 hl9 ?_⟩;rw[zBn];refine⟨s,w9.ld1 0 rfl qh rfl rfl,.ptr p 0,zM h9,rfl,(yE hn9 hl9).1,je hn9 hl9 ?_⟩;rw[qN];refine⟨_,w9.ld1 0 rfl zb rfl rfl,(b.toNat:Nat),?_,?_⟩
 ·rw[show zH (((a+1:Nat):Int)-1)=(a:Int)by rw[zD (by omega) (by omega)];omega]
  exact jP ha
 ·have hb:=b.toNat_lt
  rw[zLZ (by omega)];exact hq h9 w9.ex (w9.get 0 rfl)
theorem _root_.Go.Sim.Sep.head {S:Nat->Prop}{b0 p:Nat}{o o':O}{l:List (Nat×O)}{v:V}(s:Sep S b0 ((p,o)::l) v):Sep S b0 ((p,o')::l) v:=s.less λq hq=>by
 rcases od.1 hq with rfl|hq
 ·exact⟨_,List.mem_cons_self ..,rfl⟩
 ·exact⟨q,oH _ hq,rfl⟩
theorem zRJ {S:Nat->Prop}{hb h:H}{c p a:Nat}{rest:List (Nat×O)}{s:List UInt8}{b:UInt8}{v:V}{l:List Int}{many:Int}(w:Vw S hb h c ((p,oRg s a v)::rest)) (ow:Ow h v yt l.length (zJ l)) (sp:Sep S hb.nx ((p,oRg s a v)::rest) v) (hs:s.length<=1000000) (ha:s[a]? = some b) (hl:l.length<=1000)
  (hn:hb.nx+c+5<=T.top) (hlow:hb.low<=T.top)
  (hq:∀h' v',Vw S hb h' (c+4) ((p,oRg s (a+1) v')::rest)->Ow h' v' yt (l++((b.toNat/16:Nat):Int)::(if 1<many then [((b.toNat % 16:Nat):Int)] else [])).length (zJ (l++((b.toNat/16:Nat):Int)::(if 1<many then [((b.toNat % 16:Nat):Int)] else []))) ->
   Sep S hb.nx ((p,oRg s (a+1) v')::rest) v'->Q (.tuple []) h'):RF P zA 79 [.ptr p 0,.int .i64 many] h Q:=by
 have hbt:=b.toNat_lt;have tw:=w.top;have lw:=w.low;refine yD z63 rfl rfl z7N ⟨.ptr p 0,h,rfl,?_⟩;rw[Z5];refine Xt (w.get 0 rfl) (w.lt 0 rfl) hs ha (by omega) (by omega) λh5 x5 g5=>⟨_,rfl,.ptr p 0,h5,rfl,?_⟩
 have w5:=w.extX 0 rfl x5 g5;have ow5:=ow.keep (h':=h5) x5.le λb' hb'=>x5.get _ (ow.blk hb') λq=>(sp b' hb').2 _ (List.mem_cons_self ..) q.symm
 have sp5:Sep S hb.nx ((p,oRg s (a+1) v)::rest) v:=sp.head;have t5:=w5.top;rw[jb];obtain⟨v13,h14,e13,sl14,x14⟩:=YD (h:=h5) ((b.toNat/16:Nat):Int) (by omega);have w14:=w5.ext x14;have t14:=w14.top;obtain⟨v15,h16,e15,A⟩:=Ow.append (c:=zA) (te:=yt) (m:=1) (ow5.ext x14) sl14 (by decide) zO rfl zb rfl rfl (by show(l.length+1)*1<=_;omega) (by show(l.length+1)*8<=_;omega) (by omega);obtain⟨w16,ow16,sp16⟩:=w14.grow (k:=(l++[((b.toNat/16:Nat):Int)]).length) (xs:=zJ (l++[((b.toNat/16:Nat):Int)])) sp5 (by rw[jd,oU];exact A);have t16:=w16.top;obtain⟨h21,e21,w21,n21,k21⟩:=w16.st (cx:=zA) 0 (f:=0+2) (u:=v15) (cs':=.ls [.str s,.int .i64 (a+1:Nat),v15]) rfl (by omega) zO (by rw[ow16.one1.1];rfl) (oJ _) (by rw[ow16.one1.1];exact ow16.one1.2) (by rw[ow16.one1.1];rfl);have ow21:=ow16.keep (h':=h21) (by omega) λb' hb'=>k21 b' λq=>(sp16 b' hb').2 _ (List.mem_cons_self ..) q.symm
 have sp21:Sep S hb.nx ((p,oRg s (a+1) v15)::rest) v15:=sp16.head;refine⟨v,w5.ld1 0 rfl zO rfl rfl,((b.toNat/2^4:Nat):Int),q8 (n:=4) (by decide),v13,h14,e13,trivial,v15,h16,e15,.ptr p 0,h16,rfl,?_⟩;rw[jb];refine⟨h21,e21,λc1=>⟨.ptr p 0,h21,rfl,?_⟩,λc1=>?_⟩
 rotate_left
 ·rw[if_neg (by omega)]at hq
  exact hq h21 v15 (w21.more (by omega)) ow21 sp21
 rw[if_pos (by omega)]at hq;rw[jb];have t21:=w21.top;obtain⟨v28,h29,e28,sl29,x29⟩:=YD (h:=h21) ((b.toNat % 16:Nat):Int) (by omega);have w29:=w21.ext x29;have t29:=w29.top;have el:(l++[((b.toNat/16:Nat):Int)]).length=l.length+1:=by simp
 obtain⟨v30,h31,e30,A2⟩:=Ow.append (c:=zA) (te:=yt) (m:=1) (ow21.ext x29) sl29 (by decide) zO rfl zb rfl rfl (by rw[el];show(l.length+1+1)*1<=_;omega) (by rw[el];show(l.length+1+1)*8<=_;omega) (by omega);obtain⟨w31,ow31,sp31⟩:=w29.grow (k:=(l++[((b.toNat/16:Nat):Int),((b.toNat % 16:Nat):Int)]).length) (xs:=zJ (l++[((b.toNat/16:Nat):Int),((b.toNat % 16:Nat):Int)])) sp21 (by
  have e1:l++[((b.toNat/16:Nat):Int),((b.toNat % 16:Nat):Int)]=(l++[((b.toNat/16:Nat):Int)])++[((b.toNat % 16:Nat):Int)]:=by simp
  rw[e1,jd,oU];exact A2)
 have t31:=w31.top;obtain⟨h36,e36,w36,n36,k36⟩:=w31.st (cx:=zA) 0 (f:=0+2) (u:=v30) (cs':=.ls [.str s,.int .i64 (a+1:Nat),v30]) rfl (by omega) zO (by rw[ow31.one1.1];rfl) (oJ _) (by rw[ow31.one1.1];exact ow31.one1.2) (by rw[ow31.one1.1];rfl);have ow36:=ow31.keep (h':=h36) (by omega) λb' hb'=>k36 b' λq=>(sp31 b' hb').2 _ (List.mem_cons_self ..) q.symm
 refine⟨v15,w21.ld1 0 rfl zO rfl rfl,((b.toNat % 16:Nat):Int),?_,v28,h29,e28,trivial,v30,h31,e30,.ptr p 0,h31,rfl,?_⟩
 ·rw[show b.toNat % 16=b.toNat &&& 15 from(qD b.toNat 4).symm]
  exact ZU (a:=b.toNat) (b:=15) (by omega) (by decide)
 rw[jb];exact⟨h36,e36,hq h36 v30 (w36.more (by omega)) ow36 sp31.head⟩
theorem zBy (s:List UInt8) (a n:Nat):YZ s a (n+1)=YZ s a n++[((if n % 2=0 then (s[a+n/2]?.getD 0).toNat/16 else (s[a+n/2]?.getD 0).toNat % 16:Nat):Int)]:=by
 unfold YZ;rw[List.range_succ,List.map_append];rfl
theorem zKm {s:List UInt8}{a j many:Nat}{b:UInt8}(hb:s[a+j]? = some b) (hj:2*j<many) :
  YZ s a (min (2*(j+1)) many)=YZ s a (min (2*j) many)++((b.toNat/16:Nat):Int)::(if (1:Int)<((many-2*j:Nat):Int) then [((b.toNat % 16:Nat):Int)] else []):=by
 rw[show min (2*j) many=2*j by omega];have e1:YZ s a (2*j+1)=YZ s a (2*j)++[((b.toNat/16:Nat):Int)]:=by
  rw[zBy,if_pos (by omega),show a+2*j/2=a+j by omega,hb];rfl
 by_cases c:1<many-2*j
 ·rw[if_pos (by omega),show min (2*(j+1)) many=2*j+1+1 by omega,zBy,e1,if_neg (by omega),show a+(2*j+1)/2=a+j by omega,hb]
  simp
 ·rw[if_neg (by omega),show min (2*(j+1)) many=2*j+1 by omega,e1]
abbrev oFl (e a:Int):O:=.cells (.ls [.int .i64 e,.int .i64 a]) ⟨0,26+1,0⟩ true false
theorem zBY {s:List UInt8}{a:Nat}{ch:UInt8}(hs:s.length<=1000000) (ha:s[a]? = some ch) (hc:127<ch.toNat) (hn:h.nx+400<=T.top) (hlow:h.low<=T.top)
  (hq:∀h' v',Ext h h' 350->Ow h' v' yt (xz s a ch.toNat).l.length (zJ (xz s a ch.toNat).l)->(∀b,zu v'=some b->h.nx<=b) ->
   Q (.tuple [v',.int .i64 ((xz s a ch.toNat).nx:Nat),flt (xz s a ch.toNat).e (xz s a ch.toNat).fat]) h') :
  RF P zA 39 [.str s,.int .i64 a] h Q:=by
 have hal:=(List.getElem?_eq_some_iff.1 ha).1;have hch:=ch.toNat_lt;generalize hR:xz s a ch.toNat=R at hq;unfold xz at hR;generalize hmany:ch.toNat-127=many at hR;have bad:∀e fat,R=⟨[],0,e,fat⟩->∀h',Ext h h' 350->Q (.tuple [.nilslice,.int .i64 0,flt e fat]) h':=λe fat he h' x=>by
  subst he;exact hq h' .nilslice x (Ow.nil _ _) λb hb=>(by cases hb)
 refine yD z6R rfl rfl z7B ⟨by omega,?_⟩;rintro pf h1 rfl e1;have w1:=(Vw.nil (S:=zR) (h:=h)).new e1 (by omega);have t1:=w1.top;refine⟨λc=>by omega,λ_=>⟨λc=>absurd c (by show ¬((s.length:Int)<a);omega),λ_=>Has.nil.on λtm hs0=>?_⟩⟩
 refine wpS.av hs0 zYF rfl rfl (hs0.on λtm1 hs1=>thenC.nx (hs1.sealK λtm2 hs2=>?_))
 clear hs0 hs1;refine wpS.av hs2 zYH rfl rfl ⟨by omega,?_⟩;rintro p h3 rfl e3;have w3:=w1.new e3 (by omega);have t3:=w3.top;have l3:=w3.low;refine⟨.ptr h1.nx 0,h3,rfl,?_⟩;rw[Z5];refine Xs (w3.get 0 rfl) hs (by omega) (by omega) (by omega) ⟨_,rfl,λc=>by omega,λ_=>⟨.ptr h1.nx 0,h3,rfl,?_⟩⟩
 rw[Z5];refine Xt (w3.get 0 rfl) (w3.lt 0 rfl) hs ha (by omega) (by omega) λh5 x5 g5=>⟨_,rfl,?_⟩
 have w5:=w3.extX 0 rfl x5 g5;have t5:=w5.top;have l5:=w5.low;have em:zH (((ch.toNat:Nat):Int)-127)=((many:Nat):Int):=by rw[zD (by omega) (by omega)];omega
 rw[em];refine⟨λc=>by omega,λ_=>⟨.ptr h1.nx 0,h5,rfl,?_⟩⟩
 rw[Z5];refine Xs (w5.get 0 rfl) hs (by omega) (by omega) (by omega) ⟨_,rfl,by decide,?_⟩;have eh:zH (Int.tdiv (zH (((many:Nat):Int)+1)) 2)=(((many+1)/2:Nat):Int):=by
  rw[zD (n:=((many:Nat):Int)+1) (by omega) (by omega),show((many:Nat):Int)+1=((many+1:Nat):Int)from rfl,show Int.tdiv ((many+1:Nat):Int) 2=(((many+1)/2:Nat):Int)from rfl,zLZ (by omega)]
 rw[eh];refine⟨λc=>?_,λc=>hs2.on λtm3 hs3=>?_⟩
 · -- cut off
  obtain⟨h9,e9,w9,n9,_⟩:=w5.st (cx:=zA) 1 (f:=0) (u:=.agg [.int .i64 5,.int .i64 s.length]) rfl (by omega) xU rfl (oJ _) rfl rfl;refine⟨h9,e9,hs2.on λtm3 hs3=>endW.ok (leave.tmp (hs3.get rfl) (leave.tmp (hs3.get rfl) (leave.cell (hs3.get rfl) (w9.ldA 1 rfl xU rfl rfl) rfl))) ?_⟩
  refine bad 5 s.length ?_ h9 (w9.ex0.mono (by omega));rw[<-hR,if_pos (by omega)]
 rw[if_neg (by omega)]at hR;refine wpC.round (λk tm h'=>∃(j:Nat) (v':V),2*j<=many+1/\k=many+1-2*j/\Vw zR h h' (2+4*j) [(h1.nx,oRg s (a+1+j) v'),(h.nx,oFl 0 0)]/\Ow h' v' yt (YZ s (a+1) (min (2*j) many)).length (zJ (YZ s (a+1) (min (2*j) many)))/\Sep zR h.nx [(h1.nx,oRg s (a+1+j) v'),(h.nx,oFl 0 0)] v' /\
  Has tm [(7,.ptr h1.nx 0),(8,.int .i64 (many:Nat)),(1,.int .i64 a),(6,.ptr h.nx 0)]) (many+1) ⟨0,.nilslice,by omega,rfl,w5,by rw[show YZ s (a+1) (min (2*0) many)=[]by rw[show min (2*0) many=0 by omega];rfl];exact Ow.nil _ _,λb hb=>(by cases hb),hs3.sub (by kernel_rfl)⟩ ?_
 clear hs2 hs3 w5 t5 l5 g5 x5 e3 w3 t3 l3;rintro k tm h' ⟨j,v',hj1,rfl,w,ow,sp,hs0⟩;have tw:=w.top;have lw:=w.low;have hnl:(YZ s (a+1) (min (2*j) many)).length=min (2*j) many:=zF3 _ _ _;refine wpC.av hs0 zXo rfl rfl ⟨.ptr h1.nx 0,h',rfl,?_⟩;rw[jb];refine⟨v',w.ld1 0 rfl zO rfl rfl,_,ow.sl.len zO rfl,λc1=>⟨.ptr h1.nx 0,h',rfl,?_⟩,λc1=>hs0.on λtm' hs'=>?_⟩
 ·rw[jb]
  rw[hnl]at c1;have hjm:2*j<many:=by omega
  have hb:s[a+1+j]? = some s[a+1+j]:=oO (by omega);have ew:zH (((many:Nat):Int)-((YZ s (a+1) (min (2*j) many)).length:Nat))=((many-2*j:Nat):Int):=by rw[hnl,zD (by omega) (by omega)];omega
  refine⟨v',w.ld1 0 rfl zO rfl rfl,_,ow.sl.len zO rfl,?_⟩;rw[ew];refine zRJ w ow sp hs hb (by omega) (by omega) (by omega) λh2 v2 w2 ow2 sp2=>⟨rfl,hs0.on λtm' hs'=>⟨rfl,rfl,many+1-2*(j+1),by omega,j+1,v2,by omega,rfl,w2.more (by omega),?_,sp2,hs'.sub (by kernel_rfl)⟩⟩
  rw[zKm hb hjm];exact ow2
 ·rw[hnl]at c1
  have hjm:min (2*j) many=many:=by omega
  rw[hjm]at ow;have hj2:j=(many+1)/2:=by omega
  refine thenC.left (wpS.av hs' zYG rfl rfl ⟨.ptr h1.nx 0,h',rfl,?_⟩);rw[jb];refine⟨v',w.ld1 0 rfl zO rfl rfl,Xz ow.sl (by rw[zF3];omega) ⟨_,rfl,λc2=>?_,λc2=>⟨⟨by omega,by omega⟩,.ptr h1.nx 0,zM h',rfl,(yE (by omega) (by omega)).1,je (by omega) (by omega) ?_⟩⟩⟩
  ·rw[if_neg c2]at hR
   obtain⟨h9,e9,w9,n9,_⟩:=w.st (cx:=zA) 1 (f:=0) (u:=.agg [.int .i64 21,.int .i64 a]) rfl (by omega) xU rfl (oJ _) rfl rfl;refine⟨h9,e9,hs'.on λtm3 hs3=>hs3.slt λtm4 hs4=>endW.ok (leave.tmp (hs4.get rfl) (leave.tmp (hs4.get rfl) (leave.cell (hs4.get rfl) (w9.ldA 1 rfl xU rfl rfl) rfl))) ?_⟩
   exact bad 21 a hR.symm h9 (w9.ex0.mono (by omega))
  ·rw[if_pos (by omega)]at hR
   rw[jb];refine⟨v',w.ld1 0 rfl zO rfl rfl,.ptr h1.nx 0,zM h',rfl,(yE (by omega) (by omega)).1,je (by omega) (by omega) ?_⟩;rw[Z5,qN];obtain⟨h9,e9,w9,n9,k9⟩:=w.st (cx:=zA) 1 (f:=0) (u:=.agg [.int .i64 0,.int .i64 0]) rfl (by omega) xU rfl (oJ _) rfl rfl;refine⟨_,w.ld1 0 rfl zb rfl rfl,h9,e9,hs'.on λtm3 hs3=>hs3.slt λtm4 hs4=>endW.ok (leave.tmp (hs4.get rfl) (leave.tmp (hs4.get rfl) (leave.cell (hs4.get rfl) (w9.ldA 1 rfl xU rfl rfl) rfl))) ?_⟩
   have:=hq h9 v' (w9.ex0.mono (by omega));rw[<-hR,<-hj2]at this;exact this (ow.keep (by omega) λb hb=>k9 b λq=>(sp b hb).2 _ (oH _ (List.mem_cons_self ..)) q.symm) λb hb=>by
    rcases(sp b hb).1 with q|q
    ·exact q.elim
    ·exact q
end Go.Proofs.YtnpeieeomokomaaGreat
