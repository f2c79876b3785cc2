/- BE. No condition. -/
import Derived.Test.YtnpeieeomokomaaGreatZBD
import Derived.Test.YtnpeieeomokomaaGreatZTA
set_option maxRecDepth 100000
set_option maxHeartbeats 4000000
namespace Go.Proofs.YtnpeieeomokomaaGreat
open Go.Sim
variable{s:Ua}
theorem bQ{e:Ua}{h:H}{Q:Uc}(lo:h.low<=T.top)(a:(xe [] s).sec=e)(b:Q (.bool true) h)(hs:s.length<=1000:=by decide)(c:h.nx+21000<=T.top:=by omega):RF P zB 57 [.str s,.str e] h Q :=
 RF.forget (IL hs c lo a λ_ x=>⟨rfl,x⟩) (xh _) b
theorem Pw{y:Ua}(h:kc s=some y):3<=y.length:=by
 have key:∀{n m:Nat}{x y:Ua},aF 2 n m x=some y->3<=y.length:=by
  intro n m x y h;unfold aF at h;split at h
  .rename_i c;cases h;rw[oW];rcases a:XY 2 n m 4 with _|j
   .exact absurd c (by rw[XZ.2 a];decide)
   rw[(Zb a).1,qr];have:3<=fw 2 j:=by
    have:=ao a
    match j,this with
    | 0,_=>decide
    | 1,_=>decide
    | 2,_=>decide
    | 3,_=>decide
   omega
  cases h
 unfold kc at h;split at h
 .cases h
 rcases e:wrS (yX s) with _|t
 .rw[e]at h;cases h
 rw[e]at h;exact key h
theorem sG(h:(c0 s).sec.length<=3)(hm:¬(2<=s.length/\XM s=true)):(xe [] s).sec=(c0 s).sec:=by
 unfold xe;rw[if_neg hm];split
 .rfl
 have e:qE [] s=none:=rfl;rw[e];show(bc (c0 s) 2 (kc s) true).sec=_;rcases a:kc s with _|y
 .rfl
 have:=Pw a;unfold bc;dsimp only;rw[if_neg dd]
theorem DM(hm:2<=s.length/\XM s=true):(xe [] s).sec=X8 1 s.length 0++s.take 1:=by unfold xe;rw[if_pos hm]
theorem lE{m e:Int}{h:H}{Q:Uc}(lo:h.low<=T.top)(d:Q (.bool true) h)(hs:s.length<=1500:=by decide)(l:h.nx+66000<=T.top:=by omega)(i:lW s 0 [] m=vF e 0:=by kernel_rfl):RF P zB 59 [.str s,.int .i64 m,.int .i64 e] h Q:=by refine RF.forget (n:=2700) (v:=.bool true) ?_ (xh _) d;refine zh L59 zIy (Yu (last:=[]) (Kh h) (λq g=>by cases g) dg hs dd lo λh' v' x nx=>?_);rw[i]at nx ⊢;have nx:v' = .nilslice:=nx;subst nx;have tx:=x.top;refine⟨_,_,_,_,_,rfl,dd,?_⟩;rintro p o rfl j;have a:=(Vw.nil (S:=zH) (h:=h')).new j dd;obtain⟨h2,k,b,r,_⟩:=a.st (cx:=zB) 0 (f:=0) (u:=NU e 0) rfl (by have:=a.top;omega) zp rfl;refine⟨h2,k,λ_=>⟨0,rfl,λ_=>⟨λ_=>⟨_,_,b.ldA 0 rfl zp rfl,true,(Yt _ _ _ _ _ _).trans (by rw[jf,jf]),λ_=>⟨rfl,(x.trans b.ex0).mono dd⟩,λg=>(by cases g)⟩,λc=>absurd rfl c⟩,λc=>absurd rfl c⟩,λc=>absurd rfl c⟩
theorem Az{h:H}{Q:Uc}(o:h.nx+70000<=T.top)(lo:h.low<=T.top)(i:Q (.bool true) h):RF P zB 29 [] h Q:=by refine RF.forget (n:=2700) (v:=.bool true) ?_ (xh _) i;refine zh L29 zIf (Yu (last:=[]) (Kh h) (λq g=>by cases g) dg dg dd lo λh' v' x nx=>?_);rw[show lW [25,97,5] 0 [] 9=⟨[97,97,97],some [],2,0,0⟩by kernel_rfl]at nx ⊢;have tx:=x.top;refine⟨_,_,_,_,_,rfl,dd,?_⟩;rintro p r rfl j;have d:=(Vw.nil (S:=zH) (h:=h')).new j dd;obtain⟨h2,l,e,t,_⟩:=d.st (cx:=zB) 0 (f:=0) (u:=NU 0 0) rfl (by have:=d.top;omega) zp rfl;have b:=x.trans e.ex0;have w:=b.top;have a:=oS b.low lo;refine⟨h2,l,bQ a (DM (s:=[97,97,97]) dg) ⟨_,rfl,λ_=>bQ a (sG (s:=[97,98]) dg dg) ⟨_,rfl,λ_=>KQ (k:=0) (n:=32) (m:=0) dg dg dg (λ_=>rfl) dg de ⟨_,rfl,λ_=>⟨_,_,e.ldA 0 rfl zp rfl,true,(Yt _ _ _ _ _ _).trans (by rw[jf]),λ_=>⟨λ_=>⟨λ_=>lE a ⟨_,rfl,λ_=>⟨rfl,b.mono dd⟩,λg=>(by cases g)⟩,λc=>absurd rfl c⟩,λc=>absurd rfl c⟩,λg=>(by cases g)⟩,λg=>(by cases g)⟩,λg=>(by cases g)⟩,λg=>(by cases g)⟩⟩
theorem zAf{h:H}{Q:Uc}(G:h.nx+80000<=T.top)(lo:h.low<=T.top)(q:Q (.bool true) h):RF P zB 32 [] h Q:=by refine RF.forget (n:=100) (v:=.bool true) ?_ (xh _) q;refine zh L32 zIh (GJ ⟨_,_,rfl,ZQ ?_⟩);rw[show rh [248] 0 = .tuple [.int .i64 0,.int .i64 0,.int .i64 31,.int .i64 0,.int .i64 1,.agg [.int .i64 0,.int .i64 0]]by kernel_rfl];refine⟨_,_,_,_,_,_,_,rfl,dd,?_⟩;rintro I J rfl r;have j:=(Vw.nil (S:=zH) (h:=h)).new r dd;have K:=j.top;obtain⟨h2,t,w,L,_⟩:=j.st (cx:=zB) 0 (f:=0) (u:=NU 0 0) rfl dd zp rfl;refine⟨h2,t,ZQ ?_⟩;rw[show rh [4] 0 = .tuple [.int .i64 0,.int .i64 0,.int .i64 0,.int .i64 0,.int .i64 0,.agg [.int .i64 20,.int .i64 0]]by kernel_rfl];refine⟨_,_,_,_,_,_,_,rfl,dd,?_⟩;rintro p3 h3 rfl x;have l:=w.new x dd;have M:=l.top;obtain⟨h4,y,z,n4,_⟩:=l.st (cx:=zB) 0 (f:=0) (u:=NU 20 0) rfl dd zp rfl;refine⟨h4,y,ZQ ?_⟩;rw[show rh [162,64,1] 0 = .tuple [.int .i64 2,.int .i64 1,.int .i64 10,.int .i64 5,.int .i64 3,.agg [.int .i64 0,.int .i64 0]]by kernel_rfl];refine⟨_,_,_,_,_,_,_,rfl,dd,?_⟩;rintro p5 N rfl A;have o:=z.new A dd;have O:=o.top;obtain⟨B,C,b,R,_⟩:=o.st (cx:=zB) 0 (f:=0) (u:=NU 0 0) rfl dd zp rfl;have p:=b.ex0;have a:=oS p.low lo;refine⟨B,C,bQ a (sG (s:=[]) dg dg) ⟨_,rfl,λ_=>bQ a (sG (s:=[97]) dg dg) ⟨_,rfl,λ_=>KQ (k:=0) (n:=31) (m:=0) dg dg dg (λ_=>rfl) dg de ⟨_,rfl,λ_=>KQ (k:=1) (n:=5000) (m:=0) dg dg dg (λ_=>rfl) dg de ⟨_,rfl,λ_=>KQ (k:=2) (n:=10) (m:=5) dg dg dg (λc=>absurd c dg) dg de ⟨_,rfl,λ_=>⟨λ_=>λtm hs=>?_,λc=>absurd rfl c⟩,λg=>(by cases g)⟩,λg=>(by cases g)⟩,λg=>(by cases g)⟩,λg=>(by cases g)⟩,λg=>(by cases g)⟩⟩;refine sg hs ⟨_,_,b.ldA 2 rfl zp rfl,true,(Yt _ _ _ _ _ _).trans (by rw[jf]),λ_=>⟨λ_=>⟨λ_=>⟨λ_=>⟨λ_=>⟨λ_=>⟨_,_,b.ldA 1 rfl zp rfl,true,(Yt _ _ _ _ _ _).trans (by rw[jf,jf]),λ_=>⟨_,_,b.ldA 0 rfl zp rfl,true,(Yt _ _ _ _ _ _).trans (by rw[jf]),λ_=>⟨λ_=>⟨λ_=>⟨λ_=>⟨λ_=>⟨λ_=>λD d=>?_,λc=>absurd rfl c⟩,λc=>absurd rfl c⟩,λc=>absurd rfl c⟩,λc=>absurd rfl c⟩,λc=>absurd rfl c⟩,λg=>(by cases g)⟩,λg=>(by cases g)⟩,λc=>absurd rfl c⟩,λc=>absurd rfl c⟩,λc=>absurd rfl c⟩,λc=>absurd rfl c⟩,λc=>absurd rfl c⟩,λg=>(by cases g)⟩;refine sg d (Az dd a ⟨_,rfl,λ_=>lE a ⟨_,rfl,λ_=>lE a ⟨_,rfl,λ_=>lE a ⟨_,rfl,λ_=>λE e=>e.slt λF i=>?_,λg=>(by cases g)⟩,λg=>(by cases g)⟩,λg=>(by cases g)⟩,λg=>(by cases g)⟩);exact endW.r1 (i.get rfl) ⟨rfl,p.mono dd⟩
theorem XE{a:Int}{h:H}{Q:Uc}(h0:0<=a)(b:Q (.bool true) h)(h1:a<=1099511627776:=by omega):RF P zB 320 [.int .i64 a] h Q :=
 zh zIE zFV ⟨λ_=>⟨λ_=>b,λc=>absurd h1 c⟩,λc=>absurd h0 c⟩
theorem FW{a b:Int}{h:H}{Q:Uc}(h0:0<=a)(h1:0<=b)(h2:a+b<=1099511627776)(d:Q (.tuple [.int .i64 (a+b),.int .i64 0]) h):RF P zB 299 [.int .i64 a,.int .i64 b] h Q:=by have e:zb (a+b)=a+b:=zD dd dd;refine zh zHv zFB (XE h0 ⟨_,rfl,λ_=>XE h1 ⟨_,rfl,λ_=>XE (by rw[e];omega) ⟨_,rfl,λ_=>λtm hs=>?_,λg=>(by cases g)⟩ (by rw[e];exact h2),λg=>(by cases g)⟩,λg=>(by cases g)⟩);refine sg hs (λf c=>endW.r2 (c.get rfl) (c.get rfl) ?_);rw[e];exact d
section
variable {v:V}{l:Ub}{h:H}{Q:Uc}
theorem Co(sl:Sl h v 1 l.length (zI l))(g:GC l)(e:∀x,Q (.tuple [.int .i64 x,.int .i64 0]) h):RF P zB 268 [v] h Q:=by
 have hl:=g.len;refine zh zC3 zEd (λtm hs=>?_);refine wpC.round (λk tm h'=>∃(i:Nat) (x:Int),i<=l.length/\k=l.length-i/\h'=h/\0<=x/\x<=1000*i/\Has tm [(5,.int .i64 i),(0,v),(4,.int .i64 x)]) l.length ⟨0,0,dd,dd,rfl,dd,dd,hs.sub de⟩ ?_;clear hs;rintro k tm h' ⟨i,x,hi,rfl,rfl,f,m,hs⟩;refine cg zC3 hs ⟨_,sl.len zM rfl,λc=>?_,λc=>λj b=>?_⟩
 .have hi:i<l.length:=dd
  have r:=g.rng _ (oV hi);obtain⟨pb,po,a1,a2⟩:=sl.at1 hi zM rfl zX rfl rfl (u:=.int .i64 l[i]) (by rw[od,oQ hi];rfl);refine⟨pb,po,a1,_,a2,FW f r.1 dd ⟨_,_,rfl,λc=>absurd rfl c,λ_=>λd a=>⟨rfl,rfl,l.length-(i+1),dd,i+1,x+l[i],dd,rfl,rfl,dd,dd,?_⟩⟩⟩;rw[<-zf];exact a.sub de
 exact thenC.left (sg b (λd a=>endW.r2 (a.get rfl) (a.get rfl) (e x)))
theorem LW(sl:Sl h v 1 l.length (zI l))(g:GC l)(h2:2<=cnt l)(a:Q (.int .i64 0) h):RF P zB 133 [v] h Q:=by have hl:=g.len;exact zh zHD zD1 (zh zHW zEA ⟨_,sl.len zM rfl,λc=>absurd c dd,λ_=>Co sl g λx=>⟨_,_,rfl,⟨_,rfl,λ_=>G2 sl dd ⟨_,rfl,λc=>absurd c dd,λ_=>a⟩,λc=>absurd rfl c⟩⟩⟩)
end
theorem Dk{k n m:Nat}(a:k<4)(b:n<=131072)(hm:m<=131072)(h2:k<2->m=0)(hb:0<wR k n m 4):2<=k->n<256->m<1024:=λf c=>Classical.byContradiction λd=>by have e:=ak a b hm h2;unfold ZW at e;rw[if_neg dd,if_pos c,if_neg d]at e;have:=XZ.2 e;omega
theorem ns{k n m:Nat}(b:k<4)(f:n<=131072)(hm:m<=131072)(h2:k<2->m=0)(c:0<wR k n m 4)(r:Ua):∃st,(2<=k->(st=1↔n<256))/\1<=(X8 k n m).length/\(X8 k n m).length<=(if k<2 then 3 else 5)/\hb (X8 k n m++r) 0 % 4=k /\
  ∀last most,lW (X8 k n m++r) 0 last most=lrB (X8 k n m++r) 0 last most k st n m (X8 k n m).length:=by
 obtain⟨_,i,hi,a,d,e⟩:=J0 b f hm h2 (Dk b f hm h2 c);have g:=uq k i;obtain⟨_,_,h,_⟩:=Vl b hi h2 a d;rw[e,qr];refine⟨fz k i,d.2.2,g.1,?_,?_,λlast most=>CN b hi h2 a d r last most⟩
 .unfold fw;split
  .repeat' split
   all_goals omega
  repeat' split
  all_goals omega
 rw[Ho r g.1];omega
theorem tz{l:Ub}{st a:Nat}(b:yk l)(d:Tx l s)(hs:s.length<=1000)(h:st=1↔s.length<256):qJ (xJ l s) l s.length st a=(s,0,0):=by
 unfold qJ;by_cases c:s.length<256
 .have es:xJ l s=Z5 l s:=if_neg dd;have e:uv (Z5 l s) l s.length=(s,0):=by unfold uv;rw[if_pos (KV b)];exact Vk b d
  rw[if_pos (h.2 c),es,e,if_pos rfl]
 have es:xJ l s=um l s:=if_pos dd;rw[if_neg λq=>c (h.1 q),es,NZ b d dd hs,if_pos rfl]
theorem Fb(a b c:Ua):zS (a++(b++c)) 0 (a.length+b.length)=a++b:=by unfold zS;rw[List.drop_zero,Nat.sub_zero,<-List.append_assoc,<-oW];exact List.take_left
theorem Cw{b:UInt8}(h:XM s=true)(h0:s[0]? = some b):List.replicate s.length b=s:=by
 rcases s with _|⟨a,s⟩
 .cases h
 have e:a=b:=Option.some.inj h0;subst e;have h:(s.all λc=>decide (c=a))=true:=h;rw[oc,List.replicate_succ];congr 1;refine(List.eq_replicate_iff.2 ⟨rfl,λc d=>?_⟩).symm;exact of_decide_eq_true (List.all_eq_true.1 h c d)
theorem az(l:Ub)(s:Ua):(2<=s.length/\XM s=true/\xe l s=⟨1,X8 1 s.length 0++s.take 1,false⟩)\/(¬(2<=s.length/\XM s=true)/\(xe l s=c0 s\/(∃x,qE l s=some x/\xe l s=⟨3,x,false⟩)\/∃x,kc s=some x/\xe l s=⟨2,x,true⟩)):=by
 by_cases c:2<=s.length/\XM s=true
 .exact .inl ⟨c.1,c.2,by unfold xe;rw[if_pos c]⟩
 refine .inr ⟨c,?_⟩;unfold xe;rw[if_neg c];split
 .exact .inl rfl
 have a:∀(d:Cd) k o own,bc d k o own=d\/∃x,o=some x/\bc d k o own=⟨k,x,own⟩:=by
  intro d k o own;unfold bc;rcases o with _|x
  .exact .inl rfl
  by_cases e:x.length<d.sec.length
  .exact .inr ⟨x,rfl,if_pos e⟩
  exact .inl (if_neg e)
 rcases a (bc (c0 s) 3 (qE l s) false) 2 (kc s) true with e|⟨x,e,b⟩
 .rw[e];rcases a (c0 s) 3 (qE l s) false with e|⟨x,e,b⟩
  .exact .inl e
  exact .inr (.inl ⟨x,e,b⟩)
 exact .inr (.inr ⟨x,e,b⟩)
theorem DL{l:Ub}{s more:Ua}(hs:s.length<=1000)(f:l≠[]->jE l=0):lW ((xe l s).sec++more) 0 l (max (s.length:Int) 1)=⟨s,some (pI (xe l s) l s),((xe l s).sec.length:Nat),0,0⟩:=by
 have n:¬(l.length≠0/\jE l≠0):=λc=>c.2 (f λe=>c.1 (by rw[e];rfl))
 have o:¬((max (s.length:Int) 1)<0\/131072<max (s.length:Int) 1):=dd
 have go:∀{k m:Nat}{x:Ua},k<4->m<=131072->(k<2->m=0)->0<wR k s.length m 4->vG k s.length m<=x.length->∃st,(2<=k->(st=1↔s.length<256))/\lW ((X8 k s.length m++x)++more) 0 l (max (s.length:Int) 1)=To (X8 k s.length m++(x++more)) 0 l k st s.length m (X8 k s.length m).length:=by intro k m x z hm h2 hb G;obtain⟨st,b,_,_,_,h3⟩:=ns z dd hm h2 hb (x++more);refine⟨st,b,?_⟩;rw[List.append_assoc,h3];unfold lrB;rw[if_neg o,if_neg n,if_neg];rw[oW,oW];omega
 have g:∀k,k<2->0<wR k s.length 0 4:=λk z=>(J0 dd dd dg (λ_=>rfl) (λc=>absurd c dd)).1
 have p:∀{c:Cd},c.own=false->pI c l s=l:=λh=>by unfold pI;rw[if_neg (by rw[h];decide)]
 rcases az l s with⟨h2,hm,e⟩|⟨B,e|⟨x,e,j⟩|⟨x,e,j⟩⟩
 .have C:s[0]? = some s[0]:=oQ dd;have q:s.take 1=[s[0]]:=by
   rcases s with _|⟨a,s⟩
   .cases h2
   rfl
  obtain⟨st,_,h3⟩:=go (k:=1) (m:=0) (x:=s.take 1) dg dg (λ_=>rfl) (g 1 dg) (by rw[q];exact oR _);rw[e,p rfl,h3];unfold To;rw[if_neg dg,if_pos rfl];have i:(X8 1 s.length 0++(s.take 1++more))[(X8 1 s.length 0).length]?.getD 0=s[0]:=by rw[List.getElem?_append_right (oR _),Nat.sub_self,q];rfl
  rw[i,Cw hm C,oW,q];rfl
 .obtain⟨st,_,h3⟩:=go (k:=0) (m:=0) (x:=s) dg dg (λ_=>rfl) (g 0 dg) (oR _);rw[e,p (c:=c0 s) rfl];show lW ((X8 0 s.length 0++s)++more) 0 l _=⟨s,some l,((X8 0 s.length 0++s).length:Nat),0,0⟩;rw[h3];unfold To;rw[if_pos rfl,Xj,oW]
 .rw[j,p rfl];unfold qE at e;split at e
  .rename_i c;have d:=ql (f c.1);have tx:=uL d c.2;have r:=Zu d tx hs;unfold aF at e;split at e
   .rename_i hb;cases e;obtain⟨st,b,h3⟩:=go (k:=3) (m:=(xJ l s).length) (x:=xJ l s) dg dd (λc=>absurd c dg) hb (oR _);have b:=b dg;show lW ((X8 3 s.length (xJ l s).length++xJ l s)++more) 0 l _=⟨s,some l,((X8 3 s.length (xJ l s).length++xJ l s).length:Nat),0,0⟩;rw[h3];unfold To;have u:l.length≠0:=λe=>c.1 (List.eq_nil_of_length_eq_zero e)
    rw[if_neg dg,if_neg dg,if_neg (λc=>u c.2),if_neg (λc=>by have:=mt b.2 (by rw[c.1];decide);omega),if_neg dg];unfold lrC;rw[Xj,tz d tx hs b,if_pos rfl,oW]
   cases e
  cases e
 have D:pI (xe l s) l s=yX s:=by rw[j];rfl
 rw[D,j];unfold kc at e;split at e
 .cases e
 rename_i h2;have v:s≠[]:=λe=>by rw[e]at h2;exact h2 dg
 have w:XM s=false:=by
  cases e:XM s
  .rfl
  exact absurd ⟨dd,e⟩ B
 obtain⟨A,d,tx⟩:=vA hs v w;have r:=Zu d tx hs;rcases pA A with⟨_,i⟩|⟨t,_,i,I,y⟩
 .rw[i]at e;cases e
 rw[i]at e;have e:aF 2 s.length (t.length+(xJ (yX s) s).length) (t++xJ (yX s) s)=some x:=e;unfold aF at e;split at e
 .rename_i hb;cases e;obtain⟨st,b,h3⟩:=go (k:=2) (m:=t.length+(xJ (yX s) s).length) (x:=t++xJ (yX s) s) dg dd (λc=>absurd c dg) hb (by rw[oW];exact oR _);have b:=b dg;show lW ((X8 2 s.length (t.length+(xJ (yX s) s).length)++(t++xJ (yX s) s))++more) 0 l _=⟨s,some (yX s),((X8 2 s.length (t.length+(xJ (yX s) s).length)++(t++xJ (yX s) s)).length:Nat),0,0⟩;rw[h3];generalize X8 2 s.length (t.length+(xJ (yX s) s).length)=H;unfold To;rw[if_neg dg,if_neg dg,if_neg (λc=>absurd c.1 dg),if_neg (λc=>by have:=mt b.2 (by rw[c.1];decide);omega),if_pos rfl];unfold lrT;have E:zS (H++(t++xJ (yX s) s++more)) 0 (H.length+(t.length+(xJ (yX s) s).length))=H++(t++xJ (yX s) s):=by
   rw[<-oW,Fb]
  have F:zS (H++(t++xJ (yX s) s++more)) (H.length+t.length) (H.length+(t.length+(xJ (yX s) s).length))=xJ (yX s) s:=by have:=Xj (H++t) (xJ (yX s) s) more;rw[oW,Nat.add_assoc,List.append_assoc]at this;rw[List.append_assoc];exact this
  rw[E,W9 A y,if_pos rfl];unfold lrC;dsimp only;rw[F,tz d tx hs b,if_pos rfl,oW,oW]
 cases e
theorem RF.forgetE{f n:Nat}{args:Ug}{h:H}{p:Ua->Prop}{Q:Uc}(r:RF P zB f args h λv h'=>(∃s,v = .str s/\p s)/\Ext h h' n)(a:∀s,p s->Q (.str s) h):RF P zB f args h Q:=by obtain⟨v,h',⟨c,s⟩,⟨w,rfl,hw⟩,x⟩:=r;exact⟨_,h,⟨c,s.forget (yR _) λb hb=>x.get b hb⟩,a w hw⟩
theorem BK{y:Int}(h:0<=y):yD .u8 (zb (97+Int.tmod y 8))=(((UInt8.ofNat (97+(y % 8).toNat)).toNat:Nat):Int):=by
 have b:Int.tmod y 8=y % 8:=Int.tmod_eq_emod_of_nonneg h;obtain⟨m,hm⟩:∃m:Nat,y % 8=m:=⟨(y % 8).toNat,dd⟩;have a:m<8:=dd
 rw[b,hm,oe]
 match m,a with
 | 0,_=>decide
 | 1,_=>decide
 | 2,_=>decide
 | 3,_=>decide
 | 4,_=>decide
 | 5,_=>decide
 | 6,_=>decide
 | 7,_=>decide
theorem GZ{v:V}{l:Ub}{a:Int}{h:H}{Q:Uc}(sl:Sl h v 1 l.length (zI l))(hl:l.length<9223372036854775808)(X:h.nx+2000<=T.top)(I:∀s:Ua,s.length<=1000->Q (.str s) h):RF P zB 33 [v,.int .i64 a] h Q:=by
 refine RF.forgetE (n:=1000) ?_ I;clear I Q;refine zh Af zIi (λtm hs=>?_);refine wpC.round (λk tm h'=>∃(i:Nat) (s:Ua),i<=40/\i<=l.length/\k=40-i/\Ext h h' (20*i)/\s.length<=20*i/\Has tm [(6,.int .i64 i),(5,.str s),(0,v),(1,.int .i64 a)]) 40 ⟨0,[],dd,dd,rfl,Ext.refl h,dg,hs.sub de⟩ ?_;clear hs;rintro k tm h' ⟨i,s,hi,L,rfl,x,J,hs⟩;have tx:=x.top;have fin:∀{g:Tm},Has g [(6,.int .i64 i),(5,.str s),(0,v),(1,.int .i64 a)]->Wf Af zGX ⟨55,g,[],h'⟩ (endW zB ⟨55,[.tmp 4],bf 33⟩ λv h'=>(∃s,v = .str s/\s.length<=1000)/\Ext h h' 1000):=by
  intro g e;refine sg e (lV ⟨_,rfl,λo b=>?_⟩);have E:=Int.emod_nonneg a (show(3:Int)≠0 by decide);have K:=Int.emod_lt_of_pos a (show(0:Int)<3 by decide);obtain⟨c,M⟩:∃c:Nat,a % 3=c:=⟨(a % 3).toNat,dd⟩;rw[M]at b;refine wpC.round (λk tm h2=>∃(s:Ua),k<=3/\h2=h'/\s.length<=1000/\Has tm [(9,.int .i64 k),(5,.str s)]) c ⟨s,dd,rfl,dd,b.sub de⟩ ?_;clear b o;rintro k o h2 ⟨m,N,rfl,r,b⟩;have done:∀{f:Tm},Has f [(5,.str m)]->Wf Af zGW ⟨55,f,[],h2⟩ (yL Af (endW zB ⟨55,[.tmp 4],bf 33⟩ λv h'=>(∃s,v = .str s/\s.length<=1000)/\Ext h h' 1000)):=λd =>
   sg d (λz p=>p.slt λA q=>endW.r1 (q.get rfl) ⟨⟨_,rfl,r⟩,x.mono dd⟩)
  refine cg Af b ⟨λw=>⟨λB=>λf d=>?_,λB=>λf d=>thenC.left (done (d.sub de))⟩,λw=>λf d=>thenC.left (done (d.sub de))⟩;have B:(m.length:Int)<500:=B;refine sg d ⟨dd,λA q=>q.slt λz p=>⟨rfl,rfl,k-1,dd,m++m,dd,rfl,by rw[oW];omega,?_⟩⟩;rw[show((k-1:Nat):Int)=zb ((k:Int)-1)by rw[zD dd dd];omega];exact p.sub de
 refine cg Af hs ⟨_,(sl.ext x).len zM rfl,λw=>⟨λB=>λg e=>?_,λB=>λg e=>thenC.left (fin (e.sub de))⟩,λw=>λg e=>thenC.left (fin (e.sub de))⟩;have t:i<l.length:=dd
 obtain⟨pb,po,a1,a2⟩:=(sl.ext x).at1 (i:=i) t zM rfl zX rfl rfl (u:=.int .i64 l[i]) (by rw[od,oQ t];rfl);refine sg e ⟨pb,po,a1,_,a2,lV ⟨_,rfl,λo b=>?_⟩⟩;have E:=Int.emod_nonneg l[i] (show(1048576:Int)≠0 by decide);have K:=Int.emod_lt_of_pos l[i] (show(0:Int)<1048576 by decide);generalize l[i] % 1048576=y at E K b;have C:zb (Int.tdiv y 8)=y/8:=by rw[Int.tdiv_eq_ediv_of_nonneg E];exact zD dd dd
 have D:Int.tmod (zb (Int.tdiv y 8)) 20=y/8 % 20:=by rw[C];exact Int.tmod_eq_emod_of_nonneg dd
 refine wpC.round (λk tm h2=>∃(j:Nat) (m:Ua),j<=20/\k=20-j/\Ext h h2 (20*i+j)/\m.length<=20*i+j/\Has tm [(8,.int .i64 j),(7,.int .i64 y),(5,.str m),(6,.int .i64 i),(0,v),(1,.int .i64 a)]) 20 ⟨0,s,dd,rfl,x.mono dd,dd,b.sub de⟩ ?_;clear b o;rintro k o h2 ⟨j,m,Y,rfl,F,r,b⟩;have O:=F.top;refine cg Af b ⟨dg,dg,λw=>⟨dg,?_⟩,λw=>λf d=>?_⟩
 .rw[D]at w;obtain⟨h3,R,S,U⟩:=ZC (h:=h2) ((((UInt8.ofNat (97+(y % 8).toNat)).toNat:Nat):Int)) dd;refine⟨.slice h2.nx 0 1 (.exact 1),h3,by rw[BK E];exact R,_,_,Ze (l:=[UInt8.ofNat (97+(y % 8).toNat)]) S (show 0<1 by decide),by show m.length+1<=_;omega,(λf d=>⟨rfl,rfl,20-(j+1),dd,j+1,m++[UInt8.ofNat (97+(y % 8).toNat)],dd,rfl,(F.trans U).mono dd,by rw[oW];show m.length+1<=_;omega,?_⟩)⟩;rw[<-zf];exact d.sub de
 refine thenC.left2 (sg d (λA q=>q.slt λW G=>G.slt λz p=>⟨rfl,rfl,40-(i+1),dd,i+1,m,dd,dd,rfl,F.mono dd,dd,?_⟩));rw[<-zf];exact p.sub de
theorem zCx{c d:Cd}{k:Nat}{o:Option Ua}{own:Bool}(h:c.sec.length<=d.sec.length):(bc c k o own).sec.length<=(bc d k o own).sec.length:=by
 unfold bc;rcases o with _|x
 .exact h
 dsimp only;split
 .split
  .exact oR _
  show x.length<=_;omega
 split
 .show c.sec.length<=x.length;omega
 exact h
theorem SI{c:Cd}{k:Nat}{o:Option Ua}{own:Bool}:(bc c k o own).sec.length<=c.sec.length:=by
 unfold bc;rcases o with _|x
 .exact oR _
 dsimp only;split
 .show x.length<=_;omega
 exact oR _
theorem HK(l:Ub)(s:Ua):(xe l s).sec.length<=(xe [] s).sec.length:=by
 unfold xe;split
 .exact oR _
 split
 .exact oR _
 exact zCx SI
theorem zDA(hs:s.length<=1000):(c0 s).sec.length<=s.length+3:=by obtain⟨st,_,_,h,_⟩:=ns (k:=0) (n:=s.length) (m:=0) dg dd dg (λ_=>rfl) (J0 dg dd dg (λ_=>rfl) (λc=>absurd c dg)).1 [];show(X8 0 s.length 0++s).length<=_;rw[oW];have h:(X8 0 s.length 0).length<=3:=h;omega
theorem lK{k n m:Nat}(b:k<4)(c:n<=131072)(hm:m<=131072)(h2:k<2->m=0)(a:0<wR k n m 4)(x:Ua):0<(X8 k n m++x).length/\hb (X8 k n m++x) 0 % 4=k:=by obtain⟨st,_,d,_,h3,_⟩:=ns b c hm h2 a x;exact⟨by rw[oW];omega,h3⟩
structure ChI (l:Ub) (s:Ua):Prop where
 sz:(xe l s).sec.length<=s.length+3
 pos:0<(xe l s).sec.length
 kind:hb (xe l s).sec 0 % 4=(xe l s).k
 eq:2<=s.length/\XM s=true->(xe l s).k=1/\(xe l s).sec.length<=4
 ne:¬(2<=s.length/\XM s=true)->(xe l s).k≠1
 nl:l=[]->(xe l s).k≠3
 lens:(xe l s).k≠2->pI (xe l s) l s=l
theorem DK{l:Ub}(hs:s.length<=1000)(f:l≠[]->jE l=0):ChI l s:=by
 have b:∀k,k<2->0<wR k s.length 0 4:=λk w=>(J0 dd dd dg (λ_=>rfl) (λc=>absurd c dd)).1
 have r:(c0 s).sec.length<=s.length+3:=zDA hs;have key:¬(2<=s.length/\XM s=true)->(xe l s).sec.length<=s.length+3:=λh=>by
  unfold xe;rw[if_neg h];split
  .exact r
  exact oS SI (oS SI r)
 rcases az l s with⟨h2,hm,e⟩|⟨d,e|⟨x,e,a⟩|⟨x,e,a⟩⟩
 .obtain⟨a1,a2⟩:=lK (k:=1) (n:=s.length) (m:=0) dg dd dg (λ_=>rfl) (b 1 dg) (s.take 1);obtain⟨_,_,_,h,_⟩:=ns (k:=1) (n:=s.length) (m:=0) dg dd dg (λ_=>rfl) (b 1 dg) [];have h:(X8 1 s.length 0).length<=3:=h;have y:(s.take 1).length<=1:=by rw[List.length_take];omega
  have i:(xe l s).sec.length<=4:=by rw[e];show(X8 1 s.length 0++s.take 1).length<=4;rw[oW];omega
  exact⟨dd,by rw[e];exact a1,by rw[e];exact a2,λ_=>⟨by rw[e],i⟩,λc=>absurd ⟨h2,hm⟩ c,λ_=>by rw[e];exact(show(1:Nat)≠3 by decide),λ_=>by rw[e];rfl⟩
 .obtain⟨a1,a2⟩:=lK (k:=0) (n:=s.length) (m:=0) dg dd dg (λ_=>rfl) (b 0 dg) s;exact⟨key d,by rw[e];exact a1,by rw[e];exact a2,λc=>absurd c d,λ_=>by rw[e];exact(show(0:Nat)≠1 by decide),λ_=>by rw[e];exact(show(0:Nat)≠3 by decide),λ_=>by rw[e];rfl⟩
 .have g:0<x.length/\hb x 0 % 4=3:=by
   unfold qE at e;split at e
   .rename_i c;have j:=Zu (ql (f c.1)) (uL (ql (f c.1)) c.2) hs;unfold aF at e;split at e
    .rename_i hb;cases e;exact lK (k:=3) dg dd dd (λc=>absurd c dg) hb _
    cases e
   cases e
  refine⟨key d,by rw[a];exact g.1,by rw[a];exact g.2,λc=>absurd c d,λ_=>by rw[a];exact(show(3:Nat)≠1 by decide),λh=>?_,λ_=>by rw[a];rfl⟩;subst h;cases e
 have g:0<x.length/\hb x 0 % 4=2:=by
  unfold kc at e;split at e
  .cases e
  rename_i h2;have o:s≠[]:=λe=>by rw[e]at h2;exact h2 dg
  have p:XM s=false:=by
   cases e:XM s
   .rfl
   exact absurd ⟨dd,e⟩ d
  obtain⟨u,v,tx⟩:=vA hs o p;have j:=Zu v tx hs;rcases pA u with⟨_,q⟩|⟨t,_,q,z,_⟩
  .rw[q]at e;cases e
  rw[q]at e;have e:aF 2 s.length (t.length+(xJ (yX s) s).length) (t++xJ (yX s) s)=some x:=e;unfold aF at e;split at e
  .rename_i hb;cases e;exact lK (k:=2) dg dd dd (λc=>absurd c dg) hb _
  cases e
 exact⟨key d,by rw[a];exact g.1,by rw[a];exact g.2,λc=>absurd c d,λ_=>by rw[a];exact(show(2:Nat)≠1 by decide),λ_=>by rw[a];exact(show(2:Nat)≠3 by decide),λc=>by rw[a]at c;exact absurd rfl c⟩
end Go.Proofs.YtnpeieeomokomaaGreat
