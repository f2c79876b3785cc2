/- BD. No condition. -/
import Derived.Test.YtnpeieeomokomaaGreatZBC
import Derived.Test.YtnpeieeomokomaaGreatZTA
noncomputable section
set_option maxRecDepth 100000
set_option maxHeartbeats 4000000
namespace Go.Proofs.YtnpeieeomokomaaGreat
open Go.Sim
variable{L:List (Nat×O)}{sec:Ua}{Q:Uc}
def aF(k n m:Nat)(x:Ua):Option Ua:=if 0<wR k n m 4 then some (ZU k n m 4++x) else none
def wrS(l:Ub):Option Ua:=match YC l with | .tuple [.str t,.int .i64 0]=>some t|_=>none
def qE(l:Ub)(s:Ua):Option Ua:=if l≠[]/\tH l s=true then aF 3 s.length (xJ l s).length (xJ l s) else none
def kc(s:Ua):Option Ua:=if s.length<2 then none else (wrS (yX s)).bind λt=>aF 2 s.length (t.length+(xJ (yX s) s).length) (t++xJ (yX s) s)
theorem pA{l:Ub}(a:rE l=0):(YC l = .tuple [.str [],.int .i64 7]/\wrS l=none)\/∃t,YC l = .tuple [.str t,.int .i64 0]/\wrS l=some t/\t.length<=128/\(Y9 (ku l)=some t\/kf (ku l)=some t):=by
 unfold wrS;rcases IN a with e|⟨t,e,h⟩
 .rw[e];exact .inl ⟨rfl,rfl⟩
 rw[e];refine .inr ⟨t,rfl,rfl,?_,h⟩;rcases h with h|h
 .have:=DY h;omega
 exact(DN h).2
theorem Zu{l:Ub}{s:Ua}(a:yk l)(c:Tx l s)(hs:s.length<=1000):(xJ l s).length<=3000:=by
 unfold xJ;split
 .have p:∀i,i<4->(Z5 l (yI s i)).length<=2*(yI s i).length+1:=λi _=>KR a λb hb=>c b (List.mem_of_mem_drop (List.mem_of_mem_take hb))
  have q:∀i,i<4->(yI s i).length<=(s.length+3)/4:=λi hi=>by rw[Xc dd hi];unfold K1;split<;>omega
  have p0:=p 0 dg;have d:=p 1 dg;have e:=p 2 dg;have p3:=p 3 dg;have q0:=q 0 dg;have f:=q 1 dg;have g:=q 2 dg;have h:=q 3 dg;unfold um;simp only[oW,qr];omega
 have:=KR a c;omega
theorem Nl{v:V}{b:UInt8}{h:H}(sl:Sl h v 1 256 (zI (jk [b])))(a:Q (.tuple [.nilslice,.int .i64 7]) h):RF P zB 55 [v] h Q:=by have g:=QN (s:=[b]) (show 1<=1000 by decide);have e:(jk [b]).length=256:=xL _ _;have d:=HM b;rw[<-e]at sl;refine zh B5 zFh (zh zCE Bh (Zc sl g ⟨_,rfl,λc=>absurd rfl c,λ_=>ZF sl g ⟨_,_,rfl,λ_=>⟨_,rfl,λ_=>a,λc=>absurd dg c⟩,λc=>absurd (by rw[d];decide) c⟩⟩))
theorem CL{s:Ua}(hs:s.length<=1000)(h2:s≠[])(hm:XM s=false){b:Nat}{h:H}(sl:Sl h (.slice b 0 256 (.exact 256)) 1 256 (zI (jk s)))(a:h.nx<T.top)(c:∀h' cs,Ext h h' 1->h'.nx=h.nx+1->h'.get h.nx=some (yV cs)->Row cs 256 (zI (wV s))->Q (.tuple [.slice h.nx 0 256 (.exact 256),.int .i64 0]) h'):RF P zB 55 [.slice b 0 256 (.exact 256)] h Q :=
 (Classical.choose_spec (rV (jk s)) (QO hs h2 hm) (xL _ _)).2.2 sl a c
theorem Lk{h:H}{b n N m:Nat}(hm:m<=N):zw zB 23 h (.slice b 0 n (.exact N)) none (some (.int .i64 (m:Nat))) none=some (.slice b 0 m (.exact N)):=by unfold zw;have a:Nat.ble m N=true:=oE hm;simp only[zM,zX,Go.Sim.bnd,YG,a,oN,Option.isSome_none,Bool.false_and,oO,Nat.zero_mul,Nat.zero_add,Nat.sub_zero];cases Nat.beq N 0<;>rfl
theorem Fu{l:Ub}{m:Nat}(hm:m<=l.length)(b:∀i,m<=i->l[i]?.getD 0=0)(h1:0<m)(a:l[m-1]?.getD 0≠0):l.take m=xP l:=by
 obtain⟨_,a2,a3⟩:=gm l l.length;have a3:=a3 ⟨m-1,dd,a⟩;have:lz l l.length=m-1:=by
  rcases Nat.lt_trichotomy (lz l l.length) (m-1)with c|c|c
  .exact absurd (a2 (m-1) dd c) a
  .exact c
  exact absurd (b _ dd) a3
 unfold xP;rw[this,show m-1+1=m by omega]
theorem Eh{h h':H}{n t p o:Nat}(x:Ext h h' n)(hp:p<h.nx):ye zB t h' (.ptr p o)=ye zB t h (.ptr p o):=by unfold ye;simp only[x.get p hp]
theorem nc(k n m:Nat):(ZU k n m 4).length<=5:=by
 rcases e:XY k n m 4 with _|j
 .unfold ZU;rw[e];exact oM _
 rw[(Zb e).1,qr];exact(uq k j).2
structure KO (p lp:Nat) (s:Ua) (Q:Uc) (h:H):Prop where
 str:ye zB 9 h (.ptr p 0)=some (.str s)
 nx:h.nx+10000<=T.top
 lo:h.low<=T.top
 no:∀h3,Ext h h3 2->kc s=none->Q (.tuple []) h3
 yes:∀h3 b cs m sec,Ext h h3 2->h.nx<=b->b<h3.nx->h3.get b=some (yV cs)->Row cs 256 (zI (wV s))->m<=256->(wV s).take m=yX s->kc s=some sec->RR P lp [.int .i64 2,.agg [.str sec,.slice b 0 m (.exact 256)]] h3 λr h4=>(∃b,r = .bool b)/\Q (.tuple []) h4
theorem zG4{k:Uc}{r:V}{h:H}(hr:∃b,r = .bool b)(a:∀v,k v h):Xr zB 4 k r h:=by
 obtain⟨b,rfl⟩:=hr;cases b
 .exact AP (a _)
 exact JD (a _)
theorem lr{s:Ua}(hs:s.length<=1000)(h2:s≠[])(G:¬(2<=s.length/\XM s=true)){p lp:Nat}{h:H}{tm:Tm}{Q:Uc}(K:KO p lp s Q h)(hp:p<h.nx)(y:Has tm [(1,.ptr p 0),(0,.yield lp)]):Wf Ac zBP ⟨126,tm,[],h⟩ (endW zB ⟨126,[],bf 205⟩ Q):=by
 have W:=List.length_pos_iff.2 h2;have kn:=K.nx;have str:∀{h' n},Ext h h' n->ye zB 9 h' (.ptr p 0)=some (.str s):=λx=>(Eh x hp).trans K.str
 refine sg y ⟨s,K.str,Pv dd dd λI F z=>⟨_,_,rfl,?_⟩⟩;have n1:=F.top;by_cases c1:s.length<2
 .obtain⟨b,rfl⟩:=List.length_eq_one_iff.1 (show s.length=1 by omega);refine Nl z ⟨_,_,rfl,λ_=>λA j=>?_,λc=>absurd dg c⟩;exact K.no I (F.mono dd) (by unfold kc;rw[if_pos c1])
 have B:XM s=false:=by
  cases e:XM s
  .rfl
  exact absurd ⟨dd,e⟩ G
 obtain⟨ck,g,tx⟩:=vA hs h2 B;have tl:=Zk s;refine CL hs h2 B z dd λh' cs x2 n2 X row=>⟨_,_,rfl,λc=>absurd rfl c,λ_=>λA j=>?_⟩
 have w:=F.trans x2;have C:h'.low<=T.top:=oS w.low K.lo;have nz:∃i,i<256/\(wV s)[i]?.getD 0≠0:=by
  obtain⟨b,hb⟩:=List.exists_mem_of_ne_nil s h2;obtain⟨x,e,l⟩:=tx b hb;refine⟨b.toNat,b.toNat_lt,?_⟩;have e:((wV s).take (lz (wV s) (wV s).length+1))[b.toNat]? = some x:=e;rw[List.getElem?_take]at e;split at e
  .rw[e,Option.getD_some];omega
  cases e
 refine wpC.round (λk tm Y=>∃m,m<=256/\k=m/\Y=h'/\(∀i,m<=i->(wV s)[i]?.getD 0=0)/\Has tm [(12,.slice I.nx 0 m (.exact 256)),(1,.ptr p 0),(0,.yield lp)]) 256 ⟨256,dd,rfl,rfl,λi hi=>by rw[ov];rfl,j.sub de⟩ ?_;clear y j A tm;rintro k tm3 Y ⟨m,hm,hk,J,M,N⟩;obtain rfl:=J.symm;obtain rfl:=hk.symm;have d:Sl h' (.slice I.nx 0 m (.exact 256)) 1 m (zI ((wV s).take m)):=Row.take row hm dd X _;refine cg Ac N ⟨_,d.len zM rfl,λc=>?_,λc=>?_⟩
 .have O:0<m:=dd
  have Z:zb ((m:Int)-1)=((m-1:Nat):Int):=by rw[zD dd dd];omega
  have l:(wV s)[m-1]? = some (wV s)[m-1]:=oQ dd;generalize (wV s)[m-1]=x at l;obtain⟨pb,po,a1,a2⟩:=d.at1 (i:=m-1) dd zM rfl zX rfl rfl (u:=.int .i64 x) (by rw[od,List.getElem?_take,if_pos dd,l];rfl);refine⟨_,d.len zM rfl,pb,po,by rw[Z];exact a1,x,a2,λR=>λS f=>?_,λR=>λS f=>?_⟩
  .refine sg f ⟨_,d.len zM rfl,_,by rw[Z];exact Lk dd,λo a=>a.slt λq U=>⟨rfl,rfl,m-1,dd,m-1,dd,rfl,rfl,λi hi=>?_,U.sub de⟩⟩;by_cases e:i=m-1
   .rw[e,l,R];rfl
   exact M i dd
  refine thenC.left ?_;have et:(wV s).take m=yX s:=Fu dd M O (by rw[l];exact R);have em:m=(yX s).length:=by rw[<-et,List.length_take];omega
  rw[et,em]at d;rw[em]at f;have D:=d;refine sg f (cZ D dd dd C ?_);rcases pA ck with⟨e,V⟩|⟨t,e,V,tlen,_⟩
  .refine⟨_,_,e,λ_=>λo a=>a.slt λq _=>?_,λc=>absurd dg c⟩;exact K.no h' w (by unfold kc;rw[if_neg c1,V];rfl)
  have eo:kc s=aF 2 s.length (t.length+(xJ (yX s) s).length) (t++xJ (yX s) s):=by unfold kc;rw[if_neg c1,V];rfl
  have sln:=Zu g tx hs;refine⟨_,_,e,λc=>absurd rfl c,λ_=>⟨s,str w,uG D g hs dd C ?_⟩⟩;unfold Fh;rw[if_pos (zBc tx)];refine⟨_,_,rfl,λ_=>⟨s,str w,?_⟩,λc=>absurd c dg⟩;show RF P zB 132 [.int .i64 2,_,.int .i64 (zb _)] h' _;rw[show zb ((Int.ofNat t.length)+(Int.ofNat (xJ (yX s) s).length))=((t.length+(xJ (yX s) s).length:Nat):Int)from zD (show -9223372036854775808<=(t.length:Int)+((xJ (yX s) s).length:Int)by omega) (show(t.length:Int)+((xJ (yX s) s).length:Int)<9223372036854775808 by omega)];refine Ys (k:=2) dg dd dd (λc=>absurd c dg) ⟨_,_,rfl,λE=>?_,λE=>λo a=>a.slt λq _=>?_⟩
  .have hb:=nc 2 s.length (t.length+(xJ (yX s) s).length);have E:=of_decide_eq_true E;refine⟨dd,by rw[oW];omega,?_⟩;show RR P lp _ h' _;rw[List.append_assoc];refine RR.mono (K.yes h' _ cs _ _ w F.le dd X row (em ▸ hm) (by rw[<-em];exact et) (by rw[eo];unfold aF;rw[if_pos E])) ?_;rintro r h4 ⟨hr,hq⟩;exact zG4 hr λv=>λo a=>a.slt λq _=>hq
  exact K.no h' w (by rw[eo];unfold aF;rw[if_neg (of_decide_eq_false E)])
 obtain⟨i,_,l⟩:=nz;exact absurd (M i dd) l
structure KL (p q lp:Nat) (s:Ua) (l:Ub) (v:V) (Q:Uc) (h:H):Prop where
 str:ye zB 9 h (.ptr p 0)=some (.str s)
 lens:ye zB 23 h (.ptr q 0)=some v
 sl:Sl h v 1 l.length (zI l)
 nx:h.nx+10000<=T.top
 lo:h.low<=T.top
 no:qE l s=none->KO p lp s Q h/\p<h.nx
 yes:∀sec,qE l s=some sec->RR P lp [.int .i64 3,.agg [.str sec,v]] h λr h2=>r = .bool true/\KO p lp s Q h2/\p<h2.nx
theorem LO{s:Ua}{v:V}{l:Ub}{p q lp:Nat}{h:H}(hs:s.length<=1000)(b:¬(2<=s.length/\XM s=true))(f:l≠[]->yk l)(j:IsS v)(o:ye zB 9 h (.ptr p 0)=some (.str s))(u:ye zB 23 h (.ptr q 0)=some v)(w:RR P lp [.int .i64 0,.agg [.str (X8 0 s.length 0++s),v]] h λr h1=>(r = .bool false/\Q (.tuple []) h1)\/(r = .bool true/\s≠[]/\KL p q lp s l v Q h1)):RF P zB 205 [.yield lp,.ptr p 0,.ptr q 0] h Q:=by
 have hb:=nc 0 s.length 0;obtain⟨d,_⟩:=J0 (k:=0) (n:=s.length) (m:=0) dg dd dg (λ_=>rfl) (λc=>absurd c dg);refine zh Ac zEC ⟨s,o,Ys (k:=0) (m:=0) dg dd dg (λ_=>rfl) ⟨_,_,rfl,λ_=>⟨s,o,dd,v,u,?_⟩,λc=>absurd d (of_decide_eq_false c)⟩⟩;show XU zB 98 (qe zB 98 [(0,.str _),(1,v)]) _;refine uU j ?_;show RR P lp _ h _;refine RR.mono w ?_;rintro r h1 (⟨rfl,x⟩|⟨rfl,h2,K⟩)
 .exact⟨false,rfl,λc=>(by cases c),λ_=>x⟩
 refine⟨true,rfl,λ_=>⟨v,K.lens,_,K.sl.len zM rfl,λc=>⟨v,K.lens,s,K.str,?_⟩,λc=>λtm a=>?_⟩,λc=>(by cases c)⟩
 .have hl:l≠[]:=λe=>by subst e;exact absurd c dg
  have g:=f hl;refine uG K.sl g hs (by have:=K.nx;omega) K.lo ?_;unfold Fh;by_cases e:tH l s=true
  .have tx:=uL g e;have y:=Zu g tx hs;rw[if_pos e];have z:=nc 3 s.length (xJ l s).length;have t:qE l s=aF 3 s.length (xJ l s).length (xJ l s):=by unfold qE;rw[if_pos ⟨hl,e⟩]
   refine⟨_,_,rfl,λ_=>⟨s,K.str,Ys (k:=3) dg dd dd (λc=>absurd c dg) ⟨_,_,rfl,λi=>⟨dd,v,K.lens,?_⟩,λi=>λtm a=>?_⟩⟩,λc=>absurd c dg⟩
   .show XU zB 98 (qe zB 98 [(0,.str _),(1,v)]) _;refine uU j ?_;show RR P lp _ h1 _;refine RR.mono (K.yes _ (by rw[t];unfold aF;rw[if_pos (of_decide_eq_true i)])) ?_;rintro r h3 ⟨rfl,K2,lt⟩;exact⟨true,rfl,λ_=>λtm a=>lr hs h2 b K2 lt (a.sub de),λc=>(by cases c)⟩
   obtain⟨K2,lt⟩:=K.no (by rw[t];unfold aF;rw[if_neg (of_decide_eq_false i)]);exact lr hs h2 b K2 lt (a.sub de)
  rw[if_neg e];refine⟨_,_,rfl,λc=>absurd c dg,λ_=>λtm a=>?_⟩;obtain⟨K2,lt⟩:=K.no (by unfold qE;rw[if_neg λc=>e c.2]);exact lr hs h2 b K2 lt (a.sub de)
 obtain⟨K2,lt⟩:=K.no (by unfold qE;rw[if_neg λe=>?_];exact e.1 (List.eq_nil_iff_length_eq_zero.2 dd));exact lr hs h2 b K2 lt (a.sub de)
theorem WU{s:Ua}{v:V}{h:H}(c:v.one=true)(e:h.nx+2<=T.top)(d:∀a b,a=h.new (Xa s)->b=a.new (IZ v)->Q (.func (.func 205) [] [.ptr h.nx 0,.ptr a.nx 0]) b):RF P zB 136 [.str s,v] h Q:=by refine zh zHE zD4 ⟨rfl,dd,?_⟩;rintro p0 f rfl rfl;refine⟨c,by rw[zC];omega,?_⟩;rintro g h3 rfl rfl;exact d _ _ rfl rfl
structure Cd where
 k:Nat
 sec:Ua
 own:Bool
def bc(c:Cd)(k:Nat)(o:Option Ua)(own:Bool):Cd:=match o with|none=>c|some x=>if x.length<c.sec.length then ⟨k,x,own⟩ else c
def c0(s:Ua):Cd:=⟨0,X8 0 s.length 0++s,false⟩
def xe(l:Ub)(s:Ua):Cd :=
 if 2<=s.length/\XM s=true then ⟨1,X8 1 s.length 0++s.take 1,false⟩ else if s=[] then c0 s else bc (bc (c0 s) 3 (qE l s) false) 2 (kc s) true
def pI(c:Cd)(l:Ub)(s:Ua):Ub:=if c.own then yX s else l
theorem _root_.Go.Sim.Vw.rangeE{S:Nat->Prop}{hb:H}{c i:Nat}{f:Go.Operand}{ps:Array Nat}{a body:Code}{s:St}{Q:Ud}{g:Nat}{captured:Ug}(w:Vw S hb s.heap c L)(l:yt s.tm f=some (.func (.func g) [] captured))(q:s.heap.nx+2<=T.top)(m:∀h1,Vw S hb h1 (c+2) ((s.heap.nx+1,.loop .ready none s.n s.tm ps a body s.heap.nx)::(s.heap.nx,.deferred true)::L)->h1.nx=s.heap.nx+2 ->
   RF P zB g (.yield (s.heap.nx+1)::captured) h1 λ_ h3=>∃c' L',(Vw S hb h3 c' ((s.heap.nx+1,.loop .ready none s.n s.tm ps a body s.heap.nx)::L')\/Vw S hb h3 c' ((s.heap.nx+1,.loop .done (some (.exit i)) s.n s.tm ps a body s.heap.nx)::L'))/\h3.nx<=T.top /\
    ∀h4 o e,exitB i e = .normal->Vw S hb h4 c' ((s.heap.nx+1,o)::L')->h4.nx=h3.nx->(∀b,b≠s.heap.nx+1->h4.get b=h3.get b)->Q e ⟨s.n,s.tm,.coll s.heap.nx::s.dfr,h4⟩):RC P false (.rangeFunc f ps a body) s Q:=by
 refine RC.rangeFunc xf l dd ?_;have n:=w.new (h':=s.heap.new (.deferred true)) rfl dd;have n1:(s.heap.new (.deferred true)).nx=s.heap.nx+1:=zC _ _;have j:=n.new (h':=(s.heap.new (.deferred true)).new (.loop .ready none s.n s.tm ps a body s.heap.nx)) rfl dd;rw[n1]at j;have p:((s.heap.new (.deferred true)).new (.loop .ready none s.n s.tm ps a body s.heap.nx)).nx=s.heap.nx+2:=by rw[zC,n1]
 refine RF.mono (m _ j p) ?_;rintro v h3 ⟨c',L',d,h,k⟩;have hl:s.heap.nx+1<T.top:=d.elim (λw=>oL (w.lt 0 rfl) h) λw=>oL (w.lt 0 rfl) h
 rcases d with d|d<;>simp only[kl,d.get 0 rfl]
 .exact k _ _ _ rfl (d.upd 0 rfl h) rfl λb hb=>zL _ hl hb
 exact k _ _ (.exit i) (by show(if _ then _ else _)=_;simp) (d.upd 0 rfl h) rfl λb hb=>zL _ hl hb
theorem Ta{k k':H->Prop}(a:∀h,k h->k' h):∀{d:List AD}{h:H},Kr d h k->Kr d h k'
 | [],_,g=>a _ g
 | .coll i::l,h,g=>by
  simp only[Kr]at g ⊢;split at g
  .exact Ta a g
  exact g.elim
 | .fn _ _ _::_,_,g=>g.elim
theorem Bd{h:H}{tm:Tm}{d:List AD}{pr m:Nat}{k:Int}{w:V}(hs:Has tm [(4,.int .i64 k),(5,.ptr pr 0)])(hd:Kr d h λh'=>ye zB 98 h' (.ptr pr 0)=some (.agg [.str sec,w])/\Q (.tuple [.int .i64 k,.agg [.str sec,w]]) h'):endW zB ⟨54,[.tmp 4,.cell 5 98],bf 76⟩ Q .ret ⟨m,tm,d,h⟩:=by
 show Kr d h _;refine Ta ?_ hd;rintro h' ⟨e,a⟩;have el:∀rs,leave zB rs tm h' [.tmp 4,.cell 5 98] []=some [.int .i64 k,.agg [.str sec,w]]:=λrs=>leave.tmp (hs.get (t:=4) rfl) (leave.cell (hs.get (t:=5) rfl) e rfl)
 show(match leave zB _ tm h' [.tmp 4,.cell 5 98] []with|some b=>Q (yC b) h'|none=>False);rw[el];exact a
abbrev Py(df pq pp pw pb pr ps:Nat)(s:Ua)(v:V)(c:Cd)(w:V):List (Nat×O):=[(df,.deferred true),(pq,IZ v),(pp,Xa s),(pw,oKd c.k),(pb,tA c.sec w),(pr,tA [] .nilslice),(ps,Xa s)]
theorem tU{lp df pq pp pw pb pr ps:Nat}{s:Ua}{v w w2:V}{c:Cd}{o:O}{k:Nat}{own:Bool}(h0:c.sec≠[]):∃a,jQ ((lp,o)::Py df pq pp pw pb pr ps s v c w) 5 4 pb pw c.sec sec w2 k=(lp,o)::Py df pq pp pw pb pr ps s v (bc c k (some sec) own) a/\((a=w2/\(bc c k (some sec) own).own=own)\/(a=w/\(bc c k (some sec) own).own=c.own)):=by
 unfold jQ bc;by_cases e:sec.length<c.sec.length
 .simp only[if_pos e,if_pos (Or.inr e:c.sec=[]\/sec.length<c.sec.length)];exact⟨w2,rfl,.inl ⟨rfl,trivial⟩⟩
 simp only[if_neg e,if_neg (show ¬(c.sec=[]\/sec.length<c.sec.length)from λg=>g.elim h0 e)];exact⟨w,rfl,.inr ⟨rfl,trivial⟩⟩
theorem zCy{c:Cd}{k:Nat}{x:Ua}{own:Bool}(h:c.sec≠[])(a:x≠[]):(bc c k (some x) own).sec≠[]:=by
 unfold bc;dsimp only;split
 .exact a
 exact h
theorem zA1{k n m:Nat}{x y:Ua}(h:aF k n m x=some y):y≠[]:=by
 unfold aF at h;split at h
 .rename_i c;cases h;intro e;have e:=(List.append_eq_nil_iff.1 e).1;rcases a:XY k n m 4 with _|j
  .exact absurd c (by rw[XZ.2 a];decide)
  rw[(Zb a).1]at e;have:=congrArg List.length e;rw[qr]at this;have:=(uq k j).1;simp at *;omega
 cases h
theorem HI{l:Ub}{s y:Ua}(h:qE l s=some y):y≠[]:=by
 unfold qE at h;split at h
 .exact zA1 h
 cases h
theorem _root_.Go.Sim.Vw.atop{S:Nat->Prop}{hb h h3:H}{c n b:Nat}{o:O}(w:Vw S hb h c L)(x:Ext h h3 n)(h1:h.nx<=b)(h2:b<h3.nx)(g:h3.get b=some o):Vw S hb h3 (c+n) ((b,o)::L) :=
 ⟨(w.ext x).ex,h2,.inr (oS w.le h1),g,(w.bk.keep λq a=>x.get _ (w.bk.lt q a)).up h1⟩
theorem SJ{x:Nat×O}{i j pb pw:Nat}{bs:Ua}{v:V}{k:Int}:jQ (x::L) (i+1) (j+1) pb pw bs sec v k=x::jQ L i j pb pw bs sec v k:=by unfold jQ;split<;>rfl
theorem Sl.keep{h h':H}{v:V}{e n:Nat}{xs:Ug}(s:Sl h v e n xs)(a:∀q,z6 v=some q->h'.get q=h.get q)(j:h.nx<=h'.nx):Sl h' v e n xs:=by obtain⟨c,d⟩:=s;refine⟨c,d.imp id ?_⟩;rintro⟨b,o,f,cs,k,w,op,rfl,hb,g,i⟩;exact⟨b,o,f,cs,k,w,op,rfl,dd,by rw[a _ rfl];exact g,i⟩
def ChQ(h:H)(lp df pq pp pw pb pr ps:Nat)(s:Ua)(l:Ub)(v:V)(tm:Tm):V->H->Prop:=λ_ h3=>∃c w,c<=30/\(Vw zH h h3 c ((lp,JA .ready none tm df)::Py df pq pp pw pb pr ps s v (xe l s) w)\/Vw zH h h3 c ((lp,JA .done (some (.exit 0)) tm df)::Py df pq pp pw pb pr ps s v (xe l s) w)) /\
 h3.nx<=T.top/\Sl h3 w 1 (pI (xe l s) l s).length (zI (pI (xe l s) l s))/\(∀b,z6 w=some b->b≠lp/\b≠df/\b≠pr)/\((xe l s).own=false->w=v)
section
variable {h h':H}{lp df pq pp pw pb pr ps c:Nat}{s:Ua}{l:Ub}{v:V}{tm:Tm}
theorem Su(sl:Sl h v 1 l.length (zI l))(w:Vw zH h h' c L){b:Nat}(hb:z6 v=some b):∀q∈L,b≠q.1:=λq a=>by
 have d:b<h.nx:=by
  obtain⟨_,⟨rfl,_⟩|⟨f,o,j,cs,k,w,op,rfl,h2,_⟩⟩:=sl
  .cases hb
  cases hb;exact h2
 obtain⟨i,hi,e⟩:=List.getElem_of_mem a;have:=w.own i (p:=q.1) (o:=q.2) (by rw[oQ hi,e]);rcases this with g|g
 .exact g.elim
 omega
theorem Bs{d:Cd}(w:Vw zH h h' c ((lp,JA .ready none tm df)::Py df pq pp pw pb pr ps s v d v))(sl:Sl h v 1 l.length (zI l))(y:d.own=false)(p:d.sec≠[])(r:s≠[])(f:bc d 2 (kc s) true=xe l s)(B:Has tm [(8,.ptr pb 0),(9,.ptr pw 0),(2,.ptr ps 0)])(I:h.nx+20000<=T.top)(lo:h.low<=T.top)(J:c<=20:=by omega):KO pp lp s (ChQ h lp df pq pp pw pb pr ps s l v tm) h':=by
 have K:=w.top;refine⟨w.ld1 3 rfl xk rfl,dd,oS w.low lo,λh3 x e=>?_,λh3 b cs m sec x t u g row hm et e=>?_⟩
 .have z:d=xe l s:=by rw[<-f,e];rfl
  have i:=w.ext x;have C:=i.top;refine⟨c+2,v,dd,.inl (by rw[<-z];exact i),dd,?_,λb hb=>?_,λ_=>rfl⟩
  .rw[<-z];unfold pI;rw[if_neg (by rw[y];decide)];exact sl.ext i.ex0
  have:=Su sl i hb;exact⟨this (lp,JA .ready none tm df) (by simp),this (df,.deferred true) (by simp),this (pr,tA [] .nilslice) (by simp)⟩
 have i:=w.atop x t u g;have C:=i.top;refine J7 (il:=1) (ib:=6) (iw:=5) (is:=8) (df:=df) (pb:=pb) (pw:=pw) (ps:=ps) (k:=2) (bk:=d.k) (bs:=d.sec) (bv:=v) (s:=s) i rfl rfl rfl rfl dg dg dg dg dg dg (.inr ⟨_,_,_,_,rfl⟩) B dd (λe=>absurd e r) (λ_ h4 a n4=>⟨⟨true,rfl⟩,?_⟩);obtain⟨D,E,hw⟩:=tU (lp:=lp) (o:=JA .ready none tm df) (df:=df) (pq:=pq) (pp:=pp) (pw:=pw) (pb:=pb) (pr:=pr) (ps:=ps) (s:=s) (sec:=sec) (v:=v) (w:=v) (w2:=.slice b 0 m (.exact 256)) (k:=2) (own:=true) p;rw[SJ]at a;have a:Vw zH h h4 (c+2+1) ((b,yV cs)::jQ ((lp,JA .ready none tm df)::Py df pq pp pw pb pr ps s v d v) 5 4 pb pw d.sec sec (.slice b 0 m (.exact 256)) (2:Nat)):=a;rw[E,<-e,f]at a;rw[<-e,f]at hw;have M:=a.top;have j:=a.bk.2.2.2.lt;have F:m=(yX s).length:=by rw[<-et,List.length_take,Zk];omega
 refine⟨c+2+1,D,dd,.inl (a.drop 1),dd,?_,λq A=>?_,λG=>?_⟩
 .unfold pI;rcases hw with⟨rfl,n⟩|⟨rfl,n⟩
  .rw[n,if_pos rfl,<-F,<-et];exact Row.take row hm (a.lt 0 rfl) (a.get 0 rfl) _
  rw[n,y,if_neg dg];exact sl.ext a.ex0
 .rcases hw with⟨rfl,_⟩|⟨rfl,_⟩
  .cases A;have a1:=j (lp,JA .ready none tm df) (by simp);have a2:=j (df,.deferred true) (by simp);have a3:=j (pr,tA [] .nilslice) (by simp);exact⟨Nat.ne_of_gt a1,Nat.ne_of_gt a2,Nat.ne_of_gt a3⟩
  have:=Su sl a A;exact⟨this (lp,JA .ready none tm df) (by simp),this (df,.deferred true) (by simp),this (pr,tA [] .nilslice) (by simp)⟩
 rcases hw with⟨_,n⟩|⟨H,_⟩
 .rw[G]at n;cases n
 exact H
end
theorem HC(s:Ua)(hs:s.length<=1000):(c0 s).sec≠[]:=by obtain⟨_,i,_,_,_,e⟩:=J0 (k:=0) (n:=s.length) (m:=0) dg dd dg (λ_=>rfl) (λc=>absurd c dg);intro a;have a:=(List.append_eq_nil_iff.1 a).1;rw[e]at a;have:=congrArg List.length a;rw[qr]at this;have:=(uq 0 i).1;simp at *;omega
theorem QA{lp df pq pp pw pb pr ps:Nat}{s:Ua}{v w2:V}{o:O}{k:Nat}:jQ ((lp,o)::Py df pq pp pw pb pr ps s v ⟨0,[],false⟩ .nilslice) 5 4 pb pw [] sec w2 k=(lp,o)::Py df pq pp pw pb pr ps s v ⟨k,sec,false⟩ w2:=by unfold jQ;rw[if_pos (.inl rfl)];rfl
theorem zG7{s:Ua}{l:Ub}{v:V}{h h1 h3:H}{tm:Tm}(sl:Sl h v 1 l.length (zI l))(G:l≠[]->yk l)(hs:s.length<=1000)(hn:h.nx+20000<=T.top)(lo:h.low<=T.top)(r:¬(2<=s.length/\XM s=true))(w3:Vw zH h h3 2 [(h1.nx,tA [] .nilslice),(h.nx,Xa s)])(I:Has tm [(2,.ptr h.nx 0),(1,v),(5,.ptr h1.nx 0)])(hq:∀h' w,Ext h h' 60->Sl h' w 1 (pI (xe l s) l s).length (zI (pI (xe l s) l s))->((xe l s).own=false->w=v)->Q (.tuple [.int .i64 (xe l s).k,.agg [.str (xe l s).sec,w]]) h'):Wf IS AM ⟨54,tm,[],h3⟩ (endW zB ⟨54,[.tmp 4,.cell 5 98],bf 76⟩ Q):=by
 have t3:=w3.top;have J:=Sl.isS sl;refine sg I ⟨dd,?_⟩;rintro pb h4 K e4;have M:=w3.new e4 dd;rw[<-K]at M;have t4:=M.top;refine⟨rfl,dd,?_⟩;rintro pw j N O;have y:=M.new O dd;rw[<-N]at y;have t5:=y.top;refine⟨s,y.ld1 3 rfl xk rfl,WU (rZ sl) dd λm c e6 e7=>⟨_,rfl,λd u=>?_⟩⟩;have w6:=y.new e6 dd;have t6:=w6.top;have w7:=w6.new e7 dd;have t7:=w7.top;refine Vw.rangeE (i:=0) (s:=⟨54,d,[],c⟩) w7 (captured:=[.ptr j.nx 0,.ptr m.nx 0]) (show yt d (t 33)=_ from congrArg some (u.get rfl)) (by show c.nx+2<=_;omega) λR z n8=>?_
 replace z:Vw zH h R 8 ((c.nx+1,JA .ready none d c.nx)::Py c.nx m.nx j.nx pw pb h1.nx h.nx s v ⟨0,[],false⟩ .nilslice):=z;have n8:R.nx=c.nx+2:=n8;show RF P zB 205 [.yield (c.nx+1),.ptr j.nx 0,.ptr m.nx 0] R _;have E:Has d [(8,.ptr pb 0),(9,.ptr pw 0),(2,.ptr h.nx 0)]:=u.sub de;refine RF.mono (Q:=ChQ h (c.nx+1) c.nx m.nx j.nx pw pb h1.nx h.nx s l v d) (LO hs r G J (z.ld1 3 rfl xk rfl) (z.ld1 2 rfl zM rfl) ?_) ?_
 .refine J7 (il:=0) (ib:=5) (iw:=4) (is:=7) (df:=c.nx) (pb:=pb) (pw:=pw) (ps:=h.nx) (k:=0) (bk:=0) (bs:=[]) (bv:=.nilslice) (s:=s) z rfl rfl rfl rfl dg dg dg dg dg dg J E dd (λe A f n9=>?_) (λe A f n9=>?_)
  .refine .inl ⟨rfl,?_⟩;have hc:xe l s=c0 s:=by unfold xe;rw[if_neg r,if_pos e]
   have f:Vw zH h A 9 ((jQ ((c.nx+1,JA .ready none d c.nx)::Py c.nx m.nx j.nx pw pb h1.nx h.nx s v ⟨0,[],false⟩ .nilslice) 5 4 pb pw [] (X8 0 s.length 0++s) v (0:Nat)).set 0 (c.nx+1,JA .done (some (.exit 0)) d c.nx)):=f;rw[QA]at f;have S:=f.top;refine⟨9,v,dd,.inr (by rw[hc];exact f),dd,?_,λb hb=>?_,λ_=>rfl⟩
   .rw[hc];exact sl.ext f.ex0
   have:=Su sl z hb;exact⟨this (c.nx+1,JA .ready none d c.nx) (by simp),this (c.nx,.deferred true) (by simp),this (h1.nx,tA [] .nilslice) (by simp)⟩
  refine .inr ⟨rfl,e,?_⟩;have f:Vw zH h A 9 (jQ ((c.nx+1,JA .ready none d c.nx)::Py c.nx m.nx j.nx pw pb h1.nx h.nx s v ⟨0,[],false⟩ .nilslice) 5 4 pb pw [] (X8 0 s.length 0++s) v (0:Nat)):=f;rw[QA]at f;replace f:Vw zH h A 9 ((c.nx+1,JA .ready none d c.nx)::Py c.nx m.nx j.nx pw pb h1.nx h.nx s v (c0 s) v):=f;have S:=f.top;have n:bc (bc (c0 s) 3 (qE l s) false) 2 (kc s) true=xe l s:=by unfold xe;rw[if_neg r,if_neg e]
  have U:=f.lt 3 (p:=j.nx) (o:=Xa s) rfl;refine⟨f.ld1 3 rfl xk rfl,f.ld1 2 rfl zM rfl,sl.ext f.ex0,dd,oS f.low lo,λF=>⟨?_,U⟩,λsec F=>?_⟩
  .rw[F]at n;exact Bs f sl rfl (HC s hs) e n E hn lo
  refine J7 (il:=0) (ib:=5) (iw:=4) (is:=7) (df:=c.nx) (pb:=pb) (pw:=pw) (ps:=h.nx) (k:=3) (bk:=(c0 s).k) (bs:=(c0 s).sec) (bv:=v) (s:=s) f rfl rfl rfl rfl dg dg dg dg dg dg J E dd (λe2=>absurd e2 e) (λ_ x g W=>⟨rfl,?_,?_⟩)
  .obtain⟨y,O,hw⟩:=tU (lp:=c.nx+1) (o:=JA .ready none d c.nx) (df:=c.nx) (pq:=m.nx) (pp:=j.nx) (pw:=pw) (pb:=pb) (pr:=h1.nx) (ps:=h.nx) (s:=s) (sec:=sec) (v:=v) (w:=v) (w2:=v) (k:=3) (own:=false) (HC s hs);have g:Vw zH h x 10 (jQ ((c.nx+1,JA .ready none d c.nx)::Py c.nx m.nx j.nx pw pb h1.nx h.nx s v (c0 s) v) 5 4 pb pw (c0 s).sec sec v (3:Nat)):=g;have ev:y=v:=hw.elim (λa=>a.1) λa=>a.1
   have eo:(bc (c0 s) 3 (some sec) false).own=false:=hw.elim (λa=>a.2) λa=>a.2
   rw[O,ev]at g;rw[F]at n;exact Bs g sl eo (zCy (HC s hs) (HI F)) e n E hn lo
  omega
 rintro _ A ⟨c9,X,hc9,f,S,B,Y,Z⟩;refine⟨c9,_,f,S,λx o e he g W f10=>?_⟩;show thenC _ _ (exitB 0 e) _;rw[he];have t10:=g.top;refine thenC.nx (sg u ⟨de,⟨by show x.nx<=_;omega,oS g.low lo⟩,_,g.ld1 4 rfl zGh rfl,_,_,g.ldA 5 rfl ED rfl,?_⟩);have hiv:=Sl.isS B;obtain⟨h11,e11,C,n11,f11⟩:=Vw.stM (s:=(xe l s).sec) (v:=X) g (i:=6) rfl hiv dd;refine⟨h11,e11,λtm3 hs3=>hs3.slt λtm4 hs4=>Bd (pr:=h1.nx) (k:=((xe l s).k:Nat)) (sec:=(xe l s).sec) (w:=X) (hs4.sub de) ?_⟩;have t11:=C.top;refine C.ends (i:=1) rfl dd λh12 D n12 f12=>⟨D.ldA 6 rfl ED rfl,hq h12 X (D.ex0.mono dd) (Sl.keep B (λq hq'=>?_) dd) Z⟩
 obtain⟨q1,q2,q3⟩:=Y q hq';rw[f12 q q2,f11 q q3,f10 q q1]
theorem tr{s:Ua}{l:Ub}{v:V}{h:H}(sl:Sl h v 1 l.length (zI l))(j:l≠[]->yk l)(hs:s.length<=1000)(lo:h.low<=T.top)(o:∀h' w,Ext h h' 60->Sl h' w 1 (pI (xe l s) l s).length (zI (pI (xe l s) l s))->((xe l s).own=false->w=v)->Q (.tuple [.int .i64 (xe l s).k,.agg [.str (xe l s).sec,w]]) h')(z:h.nx+20000<=T.top:=by omega):RF P zB 76 [.str s,v] h Q:=by
 refine zh IS zJI ⟨rfl,dd,?_⟩;rintro p0 A rfl B;have x:=(Vw.nil (S:=zH) (h:=h)).new B dd;have I:=x.top;refine⟨dd,?_⟩;rintro J h3 rfl C;have b:=x.new C dd;have K:=b.top;have no:∀tm,¬(2<=s.length/\XM s=true)->Has tm [(18,.bool false),(2,.ptr h.nx 0),(1,v),(5,.ptr A.nx 0)]->Wf IS zGZ ⟨54,tm,[],h3⟩ (thenC (sealK IS λs1=>Wf IS AM s1 (endW zB ⟨54,[.tmp 4,.cell 5 98],bf 76⟩ Q)) (endW zB ⟨54,[.tmp 4,.cell 5 98],bf 76⟩ Q)):=λtm p a =>
  sg a ((λq d=>thenC.nx (d.sealK λD r=>zG7 sl j hs z lo p b (r.sub de) o)))
 refine⟨s,b.ld1 1 rfl xk rfl,λc=>⟨s,b.ld1 1 rfl xk rfl,FY dd ⟨_,rfl,λf=>λtm a=>?_,λf=>λtm a=>no _ (λg=>by rw[g.2]at f;cases f) (a.sub de)⟩⟩,λc=>λtm a=>no _ (λg=>c (by have:=g.1;show(2:Int)<=(s.length:Int);omega)) (a.sub de)⟩;have c:(2:Int)<=(s.length:Int):=c;have E:xe l s=⟨1,X8 1 s.length 0++s.take 1,false⟩:=by unfold xe;rw[if_pos ⟨dd,f⟩]
 have hb:=nc 1 s.length 0;have F:(s.take 1).length<=1:=by rw[List.length_take];omega
 obtain⟨e,_⟩:=J0 (k:=1) (n:=s.length) (m:=0) dg dd dg (λ_=>rfl) (λc=>absurd c dg);have t:=oS b.low lo;obtain⟨h4,G,u,n4,M⟩:=Vw.stM (s:=X8 1 s.length 0++s.take 1) (v:=v) b (i:=0) rfl (Sl.isS sl) dd;refine sg a (⟨s,b.ld1 1 rfl xk rfl,Ys (k:=1) (m:=0) dg dd dg (λ_=>rfl) ⟨_,_,rfl,λ_=>⟨de,⟨dd,t⟩,s,b.ld1 1 rfl xk rfl,_,Fc (y:=1) dd,dd,uU (Sl.isS sl) ⟨h4,G,λq d=>thenC.rt (Bd (k:=1) (d.sub de) ⟨u.ldA 0 rfl ED rfl,?_⟩)⟩⟩,λc=>absurd e (of_decide_eq_false c)⟩⟩);rw[E]at o;exact o h4 v (u.ex0.mono dd) (sl.ext u.ex0) λ_=>rfl
theorem Ly{l:Ub}(h:0<l.length):0<(xP l).length/\(xP l).length<=l.length:=by unfold xP;rw[List.length_take];omega
theorem gV(s:Ua):0<(yX s).length/\(yX s).length<=256:=by have:=Ly (l:=wV s) (by rw[Zk];decide);rw[Zk]at this;exact this
theorem QF{c:Cd}{l:Ub}{s:Ua}(hl:l.length<=1000):(pI c l s).length<=1000:=by
 unfold pI;split
 .have:=(gV s).2;omega
 exact hl
theorem zAH{h h':H}{w v:V}{l:Ub}{s:Ua}{m:Nat}(sl:Sls h v l)(x:Ext h h' m)(sw:Sl h' w 1 (pI (xe l s) l s).length (zI (pI (xe l s) l s)))(hw:(xe l s).own=false->w=v):Sls h' w (pI (xe l s) l s):=by
 cases e:(xe l s).own
 .rw[hw e];have:pI (xe l s) l s=l:=by unfold pI;rw[if_neg (by rw[e];decide)]
  rw[this];exact sl.ext x
 refine Sls.of sw ?_;unfold pI;rw[if_pos e];exact(gV s).1
theorem rS{s:Ua}{l:Ub}{v:V}{h:H}(sl:Sls h v l)(b:l≠[]->jE l=0)(hs:s.length<=1000)(lo:h.low<=T.top)(t:∀h' w,Ext h h' 70->Sl h' w 1 (pI (xe l s) l s).length (zI (pI (xe l s) l s))->Q (.tuple [.str (xe l s).sec,w,.int .i64 0]) h')(d:l.length<=1000:=by decide)(A:h.nx+21000<=T.top:=by omega):RF P zB 35 [.str s,v] h Q:=by refine zh L35 zIk (pS sl.1 d (λg=>b λe=>by rw[e]at g;cases g) ⟨_,rfl,λc=>absurd rfl c,λ_=>tr sl.1 (λe=>ql (b e)) hs lo λh' w x sw hw=>⟨_,_,_,rfl,by have:=x.top;omega,?_⟩⟩);have tx:=x.top;rintro B C rfl u;have r:=(Vw.nil (S:=zH) (h:=h')).new u dd;have D:=r.top;obtain⟨j,n,a,y,_⟩:=Vw.stM (s:=(xe l s).sec) (v:=w) r (i:=0) rfl (Sl.isS sw) dd;have k:=a.ex0;have m:=x.trans k;have z:=m.top;refine⟨j,n,de,⟨dd,oS m.low lo⟩,_,a.ld1 0 rfl xk rfl,w,a.ld1 0 (f:=1) rfl zM rfl,Jx (zAH sl m (sw.ext k) hw) (QF d) λj v' g=>⟨v',rfl,g _ λo p q=>t o v' ((m.trans p).mono dd) q⟩⟩
theorem GM{s:Ua}{l:Ub}{v:V}{h:H}(sl:Sls h v l)(d:l.length<=1000)(a:l≠[]->jE l=0)(hs:s.length<=1000)(p:h.nx+21000<=T.top)(lo:h.low<=T.top)(m:∀h',Ext h h' 70->Q (.tuple [.int .i64 (xe l s).k,.int .i64 0]) h'):RF P zB 36 [.str s,v] h Q:=by refine zh L36 zIl (pS sl.1 d (λg=>a λe=>by rw[e]at g;cases g) ⟨_,rfl,λc=>absurd rfl c,λ_=>tr sl.1 (λe=>ql (a e)) hs lo λh' w x sw hw=>⟨_,_,_,rfl,by have:=x.top;omega,?_⟩⟩);have tx:=x.top;rintro q r rfl n;have k:=(Vw.nil (S:=zH) (h:=h')).new n dd;have t:=k.top;obtain⟨b,f,j,o,_⟩:=Vw.stM (s:=(xe l s).sec) (v:=w) k (i:=0) rfl (Sl.isS sw) dd;exact⟨b,f,m b ((x.trans j.ex0).mono dd)⟩
theorem Kh(h:H):Sls h .nilslice []:=⟨⟨rfl,.inl ⟨rfl,rfl⟩⟩,λ_=>rfl⟩
theorem IL{s e:Ua}{h:H}(hs:s.length<=1000)(a:h.nx+21000<=T.top)(lo:h.low<=T.top)(b:(xe [] s).sec=e)(d:∀h',Ext h h' 70->Q (.bool true) h'):RF P zB 57 [.str s,.str e] h Q :=
 zh L57 zIw (rS (Kh h) (λe=>absurd rfl e) hs lo (λh' w x _=>⟨_,_,_,rfl,λ_=>⟨λ_=>d h' x,λc=>absurd b c⟩,λc=>absurd rfl c⟩) dg a)
theorem KQ{k n m:Nat}{e:Ua}{h:H}(a:k<4)(b:n<=131072)(hm:m<=131072)(h2:k<2->m=0)(hb:0<wR k n m 4)(d:ZU k n m 4=e)(f:Q (.bool true) h):RF P zB 58 [.int .i64 k,.int .i64 n,.int .i64 m,.str e] h Q :=
 zh L58 zIx (GK a b hm h2 ⟨_,_,rfl,λ_=>⟨λ_=>f,λc=>absurd d c⟩,λc=>absurd (if_pos hb) (λe=>c (by rw[e]))⟩)
end Go.Proofs.YtnpeieeomokomaaGreat
