/- BF. No condition. -/
import Derived.Test.YtnpeieeomokomaaGreatZBE
import Derived.Test.YtnpeieeomokomaaGreatZTA
set_option maxRecDepth 100000
set_option maxHeartbeats 4000000
namespace Go.Proofs.YtnpeieeomokomaaGreat
open Go.Sim
variable{h:H}
structure Nd where
 c:Int
 f:Bool
 k:Int
 t:HT
 v:V
def Nd.cs(x:Nd):Ug:=[.int .i64 x.c,.bool x.f,.int .i64 x.k,x.v]
def ZL(L:List Nd):Ug:=L.flatMap Nd.cs
theorem lf(L:List Nd):(ZL L).length=L.length*4:=by
 induction L with
 | nil=>rfl
 | cons x L ih=>show(x.cs++ZL L).length=_;rw[oW,ih,oc];show 4+_=_;omega
theorem K3(a b:List Nd):ZL (a++b)=ZL a++ZL b:=List.flatMap_append
theorem zAs{L:List Nd}{i:Nat}(hi:i<L.length):∀j,j<4->(ZL L)[i*4+j]? = (L[i]).cs[j]?:=by
 induction L generalizing i with
 | nil=>cases hi
 | cons x L ih =>
  intro j a;show(x.cs++ZL L)[i*4+j]? = _;rcases i with _|i
  .rw[List.getElem?_append_left (by show _<4;omega),Nat.zero_mul,Nat.zero_add];rfl
  rw[List.getElem?_append_right (by show 4<=_;omega),show(i+1)*4+j-x.cs.length=i*4+j by show(i+1)*4+j-4=_;omega];exact ih (by simpa using hi) j a
abbrev Tq:TI:=⟨261,(.struct #[⟨ "count",3,0,false, "", "cheesepress/cheesepressref13",0⟩,⟨ "leaf",4,1,false, "", "cheesepress/cheesepressref13",8⟩,⟨ "number",3,2,false, "", "cheesepress/cheesepressref13",16⟩,⟨ "symbols",23,3,false, "", "cheesepress/cheesepressref13",24⟩]),4,48,some (.agg [(ip 0),(.bool false),(ip 0),.nilslice]),false,false,false,[]⟩
theorem ji:zB.ty.get 261=some Tq:=zGg
theorem Bw{v:V}{L:List Nd}{i:Nat}(s:Sl h v 4 L.length (ZL L))(hi:i<L.length):∃b o,xK zB 259 v (.int .i64 i)=some (.ptr b o)/\b<h.nx/\ye zB 261 h (.ptr b o)=some (.agg L[i].cs):=by
 obtain⟨b,o,e,cs,k,w,op,c,d⟩:=s.at hi Zy rfl ji rfl;refine⟨b,o,e,?_,zT ji rfl c (Cs.range_is dg rfl λj a=>(d j a).trans (zAs hi j a))⟩;obtain⟨_,⟨rfl,l⟩|⟨m,o',n,f,p,w',g,rfl,hb,_⟩⟩:=s
 .omega
 unfold xK at e;simp only[YG,Zy,ji,(zW _ _).2 hi,oN,oA,V.ptr.injEq]at e;rw[<-e.1];exact hb
theorem CV(x y:Nat):∀a b:Bool,Yf zB .neq 4 (t x) (t y) (.bool a) (.bool b)=some (.bool (a != b))
 | true,true=>de
 | true,false=>de
 | false,true=>de
 | false,false=>de
theorem WF{x y:Nd}{Q:Uc}(D:IsS x.v)(E:IsS y.v)(I:h.nx+2<=T.top)(j:∀b,Q (.bool b) h):RF P zB 269 [.agg x.cs,.agg y.cs] h Q:=by
 have r:RF P zB 269 [.agg x.cs,.agg y.cs] h λv h'=>(∃b,v = .bool b)/\Ext h h' 2:=by
  have w:∀z:Nd,IsS z.v->cond (zU (V.cells (.agg z.cs))) (Cs.ofL (V.cells (.agg z.cs))) none=some (.ls z.cs):=by intro z F;obtain⟨c,f,k,t,v⟩:=z;rcases F with e|⟨b,o,n,J,e⟩<;>(have e:v=_:=e;subst e;cases f<;>rfl)
  refine zh zHi zEe ⟨_,w x D,dd,?_⟩;rintro p0 l rfl m;have p:=(Vw.nil (S:=zH) (h:=h)).new m dd;refine⟨_,w y E,by have:=p.top;omega,?_⟩;rintro p3 h4 rfl G;have a:=p.new G (by have:=p.top;omega);have fin:∀b:Bool,(∃c,V.bool b = .bool c)/\Ext h h4 2:=λb=>⟨⟨b,rfl⟩,a.ex0⟩
  have A:ye zB 3 h4 (.ptr h.nx 0)=some (.int .i64 x.c):=a.ld1 1 rfl zX rfl;have B:ye zB 3 h4 (.ptr l.nx 0)=some (.int .i64 y.c):=a.ld1 0 rfl zX rfl;have d:ye zB 4 h4 (.ptr h.nx 1)=some (.bool x.f):=a.ld1 1 rfl ty4 rfl;have C:ye zB 4 h4 (.ptr l.nx 1)=some (.bool y.f):=a.ld1 0 rfl ty4 rfl;have g:ye zB 3 h4 (.ptr h.nx 2)=some (.int .i64 x.k):=a.ld1 1 rfl zX rfl;have i:ye zB 3 h4 (.ptr l.nx 2)=some (.int .i64 y.k):=a.ld1 0 rfl zX rfl;refine⟨_,A,_,B,λ_=>⟨_,A,_,B,λ_=>fin _,λ_=>fin _⟩,λ_=>⟨_,d,λm=>⟨_,C,λu=>⟨_,CV _ _ _ _,λ_=>⟨_,d,λ_=>fin _,λ_=>fin _⟩,λ_=>⟨_,g,_,i,λ_=>fin _,λ_=>fin _⟩⟩,λu=>⟨_,CV _ _ _ _,λ_=>⟨_,d,λ_=>fin _,λ_=>fin _⟩,λ_=>⟨_,g,_,i,λ_=>fin _,λ_=>fin _⟩⟩⟩,λm=>⟨_,C,λu=>⟨_,CV _ _ _ _,λ_=>⟨_,d,λ_=>fin _,λ_=>fin _⟩,λ_=>⟨_,g,_,i,λ_=>fin _,λ_=>fin _⟩⟩,λu=>⟨_,CV _ _ _ _,λ_=>⟨_,d,λ_=>fin _,λ_=>fin _⟩,λ_=>⟨_,g,_,i,λ_=>fin _,λ_=>fin _⟩⟩⟩⟩⟩
 obtain⟨v',h',⟨H,s⟩,⟨b,rfl⟩,e⟩:=r;exact⟨_,h,⟨H,s.forget (xh b) λq j=>e.get q j⟩,j b⟩
section
variable {c:Ctx}{orc:Nat->Ug->H->Option (V×H)}{b:Bool}{ih:Ue}
end
def Oz(h:H)(v:V)(te:TI)(n:Nat)(xs:Ug):Prop:=(Ow h v te n xs/\0<n)\/(n=0/\xs=[]/\∃p,v = .slice p 0 0 (.exact 0)/\p<h.nx/\h.get p=some (.cells (.ls []) ⟨0,te.id+1,0⟩ true false))
theorem Oz.keep{h':H}{v:V}{te:TI}{n:Nat}{xs:Ug}(s:Oz h v te n xs)(e:h.nx<=h'.nx)(d:∀b,z6 v=some b->h'.get b=h.get b):Oz h' v te n xs:=by
 rcases s with⟨s,a⟩|⟨a,f,p,rfl,hp,c⟩
 .exact .inl ⟨s.keep e d,a⟩
 exact .inr ⟨a,f,p,rfl,dd,by rw[d p rfl];exact c⟩
def zCA(h:H)(n:Nat)(v v':V)(h':H):Prop:=(n=0->h'.low=h.low)/\h.nx<=h'.nx/\h'.nx<=h.nx+1/\(∀b,b<h.nx->z6 v≠some b->h'.get b=h.get b)/\((v'=v/\h'=h)\/z6 v'=some h.nx)/\h'.low<=h.low/\∀m,m<=h.low->(∀b,z6 v=some b->m<=b)->m<=h'.low
theorem Oz.app{v x:V}{te ti:TI}{n m t e:Nat}{xs ys:Ug}(s:Oz h v te n xs)(B:yT te.size h x=some (m,ys))(a:ys.length=m*te.size)(C:zB.ty.get t=some ti)(hd:ti.desc = .slice e)(D:zB.ty.get e=some te)(xI:jo te=true)(u:zU ys=true)(d:(n+m)*te.size<=262143)(f:(n+m)*te.bytes<=1099511627776)(o:h.nx<T.top):∃v' h',zi zB t h v x=some (v',h')/\Oz h' v' te (n+m) (xs++ys)/\zCA h n v v' h'/\(∀p,m=0->z6 v=some p->z6 v'=some p):=by
 have w:zi zB t h v x=Go.Sim.appTo te h m ys v:=by unfold zi;rw[C];simp only[hd,D,xI,oN,B]
 rw[w];rcases Nat.eq_zero_or_pos m with y|y
 .subst y;have E:ys=[]:=List.eq_nil_of_length_eq_zero dd;subst E;have fin:∀{r},r=some (v,h)->∃v' h',r=some (v',h')/\Oz h' v' te (n+0) (xs++[])/\zCA h n v v' h'/\(∀p,0=0->z6 v=some p->z6 v'=some p):=λe=>⟨v,h,e,by rw[List.append_nil];exact s,⟨λ_=>rfl,oR _,dd,λ_ _ _=>rfl,.inl ⟨rfl,rfl⟩,oR _,λ_ z _=>z⟩,λ_ _ e=>e⟩
  refine fin ?_;rcases s with⟨⟨q,⟨rfl,F⟩|⟨b,cs,rfl,hb,G,hw,hl,N⟩⟩,j⟩|⟨q,k,p,rfl,hp,g⟩
  .rfl
  .unfold Go.Sim.appTo;simp only[G];unfold kX;have H:(true && true && Nat.beq te.size (xD te).n && Nat.beq 0 (0*te.size) && zU [] && Nat.ble (0+n*te.size) cs.len)=true:=by simp[xD,u,hl]
   rw[H];rfl
  subst q;unfold Go.Sim.appTo;simp only[g];rfl
 rcases s with⟨s,j⟩|⟨q,k,p,rfl,hp,g⟩
 .obtain⟨v',h',e,ow,a1,a2,a3,a4,a5,a6⟩:=s.appTo a y xI u d f o;exact⟨v',h',e,.inl ⟨ow,dd⟩,⟨λc=>dd,a1,a2,a3,.inr a4,a5,a6⟩,λ_ e=>dd⟩
 subst q k;obtain⟨cs,A,I⟩:=Cs.ofL_some (l:=ys) (by rw[a];rw[Nat.zero_add]at d;exact d);obtain⟨J,K⟩:=Cs.ofL_eq A;refine⟨.slice h.nx 0 m (.skip 0),h.new (.cells cs (xD te) true true),?_,.inl ⟨⟨by rw[List.nil_append,a,Nat.zero_add],.inr ⟨h.nx,cs,by rw[Nat.zero_add],by rw[zC];omega,zK _ o,I,by rw[J,a,Nat.zero_add],λi _=>by rw[K];rfl⟩⟩,dd⟩,⟨λ_=>rfl,by rw[zC];omega,by rw[zC];omega,λb hb _=>zn _ o hb,.inr rfl,oR _,λ_ z _=>z⟩,λ_ e=>dd⟩;unfold Go.Sim.appTo;simp only[g];unfold jO;have L:Nat.ble (0+m) 0=false:=by
  rcases hb:Nat.ble (0+m) 0 with _|_
  .rfl
  have:=oG hb;omega
 rw[L,oO];have M:Xo (.ls []) 0 (0*te.size) ys=some cs:=by unfold Xo;rw[Nat.zero_mul,Kd (.ls []) 0 (.inr trivial)];simp only[u,oN,List.nil_append,A]
 rw[M,Nat.zero_add];exact xg (by rw[Nat.zero_add]at f;exact f) o
theorem zDC{b n j:Nat}{cs:Cs}{te ti:TI}{t e:Nat}(a:zB.ty.get t=some ti)(hd:ti.desc = .slice e)(c:zB.ty.get e=some te)(hs:0<te.size)(d:h.get b=some (.cells cs (xD te) true true))(hl:cs.len=n*te.size)(f:j<=n):
  zw zB t h (.slice b 0 n (.skip 0)) none (some (.int .i64 (j:Nat))) none=some (.slice b 0 j (.skip 0)):=by
 unfold zw;rw[a];simp only[hd,c,d];have g:(Nat.beq (xD te).n te.size && Nat.blt 0 (xD te).n && Nat.beq 0 (0*(xD te).n))=true:=by simp[xD,(zW _ _).2 hs]
 have i:Nat.ble (0+n*(xD te).n) cs.len=true:=by rw[hl,Nat.zero_add];exact oE (oR _)
 have k:Nat.ble j n=true:=oE f;rw[g,oN,i,oN];simp only[Go.Sim.bnd,YG,k,oN];rfl
theorem zIY{b n j:Nat}{cs:Cs}{te ti:TI}{t e:Nat}(f:zB.ty.get t=some ti)(hd:ti.desc = .slice e)(g:zB.ty.get e=some te)(hs:0<te.size)(i:h.get b=some (.cells cs (xD te) true true))(hl:cs.len=n*te.size)(k:j<n):
  zw zB t h (.slice b 0 n (.skip 0)) (some (.int .i64 ((j+1:Nat):Int))) none none=some (if j+1<n then .slice b (0+(j+1)*te.size) (n-(j+1)) (.skip (0+(j+1))) else .tail b 0 ((j+1)*te.size) (0+(j+1))):=by
 unfold zw;rw[f];simp only[hd,g,i];have l:(Nat.beq (xD te).n te.size && Nat.blt 0 (xD te).n && Nat.beq 0 (0*(xD te).n))=true:=by simp[xD,(zW _ _).2 hs]
 have m:Nat.ble (0+n*(xD te).n) cs.len=true:=by rw[hl,Nat.zero_add];exact oE (oR _)
 have o:Nat.ble (j+1) n=true:=oE k;rw[l,oN,m,oN];simp only[Go.Sim.bnd,YG,o,oN];by_cases c:j+1<n
 .rw[if_pos c];have a:Nat.blt (j+1) n=true:=(zW _ _).2 c;have d:Nat.beq (j+1) 0=false:=rfl;rw[d,oO,a,oN]
 rw[if_neg c];have a:Nat.blt (j+1) n=false:=by
  rcases hb:Nat.blt (j+1) n with _|_
  .rfl
  exact absurd ((zW _ _).1 hb) c
 have d:Nat.beq (j+1) 0=false:=rfl;have p:Nat.beq (j+1) n=true:=by rw[show j+1=n by omega];exact Nat.beq_refl n
 rw[d,oO,a,oO,p,oN]
section
variable (tm:Tm) (v X:V) (j k:Int) (pr p6:Nat) (b0 v15 v16 v19 v20:V)
end
theorem DF(a:h.nx<T.top):zO zB 259 0 [] h=some (.slice h.nx 0 0 (.exact 0),h.new (.cells (.ls []) ⟨0,262,0⟩ true false)):=by
 have e:zO zB 259 0 [] h=(match (cond (Nat.blt h.nx T.top) (some (h.nx,h.new (.cells (.ls []) ⟨0,262,0⟩ true false))) none:Option (Nat×H))with|some (b,h')=>some (.slice b 0 0 (.exact 0),h')|none=>none):=de
 rw[(zW _ _).2 a,oN]at e;exact e
theorem Qw{L:List Nd}(h:∀z∈L,IsS z.v):zU (ZL L)=true:=yP.2 λv a=>by
 obtain⟨z,c,a⟩:=List.mem_flatMap.1 a;have a:v∈[V.int .i64 z.c,.bool z.f,.int .i64 z.k,z.v]:=a;simp only[oq,List.not_mem_nil,or_false]at a;rcases a with rfl|rfl|rfl|rfl
 .rfl
 .rfl
 .rfl
 rcases h z c with e|⟨b,o,n,d,e⟩<;>rw[e]<;>rfl
theorem Wy{b o m:Nat}{cp:Cap}{cs:Cs}{k:Rk}{w op:Bool}{xs:Ug}(f:h.get b=some (.cells cs k w op))(hl:xs.length=m*4)(g:o+m*4<=cs.len)(j:∀i,i<m*4->cs.get? (o+i)=xs[i]?):yT 4 h (.slice b o m cp)=some (m,xs):=by
 unfold yT;simp only[f];rcases Nat.eq_zero_or_pos m with a|a
 .subst a;have l:xs=[]:=List.eq_nil_of_length_eq_zero dd;obtain⟨x,d⟩:=Cs.range_some (c:=cs) (o:=o) (k:=0*4) dd;have:=(Cs.range_eq d).1;have e:x=[]:=List.eq_nil_of_length_eq_zero dd;rw[d,e,l]
 rw[Cs.range_is dd hl j]
theorem Hd{p6 pr u j:Nat}{Ln:List Nd}{x:Nd}{y:Ug}{K:Uc}(g6:h.get p6=some (.cells (.ls x.cs) ⟨0,262,0⟩ true false))(gr:h.get pr=some (.cells (.ls y) ⟨0,262,0⟩ true false))(hy:y.length=4)(F:IsS x.v)(hp6:p6<h.nx)(hpr:pr<h.nx)(ow:Ow h (.slice u 0 Ln.length (.skip 0)) Tq Ln.length (ZL Ln))(hLn:Ln.length<=300)(B:∀z∈Ln,IsS z.v)(hj:j<Ln.length)(hn:h.nx+4<=T.top)(lo:h.low<=T.top)(w:∀h' v',Oz h' v' Tq (Ln.length-1) (ZL (Ln.eraseIdx j))->h.nx<=h'.nx->h'.nx<=h.nx+3->(∀q,q<h.nx->q≠pr->h'.get q=h.get q)->ye zB 261 h' (.ptr pr 0)=some (.agg x.cs)->(∀q,z6 v'=some q->h.nx<=q)->h'.low<=h.low->(∀m,m<=h.low->m<=pr->m<=h'.low)->K v' h'):
  (∀ops bs m k,lowOk ops bs m k h ((z8 h).new (.cells (.ls []) ⟨0,262,0⟩ true false)))/\∀h1,h1=wW h ((z8 h).new (.cells (.ls []) ⟨0,262,0⟩ true false))->zw zB 259 h1 (.slice u 0 Ln.length (.skip 0)) none (some (.int .i64 j)) none=some (.slice u 0 j (.skip 0))/\∃E G I cp l,zi zB 259 (z8 h1) (.slice h.nx 0 0 (.exact 0)) (.slice u 0 j (.skip 0))=some (.slice E G I cp,l)/\(∀ops bs m k,lowOk ops bs m k h1 l)/\E≠p6/\∀h2,h2=wW h1 l->∃r,zw zB 259 h2 (.slice u 0 Ln.length (.skip 0)) (some (.int .i64 ((j+1:Nat):Int))) none none=some r/\∃v20 p,zi zB 259 (z8 h2) (.slice E G I cp) r=some (v20,p)/\p.nx<=T.top/\∀h3,h3=wW h2 p->∃h4,jP zB 261 h3 (.ptr pr 0) (.agg x.cs)=some h4/\K v20 h4:=by
 obtain⟨_,⟨e,_⟩|⟨b',cs,e,J,g,hwf,A,hc⟩⟩:=ow
 .cases e
 cases e;have A:cs.len=Ln.length*4:=A;have hc:∀i,i<Ln.length*4->cs.get? i=(ZL Ln)[i]?:=hc;obtain⟨n,en⟩:∃n,n=Ln.length:=⟨_,rfl⟩;have L:∀hh:H,hh.get h.nx=some (.cells (.ls []) ⟨0,262,0⟩ true false)->h.nx<hh.nx->Oz hh (.slice h.nx 0 0 (.exact 0)) Tq 0 []:=λhh g1 n1=>.inr ⟨rfl,rfl,h.nx,rfl,n1,g1⟩
 have M:(z8 h).nx<T.top:=by show h.nx<_;omega
 refine⟨?_,λh1 N=>?_⟩
 .intro _ _ _ _;have nn1:((z8 h).new (.cells (.ls []) ⟨0,262,0⟩ true false)).nx=h.nx+1:=zC (z8 h) _;unfold lowOk;split
  .omega
  exact⟨by show h.nx<=T.top;omega,dd⟩
 have n1:h1.nx=h.nx+1:=by rw[N];exact zC (z8 h) (.cells (.ls []) ⟨0,262,0⟩ true false)
 have g1:h1.get h.nx=some (.cells (.ls []) ⟨0,262,0⟩ true false):=by rw[N];exact zK (h:=z8 h) _ M
 have f1:∀q,q<h.nx->h1.get q=h.get q:=λq w=>by rw[N];exact zn (h:=z8 h) _ M w
 have l1:h1.low=h.low:=by rw[N,jV];show min h.low T.top=_;omega
 have tk:(ZL (Ln.take j)).length=j*4:=by rw[lf,List.length_take];omega
 have dk:(ZL (Ln.drop (j+1))).length=(Ln.length-(j+1))*4:=by rw[lf,List.length_drop]
 have D:(z8 h1).get u=some (.cells cs (xD Tq) true true):=(f1 u J).trans g;have ta:∀i,i<j*4->cs.get? (0+i)=(ZL (Ln.take j))[i]?:=λi hi=>by rw[Nat.zero_add,hc i dd];rw[show ZL Ln=ZL (Ln.take j)++ZL (Ln.drop j)by rw[<-K3,List.take_append_drop],List.getElem?_append_left (by rw[tk];exact hi)]
 have da:∀i,i<(Ln.length-(j+1))*4->cs.get? ((0+(j+1)*4)+i)=(ZL (Ln.drop (j+1)))[i]?:=λi hi=>by
  rw[hc _ dd];rw[show ZL Ln=ZL (Ln.take (j+1))++ZL (Ln.drop (j+1))by rw[<-K3,List.take_append_drop]];have:(ZL (Ln.take (j+1))).length=(j+1)*4:=by rw[lf,List.length_take];omega
  rw[List.getElem?_append_right dd,this];congr 1;omega
 have O:zU (ZL (Ln.take j))=true:=Qw λz hz=>B z (List.mem_of_mem_take hz)
 have P:zU (ZL (Ln.drop (j+1)))=true:=Qw λz hz=>B z (List.mem_of_mem_drop hz)
 have c15:=zDC (h:=z8 h1) (j:=j) (n:=Ln.length) Zy rfl ji dg D A dd;have s15:yT Tq.size (z8 h1) (.slice u 0 j (.skip 0))=some (j,ZL (Ln.take j)):=Wy D tk dd ta;obtain⟨v16,l,a16,Q,⟨q0,q1,q2,q3,q4,q5,q6⟩,_⟩:=Oz.app (L (z8 h1) g1 (by show h.nx<h1.nx;omega)) s15 tk Zy rfl ji de O (by show(0+j)*4<=_;omega) (by show(0+j)*48<=_;omega) (by show h1.nx<_;omega);have q1:h1.nx<=l.nx:=q1;have q2:l.nx<=h1.nx+1:=q2;have R:l.low=T.top:=q0 rfl;have b16:∃b o n cp,v16 = .slice b o n cp/\h.nx<=b:=by
  rcases Q with⟨⟨_,⟨_,hz⟩|⟨b,_,e,_⟩⟩,hp⟩|⟨_,_,b,e,_⟩
  .omega
  .refine⟨b,_,_,_,e,?_⟩;rcases q4 with⟨s,_⟩|s
   .rw[s]at e;injection e with N;omega
   rw[e]at s;cases s;show h.nx<=h1.nx;omega
  refine⟨b,_,_,_,e,?_⟩;rcases q4 with⟨s,_⟩|s
  .rw[s]at e;cases e;exact oR _
  rw[e]at s;cases s;show h.nx<=h1.nx;omega
 obtain⟨E,G,I,cp,rfl,hbb⟩:=b16;refine⟨zDC (h:=h1) (j:=j) (n:=Ln.length) Zy rfl ji dg D A dd,E,G,I,cp,l,a16,?_,dd,λh2 e2=>?_⟩
 .intro _ _ _ _;unfold lowOk;split
  .omega
  exact⟨by rw[R];omega,dd⟩
 have n2:h2.nx=l.nx:=by rw[e2];rfl
 have l2:h2.low=h.low:=by rw[e2,jV,l1,R];omega
 have f2:∀q,q<h.nx->h2.get q=h.get q:=λq w=>by rw[e2];refine(q3 q (by show q<h1.nx;omega) λe=>?_).trans (f1 q w);cases e;omega
 have S:(z8 h2).get u=some (.cells cs (xD Tq) true true):=(f2 u J).trans g;have U:=zIY (h:=z8 h2) (j:=j) (n:=Ln.length) Zy rfl ji dg S A hj;obtain⟨r,W⟩:∃r,r=(if j+1<Ln.length then V.slice u (0+(j+1)*Tq.size) (Ln.length-(j+1)) (.skip (0+(j+1))) else .tail u 0 ((j+1)*Tq.size) (0+(j+1))):=⟨_,rfl⟩;rw[<-W]at U;have s19:yT Tq.size (z8 h2) r=some (Ln.length-(j+1),ZL (Ln.drop (j+1))):=by
  rw[W];split
  .exact Wy S dk (by show 0+(j+1)*4+_<=_;omega) da
  have z:Ln.length-(j+1)=0:=dd
  have:ZL (Ln.drop (j+1))=[]:=List.eq_nil_of_length_eq_zero (by rw[dk,z]);rw[this,z];rfl
 have X:Oz (z8 h2) (.slice E G I cp) Tq (0+j) ([]++ZL (Ln.take j)):=Q.keep (by show l.nx<=h2.nx;omega) λb _=>by rw[e2];rfl
 obtain⟨v20,p,a20,z20,⟨_,r1,r2,r3,r4,r5,r6⟩,_⟩:=Oz.app X s19 dk Zy rfl ji de P (by show(0+j+(Ln.length-(j+1)))*4<=_;omega) (by show(0+j+(Ln.length-(j+1)))*48<=_;omega) (by show h2.nx<_;omega);have r1:h2.nx<=p.nx:=r1;have r2:p.nx<=h2.nx+1:=r2;refine⟨r,?_,v20,p,a20,dd,λh3 s=>?_⟩
 .exact U
 have n3:h3.nx=p.nx:=by rw[s];rfl
 have f3:∀q,q<h.nx->h3.get q=h.get q:=λq w=>by rw[s];refine(r3 q (by show q<h2.nx;omega) λe=>?_).trans (f2 q w);cases e;omega
 have C:h3.low<=h.low/\∀m,m<=h.low->m<=h.nx->m<=h3.low:=by rw[s,jV,l2];refine⟨Nat.min_le_left _ _,λm h1 h2=>Nat.le_min.2 ⟨h1,r6 m (oS h1 lo) λb e=>by cases e;omega⟩⟩
 have Y:∀q,z6 v20=some q->h.nx<=q:=λq w=>by
  rcases r4 with⟨e,_⟩|e
  .rw[e]at w;cases w;exact hbb
  rw[e]at w;cases w;show h.nx<=h2.nx;omega
 have xl:(V.agg x.cs).cells=x.cs:=by obtain⟨c,f,k,t,v⟩:=x;rcases F with e|⟨b,o,n,cp,e⟩<;>(have e:v=_:=e;subst e;rfl)
 have x1:zU x.cs=true:=by obtain⟨c,f,k,t,v⟩:=x;rcases F with e|⟨b,o,n,cp,e⟩<;>(have e:v=_:=e;subst e;rfl)
 have Z:(Cs.ls y).put 0 (V.agg x.cs).cells=some (.ls x.cs):=by
  rw[xl];obtain⟨y0,y1,y2,y3,rfl⟩:∃y0 y1 y2 y3,y=[y0,y1,y2,y3]:=by
   match y,hy with
   | [a,b,c,d],_=>exact⟨a,b,c,d,rfl⟩
  rfl
 have hst:jP zB 261 h3 (.ptr pr 0) (.agg x.cs)=some (h3.upd pr (some (.cells (.ls x.cs) ⟨0,262,0⟩ true false))):=zY ji ((f3 pr hpr).trans gr) Z (zx.2 (by rw[xl];rfl)) (oM _) (by rw[xl];exact x1);have PG:pr<T.top:=dd
 refine⟨_,hst,w _ v20 ?_ (by show h.nx<=h3.nx;omega) (by show h3.nx<=_;omega) (λq h1 h2=>by rw[zL _ PG h2];exact f3 q h1) (zT ji rfl (zF _ PG) rfl) Y (by rw[H.low_upd];have:=C.1;omega) (λm h1 h2=>by rw[H.low_upd];have:=C.2 m h1 dd;omega)⟩;have ez:ZL (Ln.eraseIdx j)=[]++ZL (Ln.take j)++ZL (Ln.drop (j+1)):=by rw[List.eraseIdx_eq_take_drop_succ,K3,List.nil_append]
 have en2:Ln.length-1=0+j+(Ln.length-(j+1)):=dd
 rw[ez,en2];refine z20.keep (by show p.nx<=h3.nx;omega) λb hb=>?_
 rw[zL _ PG (λe=>by have:=Y b hb;omega),s];rfl
theorem Yy{x:Nd}(h:IsS x.v):(V.agg x.cs).cells=x.cs/\zU x.cs=true:=by obtain⟨c,f,k,t,v⟩:=x;rcases h with e|⟨b,o,n,a,e⟩<;>(have e:v=_:=e;subst e;exact⟨rfl,rfl⟩)
theorem vK{v:V}{L:List Nd}{h:H}{Q:Uc}(ow:Ow h v Tq L.length (ZL L))(l:∀z∈L,IsS z.v)(lo:h.low<=T.top)(A:∀j x h' v',L[j]? = some x->Ext h h' 6->Oz h' v' Tq (L.length-1) (ZL (L.eraseIdx j))->(∀q,z6 v'=some q->h.nx<=q)->Q (.tuple [.agg x.cs,v']) h')(h0:0<L.length:=by omega)(hL:L.length<=300:=by omega)(hn:h.nx+10<=T.top:=by omega):RF P zB 204 [v] h Q:=by
 obtain⟨bl,rfl⟩:∃b,v = .slice b 0 L.length (.skip 0):=by
  obtain⟨_,⟨_,B⟩|⟨b,_,rfl,_⟩⟩:=ow
  .omega
  exact⟨b,rfl⟩
 refine zh zCR zEB ⟨dd,?_⟩;rintro p0 B rfl e1;have F:=(Vw.nil (S:=zH) (h:=h)).new e1 dd;have t1:=F.top;have n1:B.nx=h.nx+1:=by rw[e1,zC]
 have G:=ow.ext F.ex0;have r:Sl B (.slice bl 0 L.length (.skip 0)) 4 L.length (ZL L):=G.sl;have I:B.low<=T.top:=oS F.low lo;refine λtm hs=>?_
 refine wpC.round (λk tm h'=>∃i j:Nat,1<=i/\i<=L.length/\k=L.length-i/\h'=B/\j<L.length/\Has tm [(5,.int .i64 i),(0,.slice bl 0 L.length (.skip 0)),(4,.int .i64 j),(2,.ptr h.nx 0)]) (L.length-1) ⟨1,0,dd,dd,rfl,rfl,h0,hs.sub de⟩ ?_;clear hs;rintro k tm h' ⟨i,j,hi1,hi,rfl,rfl,s,hs⟩;obtain⟨qb,qo,b1,_,b2⟩:=Bw r s;refine cg zCR hs ⟨_,r.len Zy rfl,λc=>?_,λc=>λtm' J=>thenC.left ?_⟩
 .have w:i<L.length:=dd
  obtain⟨pb,po,a1,_,a2⟩:=Bw r w;refine⟨⟨dd,I⟩,pb,po,a1,_,_,_,_,a2,qb,qo,b1,_,_,_,_,b2,WF (x:=L[i]) (y:=L[j]) (l _ (oV w)) (l _ (oV s)) dd λb=>⟨b,rfl,λ_=>λM C=>⟨rfl,rfl,L.length-(i+1),dd,i+1,i,dd,dd,rfl,rfl,w,?_⟩,λ_=>λM C=>⟨rfl,rfl,L.length-(i+1),dd,i+1,j,dd,dd,rfl,rfl,s,?_⟩⟩⟩;all_goals
   rw[<-zf];exact C.sub de
 obtain⟨N,x1⟩:=Yy (l _ (oV s));refine sg J ⟨qb,qo,b1,_,_,_,_,b2,dd,?_⟩;rintro p6 h7 rfl e7;have w7:=F.new e7 dd;obtain⟨p,e8,n,n8,_⟩:=w7.st (cx:=zB) 0 (t:=261) (f:=0) (u:=.agg L[j].cs) (cs':=.ls L[j].cs) rfl (by have:=w7.top;omega) ji (by rw[N];rfl) (zx.2 (by rw[N];rfl)) (oM _) (by rw[N];exact x1);have t8:=n.top;have n8:p.nx=h.nx+2:=by rw[n8,e7,zC];omega
 have D:=oS n.low lo;obtain⟨_,F1⟩:=Hd (K:=λv' o=>Oz o v' Tq (L.length-1) (ZL (L.eraseIdx j))/\p.nx<=o.nx/\o.nx<=p.nx+3/\(∀q,q<p.nx->q≠h.nx->o.get q=p.get q)/\ye zB 261 o (.ptr h.nx 0)=some (.agg L[j].cs)/\(∀q,z6 v'=some q->p.nx<=q)/\o.low<=p.low/\∀m,m<=p.low->m<=h.nx->m<=o.low) (x:=L[j]) (y:=[.int .i64 0,.bool false,.int .i64 0,.nilslice]) (n.get 0 rfl) (n.get 1 rfl) rfl (l _ (oV s)) (n.lt 0 rfl) (n.lt 1 rfl) (ow.ext n.ex0) hL l s dd (oS n.low lo) λo v' a b c d e f g i=>⟨a,b,c,d,e,f,g,i⟩
 refine⟨p,e8,de,⟨dd,D⟩,_,_,_,_,n.ldA 0 rfl ji rfl,_,_,DF (h:=p) dd,?_⟩;obtain⟨O,bb,oo,nn,cp,R,U,l2,nb,F2⟩:=F1 _ (Yw D).symm;refine⟨_,O,trivial,_,R,U,l2 _ _ _ _,λW X=>?_⟩;obtain⟨Y,Z,v20,h3',a20,t3,F3⟩:=F2 W X;refine⟨Y,by rw[zf];exact Z,trivial,v20,h3',a20,⟨nb,t3⟩,λh12 e12=>?_⟩;obtain⟨o,e9,oz,a1,a2,fr,al,b20,la,lb⟩:=F3 h12 e12;refine⟨o,e9,λtm3 E=>endW.ok (leave.cell (E.get (t:=2) rfl) al (leave.tmp (E.get (t:=3) rfl) rfl)) (A j L[j] o v20 (oQ s) ⟨dd,dd,λq A=>(fr q dd dd).trans (n.ex0.get q A),oS la n.low,lb _ n.ex0.lo (Nat.min_le_right _ _)⟩ oz λq A=>by have:=b20 q A;omega)⟩
end Go.Proofs.YtnpeieeomokomaaGreat
