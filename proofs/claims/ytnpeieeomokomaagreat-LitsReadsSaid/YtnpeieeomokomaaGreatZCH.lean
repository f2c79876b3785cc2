/- CH. No condition. -/
import Derived.Test.YtnpeieeomokomaaGreatZCtx
import Derived.Test.YtnpeieeomokomaaGreatZS
import Derived.Test.YtnpeieeomokomaaGreatZW
import Derived.Test.YtnpeieeomokomaaGreatZCD
import Derived.Test.YtnpeieeomokomaaGreatZCF
import Derived.Test.YtnpeieeomokomaaGreatZCG
import Derived.Test.YtnpeieeomokomaaGreatZCT
noncomputable section
namespace Go.Proofs.YtnpeieeomokomaaGreat
open Go.Sim
variable{a2 y12 y13 y14 y16 y19 y2 y3 y4 y5 y6 y7 y8:Int}{a0 a1 y0 y1:Ua}{y10 y11:V}
theorem zCd:zB.ty.get 372=some ⟨372,(.struct #[⟨ "number",3,0,false, "", "cheesepress/code",0⟩,⟨ "length",3,1,false, "", "cheesepress/code",8⟩]),2,16,some (.agg [(ip 0),(ip 0)]),true,false,false,[]⟩:=da
theorem zJg:zB.ty.get 381=some ⟨381,(.array 12 3),12,96,some (.agg [(ip 0),(ip 0),(ip 0),(ip 0),(ip 0),(ip 0),(ip 0),(ip 0),(ip 0),(ip 0),(ip 0),(ip 0)]),true,false,false,[]⟩:=da
theorem fn7:(zB.fn.get 7).map xG=some ⟨71,[.tmp 8],bf 7⟩:=da
def L7:Uf:=[8]
variable {tm:Tm}{d:List AD}{h:H}{Q:Ud}
theorem vb7{a1 a3:Int}{a2:V}{Q:Uc}:Wf L7 (bf 7) ⟨71,ze [a0,a1,a2,a3] 0 (Tb.leaf zC),[],h⟩ (endW zB ⟨71,[.tmp 8],bf 7⟩ Q)=(Rf 28 [a0,a2] h λv0 h1=>∃L:Bool,v0=L/\Bb L (Rf 15 [a2] h1 λv3 O=>∃C,v3=C/\Rf 30 [a0,a1,C,a3] O λv6 P=>∃M:Ua,∃N,∃c:Int,∃e:Int,∃f:Int,v6=(.tuple [M,N,c,(.agg [e,f])])/\Nw P [(0:Int),(0:Int)] 27 λg D=>∃i,zZ zB 26 D (.ptr g 0) (.agg [e,f])=some i/\Rf 31 [a0,a1,a2,a3] i λE F=>∃j:Ua,∃k,∃l:Int,∃m:Int,∃n:Int,E=(.tuple [j,k,l,(.agg [m,n])])/\Nw F [(0:Int),(0:Int)] 27 λo G=>∃b,zZ zB 26 G (.ptr o 0) (.agg [m,n])=some b/\Br (M=j) (Rf 12 [N,k] b λH a=>∃p:Bool,H=p/\Bb p (Br (c=l) (∃q:Int,∃r:Int,zo zB 26 a (.ptr g 0)=some (.agg [q,r])/\∃s:Int,∃u:Int,zo zB 26 a (.ptr o 0)=some (.agg [s,u])/\∃v:Bool,ZQ zB .eql 26 (t 59) (t 60) (.agg [q,r]) (.agg [s,u])=some (.bool v)/\Bb v (Rf 12 [C,a2] a λI w=>∃x:Bool,I=x/\Bb x (Rf 29 [] w λJ y=>∃z:Bool,J=z/\Bb z (Q true y) (Q false y)) (Q false w)) (Q false a)) (Q false a)) (Q false a)) (Q false b)) (Rf 29 [] h1 λK A=>∃B:Bool,K=B/\Bb B (Q true A) (Q false A))):=da
def L61:Uf:=[2]
theorem z4C{a0:V}:Vb 61 27 [.tmp 2] L61 [a0] (λh Q _=>Rf 112 [a0] h λv0 h1=>∃c:Int,∃b:Int,v0=(.tuple [c,b])/\Rf 113 [a0] h1 λv4 a=>∃e:Int,∃f:Int,v4=(.tuple [e,f])/\Br (b≠0) (Q b a) (Br (e<2) (Q (7:Int) a) (Br (c≠2048) (Q (21:Int) a) (Q (0:Int) a)))):=vb
def z5I:Array Oper:=YB (pQ 63 500)
def zPR:Code:=pQ 63 501
def z5J:Array Oper:=YB (pQ 63 126)
def z5U:Code:=pQ 63 127
def zUp:Code:=pQ 63 63
def L63:Uf:=[4,5]
theorem zPy :Vy 45 L63 zPR [] (λ_ h _ E _ _ _ _=>E [] .ret h):=vz
theorem z4E{b c e a1:Int}{f:Ua}:Vb 63 45 [.cell 4 80,.cell 5 80] L63 [(.agg [f,b,c,e]),a1] (λh _ K=>Nw h [f,b,c,e] 81 λp0 h1=>Nw h1 [(.str []),(0:Int),(0:Int),(0:Int)] 81 λx z=>Nw z [(.str []),(0:Int),(0:Int),(0:Int)] 81 λp4 y=>∃l6:Ua,∃p:Int,∃q:Int,∃r:Int,zo zB 80 y (.ptr p0 0)=some (.agg [l6,p,q,r])/\Rf 114 [(.agg [l6,p,q,r])] y λv10 s=>∃a,v10=a/\Nc s a λi t=>zP zB 155 0 t i λj u=>zP zB 80 1 u j λk m=>Li m k λg=>Rf 115 [a,a1] m λv20 v=>∃l:Ua,v20=l/\Rf 116 [a] v λw n=>∃o:Bool,w=o/\Bb o (wpDr Tryz.prog zB false z5I.toList ⟨45,(Tb.set (Tb.set (Tb.set (Tb.set (Tb.set (Tb.set (Tb.set (Tb.set (Tb.set (Tb.set (Tb.set (Tb.set (Tb.set (Tb.set (Tb.set (Tb.set (Tb.set (Tb.set (Tb.set (Tb.leaf zC) 0 (.agg [f,b,c,e])) 1 a1) 2 (.ptr p0 0)) 4 (.ptr x 0)) 5 (.ptr p4 0)) 8 (.agg [l6,p,q,r])) 9 a) 6 a) 10 a) 11 i) 12 j) 13 k) 14 g) 7 g) 15 a) 16 a1) 17 l) 18 a) 19 true),[],n⟩ (thenC (λs1=>Wf L63 zPR s1 (thenC (λs1=>Wf L63 zUp s1 K) K)) (thenC (λs1=>Wf L63 zUp s1 K) K))) (wpDr Tryz.prog zB false z5J.toList ⟨45,(Tb.set (Tb.set (Tb.set (Tb.set (Tb.set (Tb.set (Tb.set (Tb.set (Tb.set (Tb.set (Tb.set (Tb.set (Tb.set (Tb.set (Tb.set (Tb.set (Tb.set (Tb.set (Tb.set (Tb.leaf zC) 0 (.agg [f,b,c,e])) 1 a1) 2 (.ptr p0 0)) 4 (.ptr x 0)) 5 (.ptr p4 0)) 8 (.agg [l6,p,q,r])) 9 a) 6 a) 10 a) 11 i) 12 j) 13 k) 14 g) 7 g) 15 a) 16 a1) 17 l) 18 a) 19 false),[],n⟩ (thenC (λs1=>Wf L63 zPR s1 K) K))):=vb
def L64:Uf:=[4]
theorem z4F{a1:Int}{a0:V}:Vb 64 11 [.cell 4 26] L64 [a0,a1] (λh Q _=>Nw h [(0:Int),(0:Int)] 27 λp0 h1=>Nc h1 a0 λv2 c=>zP zB 83 1 c v2 λv4 a=>Li a v4 λe=>∃b,zZ zB 26 a (.ptr p0 0) (.agg [a1,e])=some b/\endL zB b [(.cell 4 26,(.ptr p0 0))] Q):=vb
def L65:Uf:=[2]
theorem z4G{a0:V}:Vb 65 8 [.tmp 2] L65 [a0] (λh Q _=>qc zB .eql 23 (t 3) (.const (.slice none 0 0)) 4 a0 .nilslice λv0=>wO v0 λu=>match u with|true=>Q .nilslice h|false=>∃v1 a,zJ zB 23 0 [] h=some (v1,a)/\True/\∃v3 b,zn zB 23 a v1 a0=some (v3,b)/\Q v3 b):=vb
def L67:Uf:=[10,11]
theorem z4H{a3 a4:Int}{a2:Ua}{a0 a1:V}:Vb 67 56 [.tmp 10,.cell 11 26] L67 [a0,a1,a2,a3,a4] (λh Q _=>Nw h [(0:Int),(0:Int)] 27 λp0 h1=>Br (a4=1) (Rf 123 [a1,a2,a3] h1 λv2 c=>∃z:Ua,∃A:Int,v2=(.tuple [z,A])/\Br (A≠0) ((c.nx<=T.top/\c.low<=T.top)/\∃v6 q,yD zB ⟨none,.nilCheck (t 0),0, "",#[],none⟩ (λ_=>some a0) (zX c)=some (.val v6 q)/\(c.nx<=q.low/\q.nx<=T.top)/\∀B,B=yN c q->zP zB 83 0 B v6 λC r=>zP zB 80 1 r C λv11 e=>Li e v11 λs=>∃f,zZ zB 26 e (.ptr p0 0) (.agg [(22:Int),s])=some f/\endL zB f [(.tmp 10,(.str [])),(.cell 11 26,(.ptr p0 0))] Q) (∃g,zZ zB 26 c (.ptr p0 0) (.agg [(0:Int),(0:Int)])=some g/\endL zB g [(.tmp 10,z),(.cell 11 26,(.ptr p0 0))] Q)) (Rf 124 [a1,a2,a3] h1 λu a=>∃i:Ua,∃j:Int,∃k:Int,u=(.tuple [i,j,k])/\Br (k≠0) ((a.nx<=T.top/\a.low<=T.top)/\∃l b,yD zB ⟨none,.nilCheck (t 0),0, "",#[],none⟩ (λ_=>some a0) (zX a)=some (.val l b)/\(a.nx<=b.low/\b.nx<=T.top)/\∀m,m=yN a b->zP zB 83 0 m l λv w=>zP zB 80 1 w v λx n=>Li n x λy=>∃o,zZ zB 26 n (.ptr p0 0) (.agg [(22:Int),(zG (y+j))])=some o/\endL zB o [(.tmp 10,(.str [])),(.cell 11 26,(.ptr p0 0))] Q) (∃p,zZ zB 26 a (.ptr p0 0) (.agg [(0:Int),(0:Int)])=some p/\endL zB p [(.tmp 10,i),(.cell 11 26,(.ptr p0 0))] Q))):=vb
def L69:Uf:=[4,5,6,7]
theorem z4J{a0 a1:Int}:Vb 69 11 [.tmp 4,.tmp 5,.tmp 6,.cell 7 26] L69 [a0,a1] (λh Q _=>Nw h [(0:Int),(0:Int)] 27 λp0 h1=>∃a,zZ zB 26 h1 (.ptr p0 0) (.agg [a0,a1])=some a/\endL zB a [(.tmp 4,(.str [])),(.tmp 5,.nilslice),(.tmp 6,(0:Int)),(.cell 7 26,(.ptr p0 0))] Q):=vb
def L70:Uf:=[2]
theorem z4L{a0:V}:Vb 70 8 [.tmp 2] L70 [a0] (λh Q _=>Ln 23 h a0 λa=>Br (a=0) (Q (0:Int) h) (Ri 128 [a0] h λb c=>Q b c)):=vb
def L71:Uf:=[6,7]
theorem z4M{a0:V}:Vb 71 21 [.tmp 6,.tmp 7] L71 [a0,a1,a2] (λh Q _=>Ri 129 [a0,a2] h λa h1=>Br (a≠0) (Q (.tuple [(.str []),a]) h1) (Rf 130 [a0,a1,a2] h1 λv3 e=>∃b:Ua,∃c:Int,v3=(.tuple [b,c])/\Q (.tuple [b,c]) e)):=vb
def zUR:Code:=pQ 72 8180
def zUS:Code:=pQ 72 262132
def zUq:Code:=pQ 72 32767
def zUr:Code:=pQ 72 1023
def L72:Uf:=[6,7,8,13,1,12,11,19,0,18,10,17]
theorem zWy:Vy 93 L72 zUR [(13,y13),(1,y1),(12,y12),(11,y11)] (λ_ h _ E _ _ _ _=>Br (y13<3) (Rf 126 [y1,(zG (2*y13)),(2:Int)] h λv0 h1=>∃c:Int,∃i:Int,∃e:Int,∃f:Int,v0=(.tuple [(.int .u64 c),i,(.agg [e,f])])/\Nw h1 [(0:Int),(0:Int)] 27 λj k=>∃g,zZ zB 26 k (.ptr j 0) (.agg [e,f])=some g/\∃p9 a,yo zB 176 y11 y13=some (.ptr p9 a)/\∃b,zZ zB 3 g (.ptr p9 a) (zG (y12+(zG (c))))=some b/\E [(13,(zG (y13+1))),(12,(zG (y12+(zG (c)))))] .normal b) (E [] (.exit 0) h)):=vz
theorem zWz{b:Int}{y17:Ua}{y0:V}:Vy 93 L72 zUS [(19,y19),(0,y0),(1,y1),(18,b),(11,y11),(10,y10),(17,y17)] (λ_ h _ E _ _ _ _=>Br (y19<4) ((h.nx<=T.top/\h.low<=T.top)/\Rq 176 3 h y11 y19 λi=>∃f:Ua,zy zB 9 h y1 (some (b:V)) (some (i:V)) none=some (.str f)/\Rq 176 3 h y10 y19 λj=>Rf 130 [y0,f,j] (zX h) λk g=>∃l9:Ua,∃c:Int,k=(.tuple [l9,c])/\g.nx<=T.top/\∀a,a=yN h g->Br (c≠0) (E [(6,(.str [])),(7,b),(8,(22:Int))] .ret a) (List.length y17+List.length l9<=4611686018427387904/\Rq 176 3 a y11 y19 λe=>E [(19,(zG (y19+1))),(18,e),(17,(.str (y17++l9)))] .normal a)) (E [] (.exit 2) h)):=vz
theorem zXm{y17:Ua}:Vy 93 L72 zUq [(17,y17)] (λ_ h _ E _ _ _ _=>E [(6,y17),(7,(0:Int)),(8,(0:Int))] .ret h):=vz
theorem zXn:Vy 93 L72 zUr [(12,y12),(1,y1),(11,y11)] (λ_ h _ E _ M S _=>Br ((Int.ofNat (List.length y1))<y12) (E [(6,(.str [])),(7,(0:Int)),(8,(22:Int))] .ret h) (∃p0 a,yo zB 176 y11 (3:Int)=some (.ptr p0 a)/\∃b,zZ zB 3 h (.ptr p0 a) (dd (Int.ofNat (List.length y1)))=some b/\M [(19,(0:Int)),(18,(6:Int)),(17,(.str []))] zUS b (Kx (Wf L72) zUq 2 S))):=vz
theorem z4N{a0:V}:Vb 72 93 [.tmp 6,.tmp 7,.tmp 8] L72 [a0,a1,a2] (λh Q K=>Ri 129 [a0,a2] h λi h1=>Br (i≠0) (Q (.tuple [(.str []),(0:Int),i]) h1) (Rf 131 [a2] h1 λv3 n=>∃j:Int,∃k:Int,∃l:Int,∃m:Int,∃c:Int,v3=(.tuple [(.agg [j,k,l,m]),c])/\Nw n [(0:Int),(0:Int),(0:Int),(0:Int)] 177 λb e=>∃a,zZ zB 176 e (.ptr b 0) (.agg [j,k,l,m])=some a/\Br (c≠0) (Q (.tuple [(.str []),(0:Int),c]) a) (Br ((Int.ofNat (List.length a1))<6) (Q (.tuple [(.str []),(0:Int),(22:Int)]) a) (Nw a [(0:Int),(0:Int),(0:Int),(0:Int)] 177 λf g=>Lz L72 93 [(6,(.str [])),(7,(0:Int)),(8,(0:Int)),(13,(0:Int)),(1,a1),(12,(6:Int)),(11,(.ptr f 0)),(0,a0),(10,(.ptr b 0))] zUR g (Kx (Wf L72) zUr 0 K))))):=vb
def zMj:Code:=pQ 124 1012
def z2o:Array Oper:=YB (pQ 124 1047892)
def zH9:Code:=pQ 124 1047893
def z2p:Array Oper:=YB (pQ 124 130987)
def zOP:Code:=pQ 124 130987
def ZP:Code:=pQ 124 16372
def qh:Code:=pQ 124 16373
def zW9:Code:=pQ 124 8186
def zHa:Code:=pQ 124 2047
def zOQ:Code:=pQ 124 127
def kX:Uf:=[6,7,8,40,1,10,72,73,3,19,18,17,15,2,71,16]
theorem zRi{a:Int}:Vy 94 kX zMj [(40,a),(1,y1),(10,y10)] (λ_ h _ E _ _ _ _=>Br (a<3) (Rf 196 [y1,(zG (2*a)),(2:Int)] h λv0 h1=>∃k:Int,∃o:Int,∃l:Int,∃m:Int,v0=(.tuple [(.int .u64 k),o,(.agg [l,m])])/\Nw h1 [(0:Int),(0:Int)] 27 λp q=>∃n,zZ zB 26 q (.ptr p 0) (.agg [l,m])=some n/\∃p9 c,yo zB 176 y10 a=some (.ptr p9 c)/\∃b,zZ zB 3 n (.ptr p9 c) (zG (k))=some b/\(b.nx<=T.top/\b.low<=T.top)/\Rq 176 3 b y10 (3:Int) λi=>Rq 176 3 b y10 a λj=>∃e f,yo zB 176 y10 (3:Int)=some (.ptr e f)/\∃g,zZ zB 3 b (.ptr e f) (zG (i-j))=some g/\E [(40,(zG (a+1)))] .normal g) (E [] (.exit 1) h)):=vz
theorem zS7 :Vt 94 kX (jd zH9) [] (λ_ h _ E _ _ _ _=>E [] .ret h):=vz
theorem zR9{a b:V}:Wt kX (jd ZP) ⟨94,(zW tm [(72,a),(73,b)]),d,h⟩ (zp kX Q)=((Gz kX tm [(72,a),(73,b),(19,b),(18,a)] λu=>Q .normal ⟨94,u,d,h⟩)):=da
theorem zRc{a:Int}{y19:Ua}{y3 y17:V}:Wt kX (jd qh) ⟨94,(zW tm [(3,y3),(19,y19),(18,a),(17,y17)]),d,h⟩ (zp kX Q)=(((h.nx<=T.top/\h.low<=T.top)/\Lv 23 h y3 λv0=>∃c f,yo zB 176 y17 a=some (.ptr c f)/\Li h (.ptr c f) λg=>Rf 195 [v0,y19,g] (zX h) λv4 j=>∃l6:Ua,∃b:Int,v4=(.tuple [l6,b])/\j.nx<=T.top/\∀i,i=yN h j->Br (b≠0) (wpDr Tryz.prog zB true z2o.toList ⟨94,(Tb.set (Tb.set (Tb.set (Tb.set (Tb.set (Tb.set (Tb.set (Tb.set (Tb.set (Tb.set (Tb.set (Tb.set (Tb.set (zW tm [(3,y3),(19,y19),(18,a),(17,y17)]) 75 v0) 76 y19) 77 a) 78 (.ptr c f)) 79 g) 80 (.tuple [l6,b])) 74 (.tuple [l6,b])) 81 l6) 82 b) 20 l6) 21 b) 83 b) 84 true),d,i⟩ (thenC (λs1=>Wt kX (jd zH9) s1 (thenC (λs1=>Wt kX (jd zOP) s1 λe s1=>(zp kX Q) (exitB 4 e) s1) λe s1=>(zp kX Q) (exitB 4 e) s1)) (thenC (λs1=>Wt kX (jd zOP) s1 λe s1=>(zp kX Q) (exitB 4 e) s1) λe s1=>(zp kX Q) (exitB 4 e) s1))) (wpDr Tryz.prog zB true z2p.toList ⟨94,(Tb.set (Tb.set (Tb.set (Tb.set (Tb.set (Tb.set (Tb.set (Tb.set (Tb.set (Tb.set (Tb.set (Tb.set (Tb.set (zW tm [(3,y3),(19,y19),(18,a),(17,y17)]) 75 v0) 76 y19) 77 a) 78 (.ptr c f)) 79 g) 80 (.tuple [l6,b])) 74 (.tuple [l6,b])) 81 l6) 82 b) 20 l6) 21 b) 83 b) 84 false),d,i⟩ λe s1=>(zp kX Q) (exitB 4 e) s1))):=da
theorem zS8{a y6 y7 y8:V}:Vy 94 kX zHa [(15,a),(6,y6),(7,y7),(8,y8)] (λ_ h _ E _ _ _ _=>Ls h a λl0=>∃h1,zZ zB 9 h y6 l0=some h1/\∃b,zZ zB 3 h1 y7 (0:Int)=some b/\∃c,zZ zB 24 b y8 (0:Int)=some c/\E [] .ret c):=vz
theorem zS9{y6 y7 y8:V}:Vy 94 kX zOQ [(10,y10),(6,y6),(7,y7),(8,y8),(2,y2),(1,y1)] (λd h _ E _ _ S tm=>Rq 176 3 h y10 (3:Int) λB=>Br (B<0) (∃w,zZ zB 9 h y6 (.str [])=some w/\∃x,zZ zB 3 w y7 (0:Int)=some x/\∃y,zZ zB 24 x y8 (22:Int)=some y/\E [] .ret y) (V.one (.str [])=true/\Nw h [(.str [])] 10 λz C=>V.one (0:Int)=true/\Nw C [(0:Int)] 4 λA D=>∃b,zZ zB 9 D (.ptr z 0) (.str [])=some b/\∃c,zZ zB 3 b (.ptr A 0) (6:Int)=some c/\Rf 197 [y2] c λq r=>∃e:Int,∃f:Int,∃g:Int,∃i:Int,q=(.agg [e,f,g,i])/\Nw r [(0:Int),(0:Int),(0:Int),(0:Int)] 177 λj s=>∃a,zZ zB 176 s (.ptr j 0) (.agg [e,f,g,i])=some a/\(a.nx<=T.top/\a.low<=T.top)/\∃k:Ua,zy zB 9 a y1 (some (dd 6)) none none=some (.str k)/\∃l:Int,∃m:Int,∃n:Int,∃o:Int,zo zB 176 a y10=some (.agg [l,m,n,o])/\Rf 198 [k,(.agg [l,m,n,o])] a λt v=>∃p,t=p/\Gz kX tm [(17,(.ptr j 0)),(15,(.ptr z 0)),(71,p),(16,(.ptr A 0))] λu=>RC Tryz.prog false zW9 ⟨94,u,d,v⟩ (Kx (Wf kX) zHa 3 S))):=vz
theorem z0N{a0:V}:Vb 124 94 [.cell 6 9,.cell 7 3,.cell 8 24] kX [a0,a1,a2] (λh Q K=>V.one a0=true/\Nw h [a0] 24 λp0 h1=>V.one (.str [])=true/\Nw h1 [(.str [])] 10 λb v=>V.one (0:Int)=true/\Nw v [(0:Int)] 4 λp4 w=>V.one (0:Int)=true/\Nw w [(0:Int)] 25 λc u=>Lv 23 u (.ptr p0 0) λv8=>Ri 194 [v8,a2] u λe a=>Br (e≠0) (∃f,zZ zB 9 a (.ptr b 0) (.str [])=some f/\∃g,zZ zB 3 f (.ptr p4 0) (0:Int)=some g/\∃i,zZ zB 24 g (.ptr c 0) e=some i/\endL zB i [(.cell 6 9,(.ptr b 0)),(.cell 7 3,(.ptr p4 0)),(.cell 8 24,(.ptr c 0))] Q) (Br (a2<6) (∃j,zZ zB 9 a (.ptr b 0) (.str [])=some j/\∃k,zZ zB 3 j (.ptr p4 0) (0:Int)=some k/\∃l,zZ zB 24 k (.ptr c 0) (20:Int)=some l/\endL zB l [(.cell 6 9,(.ptr b 0)),(.cell 7 3,(.ptr p4 0)),(.cell 8 24,(.ptr c 0))] Q) (Br ((Int.ofNat (List.length a1))<6) (∃m,zZ zB 9 a (.ptr b 0) (.str [])=some m/\∃n,zZ zB 3 m (.ptr p4 0) (0:Int)=some n/\∃o,zZ zB 24 n (.ptr c 0) (22:Int)=some o/\endL zB o [(.cell 6 9,(.ptr b 0)),(.cell 7 3,(.ptr p4 0)),(.cell 8 24,(.ptr c 0))] Q) (Nw a [(0:Int),(0:Int),(0:Int),(0:Int)] 177 λp t=>∃q r,yo zB 176 (.ptr p 0) (3:Int)=some (.ptr q r)/\∃s,zZ zB 3 t (.ptr q r) (zG ((Int.ofNat (List.length a1))-6))=some s/\Lz kX 94 [(6,(.ptr b 0)),(7,(.ptr p4 0)),(8,(.ptr c 0)),(40,(0:Int)),(1,a1),(10,(.ptr p 0)),(3,(.ptr p0 0)),(2,a2)] zMj s (Kx (Wf kX) zOQ 1 K))))):=vb
def z2I:Uf:=[4]
theorem z0n{a b c e:Int}:Vb 198 6 [.tmp 4] z2I [a0,(.agg [a,b,c,e])] (λh Q _=>V.one a0=true/\Nw h [a0] 10 λp0 h1=>Nw h1 [a,b,c,e] 177 λf g=>Q (.func (.func 264) [] [(.ptr f 0),(.ptr p0 0)]) g):=vb
def zOe:Code:=pQ 199 3913
def zOf:Code:=pQ 199 979
def zMz:Code:=pQ 199 244
def zOg:Code:=pQ 199 31
def zBR:Uf:=[2,3,0,5,4]
theorem zTD{y0:V}:Vy 42 zBR zOe [(0,y0),(5,y5),(4,y4)] (λ_ h _ E _ _ _ _=>Rq 23 3 h y0 y5 λb=>Br ((0:Int)<b) (Rq 23 3 h y0 y5 λc=>∃a:Int,zj .shl .i64 1 (zU .u64 ((zG (11-c))))=some (a:V)/\E [(4,(zG (y4+a)))] .normal h) (E [] .normal h)):=vz
theorem zJn:Vy 42 zBR zOf [(5,y5)] (λ_ h _ E _ _ _ _=>E [(5,(zG (y5+1)))] .normal h):=vz
theorem zSC{y0:V}:Vy 42 zBR zMz [(5,y5),(0,y0)] (λd h _ E _ _ S tm=>Ln 23 h y0 λa=>Br (y5<a) (Rq 23 3 h y0 y5 λb=>Br (b<0) (E [(2,(0:Int)),(3,(2:Int))] .ret h) (Rq 23 3 h y0 y5 λc=>Br ((11:Int)<c) (E [(2,(0:Int)),(3,(2:Int))] .ret h) (Gz zBR tm [] λu=>Wf zBR zOe ⟨42,u,d,h⟩ (Kx (Wf zBR) zOf 1 S)))) (E [] (.exit 0) h)):=vz
theorem zTE:Vy 42 zBR zOg [(4,y4)] (λ_ h _ E _ _ _ _=>E [(2,y4),(3,(0:Int))] .ret h):=vz
theorem z0o{a0:V}:Vb 199 42 [.tmp 2,.tmp 3] zBR [a0] (λh Q K=>Ln 23 h a0 λa=>Br ((256:Int)<a) (Q (.tuple [(0:Int),(6:Int)]) h) (Lz zBR 42 [(2,(0:Int)),(3,(0:Int)),(0,a0),(5,(0:Int)),(4,(0:Int))] zMz h (Kx (Wf zBR) zOg 0 K))):=vb
def zNH:Code:=pQ 264 12
def zV1:Uf:=[7,6,0,2]
theorem zSK{a b c e:Int}{y0 y2:V}:Vy 22 zV1 zNH [(7,y7),(6,(.agg [a,b,c,e])),(0,y0),(2,y2)] (λ_ h _ E _ _ _ _=>Br (y7<4) (∃g:Int,yC zB 176 (.agg [a,b,c,e]) y7=some (g:V)/\Ls h y2 λk=>∃l2:Ua,zy zB 9 h k none (some (g:V)) none=some (.str l2)/\wm zB Tryz.prog 4 h (λv3 f=>zBG .not v3 λl=>wO l λu=>match u with|true=>(E [] .ret f)|false=>Ls f y2 λl6=>∃i:Ua,zy zB 9 f l6 (some (g:V)) none none=some (.str i)/\∃j,zZ zB 9 f y2 i=some j/\E [(7,(zG (y7+1)))] .normal j) [y7,l2] y0) (E [] (.exit 0) h)):=vz
theorem z1H{a0 a1 a2:V}:Vb 264 22 [] zV1 [a0,a1,a2] (λh _ K=>∃a:Int,∃b:Int,∃c:Int,∃f:Int,zo zB 176 h a1=some (.agg [a,b,c,f])/\Lz zV1 22 [(7,(0:Int)),(6,(.agg [a,b,c,f])),(0,a0),(2,a2)] zNH h λe s1=>K (exitB 0 e) s1):=vb
def zHP:Code:=pQ 265 4100684
def zOr:Code:=pQ 265 128147
def zHQ:Code:=pQ 265 32036
def zOs:Code:=pQ 265 2003
def zNI:Code:=pQ 265 500
def zOt:Code:=pQ 265 63
def OR:Uf:=[2,3,9,5,7,6,8,0]
theorem zSL{a:Int}{y6:V}:Vy 50 OR zHP [(9,a),(5,y5),(7,y7),(6,y6),(8,y8)] (λ_ h _ E _ _ _ _=>∃b:Int,zj .shl .i64 1 (zU .u64 ((zG (y5-y7))))=some (b:V)/\Br (a<b) (∃v1 c,zJ zB 123 1 [(0,(.agg [y8,y7,(0:Int)]))] h=some (v1,c)/\True/\∃v3 e,zn zB 123 c y6 v1=some (v3,e)/\E [(9,(zG (a+1))),(6,v3)] .normal e) (E [] (.exit 4) h)):=vz
theorem zTP:Vy 50 OR zOr [(8,y8)] (λ_ h _ E _ _ _ _=>E [(8,(zG (y8+1)))] .normal h):=vz
theorem zSM{y0:V}:Vy 50 OR zHQ [(8,y8),(0,y0),(7,y7)] (λ_ h _ E _ M S _=>Ln 23 h y0 λa=>Br (y8<a) (Rq 23 3 h y0 y8 λb=>Br (b≠y7) (E [(8,(zG (y8+1)))] .normal h) (M [(9,(0:Int))] zHP h λe s1=>(Kx (Wf OR) zOr 3 S) (exitB 4 e) s1)) (E [] (.exit 2) h)):=vz
theorem zTQ:Vy 50 OR zOs [(7,y7)] (λ_ h _ E _ _ _ _=>E [(7,(zG (y7-1)))] .normal h):=vz
theorem zSN:Vy 50 OR zNI [(7,y7)] (λ_ h _ E _ M S _=>Br ((0:Int)<y7) (M [(8,(0:Int))] zHQ h λe s1=>(Kx (Wf OR) zOs 1 S) (exitB 2 e) s1) (E [] (.exit 0) h)):=vz
theorem zTR{y6:V}:Vy 50 OR zOt [(6,y6)] (λ_ h _ E _ _ _ _=>E [(2,y6),(3,(0:Int))] .ret h):=vz
theorem z1I{a0:V}:Vb 265 50 [.tmp 2,.tmp 3] OR [a0] (λh Q K=>Ri 298 [a0] h λa h1=>Br (a≠0) (Q (.tuple [.nilslice,a]) h1) (Ri 266 [a0] h1 λb c=>Lz OR 50 [(2,.nilslice),(3,(0:Int)),(5,b),(7,b),(6,.nilslice),(0,a0)] zNI c (Kx (Wf OR) zOt 0 K))):=vb
def zNQ:Code:=pQ 317 500
def zPE:Code:=pQ 317 63
def zLp:Uf:=[2,7,5,3,6]
theorem zSV{y3:V}:Vy 39 zLp zNQ [(7,y7),(5,y5),(3,y3),(6,y6)] (λ_ h _ E _ _ _ _=>Br (y7<=11) (Rq 381 3 h y3 y7 λb=>∃a:Int,zj .shl .i64 b (zG (11-y7))=some (a:V)/\Rq 381 3 h y3 y7 λc=>E [(7,(zG (y7+1))),(5,(zG (y5+a))),(6,(zG (y6+c)))] .normal h) (E [] (.exit 0) h)):=vz
theorem zT9:Vy 39 zLp zPE [(6,y6),(5,y5)] (λ_ h _ E _ _ _ _=>Br (y6<2) (E [(2,(21:Int))] .ret h) (Br (y5≠2048) (E [(2,(21:Int))] .ret h) (E [(2,(0:Int))] .ret h))):=vz
theorem z12{a0:V}:Vb 317 39 [.tmp 2] zLp [a0] (λh Q K=>Rf 330 [a0] h λv0 h1=>∃k:Int,∃l:Int,∃m:Int,∃n:Int,∃o:Int,∃p:Int,∃q:Int,∃r:Int,∃c:Int,∃e:Int,∃f:Int,∃g:Int,∃a:Int,v0=(.tuple [(.agg [k,l,m,n,o,p,q,r,c,e,f,g]),a])/\Nw h1 [(0:Int),(0:Int),(0:Int),(0:Int),(0:Int),(0:Int),(0:Int),(0:Int),(0:Int),(0:Int),(0:Int),(0:Int)] 382 λi j=>∃b,zZ zB 381 j (.ptr i 0) (.agg [k,l,m,n,o,p,q,r,c,e,f,g])=some b/\Br (a≠0) (Q a b) (Lz zLp 39 [(2,(0:Int)),(7,(1:Int)),(5,(0:Int)),(3,(.ptr i 0)),(6,(0:Int))] zNQ b (Kx (Wf zLp) zPE 0 K))):=vb
def z2t:Array Oper:=YB (pQ 333 6)
def zPP:Code:=pQ 333 7
def zV3:Uf:=[4]
theorem zTo :Vy 17 zV3 zPP [] (λ_ h _ E _ _ _ _=>E [] .ret h):=vz
theorem z1b{a b c e:Int}:Vb 333 17 [.tmp 4] zV3 [(.agg [a,b]),(.agg [c,e])] (λh _ K=>Nw h [a,b] 373 λp0 h1=>Nw h1 [c,e] 373 λf g=>wpDr Tryz.prog zB false z2t.toList ⟨17,(Tb.set (Tb.set (Tb.set (Tb.set (Tb.set (Tb.leaf zC) 0 (.agg [a,b])) 1 (.agg [c,e])) 2 (.ptr p0 0)) 3 (.ptr f 0)) 4 (0:Int)),[],g⟩ (thenC (λs1=>Wf zV3 zPP s1 K) K)):=vb
def zNZ:Code:=pQ 336 28
def zV4:Uf:=[12,11,10,0,5,4]
theorem zS4{y11:Int}{y0:V}:Vy 29 zV4 zNZ [(12,y12),(11,y11),(10,y10),(0,y0),(5,y5),(4,y4)] (λ_ h _ E _ _ _ _=>Br (y12<y11) (∃p0 f,yo zB 384 y10 y12=some (.ptr p0 f)/\∃g:Int,∃i:Int,zo zB 372 h (.ptr p0 f)=some (.agg [g,i])/\Nw h [(0:Int),(0:Int)] 373 λp4 l=>∃c,zZ zB 372 l (.ptr p4 0) (.agg [g,i])=some c/\∃j:Int,∃k:Int,zo zB 372 c (.ptr p4 0)=some (.agg [j,k])/\wm zB Tryz.prog 4 c (λm a=>zBG .not m λv11=>wO v11 λu=>match u with|true=>(E [] .ret a)|false=>Li a (.ptr p4 (0+1)) λe=>∃b:Int,zj .shl .i64 1 (zG (y4-e))=some (b:V)/\E [(12,(zG (y12+1))),(5,(zG (y5+b)))] .normal a) [(.agg [j,k]),y5] y0) (E [] (.exit 0) h)):=vz
theorem z1e{a0 a1 a2:V}:Vb 336 29 [] zV4 [a0,a1,a2] (λh _ K=>Lv 23 h a1 λv0=>Ri 318 [v0] h λb a=>Lv 384 a a2 λv4=>Ln 384 a v4 λc=>Lz zV4 29 [(12,(0:Int)),(11,c),(10,v4),(0,a0),(5,(0:Int)),(4,b)] zNZ a λe s1=>K (exitB 0 e) s1):=vb
def L28:Uf:=[4]
theorem z3p{a1:V}:Vb 28 13 [.tmp 4] L28 [a0,a1] (λh Q _=>Br ((Int.ofNat (List.length a0))<=1200) (Ln 23 h a1 λa=>Br (a<=260) (Q true h) (Q false h)) (Q false h)):=vb
def zFg:Code:=pQ 31 61
def zCQ:Code:=pQ 31 4093
def zNS:Code:=pQ 31 16774612
def zPG:Code:=pQ 31 2096827
def zCR:Code:=pQ 31 32765
def zCS:Code:=pQ 31 65533
def zJQ:Code:=pQ 31 4194283
def zJR:Code:=pQ 31 2097151
def zFh:Code:=pQ 31 262143
def zCT:Code:=pQ 31 32767
def KD:Code:=pQ 31 16383
def zWc:Code:=pQ 31 8191
def KE:Code:=pQ 31 2047
def zA5:Code:=pQ 31 1023
def zDh:Code:=pQ 31 511
def zA6:Code:=pQ 31 31
def yu:Uf:=[8,9,10,11,57,89,1,22,14,21,0,16,20,140,152,27,25,26,18,24,29,28,23,13,15,12,2,3,19]
theorem zXX{a:Bool}:Vy 231 yu zFg [(57,a),(11,y11)] (λ_ h _ E _ _ _ _=>wo a λu=>match u with|true=>Rf 69 [(2:Int),(0:Int)] h (λv0 h1=>∃l2:Ua,∃v3,∃b:Int,∃c:Int,∃e:Int,v0=(.tuple [l2,v3,b,(.agg [c,e])])/\∃f,zZ zB 26 h1 y11 (.agg [c,e])=some f/\E [(8,l2),(9,v3),(10,b)] .ret f)|false=>E [] .normal h):=vz
theorem zXY{y1:Int}{a:Bool}:Vy 231 yu zCQ [(89,a),(1,y1),(11,y11)] (λ_ h _ E _ _ _ _=>wo a λu=>match u with|true=>Rf 69 [(20:Int),y1] h (λv0 h1=>∃l2:Ua,∃v3,∃b:Int,∃c:Int,∃e:Int,v0=(.tuple [l2,v3,b,(.agg [c,e])])/\∃f,zZ zB 26 h1 y11 (.agg [c,e])=some f/\E [(8,l2),(9,v3),(10,b)] .ret f)|false=>E [] .normal h):=vz
theorem zWq{a:Int}{b:V}:Vy 231 yu zNS [(22,a),(14,y14),(21,b),(0,y0),(16,y16)] (λ_ h _ E _ _ _ _=>Br (a<y14) (∃c:Int,yC zB 9 y0 y16=some (.int .u8 c)/\∃e f,yo zB 71 b a=some (.ptr e f)/\∃g,zZ zB 5 h (.ptr e f) (.int .u8 c)=some g/\E [(22,(zG (a+1)))] .normal g) (E [] (.exit 1) h)):=vz
theorem zXZ{a b:V}:Vy 231 yu zPG [(21,a),(20,b),(16,y16),(11,y11)] (λ_ h _ E _ _ _ _=>qo zB 71 9 h a λv0 h1=>∃c,zZ zB 26 h1 y11 (.agg [(0:Int),(0:Int)])=some c/\E [(8,v0),(9,b),(10,(zG (y16+1)))] .ret c):=vz
theorem zX0{y1:Int}{a:Bool}:Vy 231 yu zCR [(140,a),(1,y1),(11,y11)] (λ_ h _ E _ _ _ _=>wo a λu=>match u with|true=>Rf 69 [(26:Int),y1] h (λv0 h1=>∃l2:Ua,∃v3,∃b:Int,∃c:Int,∃e:Int,v0=(.tuple [l2,v3,b,(.agg [c,e])])/\∃f,zZ zB 26 h1 y11 (.agg [c,e])=some f/\E [(8,l2),(9,v3),(10,b)] .ret f)|false=>E [] .normal h):=vz
theorem zX1{y1:Int}{a:Bool}:Vy 231 yu zCS [(152,a),(1,y1),(11,y11)] (λ_ h _ E _ _ _ _=>wo a λu=>match u with|true=>Rf 69 [(20:Int),y1] h (λv0 h1=>∃l2:Ua,∃v3,∃b:Int,∃c:Int,∃e:Int,v0=(.tuple [l2,v3,b,(.agg [c,e])])/\∃f,zZ zB 26 h1 y11 (.agg [c,e])=some f/\E [(8,l2),(9,v3),(10,b)] .ret f)|false=>E [] .normal h):=vz
theorem zX2{b:Int}{a c:V}:Vy 231 yu zJQ [(27,a),(11,y11),(25,c),(26,b)] (λ_ h _ E _ _ _ _=>zP zB 26 0 h a λv0 h1=>∃m:Int,zo zB 24 h1 v0=some (m:V)/\Br (m≠0) (zP zB 26 0 h1 a λv3 n=>∃o:Int,zo zB 24 n v3=some (o:V)/\zP zB 26 1 n a λv6 p=>Li p v6 λq=>Rf 69 [o,q] p λr l=>∃e:Ua,∃f,∃g:Int,∃i:Int,∃j:Int,r=(.tuple [e,f,g,(.agg [i,j])])/\∃k,zZ zB 26 l y11 (.agg [i,j])=some k/\E [(8,e),(9,f),(10,g)] .ret k) (E [(20,c),(24,b)] .normal h1)):=vz
theorem zX3{a b c e:Int}{f:Ua}{g:V}:Vy 231 yu zJR [(18,a),(24,b),(29,c),(11,y11),(28,f),(20,g),(23,e)] (λ_ h _ E _ _ _ _=>Br (a≠0) (Rf 69 [a,(zG (b+c))] h λv0 h1=>∃l2:Ua,∃v3,∃i:Int,∃j:Int,∃k:Int,v0=(.tuple [l2,v3,i,(.agg [j,k])])/\∃l,zZ zB 26 h1 y11 (.agg [j,k])=some l/\E [(8,l2),(9,v3),(10,i)] .ret l) (∃m,zZ zB 26 h y11 (.agg [(0:Int),(0:Int)])=some m/\E [(8,f),(9,g),(10,e)] .ret m)):=vz
theorem zX4{a b:Int}{c:V}:Vy 231 yu zFh [(13,y13),(20,c),(0,y0),(24,a),(23,b),(14,y14)] (λ_ h _ _ F _ _ _=>Br (y13=1) (∃l0:Ua,zy zB 9 h y0 (some (a:V)) (some (b:V)) none=some (.str l0)/\Rf 71 [c,l0,y14] h λv1 l=>∃f:Ua,∃g:Int,v1=(.tuple [f,g])/\F [(18,g),(29,(0:Int)),(28,f)] zJR l) (∃i:Ua,zy zB 9 h y0 (some (a:V)) (some (b:V)) none=some (.str i)/\Rf 72 [c,i,y14] h λv6 m=>∃j:Ua,∃k:Int,∃e:Int,v6=(.tuple [j,k,e])/\F [(18,e),(29,k),(28,j)] zJR m)):=vz
theorem zX5{a y1:Int}:Vy 231 yu zCT [(16,y16),(15,a),(12,y12),(0,y0),(1,y1)] (λd h _ _ F _ S tm=>Br (y12=2) (∃l0:Ua,zy zB 9 h y0 none (some (dd (zG (y16+a)))) none=some (.str l0)/\Rf 14 [l0,y16] h λv1 k=>∃v3,∃g:Int,∃i:Int,∃j:Int,v1=(.tuple [v3,g,(.agg [i,j])])/\Nw k [(0:Int),(0:Int)] 27 λb l=>∃f,zZ zB 26 l (.ptr b 0) (.agg [i,j])=some f/\∃c:Int,zo zB 24 f (.ptr b (0+0))=some (c:V)/\Br (c=5) (∃e,zZ zB 26 f (.ptr b 0) (.agg [(21:Int),y1])=some e/\Gz yu tm [(27,(.ptr b 0)),(25,v3),(26,g),(24,y16),(23,(zG (y16+a)))] λu=>Wf yu zJQ ⟨231,u,d,e⟩ (thenC (sealK yu λs1=>Wf yu zFh s1 S) S)) (Gz yu tm [(27,(.ptr b 0)),(25,v3),(26,g),(24,y16),(23,(zG (y16+a)))] λu=>Wf yu zJQ ⟨231,u,d,f⟩ (thenC (sealK yu λs1=>Wf yu zFh s1 S) S))) (F [(24,y16),(23,(zG (y16+a)))] zFh h)):=vz
theorem zTb:Vy 231 yu KD [(13,y13),(14,y14)] (λd h _ _ _ _ S tm=>Br (y13=4) (Br (y14<6) (Gz yu tm [(152,true)] λu=>Wf yu zCS ⟨231,u,d,h⟩ (thenC (sealK yu λs1=>Wf yu zCT s1 S) S)) (Gz yu tm [(152,false)] λu=>Wf yu zCS ⟨231,u,d,h⟩ (thenC (sealK yu λs1=>Wf yu zCT s1 S) S))) (Gz yu tm [(152,false)] λu=>Wf yu zCS ⟨231,u,d,h⟩ (thenC (sealK yu λs1=>Wf yu zCT s1 S) S))):=vz
theorem zTc{y2:V}:Vy 231 yu KE [(2,y2),(12,y12),(0,y0),(16,y16),(14,y14),(11,y11)] (λd h _ E _ M S tm=>∃v0 h1,zJ zB 23 0 [] h=some (v0,h1)/\True/\∃v2 a,zn zB 23 h1 v0 y2=some (v2,a)/\Br (y12=0) (∃b:Ua,zy zB 9 a y0 (some (y16:V)) (some (dd (zG (y16+y14)))) none=some (.str b)/\∃c,zZ zB 26 a y11 (.agg [(0:Int),(0:Int)])=some c/\E [(8,b),(9,v2),(10,(zG (y16+y14))),(20,v2)] .ret c) (Br (y12=1) (∃v6 e,jJ zB 71 y14 y14 a=some (v6,e)/\M [(22,(0:Int)),(21,v6),(20,v2)] zNS e (Kx (Wf yu) zPG 1 (Kx (Wf yu) zWc 0 S))) (Br (y12=3) (Ln 23 a y2 λf=>Br (f=0) (Gz yu tm [(20,v2),(140,true)] λu=>Wf yu zCR ⟨231,u,d,a⟩ (thenC (sealK yu λs1=>Wf yu KD s1 S) S)) (Gz yu tm [(20,v2),(140,false)] λu=>Wf yu zCR ⟨231,u,d,a⟩ (thenC (sealK yu λs1=>Wf yu KD s1 S) S))) (Gz yu tm [(20,v2),(140,false)] λu=>Wf yu zCR ⟨231,u,d,a⟩ (thenC (sealK yu λs1=>Wf yu KD s1 S) S))))):=vz
theorem zTd:Vy 231 yu zA5 [(14,y14),(3,y3),(19,y19),(0,y0),(16,y16)] (λd h _ _ _ _ S tm=>Br (y3<y14) (Gz yu tm [(89,true)] λu=>Wf yu zCQ ⟨231,u,d,h⟩ (thenC (sealK yu λs1=>Wf yu KE s1 S) S)) (Br ((zG ((Int.ofNat (List.length y0))-y16))<y19) (Gz yu tm [(89,true)] λu=>Wf yu zCQ ⟨231,u,d,h⟩ (thenC (sealK yu λs1=>Wf yu KE s1 S) S)) (Gz yu tm [(89,false)] λu=>Wf yu zCQ ⟨231,u,d,h⟩ (thenC (sealK yu λs1=>Wf yu KE s1 S) S)))):=vz
theorem zTe:Vy 231 yu zDh [(12,y12)] (λ_ h _ _ F _ _ _=>Br (y12=1) (F [(19,(1:Int))] zA5 h) (F [] zA5 h)):=vz
theorem zTf{a:Int}{y2:V}:Vy 231 yu zA6 [(2,y2),(11,y11),(15,a),(12,y12),(14,y14)] (λ_ h _ E F _ _ _=>Ri 70 [y2] h λb h1=>Br (b≠0) (Rf 69 [b,(0:Int)] h1 λv3 j=>∃e:Ua,∃v6,∃f:Int,∃g:Int,∃i:Int,v3=(.tuple [e,v6,f,(.agg [g,i])])/\∃c,zZ zB 26 j y11 (.agg [g,i])=some c/\E [(8,e),(9,v6),(10,f),(18,b)] .ret c) (Br (y12=0) (F [(18,b),(19,y14)] zDh h1) (F [(18,b),(19,a)] zDh h1))):=vz
theorem z3r{a1 a3:Int}{a2:V}:Vb 31 231 [.tmp 8,.tmp 9,.tmp 10,.cell 11 26] yu [a0,a1,a2,a3] (λh Q K=>Nw h [(0:Int),(0:Int)] 27 λp0 h1=>Rf 68 [a0,a1] h1 λv2 x=>∃m:Int,∃n:Int,∃o:Int,∃p:Int,∃q:Int,∃w:Int,∃c:Int,v2=(.tuple [m,n,o,p,q,(.agg [w,c])])/\Nw x [(0:Int),(0:Int)] 27 λb r=>∃a,zZ zB 26 r (.ptr b 0) (.agg [w,c])=some a/\∃e:Int,zo zB 24 a (.ptr b (0+0))=some (e:V)/\Br (e≠0) (∃f:Int,zo zB 24 a (.ptr b (0+0))=some (f:V)/\Li a (.ptr b (0+1)) λs=>Rf 69 [f,s] a λt v=>∃g:Ua,∃v20,∃i:Int,∃j:Int,∃k:Int,t=(.tuple [g,v20,i,(.agg [j,k])])/\∃l,zZ zB 26 v (.ptr p0 0) (.agg [j,k])=some l/\endL zB l [(.tmp 8,g),(.tmp 9,v20),(.tmp 10,i),(.cell 11 26,(.ptr p0 0))] Q) (Br (a3<0) (Gz yu (Tb.leaf zC) [(8,(.str [])),(9,.nilslice),(10,(0:Int)),(11,(.ptr p0 0)),(57,true),(1,a1),(14,o),(0,a0),(16,q),(13,n),(15,p),(12,m),(2,a2),(3,a3)] λu=>Wf yu zFg ⟨231,u,[],a⟩ (thenC (sealK yu λs1=>Wf yu zA6 s1 K) K)) (Br ((131072:Int)<a3) (Gz yu (Tb.leaf zC) [(8,(.str [])),(9,.nilslice),(10,(0:Int)),(11,(.ptr p0 0)),(57,true),(1,a1),(14,o),(0,a0),(16,q),(13,n),(15,p),(12,m),(2,a2),(3,a3)] λu=>Wf yu zFg ⟨231,u,[],a⟩ (thenC (sealK yu λs1=>Wf yu zA6 s1 K) K)) (Gz yu (Tb.leaf zC) [(8,(.str [])),(9,.nilslice),(10,(0:Int)),(11,(.ptr p0 0)),(57,false),(1,a1),(14,o),(0,a0),(16,q),(13,n),(15,p),(12,m),(2,a2),(3,a3)] λu=>Wf yu zFg ⟨231,u,[],a⟩ (thenC (sealK yu λs1=>Wf yu zA6 s1 K) K))))):=vb
def z1w:Uf:=[6,7]
theorem z0M{a0:V}:Vb 123 21 [.tmp 6,.tmp 7] z1w [a0,a1,a2] (λh Q _=>Ri 194 [a0,a2] h λa h1=>Br (a≠0) (Q (.tuple [(.str []),a]) h1) (Rf 195 [a0,a1,a2] h1 λv3 e=>∃b:Ua,∃c:Int,v3=(.tuple [b,c])/\Q (.tuple [b,c]) e)):=vb
def z1x:Uf:=[2]
theorem z0R{a0:V}:Vb 128 21 [.tmp 2] z1x [a0] (λh Q _=>Rf 199 [a0] h λv0 h1=>∃c:Int,∃a:Int,v0=(.tuple [c,a])/\Br (a≠0) (Q a h1) (Ri 200 [a0] h1 λe b=>Br (e<2) (Q (7:Int) b) (Br (c≠2048) (Q (21:Int) b) (Q (0:Int) b)))):=vb
def zHK:Code:=pQ 130 8267964
def zOR:Code:=pQ 130 516747
def zHL:Code:=pQ 130 32296
def zOS:Code:=pQ 130 8075
def zMm:Code:=pQ 130 504
def zOT:Code:=pQ 130 127
def X3:Uf:=[6,7,19,10,14,13,16,17,8,15,12,2]
theorem zRl:Vy 97 X3 zHK [(19,y19),(10,y10),(14,y14),(13,y13)] (λ_ h _ E _ _ _ _=>Ln 253 h y10 λe=>Br (y19<e) (∃a b,yo zB 253 y10 y19=some (.ptr a b)/\Li h (.ptr a (b+0)) λf=>Br (f=y14) (∃p4 c,yo zB 253 y10 y19=some (.ptr p4 c)/\Li h (.ptr p4 (c+1)) λg=>Br (g=y13) (E [(19,(zG (y19+1))),(15,y19)] .normal h) (E [(19,(zG (y19+1)))] .normal h)) (E [(19,(zG (y19+1)))] .normal h)) (E [] (.exit 4) h)):=vz
theorem zSc{y17:Int}{y16 y8:V}:Vy 97 X3 zOR [(16,y16),(13,y13),(17,(.int .u64 y17)),(14,y14),(8,y8)] (λ_ h _ _ _ M S _=>∃l0:Ua,∃a:Int,zo zB 120 h y16=some (.agg [l0,a])/\∃b,zZ zB 120 h y8 (.agg [l0,a])=some b/\M [(19,(0:Int)),(14,(zG (y14+1))),(13,(zG ((zG (2*y13))+(zG (y17)))))] zHK b λe s1=>S (exitB 4 e) s1):=vz
theorem zJh{b:Int}{y8:V}:Vy 97 X3 zHL [(15,b),(8,y8),(14,y14)] (λd h _ E _ _ S tm=>Br (b<0) (∃l0:Ua,∃g:Int,zo zB 120 h y8=some (.agg [l0,g])/\Rf 89 [(.agg [l0,g]),(1:Int)] h λv2 l=>∃i:Ua,∃j:Int,∃c:Int,∃k:Int,v2=(.tuple [(.agg [i,j]),(.int .u64 c),k])/\Nw l [(.str []),(0:Int)] 121 λf m=>∃a,zZ zB 120 m (.ptr f 0) (.agg [i,j])=some a/\Br (k≠0) (E [(6,(.str [])),(7,(22:Int)),(16,(.ptr f 0)),(17,(.int .u64 c))] .ret a) (Br (y14=11) (E [(6,(.str [])),(7,(22:Int)),(16,(.ptr f 0)),(17,(.int .u64 c))] .ret a) (Gz X3 tm [(16,(.ptr f 0)),(17,(.int .u64 c))] λu=>Wf X3 zOR ⟨97,u,d,a⟩ λe s1=>S (exitB 3 e) s1))) (E [] (.exit 2) h)):=vz
theorem zSd{a:Int}{y12:V}:Vy 97 X3 zOS [(12,y12),(15,a)] (λ_ h _ E _ _ _ _=>∃v0 h1,zJ zB 71 1 [(0,(.int .u8 (zU .u8 (a))))] h=some (v0,h1)/\True/\∃v2 b,zn zB 71 h1 y12 v0=some (v2,b)/\E [(12,v2)] .normal b):=vz
theorem zRm{y12:V}:Vy 97 X3 zMm [(12,y12),(2,y2)] (λ_ h _ E _ M S _=>Ln 71 h y12 λa=>Br (a<y2) (M [(14,(0:Int)),(13,(0:Int)),(15,(dd ((-1))))] zHL h (Kx (Wf X3) zOS 2 λe s1=>S (exitB 1 e) s1)) (E [] (.exit 0) h)):=vz
theorem zSe{y8 y12:V}:Vy 97 X3 zOT [(8,y8),(12,y12)] (λ_ h _ E _ _ _ _=>∃l0:Ua,∃a:Int,zo zB 120 h y8=some (.agg [l0,a])/\Rf 89 [(.agg [l0,a]),(1:Int)] h λv2 b=>∃e:Ua,∃f:Int,∃g:Int,∃c:Int,v2=(.tuple [(.agg [e,f]),(.int .u64 g),c])/\Br (c=0) (E [(6,(.str [])),(7,(22:Int))] .ret b) (qo zB 71 9 b y12 λv8 i=>E [(6,v8),(7,(0:Int))] .ret i)):=vz
theorem z0T{a0:V}:Vb 130 97 [.tmp 6,.tmp 7] X3 [a0,a1,a2] (λh Q K=>Rf 87 [a1] h λv0 h1=>∃l2:Ua,∃f:Int,∃g:Int,v0=(.tuple [(.agg [l2,f]),g])/\Nw h1 [(.str []),(0:Int)] 121 λi j=>∃c,zZ zB 120 j (.ptr i 0) (.agg [l2,f])=some c/\Br (g≠0) (Q (.tuple [(.str []),(22:Int)]) c) (Rf 201 [a0] c λv8 k=>∃v10,∃e:Int,v8=(.tuple [v10,e])/\∃a b,zJ zB 71 0 [] k=some (a,b)/\Lz X3 97 [(6,(.str [])),(7,(0:Int)),(10,v10),(8,(.ptr i 0)),(12,a),(2,a2)] zMm b (Kx (Wf X3) zOT 0 K))):=vb
def KB:Code:=pQ 196 25
def zMy:Code:=pQ 196 116
def zOd:Code:=pQ 196 15
def KC:Code:=pQ 196 7
def jw:Uf:=[6,7,8,10,2,0,1,39,38]
theorem zTA{y1:Int}{y10:Bool}{y8:V}:Vy 59 jw KB [(10,y10),(8,y8),(2,y2),(0,y0),(1,y1)] (λ_ h _ E _ _ _ _=>wo y10 λu=>match u with|true=>∃h0,zZ zB 26 h y8 (.agg [(2:Int),(0:Int)])=some h0/\(E [(6,(.int .u64 0)),(7,(0:Int))] .ret h0)|false=>Br ((zG ((Int.ofNat (List.length y0))-y1))<y2) (∃h1,zZ zB 26 h y8 (.agg [(5:Int),(dd (Int.ofNat (List.length y0)))])=some h1/\E [(6,(.int .u64 0)),(7,(0:Int))] .ret h1) (E [] .normal h)):=vz
theorem zSB{a b y1:Int}:Vy 59 jw zMy [(39,a),(38,b),(6,(.int .u64 y6)),(0,y0),(1,y1)] (λ_ h _ E _ _ _ _=>Br (a<b) (∃c:Int,yC zB 9 y0 (zG (y1+a))=some (.int .u8 c)/\∃e:Int,zj .shl .u64 (zU .u64 (c)) (zG (8*a))=some (.int .u64 e)/\∃f:Int,zj .or .u64 y6 e=some (.int .u64 f)/\E [(6,(.int .u64 f)),(39,(zG (a+1)))] .normal h) (E [] (.exit 1) h)):=vz
theorem zTB{y1:Int}{y8:V}:Vy 59 jw zOd [(6,(.int .u64 y6)),(1,y1),(2,y2),(8,y8)] (λ_ h _ E _ _ _ _=>∃h0,zZ zB 26 h y8 (.agg [(0:Int),(0:Int)])=some h0/\E [(7,(zG (y1+y2)))] .ret h0):=vz
theorem zTC:Vy 59 jw KC [(2,y2)] (λ_ h _ _ _ M S _=>M [(39,(0:Int)),(38,y2)] zMy h (Kx (Wf jw) zOd 1 S)):=vz
theorem z0l{a1:Int}:Vb 196 59 [.tmp 6,.tmp 7,.cell 8 26] jw [a0,a1,a2] (λh _ K=>Nw h [(0:Int),(0:Int)] 27 λp0 h1=>Br (a2<1) (Gz jw (Tb.leaf zC) [(6,(.int .u64 0)),(7,(0:Int)),(8,(.ptr p0 0)),(10,true),(2,a2),(0,a0),(1,a1)] λu=>Wf jw KB ⟨59,u,[],h1⟩ λe s1=>(thenC (sealK jw λs1=>Wf jw KC s1 K) K) (exitB 0 e) s1) (Br ((8:Int)<a2) (Gz jw (Tb.leaf zC) [(6,(.int .u64 0)),(7,(0:Int)),(8,(.ptr p0 0)),(10,true),(2,a2),(0,a0),(1,a1)] λu=>Wf jw KB ⟨59,u,[],h1⟩ λe s1=>(thenC (sealK jw λs1=>Wf jw KC s1 K) K) (exitB 0 e) s1) (Br (a1<0) (Gz jw (Tb.leaf zC) [(6,(.int .u64 0)),(7,(0:Int)),(8,(.ptr p0 0)),(10,true),(2,a2),(0,a0),(1,a1)] λu=>Wf jw KB ⟨59,u,[],h1⟩ λe s1=>(thenC (sealK jw λs1=>Wf jw KC s1 K) K) (exitB 0 e) s1) (Br ((Int.ofNat (List.length a0))<a1) (Gz jw (Tb.leaf zC) [(6,(.int .u64 0)),(7,(0:Int)),(8,(.ptr p0 0)),(10,true),(2,a2),(0,a0),(1,a1)] λu=>Wf jw KB ⟨59,u,[],h1⟩ λe s1=>(thenC (sealK jw λs1=>Wf jw KC s1 K) K) (exitB 0 e) s1) (Gz jw (Tb.leaf zC) [(6,(.int .u64 0)),(7,(0:Int)),(8,(.ptr p0 0)),(10,false),(2,a2),(0,a0),(1,a1)] λu=>Wf jw KB ⟨59,u,[],h1⟩ λe s1=>(thenC (sealK jw λs1=>Wf jw KC s1 K) K) (exitB 0 e) s1))))):=vb
def z2q:Array Oper:=YB (pQ 263 31334)
def zOp:Code:=pQ 263 1959
def zNG:Code:=pQ 263 244
def zOq:Code:=pQ 263 31
def Kr:Uf:=[2,3,19,18,17,6,7]
theorem zTN:Vy 38 Kr zOp [(19,y19)] (λ_ h _ E _ _ _ _=>E [(19,(zG (y19+1)))] .normal h):=vz
theorem zSJ{a:Int}{y17:V}:Wf Kr zNG ⟨38,(zW tm [(19,y19),(18,a),(17,y17)]),d,h⟩ (zp Kr Q)=((Br (y19<a) (∃p0 c,yo zB 253 y17 y19=some (.ptr p0 c)/\∃f:Int,∃g:Int,zo zB 257 h (.ptr p0 c)=some (.agg [f,g])/\Nw h [(0:Int),(0:Int)] 258 λp4 j=>∃b,zZ zB 257 j (.ptr p4 0) (.agg [f,g])=some b/\Li b (.ptr p4 (0+0)) λi=>Br ((0:Int)<i) (wpDr Tryz.prog zB false z2q.toList ⟨38,(Tb.set (Tb.set (Tb.set (Tb.set (Tb.set (Tb.set (Tb.set (Tb.set (Tb.set (zW tm [(19,y19),(18,a),(17,y17)]) 20 true) 21 y19) 22 (.ptr p0 c)) 23 (.agg [f,g])) 9 (.ptr p4 0)) 8 y19) 24 (.ptr p4 (0+0))) 25 i) 26 true),d,b⟩ λe s1=>(thenC (λs1=>Wf Kr zOp s1 (zp Kr Q)) (zp Kr Q)) (exitB 1 e) s1) (Gz Kr tm [(19,(zG (y19+1))),(18,a),(17,y17)] λu=>Q .normal ⟨38,u,d,b⟩)) (Gz Kr tm [(19,y19),(18,a),(17,y17)] λu=>Q (.exit 0) ⟨38,u,d,h⟩))):=da
theorem zTO{y6 y7:V}:Vy 38 Kr zOq [(6,y6),(7,y7)] (λ_ h _ E _ _ _ _=>E [(2,y6),(3,y7)] .ret h):=vz
theorem z1G{a0:V}:Vb 263 38 [.tmp 2,.tmp 3] Kr [a0] (λh _ K=>Rf 297 [a0] h λv0 h1=>∃v2,∃c:Int,v0=(.tuple [v2,c])/\∃v4 b,yD zB ⟨none,.makeMap 311 none,0, "",#[],none⟩ (λ_=>none) h1=some (.val v4 b)/\∃v6 a,yD zB ⟨none,.makeMap 312 none,0, "",#[],none⟩ (λ_=>none) b=some (.val v6 a)/\Ln 253 a v2 λe=>Lz Kr 38 [(2,.nilmap),(3,.nilmap),(19,(0:Int)),(18,e),(17,v2),(6,v4),(7,v6)] zNG a (Kx (Wf Kr) zOq 0 K)):=vb
def zLt:Code:=pQ 297 500
def zM1:Code:=pQ 297 501
def zWb:Code:=pQ 297 250
def zHf:Code:=pQ 297 63
def zGe:Uf:=[2,3,21,22,6,7,8,5,20]
theorem zRb{a b:V}:Vt 37 zGe (jd zLt) [(21,a),(22,b)] (λ_ h _ E _ _ _ _=>Nw h [(0:Int),(0:Int)] 373 λp0 h1=>∃c,zZ zB 372 h1 (.ptr p0 0) a=some c/\E [(7,(.ptr p0 0)),(8,b)] .normal c):=vz
theorem zRe{y6 y7 y5:V}:Vt 37 zGe (jd zM1) [(6,y6),(7,y7),(8,y8),(5,y5)] (λ_ h _ E _ _ _ _=>(h.nx<=T.top/\h.low<=T.top)/\Lv 253 h y6 λv0=>zP zB 372 0 h y7 λv1 g=>Li g v1 λj=>zP zB 372 1 g y7 λv4 e=>Li e v4 λk=>Li e y5 λl=>zP zB 372 1 e y7 λv8 i=>Li i v8 λf=>∃a:Int,zj .shr .i64 y8 (zG (l-f))=some (a:V)/\∃p12 b,yo zB 253 v0 j=some (.ptr p12 b)/\∃c,zZ zB 257 i (.ptr p12 b) (.agg [k,a])=some c/\E [] .normal c):=vz
theorem zT2{y6:V}:Vy 37 zGe zHf [(6,y6)] (λ_ h _ E _ _ _ _=>Lv 253 h y6 λv0=>E [(2,v0),(3,(0:Int))] .ret h):=vz
theorem z1T{a0:V}:Vb 297 37 [.tmp 2,.tmp 3] zGe [a0] (λh Q K=>Ri 317 [a0] h λj h1=>Br (j≠0) (Q (.tuple [.nilslice,j]) h1) (Ri 318 [a0] h1 λm n=>V.one (0:Int)=true/\Nw n [(0:Int)] 4 λk o=>∃e,zZ zB 3 o (.ptr k 0) m=some e/\Ln 23 e a0 λl=>∃v10 a,jJ zB 253 l l e=some (v10,a)/\V.one .nilslice=true/\Nw a [.nilslice] 254 λp12 f=>∃b,zZ zB 253 f (.ptr p12 0) v10=some b/\Rf 319 [a0] b λg i=>∃c,g=c/\Gz zGe (Tb.leaf zC) [(2,.nilslice),(3,(0:Int)),(6,(.ptr p12 0)),(5,(.ptr k 0)),(20,c)] λu=>RC Tryz.prog false zWb ⟨37,u,[],i⟩ (Kx (Wf zGe) zHf 0 K))):=vb
def z2Y:Uf:=[2]
theorem z13{a0:V}:Vb 318 5 [.tmp 2] z2Y [a0] (λh Q _=>Ri 331 [a0] h λa h1=>Q a h1):=vb
def zNR:Code:=pQ 319 116
def zPF:Code:=pQ 319 15
def zLq:Uf:=[2,8,7,6,3,1]
theorem zSW{y6 y3:V}:Vy 25 zLq zNR [(8,y8),(7,y7),(6,y6),(3,y3)] (λ_ h _ E _ _ _ _=>Br (y8<y7) (Rq 23 3 h y6 y8 λa=>Br ((0:Int)<a) (Lv 384 h y3 λv3=>∃v4 b,zJ zB 384 1 [(0,(.agg [y8,a]))] h=some (v4,b)/\True/\∃v6 c,zn zB 384 b v3 v4=some (v6,c)/\∃e,zZ zB 384 c y3 v6=some e/\E [(8,(zG (y8+1)))] .normal e) (E [(8,(zG (y8+1)))] .normal h)) (E [] (.exit 0) h)):=vz
theorem zTa{y3 y1:V}:Vy 25 zLq zPF [(3,y3),(1,y1)] (λ_ h _ E _ _ _ _=>Lv 384 h y3 λv0=>Rf 332 [v0,(.func (.func 333) [] [])] h λv1 a=>v1=(.tuple [])/\E [(2,(.func (.func 336) [] [y1,y3]))] .ret a):=vz
theorem z14{a0:V}:Vb 319 25 [.tmp 2] zLq [a0] (λh _ K=>V.one a0=true/\Nw h [a0] 24 λp0 h1=>V.one .nilslice=true/\Nw h1 [.nilslice] 385 λb a=>Lv 23 a (.ptr p0 0) λv4=>Ln 23 a v4 λc=>Lz zLq 25 [(2,.nilFunc),(8,(0:Int)),(7,c),(6,v4),(3,(.ptr b 0)),(1,(.ptr p0 0))] zNR a (Kx (Wf zLq) zPF 0 K)):=vb
def zNX:Code:=pQ 331 244
def zPN:Code:=pQ 331 31
def zPO:Code:=pQ 331 7
def zGf:Uf:=[2,4,0,3]
theorem zS2{y0:V}:Vy 25 zGf zNX [(4,y4),(0,y0),(3,y3)] (λ_ h _ E _ _ _ _=>Ln 23 h y0 λa=>Br (y4<a) (Rq 23 3 h y0 y4 λb=>E [(4,(zG (y4+1))),(3,(dd (max y3 b)))] .normal h) (E [] (.exit 0) h)):=vz
theorem zTm:Vy 25 zGf zPN [(3,y3)] (λ_ h _ E _ _ _ _=>E [(2,y3)] .ret h):=vz
theorem zTn{y0:V}:Vy 25 zGf zPO [(0,y0)] (λ_ h _ _ _ M S _=>Rq 23 3 h y0 (0:Int) λa=>M [(4,(1:Int)),(3,a)] zNX h (Kx (Wf zGf) zPN 0 S)):=vz
theorem z1a{a0:V}:Vb 331 25 [.tmp 2] zGf [a0] (λh _ K=>Ln 23 h a0 λa=>Br (a<1) False (Gz zGf (Tb.leaf zC) [(2,(0:Int)),(0,a0)] λu=>Wf zGf zPO ⟨25,u,[],h⟩ K)):=vb
def zFb:Code:=pQ 30 61
def zFc:Code:=pQ 30 2095615
def zFd:Code:=pQ 30 523903
def zFe:Code:=pQ 30 8185
def zJO:Code:=pQ 30 131051
def zFf:Code:=pQ 30 8191
def zCN:Code:=pQ 30 2047
def zCO:Code:=pQ 30 511
def zJP:Code:=pQ 30 63
def zCP:Code:=pQ 30 31
def jD:Uf:=[8,9,10,11,43,126,18,116,13,14,76,12,0,16,21,2,22,20,19,3,1,15]
theorem zXN{a:Bool}:Vy 186 jD zFb [(43,a),(11,y11)] (λ_ h _ E _ _ _ _=>wo a λu=>match u with|true=>∃h0,zZ zB 26 h y11 (.agg [(2:Int),(0:Int)])=some h0/\(E [(8,(.str [])),(9,.nilslice),(10,(0:Int))] .ret h0)|false=>E [] .normal h):=vz
theorem zXO{a:Bool}{b:V}:Vy 186 jD zFc [(126,a),(18,b),(11,y11)] (λ_ h _ E _ _ _ _=>wo a λu=>match u with|true=>Rf 64 [b,(20:Int)] h (λv0 h1=>∃c:Int,∃e:Int,v0=(.agg [c,e])/\∃f,zZ zB 26 h1 y11 (.agg [c,e])=some f/\E [(8,(.str [])),(9,.nilslice),(10,(0:Int))] .ret f)|false=>E [] .normal h):=vz
theorem zXP{a:Bool}{b:V}:Vy 186 jD zFd [(116,a),(18,b),(11,y11),(13,y13),(14,y14)] (λ_ h _ E F _ _ _=>wo a λu=>match u with|true=>Rf 64 [b,(26:Int)] h (λv0 h1=>∃c:Int,∃e:Int,v0=(.agg [c,e])/\∃f,zZ zB 26 h1 y11 (.agg [c,e])=some f/\E [(8,(.str [])),(9,.nilslice),(10,(0:Int))] .ret f)|false=>Br (y13=4) (Br (y14<6) (F [(126,true)] zFc h) (F [(126,false)] zFc h)) (F [(126,false)] zFc h)):=vz
theorem zXQ{i:Bool}{j a y2:V}:Vy 186 jD zFe [(76,i),(18,j),(11,y11),(12,y12),(0,y0),(16,y16),(21,a),(2,y2),(14,y14)] (λ_ h _ E F _ _ _=>wo i λu=>match u with|true=>Rf 64 [j,(20:Int)] h (λv0 h1=>∃G:Int,∃H:Int,v0=(.agg [G,H])/\∃I,zZ zB 26 h1 y11 (.agg [G,H])=some I/\E [(8,(.str [])),(9,.nilslice),(10,(0:Int))] .ret I)|false=>Br (y12=0) ((h.nx<=T.top/\h.low<=T.top)/\zP zB 80 1 h a λK k=>Li k K λL=>∃J:Ua,zy zB 9 k y0 (some (y16:V)) (some (L:V)) none=some (.str J)/\Rf 65 [y2] (zX k) λN e=>∃v11,N=v11/\(k.nx<=e.low/\e.nx<=T.top)/\∀l,l=yN k e->zP zB 80 1 l a λv m=>Li m v λw=>∃n,zZ zB 26 m y11 (.agg [(0:Int),(0:Int)])=some n/\E [(8,J),(9,v11),(10,w)] .ret n) (Br (y12=1) ((h.nx<=T.top/\h.low<=T.top)/\zP zB 80 1 h a λx b=>Li b x λy=>∃o:Ua,zy zB 9 b y0 (some (y16:V)) (some (y:V)) none=some (.str o)/\Rf 66 [o,y14] (zX b) λz f=>∃p:Ua,z=p/\(b.nx<=f.low/\f.nx<=T.top)/\∀c,c=yN b f->Rf 65 [y2] (zX c) λA g=>∃q,A=q/\(c.nx<=g.low/\g.nx<=T.top)/\∀r,r=yN c g->zP zB 80 1 r a λB s=>Li s B λC=>∃t,zZ zB 26 s y11 (.agg [(0:Int),(0:Int)])=some t/\E [(8,p),(9,q),(10,C)] .ret t) (Br (y12=3) (Ln 23 h y2 λD=>Br (D=0) (F [(116,true)] zFd h) (F [(116,false)] zFd h)) (F [(116,false)] zFd h)))):=vz
theorem zXR:Vy 186 jD zJO [(11,y11)] (λ_ h _ E _ _ _ _=>zP zB 26 0 h y11 λv0 h1=>∃a:Int,zo zB 24 h1 v0=some (a:V)/\Br (a≠0) ((h1.nx<=T.top/\h1.low<=T.top)/\∃b:Int,∃c:Int,zo zB 26 h1 y11=some (.agg [b,c])/\∃e,zZ zB 26 h1 y11 (.agg [b,c])=some e/\E [(8,(.str [])),(9,.nilslice),(10,(0:Int))] .ret e) (E [] .normal h1)):=vz
theorem zXS{b c e:V}:Vy 186 jD zFf [(18,b),(22,c),(0,y0),(21,e),(14,y14),(13,y13),(11,y11)] (λ_ h _ E _ _ _ _=>(h.nx<=T.top/\h.low<=T.top)/\∃v0 h1,yD zB ⟨none,.nilCheck (t 0),0, "",#[],none⟩ (λ_=>some b) (zX h)=some (.val v0 h1)/\(h.nx<=h1.low/\h1.nx<=T.top)/\∀G,G=yN h h1->zP zB 83 0 G v0 λv3 I=>zP zB 80 1 I v3 λJ H=>Li H J λK=>zP zB 80 1 H e λv8 x=>Li x v8 λy=>∃g:Ua,zy zB 9 x y0 (some (K:V)) (some (y:V)) none=some (.str g)/\Rf 67 [b,c,g,y14,y13] (zX x) λz i=>∃j:Ua,∃k:Int,∃l:Int,z=(.tuple [j,(.agg [k,l])])/\i.nx<=T.top/\∀m,m=yN x i->∃n,zZ zB 26 m y11 (.agg [k,l])=some n/\zP zB 26 0 n y11 λA a=>∃o:Int,zo zB 24 a A=some (o:V)/\Br (o≠0) ((a.nx<=T.top/\a.low<=T.top)/\∃p:Int,∃q:Int,zo zB 26 a y11=some (.agg [p,q])/\∃r,zZ zB 26 a y11 (.agg [p,q])=some r/\E [(8,(.str [])),(9,.nilslice),(10,(0:Int))] .ret r) ((a.nx<=T.top/\a.low<=T.top)/\Rf 65 [c] (zX a) λB f=>∃s,B=s/\(a.nx<=f.low/\f.nx<=T.top)/\∀u,u=yN a f->zP zB 80 1 u e λC v=>Li v C λD=>∃w,zZ zB 26 v y11 (.agg [(0:Int),(0:Int)])=some w/\E [(8,j),(9,s),(10,D)] .ret w)):=vz
theorem zXT{y2 a c:V}:Vy 186 jD zCN [(2,y2),(12,y12),(18,a),(20,c),(16,y16),(11,y11)] (λd h _ _ F _ S tm=>Br (y12=2) (zP zB 80 0 h c λv0 h1=>Ls h1 v0 λl2=>Rf 13 [l2,y16] h1 λv3 w=>∃l,∃s:Int,∃t:Int,∃v:Int,v3=(.tuple [l,s,(.agg [t,v])])/\Nc w a λx m=>zP zB 83 0 m x λv11 n=>zP zB 80 1 n v11 λo p=>∃e,zZ zB 3 p o s=some e/\∃f,zZ zB 26 e y11 (.agg [t,v])=some f/\zP zB 26 0 f y11 λq b=>∃g:Int,zo zB 24 b q=some (g:V)/\Br (g=5) (Rf 64 [a,(21:Int)] b λv20 r=>∃i:Int,∃j:Int,v20=(.agg [i,j])/\∃k,zZ zB 26 r y11 (.agg [i,j])=some k/\Gz jD tm [(22,l)] λu=>Wf jD zJO ⟨186,u,d,k⟩ (thenC (sealK jD λs1=>Wf jD zFf s1 S) S)) (Gz jD tm [(22,l)] λu=>Wf jD zJO ⟨186,u,d,b⟩ (thenC (sealK jD λs1=>Wf jD zFf s1 S) S))) (F [(22,y2)] zFf h)):=vz
theorem zXU{f:V}:Vy 186 jD zCO [(18,f),(19,y19),(14,y14),(3,y3)] (λd h _ _ _ _ S tm=>Nc h f λv0 h1=>zP zB 83 0 h1 v0 λv2 t=>∃v:Ua,∃w:Int,∃x:Int,∃y:Int,zo zB 80 t v2=some (.agg [v,w,x,y])/\Rf 63 [(.agg [v,w,x,y]),y19] t λv8 z=>∃g:Ua,∃i:Int,∃j:Int,∃k:Int,∃l:Ua,∃m:Int,∃n:Int,∃o:Int,v8=(.tuple [(.agg [g,i,j,k]),(.agg [l,m,n,o])])/\Nw z [(.str []),(0:Int),(0:Int),(0:Int)] 81 λc r=>Nw r [(.str []),(0:Int),(0:Int),(0:Int)] 81 λa s=>∃p,zZ zB 80 s (.ptr c 0) (.agg [g,i,j,k])=some p/\∃b,zZ zB 80 p (.ptr a 0) (.agg [l,m,n,o])=some b/\Br (y3<y14) (Gz jD tm [(76,true),(21,(.ptr a 0)),(20,(.ptr c 0))] λu=>Wf jD zFe ⟨186,u,d,b⟩ λe s1=>(thenC (sealK jD λs1=>Wf jD zCN s1 S) S) (exitB 1 e) s1) (∃q:Int,zo zB 24 b (.ptr a ((0+2)+0))=some (q:V)/\Br (q≠0) (Gz jD tm [(76,true),(21,(.ptr a 0)),(20,(.ptr c 0))] λu=>Wf jD zFe ⟨186,u,d,b⟩ λe s1=>(thenC (sealK jD λs1=>Wf jD zCN s1 S) S) (exitB 1 e) s1) (Gz jD tm [(76,false),(21,(.ptr a 0)),(20,(.ptr c 0))] λu=>Wf jD zFe ⟨186,u,d,b⟩ λe s1=>(thenC (sealK jD λs1=>Wf jD zCN s1 S) S) (exitB 1 e) s1))):=vz
theorem zXV{y1 a:Int}:Vy 186 jD zJP [(0,y0),(16,y16),(1,y1),(15,a),(12,y12),(14,y14)] (λ_ h _ _ F _ _ _=>Rf 62 [y0,y16] h λv0 h1=>∃l2:Ua,∃e:Int,∃f:Int,∃g:Int,v0=(.agg [l2,e,f,g])/\Nw h1 [l2,e,f,g,y1] 84 λb c=>Br (y12=0) (F [(18,(.ptr b 0)),(19,y14)] zCO c) (Br (y12=1) (F [(18,(.ptr b 0)),(19,(1:Int))] zCO c) (F [(18,(.ptr b 0)),(19,a)] zCO c))):=vz
theorem zXW{y2:V}:Vy 186 jD zCP [(2,y2),(11,y11)] (λ_ h _ E F _ _ _=>Ln 23 h y2 λe=>Br ((0:Int)<e) (Ri 61 [y2] h λa b=>Br (a≠0) (∃c,zZ zB 26 b y11 (.agg [a,(0:Int)])=some c/\E [(8,(.str [])),(9,.nilslice),(10,(0:Int))] .ret c) (F [] zJP b)) (F [] zJP h)):=vz
theorem z3q{a1 a3:Int}{a2:V}:Vb 30 186 [.tmp 8,.tmp 9,.tmp 10,.cell 11 26] jD [a0,a1,a2,a3] (λh Q K=>Nw h [(0:Int),(0:Int)] 27 λp0 h1=>Rf 60 [a0,a1] h1 λv2 o=>∃i:Int,∃j:Int,∃k:Int,∃l:Int,∃m:Int,∃n:Int,∃b:Int,v2=(.tuple [i,j,k,l,m,(.agg [n,b])])/\∃a,zZ zB 26 o (.ptr p0 0) (.agg [n,b])=some a/\∃c:Int,zo zB 24 a (.ptr p0 (0+0))=some (c:V)/\Br (c≠0) ((a.nx<=T.top/\a.low<=T.top)/\∃e:Int,∃f:Int,zo zB 26 a (.ptr p0 0)=some (.agg [e,f])/\∃g,zZ zB 26 a (.ptr p0 0) (.agg [e,f])=some g/\endL zB g [(.tmp 8,(.str [])),(.tmp 9,.nilslice),(.tmp 10,(0:Int)),(.cell 11 26,(.ptr p0 0))] Q) (Br (a3<0) (Gz jD (Tb.leaf zC) [(8,(.str [])),(9,.nilslice),(10,(0:Int)),(11,(.ptr p0 0)),(43,true),(13,j),(14,k),(12,i),(0,a0),(16,m),(2,a2),(3,a3),(1,a1),(15,l)] λu=>Wf jD zFb ⟨186,u,[],a⟩ (thenC (sealK jD λs1=>Wf jD zCP s1 K) K)) (Br ((131072:Int)<a3) (Gz jD (Tb.leaf zC) [(8,(.str [])),(9,.nilslice),(10,(0:Int)),(11,(.ptr p0 0)),(43,true),(13,j),(14,k),(12,i),(0,a0),(16,m),(2,a2),(3,a3),(1,a1),(15,l)] λu=>Wf jD zFb ⟨186,u,[],a⟩ (thenC (sealK jD λs1=>Wf jD zCP s1 K) K)) (Gz jD (Tb.leaf zC) [(8,(.str [])),(9,.nilslice),(10,(0:Int)),(11,(.ptr p0 0)),(43,false),(13,j),(14,k),(12,i),(0,a0),(16,m),(2,a2),(3,a3),(1,a1),(15,l)] λu=>Wf jD zFb ⟨186,u,[],a⟩ (thenC (sealK jD λs1=>Wf jD zCP s1 K) K))))):=vb
def zD8:Code:=pQ 112 31333
def zD9:Code:=pQ 112 1959
def zMh:Code:=pQ 112 244
def zON:Code:=pQ 112 31
def Yd:Uf:=[2,3,16,6,4,12,11,10]
theorem zDv{y16:Bool}:Vy 33 Yd zD8 [(16,y16),(6,y6),(4,y4)] (λ_ h _ E _ _ _ _=>wo y16 λu=>match u with|true=>(E [(2,(0:Int)),(3,(2:Int))] .ret h)|false=>Br ((0:Int)<y6) (∃a:Int,zj .shl .i64 1 (zG (11-y6))=some (a:V)/\E [(4,(zG (y4+a)))] .normal h) (E [] .normal h)):=vz
theorem zJj:Vy 33 Yd zD9 [(12,y12)] (λ_ h _ E _ _ _ _=>E [(12,(zG (y12+1)))] .normal h):=vz
theorem zRg{y11:Int}:Vy 33 Yd zMh [(12,y12),(11,y11),(10,y10)] (λd h _ E _ _ S tm=>Br (y12<y11) (Rq 23 3 h y10 y12 λa=>Br (a<0) (Gz Yd tm [(16,true),(6,a)] λu=>Wf Yd zD8 ⟨33,u,d,h⟩ λe s1=>(Kx (Wf Yd) zD9 1 S) (exitB 2 e) s1) (Br ((11:Int)<a) (Gz Yd tm [(16,true),(6,a)] λu=>Wf Yd zD8 ⟨33,u,d,h⟩ λe s1=>(Kx (Wf Yd) zD9 1 S) (exitB 2 e) s1) (Gz Yd tm [(16,false),(6,a)] λu=>Wf Yd zD8 ⟨33,u,d,h⟩ λe s1=>(Kx (Wf Yd) zD9 1 S) (exitB 2 e) s1))) (E [] (.exit 0) h)):=vz
theorem zS5:Vy 33 Yd zON [(4,y4)] (λ_ h _ E _ _ _ _=>E [(2,y4),(3,(0:Int))] .ret h):=vz
theorem z0H{a0:V}:Vb 112 33 [.tmp 2,.tmp 3] Yd [a0] (λh Q K=>Ln 23 h a0 λa=>Br ((256:Int)<a) (Q (.tuple [(0:Int),(6:Int)]) h) (Ln 23 h a0 λb=>Lz Yd 33 [(2,(0:Int)),(3,(0:Int)),(4,(0:Int)),(12,(0:Int)),(11,b),(10,a0)] zMh h (Kx (Wf Yd) zON 0 K))):=vb
def z1y:Uf:=[4]
theorem z0S{a1:Int}{a0:V}:Vb 129 19 [.tmp 4] z1y [a0,a1] (λh Q _=>Ri 128 [a0] h λa h1=>Br (a=0) (Br (a1<0) (Q (2:Int) h1) (Br ((131072:Int)<a1) (Q (2:Int) h1) (Q a h1))) (Q a h1)):=vb
def zOU:Code:=pQ 131 7
def zQN:Uf:=[2,3,0]
theorem zSf{y0:Int}{y2:V}:Vy 26 zQN zOU [(0,y0),(2,y2)] (λ_ h _ E _ _ _ _=>Br (y0<6) (∃h0,zZ zB 176 h y2 (.agg [(0:Int),(0:Int),(0:Int),(0:Int)])=some h0/\E [(3,(20:Int))] .ret h0) ((4:Int)≠0/\∃h1,zZ zB 176 h y2 (.agg [(zG (Int.tdiv (zG (y0+3)) 4)),(zG (Int.tdiv (zG (y0+3)) 4)),(zG (Int.tdiv (zG (y0+3)) 4)),(zG (y0-(zG (3*(zG (Int.tdiv (zG (y0+3)) 4))))))])=some h1/\E [(3,(0:Int))] .ret h1)):=vz
theorem z0U{a0:Int}:Vb 131 26 [.cell 2 176,.tmp 3] zQN [a0] (λh Q K=>Nw h [(0:Int),(0:Int),(0:Int),(0:Int)] 177 λp0 h1=>Br (a0<0) (∃a,zZ zB 176 h1 (.ptr p0 0) (.agg [(0:Int),(0:Int),(0:Int),(0:Int)])=some a/\endL zB a [(.cell 2 176,(.ptr p0 0)),(.tmp 3,(2:Int))] Q) (Br ((131072:Int)<a0) (∃b,zZ zB 176 h1 (.ptr p0 0) (.agg [(0:Int),(0:Int),(0:Int),(0:Int)])=some b/\endL zB b [(.cell 2 176,(.ptr p0 0)),(.tmp 3,(2:Int))] Q) (Gz zQN (Tb.leaf zC) [(2,(.ptr p0 0)),(3,(0:Int)),(0,a0)] λu=>Wf zQN zOU ⟨26,u,[],h1⟩ K))):=vb
def z2G:Uf:=[4]
theorem z0j{a1:Int}{a0:V}:Vb 194 19 [.tmp 4] z2G [a0,a1] (λh Q _=>Ri 61 [a0] h λa h1=>Br (a=0) (Br (a1<0) (Q (2:Int) h1) (Br ((131072:Int)<a1) (Q (2:Int) h1) (Q a h1))) (Q a h1)):=vb
def zMx:Code:=pQ 195 3576
def zOc:Code:=pQ 195 895
def zLf:Uf:=[6,7,12,2,8,13,11]
theorem zSA{y12 y8 y13:V}:Vy 75 zLf zMx [(12,y12),(2,y2),(8,y8),(13,y13),(11,y11)] (λ_ h _ E _ _ _ _=>Ln 71 h y12 λG=>Br (G<y2) (∃y:Ua,∃z:Int,zo zB 120 h y8=some (.agg [y,z])/\Rf 215 [(.agg [y,z]),(1:Int)] h λv3 H=>∃A:Ua,∃B:Int,∃C:Int,∃D:Int,v3=(.tuple [(.agg [A,B]),(.int .u64 C),D])/\Nw H [(.str []),(0:Int)] 121 λp9 t=>∃b,zZ zB 120 t (.ptr p9 0) (.agg [A,B])=some b/\Br (D≠0) (E [(6,(.str [])),(7,(22:Int))] .ret b) (∃c:Ua,∃e:Int,zo zB 120 b (.ptr p9 0)=some (.agg [c,e])/\∃f,zZ zB 120 b y8 (.agg [c,e])=some f/\zP zB 257 0 f y13 λu g=>Li g u λv=>zP zB 257 1 g y13 λw i=>Li i w λx=>∃j:Int,zj .shl .i64 x 1=some (j:V)/\∃k:Int,zj .or .i64 j (zG (C))=some (k:V)/\∃a,zZ zB 257 i y13 (.agg [(zG (v+1)),k])=some a/\∃l:Int,∃m:Int,zo zB 257 a y13=some (.agg [l,m])/\∃n:Int,∃o:Bool,ke zB 312 a y11 (.agg [l,m]) true=some (.tuple [(.int .u8 n),o])/\Bb o (∃p q,zJ zB 71 1 [(0,(.int .u8 n))] a=some (p,q)/\True/\∃v30 r,zn zB 71 q y12 p=some (v30,r)/\∃s,zZ zB 257 r y13 (.agg [(0:Int),(0:Int)])=some s/\E [(12,v30)] .normal s) (E [] .normal a))) (E [] (.exit 0) h)):=vz
theorem zSz{y8 y12:V}:Vy 75 zLf zOc [(8,y8),(12,y12)] (λ_ h _ E _ _ _ _=>zP zB 120 1 h y8 λv0 h1=>Li h1 v0 λa=>Br ((0:Int)<a) (E [(6,(.str [])),(7,(22:Int))] .ret h1) (qo zB 71 9 h1 y12 λv3 b=>E [(6,v3),(7,(0:Int))] .ret b)):=vz
theorem z0k{a0:V}:Vb 195 75 [.tmp 6,.tmp 7] zLf [a0,a1,a2] (λh Q K=>Rf 213 [a1] h λv0 h1=>∃l2:Ua,∃i:Int,∃j:Int,v0=(.tuple [(.agg [l2,i]),j])/\Nw h1 [(.str []),(0:Int)] 121 λk l=>∃f,zZ zB 120 l (.ptr k 0) (.agg [l2,i])=some f/\Br (j≠0) (Q (.tuple [(.str []),(22:Int)]) f) (Rf 263 [a0] f λv8 m=>∃v10,∃v11,v8=(.tuple [v10,v11])/\∃a b,jJ zB 71 (0:Int) a2 m=some (a,b)/\Nw b [(0:Int),(0:Int)] 258 λc g=>∃e,zZ zB 257 g (.ptr c 0) (.agg [(0:Int),(0:Int)])=some e/\Lz zLf 75 [(6,(.str [])),(7,(0:Int)),(12,a),(2,a2),(8,(.ptr k 0)),(13,(.ptr c 0)),(11,v11)] zMx e (Kx (Wf zLf) zOc 0 K))):=vb
def z2H:Uf:=[2]
theorem z0m{a0:Int}:Vb 197 15 [.cell 2 176] z2H [a0] (λh Q _=>Nw h [(0:Int),(0:Int),(0:Int),(0:Int)] 177 λp0 h1=>(4:Int)≠0/\∃a,zZ zB 176 h1 (.ptr p0 0) (.agg [(zG (Int.tdiv (zG (a0+3)) 4)),(zG (Int.tdiv (zG (a0+3)) 4)),(zG (Int.tdiv (zG (a0+3)) 4)),(zG (a0-(zG (3*(zG (Int.tdiv (zG (a0+3)) 4))))))])=some a/\endL zB a [(.cell 2 176,(.ptr p0 0))] Q):=vb
def zNA:Code:=pQ 200 116
def zOh:Code:=pQ 200 15
def zLg:Uf:=[2,4,0,3]
theorem zSD{y0:V}:Vy 19 zLg zNA [(4,y4),(0,y0),(3,y3)] (λ_ h _ E _ _ _ _=>Ln 23 h y0 λa=>Br (y4<a) (Rq 23 3 h y0 y4 λb=>Br (b≠0) (E [(4,(zG (y4+1))),(3,(zG (y3+1)))] .normal h) (E [(4,(zG (y4+1)))] .normal h)) (E [] (.exit 0) h)):=vz
theorem zTF:Vy 19 zLg zOh [(3,y3)] (λ_ h _ E _ _ _ _=>E [(2,y3)] .ret h):=vz
theorem z0p{a0:V}:Vb 200 19 [.tmp 2] zLg [a0] (λh _ K=>Lz zLg 19 [(2,(0:Int)),(4,(0:Int)),(0,a0),(3,(0:Int))] zNA h (Kx (Wf zLg) zOh 0 K)):=vb
def zNB:Code:=pQ 201 1012
def zOi:Code:=pQ 201 127
def zLh:Uf:=[2,3,8,7,4,6]
theorem zSE{y7 y4:V}:Vy 53 zLh zNB [(8,y8),(7,y7),(4,y4),(6,y6)] (λ_ h _ E _ _ _ _=>Br ((0:Int)<=y8) ((h.nx<=T.top/\h.low<=T.top)/\∃p0 e,yo zB 123 y4 y8=some (.ptr p0 e)/\Li h (.ptr p0 (e+0)) λl=>∃f g,yo zB 123 y4 y8=some (.ptr f g)/\Li h (.ptr f (g+1)) λm=>∃i j,yo zB 123 y4 y8=some (.ptr i j)/\Li h (.ptr i (j+1)) λn=>∃k:Int,zj .shr .i64 y8 (zU .u64 ((zG (y6-n))))=some (k:V)/\∃a b,yo zB 253 y7 l=some (.ptr a b)/\∃c,zZ zB 257 h (.ptr a b) (.agg [m,k])=some c/\E [(8,(zG (y8-1)))] .normal c) (E [] (.exit 0) h)):=vz
theorem zTG{y7:V}:Vy 53 zLh zOi [(7,y7)] (λ_ h _ E _ _ _ _=>E [(2,y7),(3,(0:Int))] .ret h):=vz
theorem z0q{a0:V}:Vb 201 53 [.tmp 2,.tmp 3] zLh [a0] (λh Q K=>Rf 265 [a0] h λv0 h1=>∃v2,∃a:Int,v0=(.tuple [v2,a])/\Br (a≠0) (Q (.tuple [.nilslice,a]) h1) (Ri 266 [a0] h1 λg e=>Ln 23 e a0 λf=>∃v8 b,jJ zB 253 f f e=some (v8,b)/\Ln 123 b v2 λc=>Lz zLh 53 [(2,.nilslice),(3,(0:Int)),(8,(zG (c-1))),(7,v8),(4,v2),(6,g)] zNB b (Kx (Wf zLh) zOi 0 K))):=vb
def zNJ:Code:=pQ 266 116
def zOu:Code:=pQ 266 15
def zLl:Uf:=[2,4,0,3]
theorem zSO{y0:V}:Vy 18 zLl zNJ [(4,y4),(0,y0),(3,y3)] (λ_ h _ E _ _ _ _=>Ln 23 h y0 λa=>Br (y4<a) (Rq 23 3 h y0 y4 λb=>E [(4,(zG (y4+1))),(3,(dd (max y3 b)))] .normal h) (E [] (.exit 0) h)):=vz
theorem zTS:Vy 18 zLl zOu [(3,y3)] (λ_ h _ E _ _ _ _=>E [(2,y3)] .ret h):=vz
theorem z1J{a0:V}:Vb 266 18 [.tmp 2] zLl [a0] (λh _ K=>Lz zLl 18 [(2,(0:Int)),(4,(0:Int)),(0,a0),(3,(0:Int))] zNJ h (Kx (Wf zLl) zOu 0 K)):=vb
def zNM:Code:=pQ 298 116
def zNN:Code:=pQ 298 1012
def zOy:Code:=pQ 298 127
def zOz:Code:=pQ 298 15
def zEK:Uf:=[2,3,0,7,5,6,4]
theorem zSR{y0:V}:Vy 63 zEK zNM [(3,y3),(0,y0)] (λ_ h _ E _ _ _ _=>Ln 23 h y0 λa=>Br (y3<a) (Rq 23 3 h y0 y3 λb=>Br (b<0) (E [(2,(2:Int))] .ret h) (Rq 23 3 h y0 y3 λc=>Br ((11:Int)<c) (E [(2,(2:Int))] .ret h) (E [(3,(zG (y3+1)))] .normal h))) (E [] (.exit 0) h)):=vz
theorem zSS{y0:V}:Vy 63 zEK zNN [(7,y7),(0,y0),(5,y5),(6,y6),(4,y4)] (λ_ h _ E _ _ _ _=>Ln 23 h y0 λb=>Br (y7<b) (Rq 23 3 h y0 y7 λc=>Br ((0:Int)<c) ((h.nx<=T.top/\h.low<=T.top)/\Rq 23 3 h y0 y7 λe=>∃a:Int,zj .shl .i64 1 (zU .u64 ((zG (y4-e))))=some (a:V)/\E [(7,(zG (y7+1))),(5,(zG (y5+1))),(6,(zG (y6+a)))] .normal h) (E [(7,(zG (y7+1)))] .normal h)) (E [] (.exit 2) h)):=vz
theorem zT3:Vy 63 zEK zOy [(5,y5),(6,y6),(4,y4)] (λ_ h _ E _ _ _ _=>Br (y5<2) (E [(2,(21:Int))] .ret h) (∃a:Int,zj .shl .i64 1 (zU .u64 (y4))=some (a:V)/\Br (y6≠a) (E [(2,(21:Int))] .ret h) (E [(2,(0:Int))] .ret h))):=vz
theorem zT4{y0:V}:Vy 63 zEK zOz [(0,y0)] (λ_ h _ _ _ M S _=>Ri 266 [y0] h λa h1=>M [(7,(0:Int)),(5,(0:Int)),(6,(0:Int)),(4,a)] zNN h1 (Kx (Wf zEK) zOy 2 S)):=vz
theorem z1U{a0:V}:Vb 298 63 [.tmp 2] zEK [a0] (λh Q K=>Ln 23 h a0 λa=>Br ((256:Int)<a) (Q (2:Int) h) (Lz zEK 63 [(2,(0:Int)),(3,(0:Int)),(0,a0)] zNM h (Kx (Wf zEK) zOz 0 K))):=vb
def zPK:Code:=pQ 330 7475
def zPL:Code:=pQ 330 935
def zNW:Code:=pQ 330 116
def zPM:Code:=pQ 330 15
def zBT:Uf:=[2,3,5,12,11,10]
theorem zTj{y2:V}:Vy 30 zBT zPK [(5,y5),(2,y2)] (λ_ h _ E _ _ _ _=>Rq 381 3 h y2 y5 λe=>∃a b,yo zB 381 y2 y5=some (.ptr a b)/\∃c,zZ zB 3 h (.ptr a b) (zG (e+1))=some c/\E [] .normal c):=vz
theorem zTk:Vy 30 zBT zPL [(12,y12)] (λ_ h _ E _ _ _ _=>E [(12,(zG (y12+1)))] .normal h):=vz
theorem zS1{y11:Int}{y2:V}:Vy 30 zBT zNW [(12,y12),(11,y11),(10,y10),(2,y2)] (λd h _ E _ _ S tm=>Br (y12<y11) (Rq 23 3 h y10 y12 λa=>Br (a<0) (∃x:Int,∃y:Int,∃z:Int,∃A:Int,∃B:Int,∃C:Int,∃D:Int,∃b:Int,∃c:Int,∃e:Int,∃f:Int,∃g:Int,zo zB 381 h y2=some (.agg [x,y,z,A,B,C,D,b,c,e,f,g])/\∃i,zZ zB 381 h y2 (.agg [x,y,z,A,B,C,D,b,c,e,f,g])=some i/\E [(3,(2:Int)),(5,a)] .ret i) (Br ((11:Int)<a) (∃j:Int,∃k:Int,∃l:Int,∃m:Int,∃n:Int,∃o:Int,∃p:Int,∃q:Int,∃r:Int,∃s:Int,∃t:Int,∃v:Int,zo zB 381 h y2=some (.agg [j,k,l,m,n,o,p,q,r,s,t,v])/\∃w,zZ zB 381 h y2 (.agg [j,k,l,m,n,o,p,q,r,s,t,v])=some w/\E [(3,(2:Int)),(5,a)] .ret w) (Gz zBT tm [(5,a)] λu=>Wf zBT zPK ⟨30,u,d,h⟩ (Kx (Wf zBT) zPL 1 S)))) (E [] (.exit 0) h)):=vz
theorem zTl{y2:V}:Vy 30 zBT zPM [(2,y2)] (λ_ h _ E _ _ _ _=>∃e:Int,∃f:Int,∃g:Int,∃i:Int,∃j:Int,∃k:Int,∃l:Int,∃m:Int,∃n:Int,∃o:Int,∃a:Int,∃b:Int,zo zB 381 h y2=some (.agg [e,f,g,i,j,k,l,m,n,o,a,b])/\∃c,zZ zB 381 h y2 (.agg [e,f,g,i,j,k,l,m,n,o,a,b])=some c/\E [(3,(0:Int))] .ret c):=vz
theorem z19{a0:V}:Vb 330 30 [.cell 2 381,.tmp 3] zBT [a0] (λh Q K=>Nw h [(0:Int),(0:Int),(0:Int),(0:Int),(0:Int),(0:Int),(0:Int),(0:Int),(0:Int),(0:Int),(0:Int),(0:Int)] 382 λp0 h1=>Ln 23 h1 a0 λq=>Br ((256:Int)<q) (∃j:Int,∃k:Int,∃l:Int,∃m:Int,∃n:Int,∃o:Int,∃p:Int,∃a:Int,∃b:Int,∃c:Int,∃e:Int,∃f:Int,zo zB 381 h1 (.ptr p0 0)=some (.agg [j,k,l,m,n,o,p,a,b,c,e,f])/\∃g,zZ zB 381 h1 (.ptr p0 0) (.agg [j,k,l,m,n,o,p,a,b,c,e,f])=some g/\endL zB g [(.cell 2 381,(.ptr p0 0)),(.tmp 3,(2:Int))] Q) (Ln 23 h1 a0 λi=>Lz zBT 30 [(2,(.ptr p0 0)),(3,(0:Int)),(12,(0:Int)),(11,i),(10,a0)] zNW h1 (Kx (Wf zBT) zPM 0 K))):=vb
def zMi:Code:=pQ 113 52
def zOO:Code:=pQ 113 7
def zL9:Uf:=[2,3,8,7,6]
theorem zRh{y6:V}:Vy 22 zL9 zMi [(8,y8),(7,y7),(6,y6),(2,y2),(3,y3)] (λ_ h _ E _ _ _ _=>Br (y8<y7) (Rq 23 3 h y6 y8 λa=>Br ((0:Int)<a) (E [(2,(zG (y2+1))),(3,(dd (max y3 a))),(8,(zG (y8+1)))] .normal h) (E [(8,(zG (y8+1)))] .normal h)) (E [] (.exit 0) h)):=vz
theorem zS6:Vy 22 zL9 zOO [(2,y2),(3,y3)] (λ_ h _ E _ _ _ _=>E [] .ret h):=vz
theorem z0I{a0:V}:Vb 113 22 [.tmp 2,.tmp 3] zL9 [a0] (λh _ K=>Ln 23 h a0 λa=>Lz zL9 22 [(2,(0:Int)),(3,(0:Int)),(8,(0:Int)),(7,a),(6,a0)] zMi h (Kx (Wf zL9) zOO 0 K)):=vb
end Go.Proofs.YtnpeieeomokomaaGreat

