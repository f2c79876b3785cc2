/- CA. No condition. -/
import Derived.Test.YtnpeieeomokomaaGreatZCtx
import Derived.Test.YtnpeieeomokomaaGreatZCT
import Derived.Test.YtnpeieeomokomaaGreatZS
import Derived.Test.YtnpeieeomokomaaGreatZW
noncomputable section
namespace Go.Proofs.YtnpeieeomokomaaGreat
open Go.Sim
variable{a1 y1 y2 y3 y4 y5 y6 y7 y8:Int}{a0 y0:Ua}
def L41:Uf:=[2]
variable {tm:Tm}{d:List AD}{h:H}{Q:Ud}
theorem z3u{a0:V}:Vb 41 13 [.tmp 2] L41 [a0] (λh Q _=>Rf 82 [a0] h λv0 h1=>∃b:Int,∃c:Int,∃a:Int,v0=(.tuple [b,c,a])/\Q a h1):=vb
def zJU:Code:=pQ 42 25
def zUN:Code:=pQ 42 4084
def zUf:Code:=pQ 42 511
def zJV:Code:=pQ 42 7
def L42:Uf:=[4,5,6,12,1,0,10,7,9,8]
theorem zX9{y12:Bool}{y6:V}:Vy 85 L42 zJU [(12,y12),(6,y6),(1,y1),(0,y0)] (λ_ h _ E _ _ _ _=>wo y12 λu=>match u with|true=>∃h0,zZ zB 26 h y6 (.agg [(2:Int),(0:Int)])=some h0/\(E [(4,.nilslice),(5,(0:Int))] .ret h0)|false=>Br (y1=(Int.ofNat (List.length y0))) (∃h1,zZ zB 26 h y6 (.agg [(5:Int),y1])=some h1/\E [(4,.nilslice),(5,(0:Int))] .ret h1) (E [] .normal h)):=vz
theorem zWs{a:Int}{c:V}:Vy 85 L42 zUN [(10,a),(7,y7),(0,y0),(1,y1),(9,c)] (λ_ h _ E _ _ _ _=>Br (a<y7) ((2:Int)≠0/\∃e:Int,yC zB 9 y0 (zG ((zG (y1+1))+(zG (Int.tdiv a 2))))=some (.int .u8 e)/\(2:Int)≠0/\Br ((Int.tmod a 2)=0) (∃f:Int,zj .shr .i64 (zG (e)) 4=some (f:V)/\∃v2 g,zJ zB 23 1 [(0,f)] h=some (v2,g)/\True/\∃v4 i,zn zB 23 g c v2=some (v4,i)/\E [(10,(zG (a+1))),(9,v4)] .normal i) (∃j:Int,zj .and .i64 (zG (e)) 15=some (j:V)/\∃k l,zJ zB 23 1 [(0,j)] h=some (k,l)/\True/\∃m b,zn zB 23 l c k=some (m,b)/\E [(10,(zG (a+1))),(9,m)] .normal b)) (E [] (.exit 1) h)):=vz
theorem zXa{a y6:V}:Vy 85 L42 zUf [(9,a),(1,y1),(6,y6),(8,y8)] (λ_ h _ E _ _ _ _=>Ri 45 [a] h λe h1=>Br (e≠0) (∃b,zZ zB 26 h1 y6 (.agg [(21:Int),y1])=some b/\E [(4,.nilslice),(5,(0:Int))] .ret b) (∃c,zZ zB 26 h1 y6 (.agg [(0:Int),(0:Int)])=some c/\E [(4,a),(5,y8)] .ret c)):=vz
theorem zXb{y6:V}:Vy 85 L42 zJV [(0,y0),(1,y1),(6,y6)] (λ_ h _ E _ M S _=>∃a:Int,yC zB 9 y0 y1=some (.int .u8 a)/\Br ((zG ((zG (a))-127))<1) (∃h1,zZ zB 26 h y6 (.agg [(21:Int),y1])=some h1/\E [(4,.nilslice),(5,(0:Int)),(7,(zG ((zG (a))-127)))] .ret h1) ((2:Int)≠0/\Br ((Int.ofNat (List.length y0))<(zG ((zG (y1+1))+(zG (Int.tdiv (zG ((zG ((zG (a))-127))+1)) 2))))) (∃b,zZ zB 26 h y6 (.agg [(5:Int),(dd (Int.ofNat (List.length y0)))])=some b/\E [(4,.nilslice),(5,(0:Int)),(7,(zG ((zG (a))-127))),(8,(zG ((zG (y1+1))+(zG (Int.tdiv (zG ((zG ((zG (a))-127))+1)) 2)))))] .ret b) (M [(10,(0:Int)),(7,(zG ((zG (a))-127))),(9,.nilslice),(8,(zG ((zG (y1+1))+(zG (Int.tdiv (zG ((zG ((zG (a))-127))+1)) 2)))))] zUN h (Kx (Wf L42) zUf 1 S)))):=vz
theorem z3v:Vb 42 85 [.tmp 4,.tmp 5,.cell 6 26] L42 [a0,a1] (λh _ K=>Nw h [(0:Int),(0:Int)] 27 λp0 h1=>Br (a1<0) (Gz L42 (Tb.leaf zC) [(4,.nilslice),(5,(0:Int)),(6,(.ptr p0 0)),(12,true),(1,a1),(0,a0)] λu=>Wf L42 zJU ⟨85,u,[],h1⟩ λe s1=>(thenC (sealK L42 λs1=>Wf L42 zJV s1 K) K) (exitB 0 e) s1) (Br ((Int.ofNat (List.length a0))<a1) (Gz L42 (Tb.leaf zC) [(4,.nilslice),(5,(0:Int)),(6,(.ptr p0 0)),(12,true),(1,a1),(0,a0)] λu=>Wf L42 zJU ⟨85,u,[],h1⟩ λe s1=>(thenC (sealK L42 λs1=>Wf L42 zJV s1 K) K) (exitB 0 e) s1) (Gz L42 (Tb.leaf zC) [(4,.nilslice),(5,(0:Int)),(6,(.ptr p0 0)),(12,false),(1,a1),(0,a0)] λu=>Wf L42 zJU ⟨85,u,[],h1⟩ λe s1=>(thenC (sealK L42 λs1=>Wf L42 zJV s1 K) K) (exitB 0 e) s1))):=vb
def L78:Uf:=[2]
theorem z4P{a0:V}:Vb 78 21 [.tmp 2] L78 [a0] (λh Q _=>Nc h a0 λv0 h1=>zP zB 103 1 h1 v0 λv2 p=>Li p v2 λq=>Nc p a0 λr s=>zP zB 103 1 s r λu v=>∃e,zZ zB 3 v u (zG (q+1))=some e/\(e.nx<=T.top/\e.low<=T.top)/\∃v10 a,yD zB ⟨none,.nilCheck (t 0),0, "",#[],none⟩ (λ_=>some a0) (zX e)=some (.val v10 a)/\(e.nx<=a.low/\a.nx<=T.top)/\∀f,f=yN e a->zP zB 103 0 f v10 λl b=>Ls b l λm=>∃g c,yD zB ⟨none,.nilCheck (t 0),0, "",#[],none⟩ (λ_=>some a0) (zX b)=some (.val g c)/\(b.nx<=c.low/\c.nx<=T.top)/\∀i,i=yN b c->zP zB 103 1 i g λn j=>Li j n λo=>∃k:Int,yC zB 9 m (zG (o-1))=some (.int .u8 k)/\Q (zG (k)) j):=vb
def K8:Code:=pQ 80 13
def K9:Code:=pQ 80 7
def Yx:Uf:=[8,9,10,36,0,1,2,3]
theorem zXo{a:Bool}{y8 b:V}:Vy 77 Yx K8 [(36,a),(8,y8),(10,b)] (λ_ h _ E _ _ _ _=>wo a λu=>match u with|true=>∃c:Int,∃v1,zo zB 59 h y8=some (.agg [c,v1])/\∃e,zZ zB 59 h y8 (.agg [c,v1])=some e/\∃f,zZ zB 26 e b (.agg [(2:Int),(0:Int)])=some f/\(E [(9,(0:Int))] .ret f)|false=>E [] .normal h):=vz
theorem zXp{y8 a:V}:Vy 77 Yx K9 [(0,y0),(1,y1),(2,y2),(3,y3),(8,y8),(10,a)] (λ_ h _ E _ _ _ _=>∃l0:Ua,zy zB 9 h y0 (some (y1:V)) (some (dd (min (Int.ofNat (List.length y0)) (zG (y1+2000))))) none=some (.str l0)/\Nw h [(.str []),(0:Int)] 113 λr A=>∃w,zZ zB 112 A (.ptr r 0) (.agg [l0,(0:Int)])=some w/\Rf 137 [(.ptr r 0),y2,y3] w λv4 B=>∃x:Int,∃y,∃v8,v4=(.tuple [(.agg [x,y]),v8])/\∃z,zZ zB 59 B y8 (.agg [x,y])=some z/\Rf 138 [v8,(.iface 24 (31:Int))] z λv10 b=>∃c:Bool,v10=c/\Bb c (∃e,zZ zB 59 b y8 (.agg [(0:Int),.nilslice])=some e/\∃f,zZ zB 26 e a (.agg [(31:Int),y1])=some f/\E [(9,(0:Int))] .ret f) (qc zB .neq 163 (t 62) (.const .nilIface) 4 v8 .nilIface λs=>wO s λu=>match u with|true=>∃g,zZ zB 59 b y8 (.agg [(0:Int),.nilslice])=some g/\∃i,zZ zB 26 g a (.agg [(23:Int),y1])=some i/\(E [(9,(0:Int))] .ret i)|false=>∃j:Ua,∃k:Int,zo zB 112 b (.ptr r 0)=some (.agg [j,k])/\Rf 139 [(.agg [j,k])] b λv20 l=>∃m:Int,∃v:Int,v20=(.tuple [m,v])/\∃n:Int,∃o,zo zB 59 l y8=some (.agg [n,o])/\∃p,zZ zB 59 l y8 (.agg [n,o])=some p/\∃q,zZ zB 26 p a (.agg [(0:Int),(0:Int)])=some q/\E [(9,(zG (y1+m)))] .ret q)):=vz
theorem z4R{a2 a3:Int}:Vb 80 77 [.cell 8 59,.tmp 9,.cell 10 26] Yx [a0,a1,a2,a3] (λh _ K=>Nw h [(0:Int),.nilslice] 60 λp0 h1=>Nw h1 [(0:Int),(0:Int)] 27 λa b=>Br (a1<0) (Gz Yx (Tb.leaf zC) [(8,(.ptr p0 0)),(9,(0:Int)),(10,(.ptr a 0)),(36,true),(0,a0),(1,a1),(2,a2),(3,a3)] λu=>Wf Yx K8 ⟨77,u,[],b⟩ (thenC (sealK Yx λs1=>Wf Yx K9 s1 K) K)) (Br ((Int.ofNat (List.length a0))<a1) (Gz Yx (Tb.leaf zC) [(8,(.ptr p0 0)),(9,(0:Int)),(10,(.ptr a 0)),(36,true),(0,a0),(1,a1),(2,a2),(3,a3)] λu=>Wf Yx K8 ⟨77,u,[],b⟩ (thenC (sealK Yx λs1=>Wf Yx K9 s1 K) K)) (Br (a2<5) (Gz Yx (Tb.leaf zC) [(8,(.ptr p0 0)),(9,(0:Int)),(10,(.ptr a 0)),(36,true),(0,a0),(1,a1),(2,a2),(3,a3)] λu=>Wf Yx K8 ⟨77,u,[],b⟩ (thenC (sealK Yx λs1=>Wf Yx K9 s1 K) K)) (Br ((12:Int)<a2) (Gz Yx (Tb.leaf zC) [(8,(.ptr p0 0)),(9,(0:Int)),(10,(.ptr a 0)),(36,true),(0,a0),(1,a1),(2,a2),(3,a3)] λu=>Wf Yx K8 ⟨77,u,[],b⟩ (thenC (sealK Yx λs1=>Wf Yx K9 s1 K) K)) (Br (a3<1) (Gz Yx (Tb.leaf zC) [(8,(.ptr p0 0)),(9,(0:Int)),(10,(.ptr a 0)),(36,true),(0,a0),(1,a1),(2,a2),(3,a3)] λu=>Wf Yx K8 ⟨77,u,[],b⟩ (thenC (sealK Yx λs1=>Wf Yx K9 s1 K) K)) (Br ((256:Int)<a3) (Gz Yx (Tb.leaf zC) [(8,(.ptr p0 0)),(9,(0:Int)),(10,(.ptr a 0)),(36,true),(0,a0),(1,a1),(2,a2),(3,a3)] λu=>Wf Yx K8 ⟨77,u,[],b⟩ (thenC (sealK Yx λs1=>Wf Yx K9 s1 K) K)) (Gz Yx (Tb.leaf zC) [(8,(.ptr p0 0)),(9,(0:Int)),(10,(.ptr a 0)),(36,false),(0,a0),(1,a1),(2,a2),(3,a3)] λu=>Wf Yx K8 ⟨77,u,[],b⟩ (thenC (sealK Yx λs1=>Wf Yx K9 s1 K) K)))))))):=vb
def zUW:Code:=pQ 88 2036
def zUX:Code:=pQ 88 8180
def zVB:Code:=pQ 88 1023
def zVC:Code:=pQ 88 255
def L88:Uf:=[2,3,8,1,7,10,5,9]
theorem zXE{y1 y7:V}:Vy 91 L88 zUW [(8,y8),(1,y1),(7,y7)] (λ_ h _ E _ _ _ _=>zP zB 59 1 h y1 λv0 h1=>Lv 23 h1 v0 λv2=>Ln 23 h1 v2 λk=>Br (y8<k) ((h1.nx<=T.top/\h1.low<=T.top)/\zP zB 59 1 h1 y1 λv4 g=>Lv 23 g v4 λv6=>Rq 23 3 g v6 y8 λl=>zP zB 59 1 g y1 λv10 a=>Lv 23 a v10 λi=>Rq 23 3 a i y8 λj=>∃b c,zJ zB 23 1 [(0,(dd (max l (zG (0-j)))))] a=some (b,c)/\True/\∃e f,zn zB 23 c y7 b=some (e,f)/\E [(8,(zG (y8+1))),(7,e)] .normal f) (E [] (.exit 0) h1)):=vz
theorem zXF{b:Int}{y5 y1 y7 w:V}:Vy 91 L88 zUX [(10,b),(5,y5),(1,y1),(7,y7),(9,w)] (λ_ h _ E _ _ _ _=>Ln 23 h y5 λy=>Br (b<y) (Rq 23 3 h y5 b λf=>(h.nx<=T.top/\h.low<=T.top)/\zP zB 59 0 h y1 λv4 g=>Li g v4 λx=>Rq 23 3 g y7 f λz=>Ri 153 [z] (zX g) λi c=>(g.nx<=c.low/\c.nx<=T.top)/\∀a,a=yN g c->(a.nx<=T.top/\a.low<=T.top)/\Rq 23 3 a y7 f λs=>∃j:Int,zj .shl .i64 s (zU .u64 ((zG (x-i))))=some (j:V)/\zP zB 59 0 a y1 λt k=>Li k t λu=>∃l:Int,zj .shl .i64 1 (zU .u64 (u))=some (l:V)/\∃m n,zJ zB 123 1 [(0,(.agg [f,(zG (x-i)),(zG (j-l))]))] k=some (m,n)/\True/\∃o e,zn zB 123 n w m=some (o,e)/\Rq 23 3 e y7 f λv=>∃p q,yo zB 23 y7 f=some (.ptr p q)/\∃r,zZ zB 3 e (.ptr p q) (zG (v+1))=some r/\E [(10,(zG (b+1))),(9,o)] .normal r) (E [] (.exit 2) h)):=vz
theorem zXz{a:V}:Vy 91 L88 zVB [(9,a)] (λ_ h _ E _ _ _ _=>E [(2,a),(3,(0:Int))] .ret h):=vz
theorem zYA :Vy 91 L88 zVC [] (λ_ h _ _ _ M S _=>M [(10,(0:Int)),(9,.nilslice)] zUX h (Kx (Wf L88) zVB 2 S)):=vz
theorem z4Z{a:Int}{b:V}:Vb 88 91 [.tmp 2,.tmp 3] L88 [(.agg [a,b])] (λh Q K=>ZN (cond (za (V.cells (.agg [a,b]))) (Cs.ofL (V.cells (.agg [a,b]))) none) λg=>h.nx<T.top/\∀p0 h1,p0=h.nx->h1=h.new (.cells g ⟨0,60,0⟩ true false)->∃j:Int,∃v4,zo zB 59 h1 (.ptr p0 0)=some (.agg [j,v4])/\Ri 86 [(.agg [j,v4])] h1 λk i=>Br (k≠0) (Q (.tuple [.nilslice,k]) i) (∃l:Int,∃m,zo zB 59 i (.ptr p0 0)=some (.agg [l,m])/\Rf 152 [(.agg [l,m])] i λv10 e=>∃f,∃c:Int,v10=(.tuple [f,c])/\Br (c≠0) (Q (.tuple [.nilslice,c]) e) (Lz L88 91 [(2,.nilslice),(3,(0:Int)),(8,(0:Int)),(1,(.ptr p0 0)),(7,.nilslice),(5,f)] zUW e (Kx (Wf L88) zVC 0 K)))):=vb
def zMo:Code:=pQ 143 52
def zOZ:Code:=pQ 143 7
def zLa:Uf:=[4,9,8,7,1]
theorem zRp{a:Int}{y7 y1:V}:Vy 22 zLa zMo [(9,a),(8,y8),(7,y7),(4,y4),(1,y1)] (λ_ h _ E _ _ _ _=>Br (a<y8) (Rq 23 3 h y7 a λb=>Br (b≠0) (wm zB Tryz.prog 3 h (λv3 c=>qc zB .add 3 (t 15) (t 18) 3 y4 v3 λe=>E [(4,e),(9,(zG (a+1)))] .normal c) [b] y1) (E [(9,(zG (a+1)))] .normal h)) (E [] (.exit 0) h)):=vz
theorem zSk:Vy 22 zLa zOZ [(4,y4)] (λ_ h _ E _ _ _ _=>E [] .ret h):=vz
theorem z00{a0 a1:V}:Vb 143 22 [.tmp 4] zLa [a0,a1] (λh _ K=>Ln 23 h a0 λa=>Lz zLa 22 [(4,(0:Int)),(9,(0:Int)),(8,a),(7,a0),(1,a1)] zMo h (Kx (Wf zLa) zOZ 0 K)):=vb
def zMq:Code:=pQ 149 52
def zO2:Code:=pQ 149 7
def zLc:Uf:=[6,7,1,0,2]
theorem zRr{y0:V}:Vy 18 zLc zMq [(7,y7),(1,y1),(0,y0),(2,y2)] (λ_ h _ E _ _ _ _=>Br (y7<y1) (∃v0 h1,zJ zB 23 1 [(0,y2)] h=some (v0,h1)/\True/\∃v2 a,zn zB 23 h1 y0 v0=some (v2,a)/\E [(7,(zG (y7+1))),(0,v2)] .normal a) (E [] (.exit 0) h)):=vz
theorem zSn{y0:V}:Vy 18 zLc zO2 [(0,y0)] (λ_ h _ E _ _ _ _=>E [(6,y0)] .ret h):=vz
theorem z06{a2:Int}{a0:V}:Vb 149 18 [.tmp 6] zLc [a0,a1,a2] (λh _ K=>Lz zLc 18 [(6,.nilslice),(7,(0:Int)),(1,a1),(0,a0),(2,a2)] zMq h (Kx (Wf zLc) zO2 0 K)):=vb
def z2E:Uf:=[2]
theorem z07{a:Int}{b:Ua}:Vb 150 21 [.tmp 2] z2E [(.agg [b,a])] (λh Q _=>Nw h [b,a] 113 λp0 h1=>Ls h1 (.ptr p0 (0+0)) λl2=>Br ((1048576:Int)<(Int.ofNat (List.length l2))) (Q (4:Int) h1) (Li h1 (.ptr p0 (0+1)) λc=>Br (c<0) (Q (2:Int) h1) (Li h1 (.ptr p0 (0+1)) λe=>Ls h1 (.ptr p0 (0+0)) λf=>Br ((zG (8*(Int.ofNat (List.length f))))<e) (Q (2:Int) h1) (Q (0:Int) h1)))):=vb
def zDb:Code:=pQ 154 15
def zEI:Uf:=[4,5,6,2,1]
theorem zJm{y4 y2:V}:Vy 28 zEI zDb [(6,y6),(4,y4),(2,y2),(1,y1)] (λ_ h _ E _ _ _ _=>Br (y6≠0) (∃h0,zZ zB 120 h y4 (.agg [(.str []),(0:Int)])=some h0/\E [(5,y6)] .ret h0) (zP zB 120 1 h y2 λv1 b=>Li b v1 λg=>zP zB 120 1 b y2 λv4 i=>∃a,zZ zB 3 i v4 (zG (g-y1))=some a/\∃c:Ua,∃e:Int,zo zB 120 a y2=some (.agg [c,e])/\∃f,zZ zB 120 a y4 (.agg [c,e])=some f/\E [(5,(0:Int))] .ret f)):=vz
theorem z0b{a:Int}{b:Ua}:Vb 154 28 [.cell 4 120,.tmp 5] zEI [(.agg [b,a]),a1] (λh _ K=>Nw h [b,a] 121 λp0 h1=>Nw h1 [(.str []),(0:Int)] 121 λe g=>∃i:Ua,∃j:Int,zo zB 120 g (.ptr p0 0)=some (.agg [i,j])/\Ri 219 [(.agg [i,j]),a1] g λf c=>Br (f=0) (Li c (.ptr p0 (0+1)) λk=>Br (k<a1) (Gz zEI (Tb.leaf zC) [(4,(.ptr e 0)),(5,(0:Int)),(6,(5:Int)),(2,(.ptr p0 0)),(1,a1)] λu=>Wf zEI zDb ⟨28,u,[],c⟩ K) (Gz zEI (Tb.leaf zC) [(4,(.ptr e 0)),(5,(0:Int)),(6,f),(2,(.ptr p0 0)),(1,a1)] λu=>Wf zEI zDb ⟨28,u,[],c⟩ K)) (Gz zEI (Tb.leaf zC) [(4,(.ptr e 0)),(5,(0:Int)),(6,f),(2,(.ptr p0 0)),(1,a1)] λu=>Wf zEI zDb ⟨28,u,[],c⟩ K)):=vb
def z2L:Uf:=[2]
theorem z0t{a:Int}{b:Ua}:Vb 212 21 [.tmp 2] z2L [(.agg [b,a])] (λh Q _=>Nw h [b,a] 113 λp0 h1=>Ls h1 (.ptr p0 (0+0)) λl2=>Br ((1048576:Int)<(Int.ofNat (List.length l2))) (Q (4:Int) h1) (Li h1 (.ptr p0 (0+1)) λc=>Br (c<0) (Q (2:Int) h1) (Li h1 (.ptr p0 (0+1)) λe=>Ls h1 (.ptr p0 (0+0)) λf=>Br ((zG (8*(Int.ofNat (List.length f))))<e) (Q (2:Int) h1) (Q (0:Int) h1)))):=vb
def z2O:Uf:=[4,5,6]
theorem z0w{a:Int}{b:Ua}:Vb 215 34 [.cell 4 120,.tmp 5,.tmp 6] z2O [(.agg [b,a]),a1] (λh Q _=>Nw h [b,a] 121 λp0 h1=>Nw h1 [(.str []),(0:Int)] 121 λc H=>∃I:Ua,∃J:Int,zo zB 120 H (.ptr p0 0)=some (.agg [I,J])/\Rf 278 [(.agg [I,J]),a1] H λv6 x=>∃y:Int,∃z:Int,v6=(.tuple [(.int .u64 y),z])/\Li x (.ptr p0 (0+1)) λA=>Br (A<a1) (Ri 250 [true,(5:Int)] x λB C=>∃j k,zJ zB 343 2 [(0,z),(1,B)] C=some (j,k)/\Ri 248 [j] k λl e=>Br (l≠0) (∃m,zZ zB 120 e (.ptr c 0) (.agg [(.str []),(0:Int)])=some m/\endL zB m [(.cell 4 120,(.ptr c 0)),(.tmp 5,(.int .u64 0)),(.tmp 6,l)] Q) (Li e (.ptr p0 (0+1)) λD=>∃f,zZ zB 3 e (.ptr p0 (0+1)) (zG (D-a1))=some f/\∃n:Ua,∃o:Int,zo zB 120 f (.ptr p0 0)=some (.agg [n,o])/\∃p,zZ zB 120 f (.ptr c 0) (.agg [n,o])=some p/\endL zB p [(.cell 4 120,(.ptr c 0)),(.tmp 5,(.int .u64 y)),(.tmp 6,(0:Int))] Q)) (Ri 250 [false,(5:Int)] x λE F=>∃q r,zJ zB 343 2 [(0,z),(1,E)] F=some (q,r)/\Ri 248 [q] r λs g=>Br (s≠0) (∃t,zZ zB 120 g (.ptr c 0) (.agg [(.str []),(0:Int)])=some t/\endL zB t [(.cell 4 120,(.ptr c 0)),(.tmp 5,(.int .u64 0)),(.tmp 6,s)] Q) (Li g (.ptr p0 (0+1)) λG=>∃i,zZ zB 3 g (.ptr p0 (0+1)) (zG (G-a1))=some i/\∃u:Ua,∃v:Int,zo zB 120 i (.ptr p0 0)=some (.agg [u,v])/\∃w,zZ zB 120 i (.ptr c 0) (.agg [u,v])=some w/\endL zB w [(.cell 4 120,(.ptr c 0)),(.tmp 5,(.int .u64 y)),(.tmp 6,(0:Int))] Q))):=vb
def zNF:Code:=pQ 248 436
def zOo:Code:=pQ 248 55
def zLk:Uf:=[2,8,7,6,3]
theorem zSI{y6:V}:Vy 17 zLk zNF [(8,y8),(7,y7),(6,y6)] (λ_ h _ E _ _ _ _=>Br (y8<y7) (Rq 343 24 h y6 y8 λa=>Br (a≠0) (E [(3,a)] (.exit 0) h) (E [(8,(zG (y8+1)))] .normal h)) (E [] (.exit 0) h)):=vz
theorem zJo:Vy 17 zLk zOo [(3,y3)] (λ_ h _ E _ _ _ _=>E [(2,y3)] .ret h):=vz
theorem z1D{a0:V}:Vb 248 17 [.tmp 2] zLk [a0] (λh _ K=>Ln 343 h a0 λa=>Lz zLk 17 [(2,(0:Int)),(8,(0:Int)),(7,a),(6,a0),(3,(0:Int))] zNF h (Kx (Wf zLk) zOo 0 K)):=vb
def Yy:Code:=pQ 274 244
def Zv:Code:=pQ 274 245
def zWa:Code:=pQ 274 122
def zHe:Code:=pQ 274 31
def zCr:Uf:=[2,3,19,20,5,6,7,18]
theorem zRa{a b:V}:Wt zCr (jd Yy) ⟨26,(zW tm [(19,a),(20,b)]),d,h⟩ (zp zCr Q)=((Gz zCr tm [(19,a),(20,b),(6,a),(7,b)] λu=>Q .normal ⟨26,u,d,h⟩)):=da
theorem zRd{y5:V}:Vt 26 zCr (jd Zv) [(5,y5),(6,y6),(7,y7)] (λ_ h _ E _ _ _ _=>Lv 23 h y5 λv0=>∃a b,yo zB 23 v0 y6=some (.ptr a b)/\∃c,zZ zB 3 h (.ptr a b) y7=some c/\E [] .normal c):=vz
theorem zTV{y5:V}:Vy 26 zCr zHe [(5,y5)] (λ_ h _ E _ _ _ _=>Lv 23 h y5 λv0=>E [(2,v0),(3,(0:Int))] .ret h):=vz
theorem z1M{a:Int}{b:V}:Vb 274 26 [.tmp 2,.tmp 3] zCr [(.agg [a,b])] (λh Q K=>ZN (cond (za (V.cells (.agg [a,b]))) (Cs.ofL (V.cells (.agg [a,b]))) none) λj=>h.nx<T.top/\∀p0 h1,p0=h.nx->h1=h.new (.cells j ⟨0,60,0⟩ true false)->∃p:Int,∃v4,zo zB 59 h1 (.ptr p0 0)=some (.agg [p,v4])/\Ri 173 [(.agg [p,v4])] h1 λq k=>Br (q≠0) (Q (.tuple [.nilslice,q]) k) (Li k (.ptr p0 (0+0)) λr=>∃l:Int,zj .shl .i64 1 r=some (l:V)/\∃v10 e,jJ zB 23 l l k=some (v10,e)/\V.one .nilslice=true/\Nw e [.nilslice] 24 λp12 m=>∃c,zZ zB 23 m (.ptr p12 0) v10=some c/\∃f:Int,∃g,zo zB 59 c (.ptr p0 0)=some (.agg [f,g])/\Rf 307 [(.agg [f,g])] c λn o=>∃i,n=i/\Gz zCr (Tb.leaf zC) [(2,.nilslice),(3,(0:Int)),(5,(.ptr p12 0)),(18,i)] λu=>RC Tryz.prog false zWa ⟨26,u,[],o⟩ (Kx (Wf zCr) zHe 0 K))):=vb
def z2U:Uf:=[]
theorem zVR{a0:Int}{a1:V}:Vb 286 7 [] z2U [a0,a1] (λh Q _=>Li h a1 λa=>∃h1,zZ zB 3 h a1 (dd (min (zG (a+a0)) 1048576))=some h1/\Q (.tuple []) h1):=vb
def zNO:Code:=pQ 304 116
def zPA:Code:=pQ 304 15
def zLn:Uf:=[4,9,8,2,5]
theorem zST{a:Int}{y2:V}:Vy 40 zLn zNO [(9,a),(8,y8),(2,y2),(5,y5)] (λ_ h _ E _ _ _ _=>Br (a<y8) (zP zB 112 1 h y2 λv0 h1=>Li h1 v0 λg=>zP zB 112 0 h1 y2 λv3 i=>Ls i v3 λl=>Br ((zG (g+a))<(zG (8*(Int.ofNat (List.length l))))) (zP zB 112 0 i y2 λv6 j=>Ls j v6 λm=>(8:Int)≠0/\∃k:Int,yC zB 9 m (zG (Int.tdiv (zG (g+a)) 8))=some (.int .u8 k)/\(8:Int)≠0/\∃b:Int,zj .shr .u8 k (zU .u64 ((Int.tmod (zG (g+a)) 8)))=some (.int .u8 b)/\∃c:Int,zj .and .u8 b 1=some (.int .u8 c)/\∃e:Int,zj .shl .i64 (zG (c)) (zU .u64 (a))=some (e:V)/\∃f:Int,zj .or .i64 y5 e=some (f:V)/\E [(9,(zG (a+1))),(5,f)] .normal j) (E [(9,(zG (a+1)))] .normal i)) (E [] (.exit 0) h)):=vz
theorem zT5:Vy 40 zLn zPA [(5,y5)] (λ_ h _ E _ _ _ _=>E [(4,y5)] .ret h):=vz
theorem z1W{a:Int}{b:Ua}:Vb 304 40 [.tmp 4] zLn [(.agg [b,a]),a1] (λh _ K=>Nw h [b,a] 113 λp0 h1=>Lz zLn 40 [(4,(0:Int)),(9,(0:Int)),(8,a1),(2,(.ptr p0 0)),(5,(0:Int))] zNO h1 (Kx (Wf zLn) zPA 0 K)):=vb
def zNT:Code:=pQ 323 244
def zHR:Code:=pQ 323 33344716
def zPH:Code:=pQ 323 1042023
def zNU:Code:=pQ 323 130252
def zPI:Code:=pQ 323 4071
def zNV:Code:=pQ 323 508
def zPJ:Code:=pQ 323 31
def J4:Uf:=[20,19,18,4,5,0,8,1,3,47,46,9,40,39,38]
theorem zSX{a b:Int}{c y4 y0:V}:Vy 75 J4 zNT [(20,a),(19,b),(18,c),(4,y4),(5,y5),(0,y0)] (λ_ h _ E _ _ _ _=>Br (a<b) (Rq 23 3 h c a λg=>Br (g=(-1)) (∃e,Yg zB 377 h y4 y5 true=some e/\wm zB Tryz.prog 4 e (λv4 f=>zBG .not v4 λv6=>wO v6 λu=>match u with|true=>(E [] .ret f)|false=>E [(20,(zG (a+1))),(5,(zG (y5-1)))] .normal f) [y5,a] y0) (E [(20,(zG (a+1)))] .normal h)) (E [] (.exit 0) h)):=vz
theorem zSY{y4 y1:V}:Vy 75 J4 zHR [(4,y4),(8,y8),(1,y1),(3,y3)] (λ_ h _ E _ _ _ _=>∃a:Bool,ke zB 377 h y4 y8 false=some (.bool a)/\Bb a (zP zB 59 0 h y1 λv1 b=>Li b v1 λe=>Ri 324 [e] b λf g=>∃c:Int,zj .and .i64 (zG (y8+f)) (zG (y3-1))=some (c:V)/\E [(8,c)] .normal g) (E [] (.exit 6) h)):=vz
theorem zTg{a:Int}:Vy 75 J4 zPH [(47,a)] (λ_ h _ E _ _ _ _=>E [(47,(zG (a+1)))] .normal h):=vz
theorem zSZ{a b c:Int}{y0 y1:V}:Vy 75 J4 zNU [(47,a),(46,b),(0,y0),(8,y8),(9,c),(1,y1),(3,y3)] (λ_ h _ E _ M S _=>Br (a<b) (wm zB Tryz.prog 4 h (λv0 h1=>zBG .not v0 λv2=>wO v2 λu=>match u with|true=>(E [] .ret h1)|false=>zP zB 59 0 h1 y1 λv3 f=>Li f v3 λi=>Ri 324 [i] f λj k=>∃g:Int,zj .and .i64 (zG (y8+j)) (zG (y3-1))=some (g:V)/\M [(8,g)] zHR k λe s1=>(Kx (Wf J4) zPH 5 S) (exitB 6 e) s1) [y8,c] y0) (E [] (.exit 4) h)):=vz
theorem zTh{a:Int}:Vy 75 J4 zPI [(40,a)] (λ_ h _ E _ _ _ _=>E [(40,(zG (a+1)))] .normal h):=vz
theorem zS0{a b:Int}{c:V}:Vy 75 J4 zNV [(40,a),(39,b),(38,c)] (λ_ h _ E _ M S _=>Br (a<b) (Rq 23 3 h c a λf=>M [(47,(0:Int)),(46,(dd (max f 0))),(9,a)] zNU h λe s1=>(Kx (Wf J4) zPI 3 S) (exitB 4 e) s1) (E [] (.exit 2) h)):=vz
theorem zTi{y1:V}:Vy 75 J4 zPJ [(1,y1)] (λ_ h _ _ _ M S _=>zP zB 59 1 h y1 λv0 h1=>Lv 23 h1 v0 λv2=>Ln 23 h1 v2 λa=>M [(8,(0:Int)),(40,(0:Int)),(39,a),(38,v2)] zNV h1 λe s1=>S (exitB 2 e) s1):=vz
theorem z16{a0 a1:V}:Vb 323 75 [] J4 [a0,a1] (λh _ K=>zP zB 59 0 h a1 λv0 h1=>Li h1 v0 λe=>∃a:Int,zj .shl .i64 1 e=some (a:V)/\∃v4 c,yD zB ⟨none,.makeMap 377 none,0, "",#[],none⟩ (λ_=>none) h1=some (.val v4 c)/\zP zB 59 1 c a1 λv6 b=>Lv 23 b v6 λv8=>Ln 23 b v8 λf=>Lz J4 75 [(20,(0:Int)),(19,f),(18,v8),(4,v4),(5,(zG (a-1))),(0,a0),(1,a1),(3,a)] zNT b (Kx (Wf J4) zPJ 0 K)):=vb
def zF7:Code:=pQ 10 13
def zJL:Code:=pQ 10 1017
def zJM:Code:=pQ 10 1021
def z5F:Array Oper:=YB (pQ 10 1022)
def z5T:Code:=pQ 10 1023
def zCM:Code:=pQ 10 511
def zJN:Code:=pQ 10 255
def zF8:Code:=pQ 10 7
theorem z3R:(zB.fn.get 10).map xG=some ⟨80,[.cell 4 23,.cell 5 3,.cell 6 26],bf 10⟩:=da
def jv:Uf:=[4,5,6,16,1,8,0,7,74]
theorem zPv{y16:Bool}{y4 y5 y6:V}:Vy 80 jv zF7 [(16,y16),(4,y4),(5,y5),(6,y6)] (λ_ h _ E _ _ _ _=>wo y16 λu=>match u with|true=>∃h0,zZ zB 23 h y4 .nilslice=some h0/\∃h1,zZ zB 3 h0 y5 (0:Int)=some h1/\∃a,zZ zB 26 h1 y6 (.agg [(2:Int),(0:Int)])=some a/\(E [] .ret a)|false=>E [] .normal h):=vz
theorem zXI{y5 y4 y6 y7:V}:Vy 80 jv zJL [(1,y1),(8,y8),(5,y5),(0,y0),(4,y4),(6,y6),(7,y7)] (λ_ h _ E _ _ _ _=>∃h0,zZ zB 3 h y5 (zG ((zG (y1+1))+y8))=some h0/\Li h0 y5 λi=>∃l2:Ua,zy zB 9 h0 y0 (some (dd (zG (y1+1)))) (some (i:V)) none=some (.str l2)/\Rf 40 [l2] h0 λv3 j=>∃b,∃c:Int,∃e:Int,v3=(.tuple [b,(.agg [c,e])])/\∃f,zZ zB 23 j y4 b=some f/\∃g,zZ zB 26 f y6 (.agg [c,e])=some g/\∃a,zZ zB 3 g y7 (zG (y1+1))=some a/\E [] (.exit 0) a):=vz
theorem zIJ{a:Bool}{y6 y7:V}:Vy 80 jv zJM [(74,a),(1,y1),(6,y6),(7,y7)] (λ_ h _ E _ _ _ _=>wo a λu=>match u with|true=>∃h0,zZ zB 26 h y6 (.agg [(21:Int),y1])=some h0/\∃h1,zZ zB 3 h0 y7 (0:Int)=some h1/\(E [] .normal h1)|false=>E [] .normal h):=vz
theorem zXJ{y6 y4:V}:Vy 80 jv zJN [(6,y6),(4,y4)] (λd h _ _ _ _ S tm=>zP zB 26 0 h y6 λv0 h1=>∃a:Int,zo zB 24 h1 v0=some (a:V)/\Br (a=0) (Lv 23 h1 y4 λv3=>Ri 41 [v3] h1 λc b=>Br (c≠0) (Gz jv tm [(74,true)] λu=>Wf jv zJM ⟨80,u,d,b⟩ (thenC (sealK jv λs1=>Wf jv zCM s1 S) S)) (Gz jv tm [(74,false)] λu=>Wf jv zJM ⟨80,u,d,b⟩ (thenC (sealK jv λs1=>Wf jv zCM s1 S) S))) (Gz jv tm [(74,false)] λu=>Wf jv zJM ⟨80,u,d,h1⟩ (thenC (sealK jv λs1=>Wf jv zCM s1 S) S))):=vz
theorem zXK{y4 y5 y6:V}:Vy 80 jv zF8 [(1,y1),(0,y0),(4,y4),(5,y5),(6,y6)] (λd h Q E _ _ S tm=>Br (y1=(Int.ofNat (List.length y0))) (∃h0,zZ zB 23 h y4 .nilslice=some h0/\∃h1,zZ zB 3 h0 y5 (0:Int)=some h1/\∃p,zZ zB 26 h1 y6 (.agg [(5:Int),y1])=some p/\E [] .ret p) (V.one (0:Int)=true/\Nw h [(0:Int)] 4 λa r=>∃c,zZ zB 3 r (.ptr a 0) (0:Int)=some c/\false=false/\∃b:Int,yC zB 9 y0 y1=some (.int .u8 b)/\Br ((127:Int)<(zG (b))) (Rf 39 [y0,y1] c λs t=>∃q,∃f:Int,∃g:Int,∃i:Int,s=(.tuple [q,f,(.agg [g,i])])/\∃j,zZ zB 23 t y4 q=some j/\∃k,zZ zB 3 j y5 f=some k/\∃l,zZ zB 26 k y6 (.agg [g,i])=some l/\Gz jv tm [(8,(zG (b))),(7,(.ptr a 0))] λu=>Q .ret ⟨80,u,((.fn 38 [y6,y4,y5,(.ptr a 0)] [])::d),l⟩) (Br ((Int.ofNat (List.length y0))<(zG ((zG (y1+1))+(zG (b))))) (∃m,zZ zB 23 c y4 .nilslice=some m/\∃n,zZ zB 3 m y5 (0:Int)=some n/\∃o,zZ zB 26 n y6 (.agg [(5:Int),(dd (Int.ofNat (List.length y0)))])=some o/\Gz jv tm [(8,(zG (b))),(7,(.ptr a 0))] λu=>Q .ret ⟨80,u,((.fn 38 [y6,y4,y5,(.ptr a 0)] [])::d),o⟩) (Br ((zG (b))=0) (Gz jv tm [(8,(zG (b))),(7,(.ptr a 0))] λu=>Wf jv zJL ⟨80,u,((.fn 38 [y6,y4,y5,(.ptr a 0)] [])::d),c⟩ λe s1=>(thenC (sealK jv λs1=>Wf jv zJN s1 S) S) (exitB 0 e) s1) (Gz jv tm [(8,(zG (b))),(7,(.ptr a 0))] λu=>Wf jv zJL ⟨80,u,((.fn 38 [y6,y4,y5,(.ptr a 0)] [])::d),c⟩ λe s1=>(thenC (sealK jv λs1=>Wf jv zJN s1 S) S) (exitB 0 e) s1))))):=vz
theorem z3k{Q:Uc}:Wf jv (bf 10) ⟨80,ze [a0,a1] 0 (Tb.leaf zC),[],h⟩ (endW1 Tryz.prog zB ⟨80,[.cell 4 23,.cell 5 3,.cell 6 26],bf 10⟩ Q)=((V.one .nilslice=true/\Nw h [.nilslice] 24 λp0 h1=>V.one (0:Int)=true/\Nw h1 [(0:Int)] 4 λa c=>Nw c [(0:Int),(0:Int)] 27 λp4 b=>Br (a1<0) (Gz jv (Tb.leaf zC) [(4,(.ptr p0 0)),(5,(.ptr a 0)),(6,(.ptr p4 0)),(16,true),(1,a1),(0,a0)] λu=>Wf jv zF7 ⟨80,u,[],b⟩ (thenC (sealK jv λs1=>Wf jv zF8 s1 (endW1 Tryz.prog zB ⟨80,[.cell 4 23,.cell 5 3,.cell 6 26],bf 10⟩ Q)) (endW1 Tryz.prog zB ⟨80,[.cell 4 23,.cell 5 3,.cell 6 26],bf 10⟩ Q))) (Br ((Int.ofNat (List.length a0))<a1) (Gz jv (Tb.leaf zC) [(4,(.ptr p0 0)),(5,(.ptr a 0)),(6,(.ptr p4 0)),(16,true),(1,a1),(0,a0)] λu=>Wf jv zF7 ⟨80,u,[],b⟩ (thenC (sealK jv λs1=>Wf jv zF8 s1 (endW1 Tryz.prog zB ⟨80,[.cell 4 23,.cell 5 3,.cell 6 26],bf 10⟩ Q)) (endW1 Tryz.prog zB ⟨80,[.cell 4 23,.cell 5 3,.cell 6 26],bf 10⟩ Q))) (Gz jv (Tb.leaf zC) [(4,(.ptr p0 0)),(5,(.ptr a 0)),(6,(.ptr p4 0)),(16,false),(1,a1),(0,a0)] λu=>Wf jv zF7 ⟨80,u,[],b⟩ (thenC (sealK jv λs1=>Wf jv zF8 s1 (endW1 Tryz.prog zB ⟨80,[.cell 4 23,.cell 5 3,.cell 6 26],bf 10⟩ Q)) (endW1 Tryz.prog zB ⟨80,[.cell 4 23,.cell 5 3,.cell 6 26],bf 10⟩ Q)))))):=da
def zUP:Code:=pQ 45 116
def zUm:Code:=pQ 45 15
def zUn:Code:=pQ 45 7
def L45:Uf:=[2,3,0]
theorem zWv{y0:V}:Vy 39 L45 zUP [(3,y3),(0,y0)] (λ_ h _ E _ _ _ _=>Ln 23 h y0 λa=>Br (y3<a) (Rq 23 3 h y0 y3 λb=>Br (b<0) (E [(2,(2:Int))] .ret h) (Rq 23 3 h y0 y3 λc=>Br ((11:Int)<c) (E [(2,(2:Int))] .ret h) (E [(3,(zG (y3+1)))] .normal h))) (E [] (.exit 0) h)):=vz
theorem zXj{y0:V}:Vy 39 L45 zUm [(0,y0)] (λ_ h _ E _ _ _ _=>Rf 90 [y0] h λv0 h1=>∃a:Int,∃b:Int,v0=(.tuple [a,b])/\Br (a=0) (E [(2,(21:Int))] .ret h1) (E [(2,(0:Int))] .ret h1)):=vz
theorem zXk :Vy 39 L45 zUn [] (λ_ h _ _ _ M S _=>M [(3,(0:Int))] zUP h (Kx (Wf L45) zUm 0 S)):=vz
theorem z3y{a0:V}:Vb 45 39 [.tmp 2] L45 [a0] (λh Q K=>Ln 23 h a0 λa=>Br (a<1) (Q (4:Int) h) (Ln 23 h a0 λb=>Br ((255:Int)<b) (Q (4:Int) h) (Gz L45 (Tb.leaf zC) [(2,(0:Int)),(0,a0)] λu=>Wf L45 zUn ⟨39,u,[],h⟩ K))):=vb
def zUQ:Code:=pQ 47 500
def zUo:Code:=pQ 47 63
def L47:Uf:=[2,3,8,0,7,5,4]
theorem zWw{y0 y7:V}:Vy 49 L47 zUQ [(8,y8),(0,y0),(7,y7),(5,y5)] (λ_ h _ E _ _ _ _=>Ln 23 h y0 λi=>Br (y8<i) (Rq 23 3 h y0 y8 λj=>Br (j=0) (∃v4 f,zJ zB 23 1 [(0,(0:Int))] h=some (v4,f)/\True/\∃v6 g,zn zB 23 f y7 v4=some (v6,g)/\E [(8,(zG (y8+1))),(7,v6)] .normal g) (Rq 23 3 h y0 y8 λe=>∃v11 a,zJ zB 23 1 [(0,(zG ((zG (y5+1))-e)))] h=some (v11,a)/\True/\∃b c,zn zB 23 a y7 v11=some (b,c)/\E [(8,(zG (y8+1))),(7,b)] .normal c)) (E [] (.exit 0) h)):=vz
theorem zXl{y7:V}:Vy 49 L47 zUo [(7,y7),(5,y5),(4,y4)] (λ_ h _ E _ _ _ _=>∃v0 h1,zJ zB 23 1 [(0,(zG ((zG (y5+1))-y4)))] h=some (v0,h1)/\True/\∃v2 a,zn zB 23 h1 y7 v0=some (v2,a)/\E [(2,v2),(3,(0:Int))] .ret a):=vz
theorem z4A{a0:V}:Vb 47 49 [.tmp 2,.tmp 3] L47 [a0] (λh Q K=>Rf 92 [a0] h λv0 h1=>∃b:Int,∃c:Int,∃a:Int,v0=(.tuple [b,c,a])/\Br (a≠0) (Q (.tuple [.nilslice,a]) h1) (Lz L47 49 [(2,.nilslice),(3,(0:Int)),(8,(0:Int)),(0,a0),(7,.nilslice),(5,c),(4,b)] zUQ h1 (Kx (Wf L47) zUo 0 K))):=vb
def zUT:Code:=pQ 81 500
def zN1:Code:=pQ 81 2036
def zUs:Code:=pQ 81 255
def zUt:Code:=pQ 81 63
def L81:Uf:=[4,5,26,6,2,8,13,12]
theorem zXA{a:Int}{y6 y2 y8:V}:Vy 105 L81 zUT [(26,a),(6,y6),(2,y2),(8,y8)] (λ_ h _ E _ _ _ _=>Br (a<2) (zP zB 59 0 h y2 λv0 h1=>Li h1 v0 λj=>Rf 141 [y6,j] h1 λv3 b=>∃c:Int,∃e:Bool,v3=(.tuple [c,e])/\Bb e (∃f g,yo zB 126 y8 a=some (.ptr f g)/\∃i,zZ zB 3 b (.ptr f g) c=some i/\E [(26,(zG (a+1)))] .normal i) (E [(4,.nilslice),(5,(21:Int))] .ret b)) (E [] (.exit 0) h)):=vz
theorem zXB{y13:Int}{y6 y8 y12:V}:Vy 105 L81 zN1 [(6,y6),(13,y13),(8,y8),(12,y12)] (λ_ h _ E _ _ _ _=>(h.nx<=T.top/\h.low<=T.top)/\∃v0 h1,yD zB ⟨none,.nilCheck (t 0),0, "",#[],none⟩ (λ_=>some y6) (zX h)=some (.val v0 h1)/\(h.nx<=h1.low/\h1.nx<=T.top)/\∀R,R=yN h h1->zP zB 195 1 R v0 λv3 C=>Lv 123 C v3 λU=>(2:Int)≠0/\Rq 126 3 C y8 (.int .i64 (Int.tmod y13 2)) λW=>∃p9 j,yo zB 123 U W=some (.ptr p9 j)/\∃k:Int,∃l:Int,∃m:Int,zo zB 131 C (.ptr p9 j)=some (.agg [k,l,m])/\Nw C [(0:Int),(0:Int),(0:Int)] 132 λb D=>∃g,zZ zB 131 D (.ptr b 0) (.agg [k,l,m])=some g/\Li g (.ptr b (0+0)) λG=>∃n o,zJ zB 23 1 [(0,G)] g=some (n,o)/\True/\∃v20 i,zn zB 23 o y12 n=some (v20,i)/\Li i (.ptr b (0+1)) λH=>Rf 141 [y6,H] i λI a=>∃p:Int,∃q:Bool,I=(.tuple [p,q])/\Bb q ((2:Int)≠0/\Li a (.ptr b (0+2)) λJ=>∃r s,yo zB 126 y8 (.int .i64 (Int.tmod y13 2))=some (.ptr r s)/\∃c,zZ zB 3 a (.ptr r s) (zG (J+p))=some c/\Ln 23 c v20 λK=>Br ((255:Int)<K) (E [(12,v20)] (.exit 2) c) (E [(13,(zG (y13+1))),(12,v20)] .normal c)) ((a.nx<=T.top/\a.low<=T.top)/\∃u e,yD zB ⟨none,.nilCheck (t 0),0, "",#[],none⟩ (λ_=>some y6) (zX a)=some (.val u e)/\(a.nx<=e.low/\e.nx<=T.top)/\∀v,v=yN a e->zP zB 195 1 v u λL f=>Lv 123 f L λN=>(2:Int)≠0/\Rq 126 3 f y8 (zG (1-(Int.tmod y13 2))) λO=>∃w x,yo zB 123 N O=some (.ptr w x)/\Li f (.ptr w (x+0)) λP=>∃y z,zJ zB 23 1 [(0,P)] f=some (y,z)/\True/\∃A B,zn zB 23 z v20 y=some (A,B)/\E [(12,A)] (.exit 2) B)):=vz
theorem zXq{y12 y6:V}:Vy 105 L81 zUs [(12,y12),(6,y6)] (λ_ h _ E _ _ _ _=>Ln 23 h y12 λb=>Br ((255:Int)<b) (E [(4,.nilslice),(5,(21:Int))] .ret h) (Nc h y6 λv1 c=>zP zB 195 0 c v1 λv3 e=>zP zB 120 1 e v3 λf a=>Li a f λg=>Br ((0:Int)<g) (E [(4,.nilslice),(5,(21:Int))] .ret a) (E [(4,y12),(5,(0:Int))] .ret a))):=vz
theorem zXr :Vy 105 L81 zUt [] (λ_ h _ _ _ M S _=>M [(13,(0:Int)),(12,.nilslice)] zN1 h (Kx (Wf L81) zUs 2 S)):=vz
theorem z4S{a:Int}{a1:Ua}{b:V}:Vb 81 105 [.tmp 4,.tmp 5] L81 [(.agg [a,b]),a1] (λh Q K=>ZN (cond (za (V.cells (.agg [a,b]))) (Cs.ofL (V.cells (.agg [a,b]))) none) λc=>h.nx<T.top/\∀p0 h1,p0=h.nx->h1=h.new (.cells c ⟨0,60,0⟩ true false)->∃g:Int,∃v4,zo zB 59 h1 (.ptr p0 0)=some (.agg [g,v4])/\Rf 140 [(.agg [g,v4]),a1] h1 λk i=>∃j,∃e:Int,k=(.tuple [j,e])/\Br (e≠0) (Q (.tuple [.nilslice,e]) i) (Nw i [(0:Int),(0:Int)] 127 λp9 f=>Lz L81 105 [(4,.nilslice),(5,(0:Int)),(26,(0:Int)),(6,j),(2,(.ptr p0 0)),(8,(.ptr p9 0))] zUT f (Kx (Wf L81) zUt 0 K))):=vb
def zUY:Code:=pQ 90 116
def zVD:Code:=pQ 90 63
def zVE:Code:=pQ 90 15
def L90:Uf:=[2,3,5,0,4,6]
theorem zXG{y0:V}:Vy 52 L90 zUY [(5,y5),(0,y0),(4,y4)] (λ_ h _ E _ _ _ _=>Ln 23 h y0 λb=>Br (y5<b) (Rq 23 3 h y0 y5 λc=>Br ((0:Int)<c) (Rq 23 3 h y0 y5 λe=>∃a:Int,zj .shl .i64 1 (zU .u64 ((zG (e-1))))=some (a:V)/\E [(5,(zG (y5+1))),(4,(zG (y4+a)))] .normal h) (E [(5,(zG (y5+1)))] .normal h)) (E [] (.exit 0) h)):=vz
theorem zYB:Vy 52 L90 zVD [(6,y6),(4,y4)] (λ_ h _ E _ _ _ _=>∃a:Int,zj .shl .i64 1 (zU .u64 (y6))=some (a:V)/\Ri 153 [(zG (a-y4))] h λb c=>∃e:Int,zj .shl .i64 1 (zU .u64 (b))=some (e:V)/\Br ((zG (a-y4))≠e) (E [(2,(0:Int)),(3,(0:Int))] .ret c) (E [(2,(zG (b+1))),(3,y6)] .ret c)):=vz
theorem zYC:Vy 52 L90 zVE [(4,y4)] (λ_ h _ E F _ _ _=>Ri 156 [y4] h λa h1=>Br (y4=0) (E [(2,(0:Int)),(3,(0:Int)),(6,a)] .ret h1) (Br ((11:Int)<a) (E [(2,(0:Int)),(3,(0:Int)),(6,a)] .ret h1) (F [(6,a)] zVD h1))):=vz
theorem z41{a0:V}:Vb 90 52 [.tmp 2,.tmp 3] L90 [a0] (λh _ K=>Lz L90 52 [(2,(0:Int)),(3,(0:Int)),(5,(0:Int)),(0,a0),(4,(0:Int))] zUY h (Kx (Wf L90) zVE 0 K)):=vb
def zOW:Code:=pQ 142 3379
def zOX:Code:=pQ 142 423
def zMn:Code:=pQ 142 52
def zOY:Code:=pQ 142 7
def zBQ:Uf:=[2,3,5,8,7,6]
theorem zSi:Vy 24 zBQ zOW [(5,y5),(2,y2)] (λ_ h _ E _ _ _ _=>Br (y5≠0) (E [(2,(zG (y2+1)))] .normal h) (E [] .normal h)):=vz
theorem zJk:Vy 24 zBQ zOX [(8,y8)] (λ_ h _ E _ _ _ _=>E [(8,(zG (y8+1)))] .normal h):=vz
theorem zRo{y6:V}:Vy 24 zBQ zMn [(8,y8),(7,y7),(6,y6)] (λd h _ E _ _ S tm=>Br (y8<y7) (Rq 23 3 h y6 y8 λa=>Br (a<0) (E [(2,(0:Int)),(3,false),(5,a)] .ret h) (Br ((11:Int)<a) (E [(2,(0:Int)),(3,false),(5,a)] .ret h) (Gz zBQ tm [(5,a)] λu=>Wf zBQ zOW ⟨24,u,d,h⟩ (Kx (Wf zBQ) zOX 1 S)))) (E [] (.exit 0) h)):=vz
theorem zSj:Vy 24 zBQ zOY [(2,y2)] (λ_ h _ E _ _ _ _=>E [(3,true)] .ret h):=vz
theorem z0Z{a0:V}:Vb 142 24 [.tmp 2,.tmp 3] zBQ [a0] (λh _ K=>Ln 23 h a0 λa=>Lz zBQ 24 [(2,(0:Int)),(3,false),(8,(0:Int)),(7,a),(6,a0)] zMn h (Kx (Wf zBQ) zOY 0 K)):=vb
def zMp:Code:=pQ 148 116
def zO1:Code:=pQ 148 15
def zLb:Uf:=[2,4,0,3]
theorem zRq{y0:V}:Vy 25 zLb zMp [(4,y4),(0,y0),(3,y3)] (λ_ h _ E _ _ _ _=>Ln 23 h y0 λa=>Br (y4<a) (Rq 23 3 h y0 y4 λb=>Br (b<0) (E [(4,(zG (y4+1))),(3,(zG (y3+1)))] .normal h) (Rq 23 3 h y0 y4 λc=>E [(4,(zG (y4+1))),(3,(zG (y3+c)))] .normal h)) (E [] (.exit 0) h)):=vz
theorem zSm:Vy 25 zLb zO1 [(3,y3)] (λ_ h _ E _ _ _ _=>E [(2,y3)] .ret h):=vz
theorem z05{a0:V}:Vb 148 25 [.tmp 2] zLb [a0] (λh _ K=>Lz zLb 25 [(2,(0:Int)),(4,(0:Int)),(0,a0),(3,(0:Int))] zMp h (Kx (Wf zLb) zO1 0 K)):=vb
def zMr:Code:=pQ 151 248
def zO3:Code:=pQ 151 63
def zO4:Code:=pQ 151 15
def zGc:Uf:=[2,3,0,4]
theorem zRs:Vy 35 zGc zMr [(0,y0),(4,y4)] (λ_ h _ E _ _ _ _=>(8:Int)≠0/\∃a:Int,yC zB 9 y0 (zG (Int.tdiv y4 8))=some (.int .u8 a)/\(8:Int)≠0/\∃b:Int,zj .shr .u8 a (zU .u64 ((Int.tmod y4 8)))=some (.int .u8 b)/\∃c:Int,zj .and .u8 b 1=some (.int .u8 c)/\Br (c=0) (E [(4,(zG (y4-1)))] .normal h) (E [] (.exit 0) h)):=vz
theorem zSo:Vy 35 zGc zO3 [(4,y4)] (λ_ h _ E _ _ _ _=>E [(2,y4),(3,(0:Int))] .ret h):=vz
theorem zSp:Vy 35 zGc zO4 [(0,y0)] (λ_ h _ _ _ M S _=>M [(4,(zG ((zG (8*(Int.ofNat (List.length y0))))-1)))] zMr h (Kx (Wf zGc) zO3 0 S)):=vz
theorem z08:Vb 151 35 [.tmp 2,.tmp 3] zGc [a0] (λh Q K=>Br ((1048576:Int)<(Int.ofNat (List.length a0))) (Q (.tuple [(0:Int),(4:Int)]) h) (Br (a0=[]) (Q (.tuple [(0:Int),(22:Int)]) h) (∃a:Int,yC zB 9 a0 (zG ((Int.ofNat (List.length a0))-1))=some (.int .u8 a)/\Br (a=0) (Q (.tuple [(0:Int),(22:Int)]) h) (Gz zGc (Tb.leaf zC) [(2,(0:Int)),(3,(0:Int)),(0,a0)] λu=>Wf zGc zO4 ⟨35,u,[],h⟩ K)))):=vb
def z2F:Uf:=[2]
theorem z0d{a0:Int}:Vb 156 6 [.tmp 2] z2F [a0] (λh Q _=>Ri 153 [a0] h λa h1=>Q (zG (a+1)) h1):=vb
def z2K:Uf:=[2,3]
theorem z0s{a0:Int}:Vb 209 14 [.tmp 2,.tmp 3] z2K [a0] (λh Q _=>Ri 145 [(zG (a0+1))] h λa h1=>(h1.nx<=T.top/\h1.low<=T.top)/\∃b:Int,zj .shl .i64 1 a=some (b:V)/\Q (.tuple [a,(zG ((zG (b-1))-(zG (a0+1))))]) h1):=vb
def z2M:Uf:=[2,3]
theorem z0u:Vb 213 18 [.cell 2 120,.tmp 3] z2M [a0] (λh Q _=>Nw h [(.str []),(0:Int)] 121 λp0 h1=>Rf 273 [a0] h1 λv2 b=>∃c:Int,∃a:Int,v2=(.tuple [c,a])/\Br (a≠0) (∃e,zZ zB 120 b (.ptr p0 0) (.agg [(.str []),(0:Int)])=some e/\endL zB e [(.cell 2 120,(.ptr p0 0)),(.tmp 3,a)] Q) (∃f,zZ zB 120 b (.ptr p0 0) (.agg [a0,c])=some f/\endL zB f [(.cell 2 120,(.ptr p0 0)),(.tmp 3,(0:Int))] Q)):=vb
def zA4:Code:=pQ 217 15
def zBS:Uf:=[4,5,6,2,1]
theorem zTI{y2:V}:Vy 25 zBS zA4 [(6,y6),(2,y2),(1,y1)] (λ_ h _ E _ _ _ _=>Br (y6≠0) (E [(4,(0:Int)),(5,y6)] .ret h) (∃l0:Ua,∃a:Int,zo zB 112 h y2=some (.agg [l0,a])/\Ri 279 [(.agg [l0,a]),y1] h λb c=>E [(4,b),(5,(0:Int))] .ret c)):=vz
theorem z0y{a:Int}{b:Ua}:Vb 217 25 [.tmp 4,.tmp 5] zBS [(.agg [b,a]),a1] (λh _ K=>Nw h [b,a] 113 λp0 h1=>∃l2:Ua,∃f:Int,zo zB 112 h1 (.ptr p0 0)=some (.agg [l2,f])/\Ri 150 [(.agg [l2,f])] h1 λe c=>Br (e=0) (Br (a1<0) (Gz zBS (Tb.leaf zC) [(4,(0:Int)),(5,(0:Int)),(6,(2:Int)),(2,(.ptr p0 0)),(1,a1)] λu=>Wf zBS zA4 ⟨25,u,[],c⟩ K) (Br ((32:Int)<a1) (Gz zBS (Tb.leaf zC) [(4,(0:Int)),(5,(0:Int)),(6,(2:Int)),(2,(.ptr p0 0)),(1,a1)] λu=>Wf zBS zA4 ⟨25,u,[],c⟩ K) (Gz zBS (Tb.leaf zC) [(4,(0:Int)),(5,(0:Int)),(6,e),(2,(.ptr p0 0)),(1,a1)] λu=>Wf zBS zA4 ⟨25,u,[],c⟩ K))) (Gz zBS (Tb.leaf zC) [(4,(0:Int)),(5,(0:Int)),(6,e),(2,(.ptr p0 0)),(1,a1)] λu=>Wf zBS zA4 ⟨25,u,[],c⟩ K)):=vb
def z2Q:Uf:=[4]
theorem z1E{a0:Bool}:Vb 250 7 [.tmp 4] z2Q [a0,a1] (λh Q _=>wo a0 λu=>match u with|true=>Q a1 h|false=>Q (0:Int) h):=vb
def z2r:Array Oper:=YB (pQ 273 28)
def zOv:Code:=pQ 273 29
def zHd:Code:=pQ 273 15
def zJt:Uf:=[2,3,5,4]
theorem zTT:Vy 22 zJt zOv [(5,y5)] (λ_ h _ E _ _ _ _=>Br (y5≠0) (E [(2,(0:Int)),(3,y5)] .ret h) (E [] .normal h)):=vz
theorem zTU{y4:V}:Vy 22 zJt zHd [(4,y4)] (λ_ h _ E _ _ _ _=>∃l0:Ua,zo zB 298 h y4=some (.agg [l0])/\Ri 306 [(.agg [l0])] h λa b=>E [(2,a),(3,(0:Int))] .ret b):=vz
theorem z1L:Vb 273 22 [.tmp 2,.tmp 3] zJt [a0] (λh _ K=>Nw h [(.str [])] 299 λp0 h1=>∃a,zZ zB 298 h1 (.ptr p0 0) (.agg [a0])=some a/\wpDr Tryz.prog zB false z2r.toList ⟨22,(Tb.set (Tb.set (Tb.set (Tb.set (Tb.set (Tb.set (Tb.leaf zC) 0 a0) 2 (0:Int)) 3 (0:Int)) 6 a0) 7 (.agg [a0])) 4 (.ptr p0 0)),[],a⟩ (thenC (λs1=>Wf zJt zOv s1 (thenC (λs1=>Wf zJt zHd s1 K) K)) (thenC (λs1=>Wf zJt zHd s1 K) K))):=vb
def z2S:Uf:=[2]
theorem z1P{a0:Int}:Vb 277 6 [.tmp 2] z2S [a0] (λh Q _=>Br (a0<0) (Q (1:Int) h) (Q a0 h)):=vb
def zNL:Code:=pQ 279 116
def zOx:Code:=pQ 279 15
def zLm:Uf:=[4,6,1,2,5]
theorem zSQ{y2:V}:Vy 40 zLm zNL [(6,y6),(1,y1),(2,y2),(5,y5)] (λ_ h _ E _ _ _ _=>Br (y6<y1) (zP zB 112 1 h y2 λv0 h1=>Li h1 v0 λe=>zP zB 112 0 h1 y2 λv3 f=>Ls f v3 λj=>Br ((zG (e+y6))<(zG (8*(Int.ofNat (List.length j))))) (zP zB 112 0 f y2 λv6 g=>Ls g v6 λk=>(8:Int)≠0/\∃i:Int,yC zB 9 k (zG (Int.tdiv (zG (e+y6)) 8))=some (.int .u8 i)/\(8:Int)≠0/\∃a:Int,zj .shr .i64 (zG (i)) (zU .u64 ((Int.tmod (zG (e+y6)) 8)))=some (a:V)/\∃b:Int,zj .and .i64 a 1=some (b:V)/\∃c:Int,zj .shl .i64 b (zU .u64 (y6))=some (c:V)/\E [(6,(zG (y6+1))),(5,(zG (y5+c)))] .normal g) (E [(6,(zG (y6+1)))] .normal f)) (E [] (.exit 0) h)):=vz
theorem zT1:Vy 40 zLm zOx [(5,y5)] (λ_ h _ E _ _ _ _=>E [(4,y5)] .ret h):=vz
theorem z1R{a:Int}{b:Ua}:Vb 279 40 [.tmp 4] zLm [(.agg [b,a]),a1] (λh _ K=>Nw h [b,a] 113 λp0 h1=>Lz zLm 40 [(4,(0:Int)),(6,(0:Int)),(1,a1),(2,(.ptr p0 0)),(5,(0:Int))] zNL h1 (Kx (Wf zLm) zOx 0 K)):=vb
def zPB:Code:=pQ 306 7
def zQR:Uf:=[2,1]
theorem zT6{y1:V}:Vy 31 zQR zPB [(1,y1)] (λ_ h _ E _ _ _ _=>(h.nx<=T.top/\h.low<=T.top)/\zP zB 298 0 h y1 λv0 h1=>Ls h1 v0 λl2=>zP zB 298 0 h1 y1 λv3 f=>Ls f v3 λi=>zP zB 298 0 f y1 λv6 c=>Ls c v6 λj=>∃g:Int,yC zB 9 i (zG ((Int.ofNat (List.length j))-1))=some (.int .u8 g)/\Ri 322 [(.int .u8 g)] (zX c) λe a=>(c.nx<=a.low/\a.nx<=T.top)/\∀b,b=yN c a->E [(2,(zG ((zG ((zG (8*(zG ((Int.ofNat (List.length l2))-1))))+e))-1)))] .ret b):=vz
theorem z1Y{a:Ua}:Vb 306 31 [.tmp 2] zQR [(.agg [a])] (λh Q K=>Nw h [a] 299 λp0 h1=>Ls h1 (.ptr p0 (0+0)) λl2=>Br (l2=[]) (Q (dd ((-1))) h1) (Ls h1 (.ptr p0 (0+0)) λc=>Ls h1 (.ptr p0 (0+0)) λe=>∃b:Int,yC zB 9 c (zG ((Int.ofNat (List.length e))-1))=some (.int .u8 b)/\Br (b=0) (Q (dd ((-1))) h1) (Gz zQR (Tb.leaf zC) [(2,(0:Int)),(1,(.ptr p0 0))] λu=>Wf zQR zPB ⟨31,u,[],h1⟩ K))):=vb
def z23:Uf:=[4]
theorem z18{a:Ua}:Vb 325 16 [.tmp 4] z23 [(.agg [a]),a1] (λh Q _=>Nw h [a] 299 λp0 h1=>Ls h1 (.ptr p0 (0+0)) λl2=>(8:Int)≠0/\∃b:Int,yC zB 9 l2 (zG (Int.tdiv a1 8))=some (.int .u8 b)/\(8:Int)≠0/\∃c:Int,zj .shr .u64 (zU .u64 (b)) (zU .u64 ((Int.tmod a1 8)))=some (.int .u64 c)/\∃e:Int,zj .and .u64 c 1=some (.int .u64 e)/\Q (.int .u64 e) h1):=vb
def zF9:Code:=pQ 11 13
def zFa:Code:=pQ 11 7
def L11:Uf:=[4,5,6,20,1,0]
theorem zPw{a:Bool}{y6:V}:Vy 88 L11 zF9 [(20,a),(6,y6)] (λ_ h _ E _ _ _ _=>wo a λu=>match u with|true=>∃h0,zZ zB 26 h y6 (.agg [(2:Int),(0:Int)])=some h0/\(E [(4,.nilslice),(5,(0:Int))] .ret h0)|false=>E [] .normal h):=vz
theorem zXL{y6:V}:Vy 88 L11 zFa [(1,y1),(0,y0),(6,y6)] (λ_ h _ E _ _ _ _=>Br (y1=(Int.ofNat (List.length y0))) (∃h0,zZ zB 26 h y6 (.agg [(5:Int),y1])=some h0/\E [(4,.nilslice),(5,(0:Int))] .ret h0) (∃K:Int,yC zB 9 y0 y1=some (.int .u8 K)/\Br ((128:Int)<=K) (Rf 42 [y0,y1] h λv2 R=>∃v4,∃L:Int,∃N:Int,∃O:Int,v2=(.tuple [v4,L,(.agg [N,O])])/\∃P,zZ zB 26 R y6 (.agg [N,O])=some P/\E [(4,v4),(5,L)] .ret P) (∃i:Int,yC zB 9 y0 y1=some (.int .u8 i)/\Br ((Int.ofNat (List.length y0))<(zG ((zG (y1+1))+(zG (i))))) (∃j,zZ zB 26 h y6 (.agg [(5:Int),(dd (Int.ofNat (List.length y0)))])=some j/\E [(4,.nilslice),(5,(0:Int))] .ret j) (∃k:Ua,zy zB 9 h y0 none (some (dd (zG ((zG (y1+1))+(zG (i)))))) none=some (.str k)/\Rf 43 [k,(zG (y1+1)),(6:Int),(12:Int)] h λC D=>∃l:Int,∃m,∃b:Int,∃n:Int,∃o:Int,C=(.tuple [(.agg [l,m]),b,(.agg [n,o])])/\Nw D [(0:Int),.nilslice] 60 λp G=>Nw G [(0:Int),(0:Int)] 27 λc H=>∃q,zZ zB 59 H (.ptr p 0) (.agg [l,m])=some q/\∃a,zZ zB 26 q (.ptr c 0) (.agg [n,o])=some a/\∃r:Int,zo zB 24 a (.ptr c (0+0))=some (r:V)/\Br (r≠0) ((a.nx<=T.top/\a.low<=T.top)/\∃s:Int,∃t:Int,zo zB 26 a (.ptr c 0)=some (.agg [s,t])/\∃u,zZ zB 26 a y6 (.agg [s,t])=some u/\E [(4,.nilslice),(5,(0:Int))] .ret u) ((a.nx<=T.top/\a.low<=T.top)/\∃v:Int,∃v30,zo zB 59 a (.ptr p 0)=some (.agg [v,v30])/\∃w:Ua,zy zB 9 a y0 (some (b:V)) (some (dd (zG ((zG (y1+1))+(zG (i)))))) none=some (.str w)/\Rf 44 [(.agg [v,v30]),w] (zX a) λI x=>∃e,∃f:Int,I=(.tuple [e,f])/\x.nx<=T.top/\∀g,g=yN a x->Br (f≠0) (∃y,zZ zB 26 g y6 (.agg [f,b])=some y/\E [(4,.nilslice),(5,(0:Int))] .ret y) (Ri 45 [e] g λJ z=>Br (J≠0) (∃A,zZ zB 26 z y6 (.agg [(21:Int),y1])=some A/\E [(4,.nilslice),(5,(0:Int))] .ret A) (∃B,zZ zB 26 z y6 (.agg [(0:Int),(0:Int)])=some B/\E [(4,e),(5,(zG ((zG (y1+1))+(zG (i)))))] .ret B))))))):=vz
theorem z3l:Vb 11 88 [.tmp 4,.tmp 5,.cell 6 26] L11 [a0,a1] (λh _ K=>Nw h [(0:Int),(0:Int)] 27 λp0 h1=>Br (a1<0) (Gz L11 (Tb.leaf zC) [(4,.nilslice),(5,(0:Int)),(6,(.ptr p0 0)),(20,true),(1,a1),(0,a0)] λu=>Wf L11 zF9 ⟨88,u,[],h1⟩ (thenC (sealK L11 λs1=>Wf L11 zFa s1 K) K)) (Br ((Int.ofNat (List.length a0))<a1) (Gz L11 (Tb.leaf zC) [(4,.nilslice),(5,(0:Int)),(6,(.ptr p0 0)),(20,true),(1,a1),(0,a0)] λu=>Wf L11 zF9 ⟨88,u,[],h1⟩ (thenC (sealK L11 λs1=>Wf L11 zFa s1 K) K)) (Gz L11 (Tb.leaf zC) [(4,.nilslice),(5,(0:Int)),(6,(.ptr p0 0)),(20,false),(1,a1),(0,a0)] λu=>Wf L11 zF9 ⟨88,u,[],h1⟩ (thenC (sealK L11 λs1=>Wf L11 zFa s1 K) K)))):=vb
def zUO:Code:=pQ 44 2036
def z5H:Array Oper:=YB (pQ 44 1047071)
def zUi:Code:=pQ 44 16361
def zN0:Code:=pQ 44 8180
def zUj:Code:=pQ 44 2047
def zUk:Code:=pQ 44 1023
def zUl:Code:=pQ 44 255
def L44:Uf:=[4,5,12,7,2,11,17,16,9]
theorem zWt{y12:Int}{y7 y2 b:V}:Vy 116 L44 zUO [(12,y12),(7,y7),(2,y2),(11,b)] (λ_ h _ E _ _ _ _=>Br (y12<2) (∃l0:Ua,∃n:Int,zo zB 120 h y7=some (.agg [l0,n])/\zP zB 59 0 h y2 λv2 o=>Li o v2 λs=>Rf 89 [(.agg [l0,n]),s] o λt u=>∃p:Ua,∃q:Int,∃r:Int,∃c:Int,t=(.tuple [(.agg [p,q]),(.int .u64 r),c])/\Nw u [(.str []),(0:Int)] 121 λe m=>∃a,zZ zB 120 m (.ptr e 0) (.agg [p,q])=some a/\Br (c≠0) (E [(4,.nilslice),(5,(21:Int))] .ret a) (∃f:Ua,∃g:Int,zo zB 120 a (.ptr e 0)=some (.agg [f,g])/\∃i,zZ zB 120 a y7 (.agg [f,g])=some i/\∃j k,yo zB 126 b y12=some (.ptr j k)/\∃l,zZ zB 3 i (.ptr j k) (zG (r))=some l/\E [(12,(zG (y12+1)))] .normal l)) (E [] (.exit 0) h)):=vz
theorem zXf{y17:Int}:Vy 116 L44 zUi [(17,y17)] (λ_ h _ E _ _ _ _=>E [(17,(zG (1-y17)))] .normal h):=vz
theorem zWu{y17:Int}{y16 p a y7:V}:Wf L44 zN0 ⟨116,(zW tm [(16,y16),(9,p),(17,y17),(11,a),(7,y7)]),d,h⟩ (zp L44 Q)=(Ln 23 h y16 λJ=>Br (J=255) (Gz L44 tm [(4,.nilslice),(5,(21:Int)),(7,y7),(11,a),(17,y17),(16,y16),(9,p)] λu=>Q .ret ⟨116,u,d,h⟩) (∃z A,yo zB 126 a y17=some (.ptr z A)/\Li h (.ptr z A) λK=>∃p4 B,yo zB 123 p K=some (.ptr p4 B)/\∃C:Int,∃D:Int,∃E:Int,zo zB 131 h (.ptr p4 B)=some (.agg [C,D,E])/\Nw h [(0:Int),(0:Int),(0:Int)] 132 λp9 F=>∃k,zZ zB 131 F (.ptr p9 0) (.agg [C,D,E])=some k/\Li k (.ptr p9 (0+0)) λq=>∃l r,zJ zB 23 1 [(0,q)] k=some (l,r)/\True/\∃j m,zn zB 23 r y16 l=some (j,m)/\Li m (.ptr p9 (0+1)) λs=>zP zB 120 1 m y7 λt b=>Li b t λv=>Br (v<s) (Gz L44 tm [(7,y7),(11,a),(17,y17),(16,j),(9,p)] λu=>Q (.exit 2) ⟨116,u,d,b⟩) (∃n:Ua,∃o:Int,zo zB 120 b y7=some (.agg [n,o])/\Li b (.ptr p9 (0+1)) λw=>Rf 89 [(.agg [n,o]),w] b λG H=>∃c:Ua,∃f:Int,∃g:Int,∃i:Int,G=(.tuple [(.agg [c,f]),(.int .u64 g),i])/\Nw H [(.str []),(0:Int)] 121 λx I=>∃y,zZ zB 120 I (.ptr x 0) (.agg [c,f])=some y/\wpDr Tryz.prog zB false z5H.toList ⟨116,(Tb.set (Tb.set (Tb.set (Tb.set (Tb.set (Tb.set (Tb.set (Tb.set (Tb.set (Tb.set (Tb.set (Tb.set (Tb.set (Tb.set (Tb.set (Tb.set (Tb.set (Tb.set (Tb.set (Tb.set (Tb.set (Tb.set (Tb.set (Tb.set (Tb.set (Tb.set (Tb.set (Tb.set (Tb.set (Tb.set (Tb.set (Tb.set (zW tm [(16,y16),(9,p),(17,y17),(11,a),(7,y7)]) 61 y16) 62 J) 63 false) 64 p) 65 y17) 66 (.ptr z A)) 67 K) 68 (.ptr p4 B)) 69 (.agg [C,D,E])) 18 (.ptr p9 0)) 70 y16) 71 (.ptr p9 (0+0))) 72 q) 73 l) 74 j) 16 j) 75 (.ptr p9 (0+1))) 76 s) 77 t) 78 v) 79 false) 81 (.agg [n,o])) 82 (.ptr p9 (0+1))) 83 w) 84 (.tuple [(.agg [c,f]),(.int .u64 g),i])) 80 (.tuple [(.agg [c,f]),(.int .u64 g),i])) 85 (.agg [c,f])) 86 (.int .u64 g)) 87 i) 19 (.ptr x 0)) 20 (.int .u64 g)) 21 i),d,y⟩ λe s1=>(thenC (λs1=>Wf L44 zUi s1 (zp L44 Q)) (zp L44 Q)) (exitB 3 e) s1))):=da
theorem zXg{y16 c a:V}:Vy 116 L44 zUj [(16,y16),(9,c),(11,a)] (λ_ h _ E _ _ _ _=>Ln 23 h y16 λj=>(2:Int)≠0/\Rq 126 3 h a (dd (Int.tmod j 2)) λk=>∃p4 e,yo zB 123 c k=some (.ptr p4 e)/\Li h (.ptr p4 (e+0)) λl=>∃f g,zJ zB 23 1 [(0,l)] h=some (f,g)/\True/\∃i b,zn zB 23 g y16 f=some (i,b)/\E [(4,i),(5,(0:Int))] .ret b):=vz
theorem zXh{y16 y7:V}:Vy 116 L44 zUk [(16,y16),(7,y7)] (λ_ h _ E F _ _ _=>Ln 23 h y16 λb=>Br (b=255) (E [(4,.nilslice),(5,(21:Int))] .ret h) (zP zB 120 1 h y7 λv1 a=>Li a v1 λc=>Br ((0:Int)<c) (E [(4,.nilslice),(5,(21:Int))] .ret a) (F [] zUj a))):=vz
theorem zXi :Vy 116 L44 zUl [] (λ_ h _ _ _ M S _=>M [(17,(0:Int)),(16,.nilslice)] zN0 h (Kx (Wf L44) zUk 2 S)):=vz
theorem z3x{a:Int}{a1:Ua}{b:V}:Vb 44 116 [.tmp 4,.tmp 5] L44 [(.agg [a,b]),a1] (λh Q K=>ZN (cond (za (V.cells (.agg [a,b]))) (Cs.ofL (V.cells (.agg [a,b]))) none) λl=>h.nx<T.top/\∀p0 h1,p0=h.nx->h1=h.new (.cells l ⟨0,60,0⟩ true false)->∃s:Int,∃v4,zo zB 59 h1 (.ptr p0 0)=some (.agg [s,v4])/\Ri 86 [(.agg [s,v4])] h1 λt u=>Br (t≠0) (Q (.tuple [.nilslice,t]) u) (Rf 87 [a1] u λv8 v=>∃f:Ua,∃g:Int,∃e:Int,v8=(.tuple [(.agg [f,g]),e])/\Nw v [(.str []),(0:Int)] 121 λi m=>∃c,zZ zB 120 m (.ptr i 0) (.agg [f,g])=some c/\Br (e≠0) (Q (.tuple [.nilslice,e]) c) (∃j:Int,∃k,zo zB 59 c (.ptr p0 0)=some (.agg [j,k])/\Rf 88 [(.agg [j,k])] c λn o=>∃v20,∃p:Int,n=(.tuple [v20,p])/\Nw o [(0:Int),(0:Int)] 127 λq r=>Lz L44 116 [(4,.nilslice),(5,(0:Int)),(12,(0:Int)),(7,(.ptr i 0)),(2,(.ptr p0 0)),(11,(.ptr q 0)),(9,v20)] zUO r (Kx (Wf L44) zUl 0 K)))):=vb
def zJ0:Code:=pQ 84 1859477
def zJ1:Code:=pQ 84 929739
def zIr:Code:=pQ 84 58108
def zUw:Code:=pQ 84 113
def zUU:Code:=pQ 84 56
def zUx:Code:=pQ 84 15
def J2:Uf:=[6,62,0,7,10,9,2,1]
theorem zIM{a:Bool}{y0:V}:Vy 77 J2 zJ0 [(62,a),(0,y0)] (λ_ h _ E _ _ _ _=>wo a λu=>match u with|true=>Nc h y0 (λv0 h1=>zP zB 114 1 h1 v0 (λv2 c=>∃b,zZ zB 24 c v2 (23:Int)=some b/\E [] .normal b) )| false=>E [] .normal h):=vz
theorem zIN{a:Int}{y0 y7:V}:Vy 77 J2 zJ1 [(0,y0),(7,y7),(10,a)] (λ_ h _ E _ _ _ _=>Nc h y0 λv0 h1=>zP zB 114 1 h1 v0 λv2 b=>∃e:Int,zo zB 24 b v2=some (e:V)/\Br (e≠0) (E [(6,.nilslice)] .ret b) (Rf 149 [y7,a,(0:Int)] b λg f=>∃c,g=c/\Br (a=3) (E [(7,c),(9,true)] .normal f) (E [(7,c),(9,false)] .normal f))):=vz
theorem zPu{c:Bool}{y0 y7:V}:Vy 77 J2 zIr [(9,c),(0,y0),(7,y7),(2,y2)] (λd h _ E _ _ S tm=>wo c λu=>match u with|true=>Ri 83 [y0,(2:Int)] h (λb h1=>Nc h1 y0 λv3 g=>zP zB 114 1 g v3 λi a=>∃f:Int,zo zB 24 a i=some (f:V)/\Br (f=0) (Ln 23 a y7 λj=>Br (y2<(zG (j+b))) (Gz J2 tm [(62,true),(10,b)] λu=>Wf J2 zJ0 ⟨77,u,d,a⟩ (thenC (sealK J2 λs1=>Wf J2 zJ1 s1 λe s1=>S (exitB 3 e) s1) λe s1=>S (exitB 3 e) s1)) (Gz J2 tm [(62,false),(10,b)] λu=>Wf J2 zJ0 ⟨77,u,d,a⟩ (thenC (sealK J2 λs1=>Wf J2 zJ1 s1 λe s1=>S (exitB 3 e) s1) λe s1=>S (exitB 3 e) s1))) (Gz J2 tm [(62,false),(10,b)] λu=>Wf J2 zJ0 ⟨77,u,d,a⟩ (thenC (sealK J2 λs1=>Wf J2 zJ1 s1 λe s1=>S (exitB 3 e) s1) λe s1=>S (exitB 3 e) s1)))|false=>E [] (.exit 2) h):=vz
theorem zXu{y0 y7:V}:Vy 77 J2 zUw [(0,y0),(1,y1),(7,y7),(2,y2)] (λ_ h _ E _ M S _=>Ri 147 [y0,y1] h λn h1=>Nc h1 y0 λv3 r=>zP zB 114 1 r v3 λs b=>∃q:Int,zo zB 24 b s=some (q:V)/\Br (q≠0) (E [(6,.nilslice)] .ret b) (Ln 23 b y7 λt=>Br (t=y2) (Nc b y0 λu o=>zP zB 114 1 o u λv11 p=>∃c,zZ zB 24 p v11 (23:Int)=some c/\E [(6,.nilslice)] .ret c) (∃f g,zJ zB 23 1 [(0,(zG (n-1)))] b=some (f,g)/\True/\∃a i,zn zB 23 g y7 f=some (a,i)/\∃j k,zJ zB 23 1 [(0,(zG (n-1)))] i=some (j,k)/\Ri 148 [j] k λl m=>Br ((zG (n-1))=0) (M [(7,a),(9,true),(1,(zG (y1-l)))] zIr m λe s1=>(λe s1=>S (exitB 1 e) s1) (exitB 2 e) s1) (M [(7,a),(9,false),(1,(zG (y1-l)))] zIr m λe s1=>(λe s1=>S (exitB 1 e) s1) (exitB 2 e) s1)))):=vz
theorem zXC{y0:V}:Vy 77 J2 zUU [(1,y1),(0,y0)] (λ_ h _ E F _ _ _=>Br ((0:Int)<y1) (Nc h y0 λv0 h1=>zP zB 114 1 h1 v0 λv2 a=>∃b:Int,zo zB 24 a v2=some (b:V)/\Br (b=0) (F [] zUw a) (E [] (.exit 0) a)) (E [] (.exit 0) h)):=vz
theorem zXv{y7:V}:Vy 77 J2 zUx [(7,y7)] (λ_ h _ E _ _ _ _=>E [(6,y7)] .ret h):=vz
theorem z4V{a2:Int}{a0:V}:Vb 84 77 [.tmp 6] J2 [a0,a1,a2] (λh _ K=>Lz J2 77 [(6,.nilslice),(0,a0),(7,.nilslice),(2,a2),(1,a1)] zUU h (Kx (Wf J2) zUx 0 K)):=vb
def L92:Uf:=[2,3,4]
theorem z43{a0:V}:Vb 92 20 [.tmp 2,.tmp 3,.tmp 4] L92 [a0] (λh Q _=>Ri 45 [a0] h λa h1=>Br (a≠0) (Q (.tuple [(0:Int),(0:Int),a]) h1) (Rf 90 [a0] h1 λv3 e=>∃b:Int,∃c:Int,v3=(.tuple [b,c])/\Q (.tuple [b,c,(0:Int)]) e)):=vb
def z1z:Uf:=[2,3]
theorem z0W{a:Int}{b:Ua}:Vb 139 14 [.tmp 2,.tmp 3] z1z [(.agg [b,a])] (λh Q _=>Nw h [b,a] 113 λp0 h1=>∃l2:Ua,∃e:Int,zo zB 112 h1 (.ptr p0 0)=some (.agg [l2,e])/\Ri 212 [(.agg [l2,e])] h1 λf c=>Br (f≠0) (Q (.tuple [(0:Int),f]) c) (Li c (.ptr p0 (0+1)) λg=>(8:Int)≠0/\Q (.tuple [(zG (Int.tdiv (zG (g+7)) 8)),(0:Int)]) c)):=vb
def z2B:Uf:=[4,5]
theorem z0Y{a0:V}:Vb 141 27 [.tmp 4,.tmp 5] z2B [a0,a1] (λh Q _=>Nc h a0 λv0 h1=>zP zB 195 0 h1 v0 λv2 n=>∃o:Ua,∃p:Int,zo zB 120 n v2=some (.agg [o,p])/\Rf 215 [(.agg [o,p]),a1] n λv6 s=>∃q:Ua,∃r:Int,∃b:Int,∃c:Int,v6=(.tuple [(.agg [q,r]),(.int .u64 b),c])/\Nw s [(.str []),(0:Int)] 121 λp12 i=>∃a,zZ zB 120 i (.ptr p12 0) (.agg [q,r])=some a/\Br (c≠0) (Q (.tuple [(0:Int),false]) a) (∃e:Ua,∃f:Int,zo zB 120 a (.ptr p12 0)=some (.agg [e,f])/\Nc a a0 λj k=>zP zB 195 0 k j λl m=>∃g,zZ zB 120 m l (.agg [e,f])=some g/\Q (.tuple [(zG (b)),true]) g)):=vb
def z2D:Uf:=[2]
theorem z02{a0:Int}:Vb 145 6 [.tmp 2] z2D [a0] (λh Q _=>Ri 216 [a0] h λa h1=>Q (zG (a+1)) h1):=vb
def zO0:Code:=pQ 147 127
def zQO:Uf:=[4,0,7,5,6]
theorem zSl{y0 y7:V}:Vy 56 zQO zO0 [(0,y0),(7,y7),(5,y5),(6,y6)] (λ_ h _ E _ _ _ _=>∃l0:Ua,∃c:Int,zo zB 112 h y7=some (.agg [l0,c])/\Nc h y0 λv2 g=>zP zB 114 0 g v2 λv4 i=>∃e,zZ zB 112 i v4 (.agg [l0,c])=some e/\Ri 83 [y0,y5] e λb f=>∃a:Int,zj .shl .i64 1 (zU .u64 ((zG (y5-1))))=some (a:V)/\Br (a<=b) (E [(4,(zG (b-y6)))] .ret f) (E [(4,b)] .ret f)):=vz
theorem z04{a0:V}:Vb 147 56 [.tmp 4] zQO [a0,a1] (λh Q K=>Ri 156 [(zG (a1+1))] h λg h1=>∃i:Int,zj .shl .i64 1 (zU .u64 (g))=some (i:V)/\Nc h1 a0 λv4 r=>zP zB 114 0 r v4 λv6 o=>∃p:Ua,∃q:Int,zo zB 112 o v6=some (.agg [p,q])/\Nw o [(.str []),(0:Int)] 113 λc j=>∃e,zZ zB 112 j (.ptr c 0) (.agg [p,q])=some e/\Ri 83 [a0,(zG (g-1))] e λb k=>Nc k a0 λl m=>zP zB 114 1 m l λn a=>∃f:Int,zo zB 24 a n=some (f:V)/\Br (f≠0) (Q b a) (Br (b<(zG ((zG (i-1))-(zG (a1+1))))) (Q b a) (Gz zQO (Tb.leaf zC) [(4,(0:Int)),(0,a0),(7,(.ptr c 0)),(5,g),(6,(zG ((zG (i-1))-(zG (a1+1)))))] λu=>Wf zQO zO0 ⟨56,u,[],a⟩ K))):=vb
def zMv:Code:=pQ 153 56
def zO9:Code:=pQ 153 15
def zLd:Uf:=[2,0,3]
theorem zRx{y0:Int}:Vy 11 zLd zMv [(0,y0),(3,y3)] (λ_ h _ E _ _ _ _=>Br ((0:Int)<y0) ((2:Int)≠0/\E [(0,(zG (Int.tdiv y0 2))),(3,(zG (y3+1)))] .normal h) (E [] (.exit 0) h)):=vz
theorem zSu:Vy 11 zLd zO9 [(3,y3)] (λ_ h _ E _ _ _ _=>E [(2,y3)] .ret h):=vz
theorem z0a{a0:Int}:Vb 153 11 [.tmp 2] zLd [a0] (λh _ K=>Lz zLd 11 [(2,(0:Int)),(0,a0),(3,(dd ((-1))))] zMv h (Kx (Wf zLd) zO9 0 K)):=vb
def zMw:Code:=pQ 155 244
def zOa:Code:=pQ 155 31
def zLe:Uf:=[4,5,8,1,7,2]
theorem zRy{y2:V}:Vy 44 zLe zMw [(8,y8),(1,y1),(7,(.int .u64 y7)),(2,y2)] (λ_ h _ E _ _ _ _=>Br (y8<y1) (∃a:Int,zj .shl .u64 y7 1=some (.int .u64 a)/\zP zB 120 1 h y2 λv1 b=>Li b v1 λc=>Br ((0:Int)<=(zG ((zG (c-1))-y8))) (zP zB 120 0 b y2 λv4 e=>Ls e v4 λl6=>(8:Int)≠0/\∃f:Int,yC zB 9 l6 (zG (Int.tdiv (zG ((zG (c-1))-y8)) 8))=some (.int .u8 f)/\(8:Int)≠0/\∃g:Int,zj .shr .u8 f (zU .u64 ((Int.tmod (zG ((zG (c-1))-y8)) 8)))=some (.int .u8 g)/\∃i:Int,zj .and .u8 g 1=some (.int .u8 i)/\E [(8,(zG (y8+1))),(7,(.int .u64 (zU .u64 (a+(zU .u64 (i))))))] .normal e) (E [(8,(zG (y8+1))),(7,(.int .u64 a))] .normal b)) (E [] (.exit 0) h)):=vz
theorem zSv:Vy 44 zLe zOa [(7,(.int .u64 y7))] (λ_ h _ E _ _ _ _=>E [(4,(.int .u64 y7)),(5,(0:Int))] .ret h):=vz
theorem z0c{a:Int}{b:Ua}:Vb 155 44 [.tmp 4,.tmp 5] zLe [(.agg [b,a]),a1] (λh Q K=>Nw h [b,a] 121 λp0 h1=>∃l2:Ua,∃c:Int,zo zB 120 h1 (.ptr p0 0)=some (.agg [l2,c])/\Ri 219 [(.agg [l2,c]),a1] h1 λe f=>Br (e≠0) (Q (.tuple [(.int .u64 0),e]) f) (Lz zLe 44 [(4,(.int .u64 0)),(5,(0:Int)),(8,(0:Int)),(1,a1),(7,(.int .u64 0)),(2,(.ptr p0 0))] zMw f (Kx (Wf zLe) zOa 0 K))):=vb
def zNC:Code:=pQ 216 116
def zOj:Code:=pQ 216 15
def zLi:Uf:=[2,5,0,3]
theorem zSF{y0:Int}:Vy 15 zLi zNC [(5,y5),(0,y0)] (λ_ h _ E _ _ _ _=>Br (y5<63) (∃a:Int,zj .shr .i64 y0 y5=some (a:V)/\Br ((0:Int)<a) (E [(5,(zG (y5+1))),(3,y5)] .normal h) (E [(5,(zG (y5+1)))] .normal h)) (E [] (.exit 0) h)):=vz
theorem zTH:Vy 15 zLi zOj [(3,y3)] (λ_ h _ E _ _ _ _=>E [(2,y3)] .ret h):=vz
theorem z0x{a0:Int}:Vb 216 15 [.tmp 2] zLi [a0] (λh _ K=>Lz zLi 15 [(2,(0:Int)),(5,(0:Int)),(0,a0),(3,(dd ((-1))))] zNC h (Kx (Wf zLi) zOj 0 K)):=vb
def z2P:Uf:=[4]
theorem z1A{a:Int}{b:Ua}:Vb 219 19 [.tmp 4] z2P [(.agg [b,a]),a1] (λh Q _=>Nw h [b,a] 121 λp0 h1=>∃l2:Ua,∃f:Int,zo zB 120 h1 (.ptr p0 0)=some (.agg [l2,f])/\Ri 280 [(.agg [l2,f])] h1 λe c=>Br (e=0) (Br (a1<0) (Q (2:Int) c) (Br ((32:Int)<a1) (Q (2:Int) c) (Q e c))) (Q e c)):=vb
def zDc:Code:=pQ 272 15
def zEJ:Uf:=[4,5,6,7,2,1]
theorem zJp{y4 y2:V}:Vy 39 zEJ zDc [(7,y7),(4,y4),(2,y2),(1,y1)] (λ_ h _ E _ _ _ _=>Br (y7≠0) (∃h0,zZ zB 112 h y4 (.agg [(.str []),(0:Int)])=some h0/\E [(5,(0:Int)),(6,y7)] .ret h0) (∃g:Ua,∃i:Int,zo zB 112 h y2=some (.agg [g,i])/\Ri 304 [(.agg [g,i]),y1] h λk l=>zP zB 112 1 l y2 λv6 j=>Li j v6 λm=>zP zB 112 1 j y2 λn f=>∃a,zZ zB 3 f n (zG (m+y1))=some a/\∃b:Ua,∃c:Int,zo zB 112 a y2=some (.agg [b,c])/\∃e,zZ zB 112 a y4 (.agg [b,c])=some e/\E [(5,k),(6,(0:Int))] .ret e)):=vz
theorem z1K{a:Int}{b:Ua}:Vb 272 39 [.cell 4 112,.tmp 5,.tmp 6] zEJ [(.agg [b,a]),a1] (λh _ K=>Nw h [b,a] 113 λp0 h1=>Nw h1 [(.str []),(0:Int)] 113 λe i=>∃j:Ua,∃k:Int,zo zB 112 i (.ptr p0 0)=some (.agg [j,k])/\Ri 303 [(.agg [j,k]),a1] i λf c=>Br (f=0) (Ls c (.ptr p0 (0+0)) λl9=>Li c (.ptr p0 (0+1)) λg=>Br ((zG ((zG (8*(Int.ofNat (List.length l9))))-g))<a1) (Gz zEJ (Tb.leaf zC) [(4,(.ptr e 0)),(5,(0:Int)),(6,(0:Int)),(7,(5:Int)),(2,(.ptr p0 0)),(1,a1)] λu=>Wf zEJ zDc ⟨39,u,[],c⟩ K) (Gz zEJ (Tb.leaf zC) [(4,(.ptr e 0)),(5,(0:Int)),(6,(0:Int)),(7,f),(2,(.ptr p0 0)),(1,a1)] λu=>Wf zEJ zDc ⟨39,u,[],c⟩ K)) (Gz zEJ (Tb.leaf zC) [(4,(.ptr e 0)),(5,(0:Int)),(6,(0:Int)),(7,f),(2,(.ptr p0 0)),(1,a1)] λu=>Wf zEJ zDc ⟨39,u,[],c⟩ K)):=vb
def z2T:Uf:=[2]
theorem z1S{a:Int}{b:Ua}:Vb 280 24 [.tmp 2] z2T [(.agg [b,a])] (λh Q _=>Nw h [b,a] 121 λp0 h1=>Ls h1 (.ptr p0 (0+0)) λl2=>Rf 151 [l2] h1 λv3 c=>∃e:Int,∃f:Int,v3=(.tuple [e,f])/\Br (f≠0) (Q (10:Int) c) (Li c (.ptr p0 (0+1)) λg=>Br (g<0) (Q (10:Int) c) (Li c (.ptr p0 (0+1)) λi=>Br (e<i) (Q (10:Int) c) (Q (0:Int) c)))):=vb
def z2V:Uf:=[4]
theorem z1V{a:Int}{b:Ua}:Vb 303 19 [.tmp 4] z2V [(.agg [b,a]),a1] (λh Q _=>Nw h [b,a] 113 λp0 h1=>∃l2:Ua,∃f:Int,zo zB 112 h1 (.ptr p0 0)=some (.agg [l2,f])/\Ri 212 [(.agg [l2,f])] h1 λe c=>Br (e=0) (Br (a1<0) (Q (2:Int) c) (Br ((32:Int)<a1) (Q (2:Int) c) (Q e c))) (Q e c)):=vb
def z2W:Uf:=[2]
theorem z1X{a:Ua}:Vb 305 7 [.tmp 2] z2W [(.agg [a])] (λh Q _=>Nw h [a] 299 λp0 h1=>Ls h1 (.ptr p0 (0+0)) λl2=>Br ((1048576:Int)<(Int.ofNat (List.length l2))) (Q true h1) (Q false h1)):=vb
def zNP:Code:=pQ 309 116
def zPD:Code:=pQ 309 15
def zLo:Uf:=[4,9,8,5,0]
theorem zSU{a:Int}{y0:V}:Vy 33 zLo zNP [(9,a),(8,y8),(5,(.int .u64 y5)),(0,y0)] (λ_ h _ E _ _ _ _=>Br (a<y8) (∃f:Int,zj .shl .u64 y5 1=some (.int .u64 f)/\Nc h y0 λv1 l=>zP zB 360 1 l v1 λv3 g=>Li g v3 λj=>Br ((0:Int)<=(zG ((zG (j-1))-a))) (Nc g y0 λv6 m=>zP zB 360 0 m v6 λv8 k=>∃b:Ua,zo zB 298 k v8=some (.agg [b])/\Rf 325 [(.agg [b]),(zG ((zG (j-1))-a))] k λv11 i=>∃c:Int,v11=(.int .u64 c)/\∃e:Int,zj .or .u64 f c=some (.int .u64 e)/\E [(9,(zG (a+1))),(5,(.int .u64 e))] .normal i) (E [(9,(zG (a+1))),(5,(.int .u64 f))] .normal g)) (E [] (.exit 0) h)):=vz
theorem zT8:Vy 33 zLo zPD [(5,(.int .u64 y5))] (λ_ h _ E _ _ _ _=>E [(4,(.int .u64 y5))] .ret h):=vz
theorem z11{a0:V}:Vb 309 33 [.tmp 4] zLo [a0,a1] (λh _ K=>Lz zLo 33 [(4,(.int .u64 0)),(9,(0:Int)),(8,a1),(5,(.int .u64 0)),(0,a0)] zNP h (Kx (Wf zLo) zPD 0 K)):=vb
end Go.Proofs.YtnpeieeomokomaaGreat
