/- CD. No condition. -/
import Derived.Test.YtnpeieeomokomaaGreatZCtx
import Derived.Test.YtnpeieeomokomaaGreatZCT
import Derived.Test.YtnpeieeomokomaaGreatZV
import Derived.Test.YtnpeieeomokomaaGreatZY
noncomputable section
namespace Go.Proofs.YtnpeieeomokomaaGreat
open Go.Sim
noncomputable def b12:Code:=zJ Tryz.f12
def zTl:Code:=zd b12 [1,1,0,1,0,0]
def zUB:Code:=zd b12 [1,1,1]
theorem z4Y:(zA.fn.get 12).map zR=some ⟨26,[.tmp 4],b12⟩:=by kernel_rfl
def L12:List Nat:=[4,5,0,1]
abbrev W12 (b:Bool):Code->St->(AX->St->Prop)->Prop:=wpS Tryz.prog zA L12 4 b
variable {tm:Tm}{d:List AD}{h:H}{Q:AX->St->Prop}
theorem zWq {y5:Int}{y0 y1:V}:W12 false zTl ⟨26,(zE tm [(5,y5),(0,y0),(1,y1)]),d,h⟩ (zD L12 Q)=(∃x0:Int,zc zA 23 h y0=some (x0:V)/\(y5<x0->(h.next<=T.top/\h.low<=T.top)/\∃p1 o2,zV zA 23 y0 y5=some (.ptr p1 o2)/\∃x3:Int,zO zA 3 h (.ptr p1 o2)=some (x3:V)/\∃p4 o5,zV zA 23 y1 y5=some (.ptr p4 o5)/\∃x6:Int,zO zA 3 h (.ptr p4 o5)=some (x6:V)/\(x3≠x6->∀u,zB tm u [ss 4 false,ss 5 y5,ss 0 y0,ss 1 y1] (Q .ret ⟨26,u,d,h⟩))/\(¬(x3≠x6)->∀u,zB tm u [kk 4,ss 5 (zL (y5+1)),ss 0 y0,ss 1 y1] (Q .normal ⟨26,u,d,h⟩)))/\(¬(y5<x0)->∀u,zB tm u [kk 4,ss 5 y5,ss 0 y0,ss 1 y1] (Q (.exit 0) ⟨26,u,d,h⟩))):=by kernel_rfl
theorem zXE:W12 false zUB ⟨26,(zE tm []),d,h⟩ (zD L12 Q)=((∀u,zB tm u [ss 4 true,kk 5,kk 0,kk 1] (Q .ret ⟨26,u,d,h⟩))):=by kernel_rfl
theorem z5L  {a0 a1:V}{Q:V->H->Prop}:W12 false b12 ⟨26,zF [a0,a1] 0 (Tb.leaf zC),[],h⟩ (endW zA ⟨26,[.tmp 4],b12⟩ Q)=(∃x0:Int,zc zA 23 h a0=some (x0:V)/\∃x1:Int,zc zA 23 h a1=some (x1:V)/\(x0≠x1->Q false h)/\(¬(x0≠x1)->∀u,zB (Tb.leaf zC) u [ss 4 false,ss 5 (0:Int),ss 0 a0,ss 1 a1] (wpC Tryz.prog zA false (.loop zTl) ⟨26,u,[],h⟩ λe s1=>(thenC (λs1=>W12 false zUB s1 (endW zA ⟨26,[.tmp 4],b12⟩ Q)) (endW zA ⟨26,[.tmp 4],b12⟩ Q)) (zK 0 e) s1))):=by kernel_rfl
noncomputable def b91:Code:=zJ Tryz.f91
def zTt:Code:=zd b91 [1,1,1,0,1,0,0]
def zUP:Code:=zd b91 [1,1,1,1]
theorem z4o:(zA.fn.get 91).map zR=some ⟨32,[.tmp 4],b91⟩:=by kernel_rfl
def L91:List Nat:=[4,16,15,14,6,1]
abbrev W91 (b:Bool):Code->St->(AX->St->Prop)->Prop:=wpS Tryz.prog zA L91 4 b
theorem zWy {y16 y15 y1:Int}{y14 y6:V}:W91 false zTt ⟨32,(zE tm [(16,y16),(15,y15),(14,y14),(6,y6),(1,y1)]),d,h⟩ (zD L91 Q)=(((y16<y15->∃p0 o1,zV zA 23 y14 y16=some (.ptr p0 o1)/\∃x2:Int,zO zA 3 h (.ptr p0 o1)=some (x2:V)/\(x2≠0->∃p3 o4,zV zA 23 y6 y16=some (.ptr p3 o4)/\∃h5,yA zA 3 h (.ptr p3 o4) (zL ((zL (y1+1))-x2))=some h5/\∀u,zB tm u [kk 4,ss 16 (zL (y16+1)),ss 15 y15,ss 14 y14,ss 6 y6,ss 1 y1] (Q .normal ⟨32,u,d,h5⟩))/\(¬(x2≠0)->∀u,zB tm u [kk 4,ss 16 (zL (y16+1)),ss 15 y15,ss 14 y14,ss 6 y6,ss 1 y1] (Q .normal ⟨32,u,d,h⟩)))/\(¬(y16<y15)->∀u,zB tm u [kk 4,ss 16 y16,ss 15 y15,ss 14 y14,ss 6 y6,ss 1 y1] (Q (.exit 0) ⟨32,u,d,h⟩)))):=by kernel_rfl
theorem zXT {y6:V}:W91 false zUP ⟨32,(zE tm [(6,y6)]),d,h⟩ (zD L91 Q)=((∀u,zB tm u [ss 4 y6,kk 16,kk 15,kk 14,ss 6 y6,kk 1] (Q .ret ⟨32,u,d,h⟩))):=by kernel_rfl
theorem z5c  {a1:Int}{a0:V}{Q:V->H->Prop}:W91 false b91 ⟨32,zF [a0,a1] 0 (Tb.leaf zC),[],h⟩ (endW zA ⟨32,[.tmp 4],b91⟩ Q)=(xV (cond (zU (V.cells (.agg (List.replicate 256 (0:Int))))) (Cs.ofL (V.cells (.agg (List.replicate 256 (0:Int))))) none) λcs2=>h.next<T.top/\∀p0 h1,p0=h.next->h1=h.new (.cells cs2 ⟨0,207,0⟩ true false)->∃x3:Int,zc zA 23 h1 a0=some (x3:V)/\∃x4:Int,zc zA 23 h1 a0=some (x4:V)/\∃v5,yP zA 206 h1 (.ptr p0 0) none (some (x3:V)) (some (x4:V))=some v5/\∃x6:Int,zc zA 23 h1 a0=some (x6:V)/\∀u,zB (Tb.leaf zC) u [ss 4 .nilslice,ss 16 (0:Int),ss 15 x6,ss 14 a0,ss 6 v5,ss 1 a1] (wpC Tryz.prog zA false (.loop zTt) ⟨32,u,[],h1⟩ λe s1=>(thenC (λs1=>W91 false zUP s1 (endW zA ⟨32,[.tmp 4],b91⟩ Q)) (endW zA ⟨32,[.tmp 4],b91⟩ Q)) (zK 0 e) s1)):=by kernel_rfl
noncomputable def zVP:Code:=zJ Tryz.f144
theorem zYX:(zA.fn.get 144).map zR=some ⟨7,[.tmp 2],zVP⟩:=by kernel_rfl
def z26:List Nat:=[2]
abbrev z30 (b:Bool):Code->St->(AX->St->Prop)->Prop:=wpS Tryz.prog zA z26 4 b
theorem z0a  {a0:Int}{Q:V->H->Prop}:z30 false zVP ⟨7,zF [a0] 0 (Tb.leaf zC),[],h⟩ (endW zA ⟨7,[.tmp 2],zVP⟩ Q)=(∃x0:Int,zj .shl .i64 1 (zN .u64 ((zL (a0-1))))=some (x0:V)/\Q x0 h):=by kernel_rfl
noncomputable def Xg:Code:=zJ Tryz.f152
def zL9:Code:=zd Xg [1,1,1,1,1,1,1,1,0,1,0,0]
def zGK:Code:=zd Xg [1,1,1,1,1,1,1,1,1,1,0,1,0,0,1,0,0,1,0,0,1,0,0,1,1,0,0]
def zNB:Code:=zd Xg [1,1,1,1,1,1,1,1,1,1,0,1,0,0,1,0,0,1,0,0,1,1]
def zLa:Code:=zd Xg [1,1,1,1,1,1,1,1,1,1,0,1,0,0,1,0,0,1,0,0]
def zNC:Code:=zd Xg [1,1,1,1,1,1,1,1,1,1,0,1,0,0,1,1]
def zLb:Code:=zd Xg [1,1,1,1,1,1,1,1,1,1,0,1,0,0]
def zND:Code:=zd Xg [1,1,1,1,1,1,1,1,1,1,1]
def zNE:Code:=zd Xg [1,1,1,1,1,1,1,1,1]
theorem zY0:(zA.fn.get 152).map zR=some ⟨93,[.tmp 2,.tmp 3],Xg⟩:=by kernel_rfl
def Zs:List Nat:=[2,3,11,1,8,10,9,12,6,5,14,13]
abbrev X5 (b:Bool):Code->St->(AX->St->Prop)->Prop:=wpS Tryz.prog zA Zs 4 b
theorem zQe {y11 y10:Int}{y1 y8 y9:V}:X5 false zL9 ⟨93,(zE tm [(11,y11),(1,y1),(8,y8),(10,y10),(9,y9)]),d,h⟩ (zD Zs Q)=(zY zA 59 1 h y1 λv0 h1=>∃v2,zO zA 23 h1 v0=some v2/\∃x3:Int,zc zA 23 h1 v2=some (x3:V)/\(y11<x3->zY zA 59 1 h1 y1 λv4 h5=>∃v6,zO zA 23 h5 v4=some v6/\∃p7 o8,zV zA 23 v6 y11=some (.ptr p7 o8)/\∃x9:Int,zO zA 3 h5 (.ptr p7 o8)=some (x9:V)/\(x9=(-1)->∃p10 o11,zV zA 23 y8 y10=some (.ptr p10 o11)/\∃h12,yA zA 3 h5 (.ptr p10 o11) y11=some h12/\∃p13 o14,zV zA 277 y9 y10=some (.ptr p13 o14)/\∃h15,yA zA 4 h12 (.ptr p13 o14) true=some h15/\∀u,zB tm u [kk 2,kk 3,ss 11 (zL (y11+1)),ss 1 y1,ss 8 y8,ss 10 (zL (y10-1)),ss 9 y9,kk 12,kk 6,kk 5,kk 14,kk 13] (Q .normal ⟨93,u,d,h15⟩))/\(¬(x9=(-1))->∀u,zB tm u [kk 2,kk 3,ss 11 (zL (y11+1)),ss 1 y1,ss 8 y8,ss 10 y10,ss 9 y9,kk 12,kk 6,kk 5,kk 14,kk 13] (Q .normal ⟨93,u,d,h5⟩)))/\(¬(y11<x3)->∀u,zB tm u [kk 2,kk 3,ss 11 y11,ss 1 y1,ss 8 y8,ss 10 y10,ss 9 y9,kk 12,kk 6,kk 5,kk 14,kk 13] (Q (.exit 0) ⟨93,u,d,h1⟩))):=by kernel_rfl
theorem zQf {y12 y6 y5:Int}{y9:V}:X5 false zGK ⟨93,(zE tm [(9,y9),(12,y12),(6,y6),(5,y5)]),d,h⟩ (zD Zs Q)=(∃p0 o1,zV zA 277 y9 y12=some (.ptr p0 o1)/\∃b2:Bool,zO zA 4 h (.ptr p0 o1)=some (.bool b2)/\(b2=true->y5≠0/\∀u,zB tm u [kk 2,kk 3,kk 11,kk 1,kk 8,kk 10,ss 9 y9,ss 12 (.int .i64 (Int.tmod (zL (y12+y6)) y5)),ss 6 y6,ss 5 y5,kk 14,kk 13] (Q .normal ⟨93,u,d,h⟩))/\(b2=false->∀u,zB tm u [kk 2,kk 3,kk 11,kk 1,kk 8,kk 10,ss 9 y9,ss 12 y12,ss 6 y6,ss 5 y5,kk 14,kk 13] (Q (.exit 6) ⟨93,u,d,h⟩))):=by kernel_rfl
theorem zRg {y14:Int}:X5 false zNB ⟨93,(zE tm [(14,y14)]),d,h⟩ (zD Zs Q)=((∀u,zB tm u [kk 2,kk 3,kk 11,kk 1,kk 8,kk 10,kk 9,kk 12,kk 6,kk 5,ss 14 (zL (y14+1)),kk 13] (Q .normal ⟨93,u,d,h⟩))):=by kernel_rfl
theorem zQg {y14 y13 y12 y6 y5:Int}{y1 y8:V}:X5 false zLa ⟨93,(zE tm [(14,y14),(1,y1),(13,y13),(8,y8),(12,y12),(6,y6),(5,y5)]),d,h⟩ (zD Zs Q)=(zY zA 59 1 h y1 λv0 h1=>∃v2,zO zA 23 h1 v0=some v2/\∃p3 o4,zV zA 23 v2 y13=some (.ptr p3 o4)/\∃x5:Int,zO zA 3 h1 (.ptr p3 o4)=some (x5:V)/\(y14<x5->∃p6 o7,zV zA 23 y8 y12=some (.ptr p6 o7)/\∃h8,yA zA 3 h1 (.ptr p6 o7) y13=some h8/\y5≠0/\∀u,zB tm u [kk 2,kk 3,kk 11,ss 1 y1,ss 8 y8,kk 10,kk 9,ss 12 (.int .i64 (Int.tmod (zL (y12+y6)) y5)),ss 6 y6,ss 5 y5,ss 14 y14,ss 13 y13] (wpC Tryz.prog zA false (.loop zGK) ⟨93,u,d,h8⟩ λe s1=>(λe s1=>(thenC (λs1=>X5 false zNB s1 (zD Zs Q)) (zD Zs Q)) (zK 5 e) s1) (zK 6 e) s1))/\(¬(y14<x5)->∀u,zB tm u [kk 2,kk 3,kk 11,ss 1 y1,ss 8 y8,kk 10,kk 9,ss 12 y12,ss 6 y6,ss 5 y5,ss 14 y14,ss 13 y13] (Q (.exit 4) ⟨93,u,d,h1⟩))):=by kernel_rfl
theorem zRh {y13:Int}:X5 false zNC ⟨93,(zE tm [(13,y13)]),d,h⟩ (zD Zs Q)=((∀u,zB tm u [kk 2,kk 3,kk 11,kk 1,kk 8,kk 10,kk 9,kk 12,kk 6,kk 5,kk 14,ss 13 (zL (y13+1))] (Q .normal ⟨93,u,d,h⟩))):=by kernel_rfl
theorem zQh {y13:Int}{y1:V}:X5 false zLb ⟨93,(zE tm [(13,y13),(1,y1)]),d,h⟩ (zD Zs Q)=(zY zA 59 1 h y1 λv0 h1=>∃v2,zO zA 23 h1 v0=some v2/\∃x3:Int,zc zA 23 h1 v2=some (x3:V)/\(y13<x3->∀u,zB tm u [kk 2,kk 3,kk 11,ss 1 y1,kk 8,kk 10,kk 9,kk 12,kk 6,kk 5,ss 14 (0:Int),ss 13 y13] (wpC Tryz.prog zA false (.loop zLa) ⟨93,u,d,h1⟩ λe s1=>(λe s1=>(thenC (λs1=>X5 false zNC s1 (zD Zs Q)) (zD Zs Q)) (zK 3 e) s1) (zK 4 e) s1))/\(¬(y13<x3)->∀u,zB tm u [kk 2,kk 3,kk 11,ss 1 y1,kk 8,kk 10,kk 9,kk 12,kk 6,kk 5,kk 14,ss 13 y13] (Q (.exit 2) ⟨93,u,d,h1⟩))):=by kernel_rfl
theorem zRi {y8:V}:X5 false zND ⟨93,(zE tm [(8,y8)]),d,h⟩ (zD Zs Q)=((∀u,zB tm u [ss 2 y8,ss 3 (0:Int),kk 11,kk 1,ss 8 y8,kk 10,kk 9,kk 12,kk 6,kk 5,kk 14,kk 13] (Q .ret ⟨93,u,d,h⟩))):=by kernel_rfl
theorem zRj:X5 false zNE ⟨93,(zE tm []),d,h⟩ (zD Zs Q)=((∀u,zB tm u [kk 2,kk 3,kk 11,kk 1,kk 8,kk 10,kk 9,ss 12 (0:Int),kk 6,kk 5,kk 14,ss 13 (0:Int)] (wpC Tryz.prog zA false (.loop zLb) ⟨93,u,d,h⟩ λe s1=>(thenC (λs1=>X5 false zND s1 (zD Zs Q)) (zD Zs Q)) (zK 2 e) s1))):=by kernel_rfl
theorem z0d  {a0_0:Int}{a0_1:V}{Q:V->H->Prop}:X5 false Xg ⟨93,zF [(.agg [a0_0,a0_1])] 0 (Tb.leaf zC),[],h⟩ (endW zA ⟨93,[.tmp 2,.tmp 3],Xg⟩ Q)=(xV (cond (zU (V.cells (.agg [a0_0,a0_1]))) (Cs.ofL (V.cells (.agg [a0_0,a0_1]))) none) λcs2=>h.next<T.top/\∀p0 h1,p0=h.next->h1=h.new (.cells cs2 ⟨0,60,0⟩ true false)->∃x3:Int,∃v4,zO zA 59 h1 (.ptr p0 0)=some (.agg [x3,v4])/\RF Tryz.prog zA 86 [(.agg [x3,v4])] h1 λv5 h6=>∃x7:Int,v5=x7/\(x7≠0->Q (.tuple [.nilslice,x7]) h6)/\(¬(x7≠0)->∃x8:Int,zO zA 3 h6 (.ptr p0 (0+0))=some (x8:V)/\∃x9:Int,zj .shl .i64 1 (zN .u64 (x8))=some (x9:V)/\∃x10:Int,zO zA 3 h6 (.ptr p0 (0+0))=some (x10:V)/\RF Tryz.prog zA 218 [x10] h6 λv11 h12=>∃x13:Int,∃x14:Int,v11=(.tuple [x13,x14])/\∃v15 h16,we zA 23 x9 x9 h12=some (v15,h16)/\∃v17 h18,we zA 277 x9 x9 h16=some (v17,h18)/\∀u,zB (Tb.leaf zC) u [ss 2 .nilslice,ss 3 (0:Int),ss 11 (0:Int),ss 1 (.ptr p0 0),ss 8 v15,ss 10 (zL (x9-1)),ss 9 v17,kk 12,ss 6 x13,ss 5 x9,kk 14,kk 13] (wpC Tryz.prog zA false (.loop zL9) ⟨93,u,[],h18⟩ λe s1=>(thenC (λs1=>X5 false zNE s1 (endW zA ⟨93,[.tmp 2,.tmp 3],Xg⟩ Q)) (endW zA ⟨93,[.tmp 2,.tmp 3],Xg⟩ Q)) (zK 0 e) s1))):=by kernel_rfl
noncomputable def zF7:Code:=zJ Tryz.f242
def zMH:Code:=zd zF7 [1,1,1,0,1,0,0]
def zNj:Code:=zd zF7 [1,1,1,1]
def zNk:Code:=zd zF7 [1,1]
theorem zZO:(zA.fn.get 242).map zR=some ⟨25,[.tmp 2],zF7⟩:=by kernel_rfl
def zI3:List Nat:=[2,4,0,3]
abbrev zIa (b:Bool):Code->St->(AX->St->Prop)->Prop:=wpS Tryz.prog zA zI3 4 b
theorem zRL {y4 y3:Int}{y0:V}:zIa false zMH ⟨25,(zE tm [(4,y4),(0,y0),(3,y3)]),d,h⟩ (zD zI3 Q)=(∃x0:Int,zc zA 23 h y0=some (x0:V)/\(y4<x0->∃p1 o2,zV zA 23 y0 y4=some (.ptr p1 o2)/\∃x3:Int,zO zA 3 h (.ptr p1 o2)=some (x3:V)/\∀u,zB tm u [kk 2,ss 4 (zL (y4+1)),ss 0 y0,ss 3 (.int .i64 (min y3 x3))] (Q .normal ⟨25,u,d,h⟩))/\(¬(y4<x0)->∀u,zB tm u [kk 2,ss 4 y4,ss 0 y0,ss 3 y3] (Q (.exit 0) ⟨25,u,d,h⟩))):=by kernel_rfl
theorem zSk {y3:Int}:zIa false zNj ⟨25,(zE tm [(3,y3)]),d,h⟩ (zD zI3 Q)=((∀u,zB tm u [ss 2 y3,kk 4,kk 0,ss 3 y3] (Q .ret ⟨25,u,d,h⟩))):=by kernel_rfl
theorem zSl {y0:V}:zIa false zNk ⟨25,(zE tm [(0,y0)]),d,h⟩ (zD zI3 Q)=(∃p0 o1,zV zA 23 y0 (0:Int)=some (.ptr p0 o1)/\∃x2:Int,zO zA 3 h (.ptr p0 o1)=some (x2:V)/\∀u,zB tm u [kk 2,ss 4 (1:Int),ss 0 y0,ss 3 x2] (wpC Tryz.prog zA false (.loop zMH) ⟨25,u,d,h⟩ λe s1=>(thenC (λs1=>zIa false zNj s1 (zD zI3 Q)) (zD zI3 Q)) (zK 0 e) s1)):=by kernel_rfl
theorem z10  {a0:V}{Q:V->H->Prop}:zIa false zF7 ⟨25,zF [a0] 0 (Tb.leaf zC),[],h⟩ (endW zA ⟨25,[.tmp 2],zF7⟩ Q)=(∃x0:Int,zc zA 23 h a0=some (x0:V)/\(x0<1->False)/\(¬(x0<1)->∀u,zB (Tb.leaf zC) u [ss 2 (0:Int),kk 4,ss 0 a0,kk 3] (zIa false zNk ⟨25,u,[],h⟩ (endW zA ⟨25,[.tmp 2],zF7⟩ Q)))):=by kernel_rfl
end Go.Proofs.YtnpeieeomokomaaGreat
