/- CB. No condition. -/
import Derived.Test.YtnpeieeomokomaaGreatZCtx
import Derived.Test.YtnpeieeomokomaaGreatZCT
import Derived.Test.YtnpeieeomokomaaGreatZV
import Derived.Test.YtnpeieeomokomaaGreatZY
noncomputable section
namespace Go.Proofs.YtnpeieeomokomaaGreat
open Go.Sim
noncomputable def b45:Code:=zJ Tryz.f45
def zTn:Code:=zd b45 [1,1,0,1,0,0]
def zUD:Code:=zd b45 [1,1,1]
def zUE:Code:=zd b45 [1,1]
theorem z4c:(zA.fn.get 45).map zR=some ⟨39,[.tmp 2],b45⟩:=by kernel_rfl
def L45:List Nat:=[2,3,0]
abbrev W45 (b:Bool):Code->St->(AX->St->Prop)->Prop:=wpS Tryz.prog zA L45 4 b
variable {tm:Tm}{d:List AD}{h:H}{Q:AX->St->Prop}
theorem zWs {y3:Int}{y0:V}:W45 false zTn ⟨39,(zE tm [(3,y3),(0,y0)]),d,h⟩ (zD L45 Q)=(∃x0:Int,zc zA 23 h y0=some (x0:V)/\(y3<x0->∃p1 o2,zV zA 23 y0 y3=some (.ptr p1 o2)/\∃x3:Int,zO zA 3 h (.ptr p1 o2)=some (x3:V)/\(x3<0->∀u,zB tm u [ss 2 (2:Int),ss 3 y3,ss 0 y0] (Q .ret ⟨39,u,d,h⟩))/\(¬(x3<0)->∃p4 o5,zV zA 23 y0 y3=some (.ptr p4 o5)/\∃x6:Int,zO zA 3 h (.ptr p4 o5)=some (x6:V)/\((11:Int)<x6->∀u,zB tm u [ss 2 (2:Int),ss 3 y3,ss 0 y0] (Q .ret ⟨39,u,d,h⟩))/\(¬((11:Int)<x6)->∀u,zB tm u [kk 2,ss 3 (zL (y3+1)),ss 0 y0] (Q .normal ⟨39,u,d,h⟩))))/\(¬(y3<x0)->∀u,zB tm u [kk 2,ss 3 y3,ss 0 y0] (Q (.exit 0) ⟨39,u,d,h⟩))):=by kernel_rfl
theorem zXH {y0:V}:W45 false zUD ⟨39,(zE tm [(0,y0)]),d,h⟩ (zD L45 Q)=(RF Tryz.prog zA 90 [y0] h λv0 h1=>∃x2:Int,∃x3:Int,v0=(.tuple [x2,x3])/\(x2=0->∀u,zB tm u [ss 2 (21:Int),kk 3,ss 0 y0] (Q .ret ⟨39,u,d,h1⟩))/\(¬(x2=0)->∀u,zB tm u [ss 2 (0:Int),kk 3,ss 0 y0] (Q .ret ⟨39,u,d,h1⟩))):=by kernel_rfl
theorem zXI:W45 false zUE ⟨39,(zE tm []),d,h⟩ (zD L45 Q)=((∀u,zB tm u [kk 2,ss 3 (0:Int),kk 0] (wpC Tryz.prog zA false (.loop zTn) ⟨39,u,d,h⟩ λe s1=>(thenC (λs1=>W45 false zUD s1 (zD L45 Q)) (zD L45 Q)) (zK 0 e) s1))):=by kernel_rfl
theorem z5Y  {a0:V}{Q:V->H->Prop}:W45 false b45 ⟨39,zF [a0] 0 (Tb.leaf zC),[],h⟩ (endW zA ⟨39,[.tmp 2],b45⟩ Q)=(∃x0:Int,zc zA 23 h a0=some (x0:V)/\(x0<1->Q (4:Int) h)/\(¬(x0<1)->∃x1:Int,zc zA 23 h a0=some (x1:V)/\((255:Int)<x1->Q (4:Int) h)/\(¬((255:Int)<x1)->∀u,zB (Tb.leaf zC) u [ss 2 (0:Int),kk 3,ss 0 a0] (W45 false zUE ⟨39,u,[],h⟩ (endW zA ⟨39,[.tmp 2],b45⟩ Q))))):=by kernel_rfl
noncomputable def b90:Code:=zJ Tryz.f90
def zTs:Code:=zd b90 [1,1,0,1,0,0]
def zUN:Code:=zd b90 [1,1,1,1,1]
def zUO:Code:=zd b90 [1,1,1]
theorem z4n:(zA.fn.get 90).map zR=some ⟨52,[.tmp 2,.tmp 3],b90⟩:=by kernel_rfl
def L90:List Nat:=[2,3,5,0,4,6]
abbrev W90 (b:Bool):Code->St->(AX->St->Prop)->Prop:=wpS Tryz.prog zA L90 4 b
theorem zWx {y5 y4:Int}{y0:V}:W90 false zTs ⟨52,(zE tm [(5,y5),(0,y0),(4,y4)]),d,h⟩ (zD L90 Q)=(∃x0:Int,zc zA 23 h y0=some (x0:V)/\(y5<x0->∃p1 o2,zV zA 23 y0 y5=some (.ptr p1 o2)/\∃x3:Int,zO zA 3 h (.ptr p1 o2)=some (x3:V)/\((0:Int)<x3->∃p4 o5,zV zA 23 y0 y5=some (.ptr p4 o5)/\∃x6:Int,zO zA 3 h (.ptr p4 o5)=some (x6:V)/\∃x7:Int,zj .shl .i64 1 (zN .u64 ((zL (x6-1))))=some (x7:V)/\∀u,zB tm u [kk 2,kk 3,ss 5 (zL (y5+1)),ss 0 y0,ss 4 (zL (y4+x7)),kk 6] (Q .normal ⟨52,u,d,h⟩))/\(¬((0:Int)<x3)->∀u,zB tm u [kk 2,kk 3,ss 5 (zL (y5+1)),ss 0 y0,ss 4 y4,kk 6] (Q .normal ⟨52,u,d,h⟩)))/\(¬(y5<x0)->∀u,zB tm u [kk 2,kk 3,ss 5 y5,ss 0 y0,ss 4 y4,kk 6] (Q (.exit 0) ⟨52,u,d,h⟩))):=by kernel_rfl
theorem zXR {y6 y4:Int}:W90 false zUN ⟨52,(zE tm [(6,y6),(4,y4)]),d,h⟩ (zD L90 Q)=(∃x0:Int,zj .shl .i64 1 (zN .u64 (y6))=some (x0:V)/\RF Tryz.prog zA 153 [(zL (x0-y4))] h λv1 h2=>∃x3:Int,v1=x3/\∃x4:Int,zj .shl .i64 1 (zN .u64 (x3))=some (x4:V)/\((zL (x0-y4))≠x4->∀u,zB tm u [ss 2 (0:Int),ss 3 (0:Int),kk 5,kk 0,ss 4 y4,ss 6 y6] (Q .ret ⟨52,u,d,h2⟩))/\(¬((zL (x0-y4))≠x4)->∀u,zB tm u [ss 2 (zL (x3+1)),ss 3 y6,kk 5,kk 0,ss 4 y4,ss 6 y6] (Q .ret ⟨52,u,d,h2⟩))):=by kernel_rfl
theorem zXS {y4:Int}:W90 false zUO ⟨52,(zE tm [(4,y4)]),d,h⟩ (zD L90 Q)=(RF Tryz.prog zA 156 [y4] h λv0 h1=>∃x2:Int,v0=x2/\(y4=0->∀u,zB tm u [ss 2 (0:Int),ss 3 (0:Int),kk 5,kk 0,ss 4 y4,ss 6 x2] (Q .ret ⟨52,u,d,h1⟩))/\(¬(y4=0)->((11:Int)<x2->∀u,zB tm u [ss 2 (0:Int),ss 3 (0:Int),kk 5,kk 0,ss 4 y4,ss 6 x2] (Q .ret ⟨52,u,d,h1⟩))/\(¬((11:Int)<x2)->∀u,zB tm u [kk 2,kk 3,kk 5,kk 0,ss 4 y4,ss 6 x2] (W90 false zUN ⟨52,u,d,h1⟩ (zD L90 Q))))):=by kernel_rfl
theorem z5b  {a0:V}{Q:V->H->Prop}:W90 false b90 ⟨52,zF [a0] 0 (Tb.leaf zC),[],h⟩ (endW zA ⟨52,[.tmp 2,.tmp 3],b90⟩ Q)=((∀u,zB (Tb.leaf zC) u [ss 2 (0:Int),ss 3 (0:Int),ss 5 (0:Int),ss 0 a0,ss 4 (0:Int),kk 6] (wpC Tryz.prog zA false (.loop zTs) ⟨52,u,[],h⟩ λe s1=>(thenC (λs1=>W90 false zUO s1 (endW zA ⟨52,[.tmp 2,.tmp 3],b90⟩ Q)) (endW zA ⟨52,[.tmp 2,.tmp 3],b90⟩ Q)) (zK 0 e) s1))):=by kernel_rfl
noncomputable def Xf:Code:=zJ Tryz.f142
def zMw:Code:=zd Xf [1,0,1,0,0,1,1,0,0,1,1]
def zMx:Code:=zd Xf [1,0,1,0,0,1,1,1]
def zL6:Code:=zd Xf [1,0,1,0,0]
def zMy:Code:=zd Xf [1,1]
theorem zYW:(zA.fn.get 142).map zR=some ⟨24,[.tmp 2,.tmp 3],Xf⟩:=by kernel_rfl
def zFI:List Nat:=[2,3,5,8,7,6]
abbrev zCz (b:Bool):Code->St->(AX->St->Prop)->Prop:=wpS Tryz.prog zA zFI 4 b
theorem zRd {y5 y2:Int}:zCz false zMw ⟨24,(zE tm [(5,y5),(2,y2)]),d,h⟩ (zD zFI Q)=(((y5≠0->∀u,zB tm u [ss 2 (zL (y2+1)),kk 3,ss 5 y5,kk 8,kk 7,kk 6] (Q .normal ⟨24,u,d,h⟩))/\(¬(y5≠0)->∀u,zB tm u [ss 2 y2,kk 3,ss 5 y5,kk 8,kk 7,kk 6] (Q .normal ⟨24,u,d,h⟩)))):=by kernel_rfl
theorem zIO {y8:Int}:zCz false zMx ⟨24,(zE tm [(8,y8)]),d,h⟩ (zD zFI Q)=((∀u,zB tm u [kk 2,kk 3,kk 5,ss 8 (zL (y8+1)),kk 7,kk 6] (Q .normal ⟨24,u,d,h⟩))):=by kernel_rfl
theorem zQc {y8 y7:Int}{y6:V}:zCz false zL6 ⟨24,(zE tm [(8,y8),(7,y7),(6,y6)]),d,h⟩ (zD zFI Q)=(((y8<y7->∃p0 o1,zV zA 23 y6 y8=some (.ptr p0 o1)/\∃x2:Int,zO zA 3 h (.ptr p0 o1)=some (x2:V)/\(x2<0->∀u,zB tm u [ss 2 (0:Int),ss 3 false,ss 5 x2,ss 8 y8,ss 7 y7,ss 6 y6] (Q .ret ⟨24,u,d,h⟩))/\(¬(x2<0)->((11:Int)<x2->∀u,zB tm u [ss 2 (0:Int),ss 3 false,ss 5 x2,ss 8 y8,ss 7 y7,ss 6 y6] (Q .ret ⟨24,u,d,h⟩))/\(¬((11:Int)<x2)->∀u,zB tm u [kk 2,kk 3,ss 5 x2,ss 8 y8,ss 7 y7,ss 6 y6] (zCz false zMw ⟨24,u,d,h⟩ λe s1=>(thenC (λs1=>zCz false zMx s1 (zD zFI Q)) (zD zFI Q)) (zK 1 e) s1))))/\(¬(y8<y7)->∀u,zB tm u [kk 2,kk 3,kk 5,ss 8 y8,ss 7 y7,ss 6 y6] (Q (.exit 0) ⟨24,u,d,h⟩)))):=by kernel_rfl
theorem zRe {y2:Int}:zCz false zMy ⟨24,(zE tm [(2,y2)]),d,h⟩ (zD zFI Q)=((∀u,zB tm u [ss 2 y2,ss 3 true,kk 5,kk 8,kk 7,kk 6] (Q .ret ⟨24,u,d,h⟩))):=by kernel_rfl
theorem z09  {a0:V}{Q:V->H->Prop}:zCz false Xf ⟨24,zF [a0] 0 (Tb.leaf zC),[],h⟩ (endW zA ⟨24,[.tmp 2,.tmp 3],Xf⟩ Q)=(∃x0:Int,zc zA 23 h a0=some (x0:V)/\∀u,zB (Tb.leaf zC) u [ss 2 (0:Int),ss 3 false,kk 5,ss 8 (0:Int),ss 7 x0,ss 6 a0] (wpC Tryz.prog zA false (.loop zL6) ⟨24,u,[],h⟩ λe s1=>(thenC (λs1=>zCz false zMy s1 (endW zA ⟨24,[.tmp 2,.tmp 3],Xf⟩ Q)) (endW zA ⟨24,[.tmp 2,.tmp 3],Xf⟩ Q)) (zK 0 e) s1)):=by kernel_rfl
noncomputable def K8:Code:=zJ Tryz.f148
def zL8:Code:=zd K8 [1,1,0,1,0,0]
def zNA:Code:=zd K8 [1,1,1]
theorem zYZ:(zA.fn.get 148).map zR=some ⟨25,[.tmp 2],K8⟩:=by kernel_rfl
def zUb:List Nat:=[2,4,0,3]
abbrev zPI (b:Bool):Code->St->(AX->St->Prop)->Prop:=wpS Tryz.prog zA zUb 4 b
theorem zQd {y4 y3:Int}{y0:V}:zPI false zL8 ⟨25,(zE tm [(4,y4),(0,y0),(3,y3)]),d,h⟩ (zD zUb Q)=(∃x0:Int,zc zA 23 h y0=some (x0:V)/\(y4<x0->∃p1 o2,zV zA 23 y0 y4=some (.ptr p1 o2)/\∃x3:Int,zO zA 3 h (.ptr p1 o2)=some (x3:V)/\(x3<0->∀u,zB tm u [kk 2,ss 4 (zL (y4+1)),ss 0 y0,ss 3 (zL (y3+1))] (Q .normal ⟨25,u,d,h⟩))/\(¬(x3<0)->∃p4 o5,zV zA 23 y0 y4=some (.ptr p4 o5)/\∃x6:Int,zO zA 3 h (.ptr p4 o5)=some (x6:V)/\∀u,zB tm u [kk 2,ss 4 (zL (y4+1)),ss 0 y0,ss 3 (zL (y3+x6))] (Q .normal ⟨25,u,d,h⟩)))/\(¬(y4<x0)->∀u,zB tm u [kk 2,ss 4 y4,ss 0 y0,ss 3 y3] (Q (.exit 0) ⟨25,u,d,h⟩))):=by kernel_rfl
theorem zRf {y3:Int}:zPI false zNA ⟨25,(zE tm [(3,y3)]),d,h⟩ (zD zUb Q)=((∀u,zB tm u [ss 2 y3,kk 4,kk 0,ss 3 y3] (Q .ret ⟨25,u,d,h⟩))):=by kernel_rfl
theorem z0c  {a0:V}{Q:V->H->Prop}:zPI false K8 ⟨25,zF [a0] 0 (Tb.leaf zC),[],h⟩ (endW zA ⟨25,[.tmp 2],K8⟩ Q)=((∀u,zB (Tb.leaf zC) u [ss 2 (0:Int),ss 4 (0:Int),ss 0 a0,ss 3 (0:Int)] (wpC Tryz.prog zA false (.loop zL8) ⟨25,u,[],h⟩ λe s1=>(thenC (λs1=>zPI false zNA s1 (endW zA ⟨25,[.tmp 2],K8⟩ Q)) (endW zA ⟨25,[.tmp 2],K8⟩ Q)) (zK 0 e) s1))):=by kernel_rfl
noncomputable def zVR:Code:=zJ Tryz.f156
theorem zY2:(zA.fn.get 156).map zR=some ⟨6,[.tmp 2],zVR⟩:=by kernel_rfl
def z29:List Nat:=[2]
abbrev z32 (b:Bool):Code->St->(AX->St->Prop)->Prop:=wpS Tryz.prog zA z29 4 b
theorem z0f  {a0:Int}{Q:V->H->Prop}:z32 false zVR ⟨6,zF [a0] 0 (Tb.leaf zC),[],h⟩ (endW zA ⟨6,[.tmp 2],zVR⟩ Q)=(RF Tryz.prog zA 153 [a0] h λv0 h1=>∃x2:Int,v0=x2/\Q (zL (x2+1)) h1):=by kernel_rfl
noncomputable def zV1:Code:=zJ Tryz.f209
theorem zYp:(zA.fn.get 209).map zR=some ⟨14,[.tmp 2,.tmp 3],zV1⟩:=by kernel_rfl
def z2m:List Nat:=[2,3]
abbrev z3e (b:Bool):Code->St->(AX->St->Prop)->Prop:=wpS Tryz.prog zA z2m 4 b
theorem z1C  {a0:Int}{Q:V->H->Prop}:z3e false zV1 ⟨14,zF [a0] 0 (Tb.leaf zC),[],h⟩ (endW zA ⟨14,[.tmp 2,.tmp 3],zV1⟩ Q)=(RF Tryz.prog zA 145 [(zL (a0+1))] h λv0 h1=>∃x2:Int,v0=x2/\(h1.next<=T.top/\h1.low<=T.top)/\∃x3:Int,zj .shl .i64 1 x2=some (x3:V)/\Q (.tuple [x2,(zL ((zL (x3-1))-(zL (a0+1))))]) h1):=by kernel_rfl
noncomputable def zVh:Code:=zJ Tryz.f250
theorem zZW:(zA.fn.get 250).map zR=some ⟨7,[.tmp 4],zVh⟩:=by kernel_rfl
def z2z:List Nat:=[4]
abbrev z3r (b:Bool):Code->St->(AX->St->Prop)->Prop:=wpS Tryz.prog zA z2z 4 b
theorem z18  {a1:Int}{a0:Bool}{Q:V->H->Prop}:z3r false zVh ⟨7,zF [a0,a1] 0 (Tb.leaf zC),[],h⟩ (endW zA ⟨7,[.tmp 4],zVh⟩ Q)=(jk a0 λu=>match u with|true=>Q a1 h|false=>Q (0:Int) h):=by kernel_rfl
end Go.Proofs.YtnpeieeomokomaaGreat
