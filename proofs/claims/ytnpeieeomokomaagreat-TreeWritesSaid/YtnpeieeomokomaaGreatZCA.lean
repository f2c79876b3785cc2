/- CA. No condition. -/
import Derived.Test.YtnpeieeomokomaaGreatZCtx
import Derived.Test.YtnpeieeomokomaaGreatZCT
import Derived.Test.YtnpeieeomokomaaGreatZV
import Derived.Test.YtnpeieeomokomaaGreatZY
noncomputable section
namespace Go.Proofs.YtnpeieeomokomaaGreat
open Go.Sim
noncomputable def b41:Code:=zJ Tryz.f41
theorem z4b:(zA.fn.get 41).map zR=some ⟨13,[.tmp 2],b41⟩:=by kernel_rfl
def L41:List Nat:=[2]
abbrev W41 (b:Bool):Code->St->(AX->St->Prop)->Prop:=wpS Tryz.prog zA L41 4 b
variable {tm:Tm}{d:List AD}{h:H}{Q:AX->St->Prop}
theorem z5X  {a0:V}{Q:V->H->Prop}:W41 false b41 ⟨13,zF [a0] 0 (Tb.leaf zC),[],h⟩ (endW zA ⟨13,[.tmp 2],b41⟩ Q)=(RF Tryz.prog zA 82 [a0] h λv0 h1=>∃x2:Int,∃x3:Int,∃x4:Int,v0=(.tuple [x2,x3,x4])/\Q x4 h1):=by kernel_rfl
noncomputable def zFW:Code:=zJ Tryz.f143
def zL7:Code:=zd zFW [1,0,1,0,0]
def zMz:Code:=zd zFW [1,1]
theorem zTe:(zA.fn.get 143).map zR=some ⟨22,[.tmp 4],zFW⟩:=by kernel_rfl
def zUa:List Nat:=[4,9,8,7,1]
abbrev zPH (b:Bool):Code->St->(AX->St->Prop)->Prop:=wpS Tryz.prog zA zUa 4 b
theorem zIM {y9 y8 y4:Int}{y7 y1:V}:zPH false zL7 ⟨22,(zE tm [(9,y9),(8,y8),(7,y7),(4,y4),(1,y1)]),d,h⟩ (zD zUa Q)=(((y9<y8->∃p0 o1,zV zA 23 y7 y9=some (.ptr p0 o1)/\∃x2:Int,zO zA 3 h (.ptr p0 o1)=some (x2:V)/\(x2≠0->yV zA Tryz.prog 3 h (λv3 h4=>wx zA .add 3 (t 15) (t 18) 3 y4 v3 λv5=>(∀u,zB tm u [ss 4 v5,ss 9 (zL (y9+1)),ss 8 y8,ss 7 y7,ss 1 y1] (Q .normal ⟨22,u,d,h4⟩))) [x2] y1)/\(¬(x2≠0)->∀u,zB tm u [ss 4 y4,ss 9 (zL (y9+1)),ss 8 y8,ss 7 y7,ss 1 y1] (Q .normal ⟨22,u,d,h⟩)))/\(¬(y9<y8)->∀u,zB tm u [ss 4 y4,ss 9 y9,ss 8 y8,ss 7 y7,ss 1 y1] (Q (.exit 0) ⟨22,u,d,h⟩)))):=by kernel_rfl
theorem zIP {y4:Int}:zPH false zMz ⟨22,(zE tm [(4,y4)]),d,h⟩ (zD zUa Q)=((∀u,zB tm u [ss 4 y4,kk 9,kk 8,kk 7,kk 1] (Q .ret ⟨22,u,d,h⟩))):=by kernel_rfl
theorem zU3  {a0 a1:V}{Q:V->H->Prop}:zPH false zFW ⟨22,zF [a0,a1] 0 (Tb.leaf zC),[],h⟩ (endW zA ⟨22,[.tmp 4],zFW⟩ Q)=(∃x0:Int,zc zA 23 h a0=some (x0:V)/\∀u,zB (Tb.leaf zC) u [ss 4 (0:Int),ss 9 (0:Int),ss 8 x0,ss 7 a0,ss 1 a1] (wpC Tryz.prog zA false (.loop zL7) ⟨22,u,[],h⟩ λe s1=>(thenC (λs1=>zPH false zMz s1 (endW zA ⟨22,[.tmp 4],zFW⟩ Q)) (endW zA ⟨22,[.tmp 4],zFW⟩ Q)) (zK 0 e) s1)):=by kernel_rfl
noncomputable def zF9:Code:=zJ Tryz.f248
def zMJ:Code:=zd zF9 [1,0,1,1,0,1,0,0]
def zNn:Code:=zd zF9 [1,0,1,1,1]
theorem zZU:(zA.fn.get 248).map zR=some ⟨17,[.tmp 2],zF9⟩:=by kernel_rfl
def zUk:List Nat:=[2,8,7,6,3]
abbrev zPR (b:Bool):Code->St->(AX->St->Prop)->Prop:=wpS Tryz.prog zA zUk 4 b
theorem zRN {y8 y7:Int}{y6:V}:zPR false zMJ ⟨17,(zE tm [(8,y8),(7,y7),(6,y6)]),d,h⟩ (zD zUk Q)=(((y8<y7->∃p0 o1,zV zA 343 y6 y8=some (.ptr p0 o1)/\∃x2:Int,zO zA 24 h (.ptr p0 o1)=some (x2:V)/\(x2≠0->∀u,zB tm u [kk 2,ss 8 y8,ss 7 y7,ss 6 y6,ss 3 x2] (Q (.exit 0) ⟨17,u,d,h⟩))/\(¬(x2≠0)->∀u,zB tm u [kk 2,ss 8 (zL (y8+1)),ss 7 y7,ss 6 y6,kk 3] (Q .normal ⟨17,u,d,h⟩)))/\(¬(y8<y7)->∀u,zB tm u [kk 2,ss 8 y8,ss 7 y7,ss 6 y6,kk 3] (Q (.exit 0) ⟨17,u,d,h⟩)))):=by kernel_rfl
theorem zIU {y3:Int}:zPR false zNn ⟨17,(zE tm [(3,y3)]),d,h⟩ (zD zUk Q)=((∀u,zB tm u [ss 2 y3,kk 8,kk 7,kk 6,ss 3 y3] (Q .ret ⟨17,u,d,h⟩))):=by kernel_rfl
theorem z16  {a0:V}{Q:V->H->Prop}:zPR false zF9 ⟨17,zF [a0] 0 (Tb.leaf zC),[],h⟩ (endW zA ⟨17,[.tmp 2],zF9⟩ Q)=(∃x0:Int,zc zA 343 h a0=some (x0:V)/\∀u,zB (Tb.leaf zC) u [ss 2 (0:Int),ss 8 (0:Int),ss 7 x0,ss 6 a0,ss 3 (0:Int)] (wpC Tryz.prog zA false (.loop zMJ) ⟨17,u,[],h⟩ λe s1=>(thenC (λs1=>zPR false zNn s1 (endW zA ⟨17,[.tmp 2],zF9⟩ Q)) (endW zA ⟨17,[.tmp 2],zF9⟩ Q)) (zK 0 e) s1)):=by kernel_rfl
noncomputable def zA3:Code:=zJ Tryz.f274
def Zu:Code:=zd zA3 [1,1,1,0,1,0,0]
def qv:Code:=zd zA3 [1,1,1,0,1,0,1]
def zWg:Code:=zd zA3 [1,1,1,0,1,0]
def zGe:Code:=zd zA3 [1,1,1,1]
theorem zZ4:(zA.fn.get 274).map zR=some ⟨26,[.tmp 2,.tmp 3],zA3⟩:=by kernel_rfl
def zPE:List Nat:=[2,3,19,20,5,6,7,18]
abbrev zIc (b:Bool):Code->St->(AX->St->Prop)->Prop:=wpS Tryz.prog zA zPE 4 b
theorem zQ4 {y19 y20:V}:zIc true (wZ Zu) ⟨26,(zE tm [(19,y19),(20,y20)]),d,h⟩ (zD zPE Q)=((∀u,zB tm u [kk 2,kk 3,ss 19 y19,ss 20 y20,kk 5,ss 6 y19,ss 7 y20,kk 18] (Q .normal ⟨26,u,d,h⟩))):=by kernel_rfl
theorem zQ9 {y6 y7:Int}{y5:V}:zIc true (wZ qv) ⟨26,(zE tm [(5,y5),(6,y6),(7,y7)]),d,h⟩ (zD zPE Q)=(∃v0,zO zA 23 h y5=some v0/\∃p1 o2,zV zA 23 v0 y6=some (.ptr p1 o2)/\∃h3,yA zA 3 h (.ptr p1 o2) y7=some h3/\∀u,zB tm u [kk 2,kk 3,kk 19,kk 20,ss 5 y5,ss 6 y6,ss 7 y7,kk 18] (Q .normal ⟨26,u,d,h3⟩)):=by kernel_rfl
theorem zSv {y5:V}:zIc false zGe ⟨26,(zE tm [(5,y5)]),d,h⟩ (zD zPE Q)=(∃v0,zO zA 23 h y5=some v0/\∀u,zB tm u [ss 2 v0,ss 3 (0:Int),kk 19,kk 20,ss 5 y5,kk 6,kk 7,kk 18] (Q .ret ⟨26,u,d,h⟩)):=by kernel_rfl
theorem z1g  {a0_0:Int}{a0_1:V}{Q:V->H->Prop}:zIc false zA3 ⟨26,zF [(.agg [a0_0,a0_1])] 0 (Tb.leaf zC),[],h⟩ (endW zA ⟨26,[.tmp 2,.tmp 3],zA3⟩ Q)=(xV (cond (zU (V.cells (.agg [a0_0,a0_1]))) (Cs.ofL (V.cells (.agg [a0_0,a0_1]))) none) λcs2=>h.next<T.top/\∀p0 h1,p0=h.next->h1=h.new (.cells cs2 ⟨0,60,0⟩ true false)->∃x3:Int,∃v4,zO zA 59 h1 (.ptr p0 0)=some (.agg [x3,v4])/\RF Tryz.prog zA 173 [(.agg [x3,v4])] h1 λv5 h6=>∃x7:Int,v5=x7/\(x7≠0->Q (.tuple [.nilslice,x7]) h6)/\(¬(x7≠0)->∃x8:Int,zO zA 3 h6 (.ptr p0 (0+0))=some (x8:V)/\∃x9:Int,zj .shl .i64 1 x8=some (x9:V)/\∃v10 h11,we zA 23 x9 x9 h6=some (v10,h11)/\V.one .nilslice=true/\h11.next<T.top/\∀p12 h13,p12=h11.next->h13=h11.new (.cells (.ls [.nilslice]) ⟨0,24,0⟩ true false)->∃h14,yA zA 23 h13 (.ptr p12 0) v10=some h14/\∃x15:Int,∃v16,zO zA 59 h14 (.ptr p0 0)=some (.agg [x15,v16])/\RF Tryz.prog zA 307 [(.agg [x15,v16])] h14 λv17 h18=>∃v19,v17=v19/\∀u,zB (Tb.leaf zC) u [ss 2 .nilslice,ss 3 (0:Int),kk 19,kk 20,ss 5 (.ptr p12 0),kk 6,kk 7,ss 18 v19] (RC Tryz.prog false zWg ⟨26,u,[],h18⟩ λe s1=>(thenC (λs1=>zIc false zGe s1 (endW zA ⟨26,[.tmp 2,.tmp 3],zA3⟩ Q)) (endW zA ⟨26,[.tmp 2,.tmp 3],zA3⟩ Q)) (zK 0 e) s1))):=by kernel_rfl
noncomputable def zVo:Code:=zJ Tryz.f286
theorem zTg:(zA.fn.get 286).map zR=some ⟨7,[],zVo⟩:=by kernel_rfl
def z3G:List Nat:=[]
abbrev z3x (b:Bool):Code->St->(AX->St->Prop)->Prop:=wpS Tryz.prog zA z3G 4 b
theorem zU5  {a0:Int}{a1:V}{Q:V->H->Prop}:z3x false zVo ⟨7,zF [a0,a1] 0 (Tb.leaf zC),[],h⟩ (endW zA ⟨7,[],zVo⟩ Q)=(∃x0:Int,zO zA 3 h a1=some (x0:V)/\∃h1,yA zA 3 h a1 (.int .i64 (min (zL (x0+a0)) 1048576))=some h1/\Q (.tuple []) h1):=by kernel_rfl
noncomputable def Xk:Code:=zJ Tryz.f323
def zMY:Code:=zd Xk [1,1,1,0,1,0,0]
def zGL:Code:=zd Xk [1,1,1,1,1,1,0,0,1,1,0,0,1,1,0,0,1,1,0,0,1,1,0,0]
def zOC:Code:=zd Xk [1,1,1,1,1,1,0,0,1,1,0,0,1,1,0,0,1,1,1]
def zMZ:Code:=zd Xk [1,1,1,1,1,1,0,0,1,1,0,0,1,1,0,0]
def zOD:Code:=zd Xk [1,1,1,1,1,1,0,0,1,1,1]
def zM0:Code:=zd Xk [1,1,1,1,1,1,0,0]
def zOE:Code:=zd Xk [1,1,1,1]
theorem zZr:(zA.fn.get 323).map zR=some ⟨75,[],Xk⟩:=by kernel_rfl
def Y7:List Nat:=[20,19,18,4,5,0,8,1,3,47,46,9,40,39,38]
abbrev K1 (b:Bool):Code->St->(AX->St->Prop)->Prop:=wpS Tryz.prog zA Y7 4 b
theorem zR2 {y20 y19 y5:Int}{y18 y4 y0:V}:K1 false zMY ⟨75,(zE tm [(20,y20),(19,y19),(18,y18),(4,y4),(5,y5),(0,y0)]),d,h⟩ (zD Y7 Q)=(((y20<y19->∃p0 o1,zV zA 23 y18 y20=some (.ptr p0 o1)/\∃x2:Int,zO zA 3 h (.ptr p0 o1)=some (x2:V)/\(x2=(-1)->∃h3,zAY zA 377 h y4 y5 true=some h3/\yV zA Tryz.prog 4 h3 (λv4 h5=>zAG .not v4 λv6=>wG v6 λu=>match u with|true=>(∀u,zB tm u [ss 20 y20,ss 19 y19,ss 18 y18,ss 4 y4,ss 5 y5,ss 0 y0,kk 8,kk 1,kk 3,kk 47,kk 46,kk 9,kk 40,kk 39,kk 38] (Q .ret ⟨75,u,d,h5⟩))|false=>(∀u,zB tm u [ss 20 (zL (y20+1)),ss 19 y19,ss 18 y18,ss 4 y4,ss 5 (zL (y5-1)),ss 0 y0,kk 8,kk 1,kk 3,kk 47,kk 46,kk 9,kk 40,kk 39,kk 38] (Q .normal ⟨75,u,d,h5⟩))) [y5,y20] y0)/\(¬(x2=(-1))->∀u,zB tm u [ss 20 (zL (y20+1)),ss 19 y19,ss 18 y18,ss 4 y4,ss 5 y5,ss 0 y0,kk 8,kk 1,kk 3,kk 47,kk 46,kk 9,kk 40,kk 39,kk 38] (Q .normal ⟨75,u,d,h⟩)))/\(¬(y20<y19)->∀u,zB tm u [ss 20 y20,ss 19 y19,ss 18 y18,ss 4 y4,ss 5 y5,ss 0 y0,kk 8,kk 1,kk 3,kk 47,kk 46,kk 9,kk 40,kk 39,kk 38] (Q (.exit 0) ⟨75,u,d,h⟩)))):=by kernel_rfl
theorem zR3 {y8 y3:Int}{y4 y1:V}:K1 false zGL ⟨75,(zE tm [(4,y4),(8,y8),(1,y1),(3,y3)]),d,h⟩ (zD Y7 Q)=(∃b0:Bool,JZ zA 377 h y4 y8 false=some (.bool b0)/\(b0=true->zY zA 59 0 h y1 λv1 h2=>∃x3:Int,zO zA 3 h2 v1=some (x3:V)/\RF Tryz.prog zA 324 [x3] h2 λv4 h5=>∃x6:Int,v4=x6/\∃x7:Int,zj .and .i64 (zL (y8+x6)) (zL (y3-1))=some (x7:V)/\∀u,zB tm u [kk 20,kk 19,kk 18,ss 4 y4,kk 5,kk 0,ss 8 x7,ss 1 y1,ss 3 y3,kk 47,kk 46,kk 9,kk 40,kk 39,kk 38] (Q .normal ⟨75,u,d,h5⟩))/\(b0=false->∀u,zB tm u [kk 20,kk 19,kk 18,ss 4 y4,kk 5,kk 0,ss 8 y8,ss 1 y1,ss 3 y3,kk 47,kk 46,kk 9,kk 40,kk 39,kk 38] (Q (.exit 6) ⟨75,u,d,h⟩))):=by kernel_rfl
theorem zTL {y47:Int}:K1 false zOC ⟨75,(zE tm [(47,y47)]),d,h⟩ (zD Y7 Q)=((∀u,zB tm u [kk 20,kk 19,kk 18,kk 4,kk 5,kk 0,kk 8,kk 1,kk 3,ss 47 (zL (y47+1)),kk 46,kk 9,kk 40,kk 39,kk 38] (Q .normal ⟨75,u,d,h⟩))):=by kernel_rfl
theorem zR4 {y47 y46 y8 y9 y3:Int}{y0 y1:V}:K1 false zMZ ⟨75,(zE tm [(47,y47),(46,y46),(0,y0),(8,y8),(9,y9),(1,y1),(3,y3)]),d,h⟩ (zD Y7 Q)=(((y47<y46->yV zA Tryz.prog 4 h (λv0 h1=>zAG .not v0 λv2=>wG v2 λu=>match u with|true=>(∀u,zB tm u [kk 20,kk 19,kk 18,kk 4,kk 5,ss 0 y0,ss 8 y8,ss 1 y1,ss 3 y3,ss 47 y47,ss 46 y46,ss 9 y9,kk 40,kk 39,kk 38] (Q .ret ⟨75,u,d,h1⟩))|false=>zY zA 59 0 h1 y1 λv3 h4=>∃x5:Int,zO zA 3 h4 v3=some (x5:V)/\RF Tryz.prog zA 324 [x5] h4 λv6 h7=>∃x8:Int,v6=x8/\∃x9:Int,zj .and .i64 (zL (y8+x8)) (zL (y3-1))=some (x9:V)/\∀u,zB tm u [kk 20,kk 19,kk 18,kk 4,kk 5,ss 0 y0,ss 8 x9,ss 1 y1,ss 3 y3,ss 47 y47,ss 46 y46,ss 9 y9,kk 40,kk 39,kk 38] (wpC Tryz.prog zA false (.loop zGL) ⟨75,u,d,h7⟩ λe s1=>(λe s1=>(thenC (λs1=>K1 false zOC s1 (zD Y7 Q)) (zD Y7 Q)) (zK 5 e) s1) (zK 6 e) s1)) [y8,y9] y0)/\(¬(y47<y46)->∀u,zB tm u [kk 20,kk 19,kk 18,kk 4,kk 5,ss 0 y0,ss 8 y8,ss 1 y1,ss 3 y3,ss 47 y47,ss 46 y46,ss 9 y9,kk 40,kk 39,kk 38] (Q (.exit 4) ⟨75,u,d,h⟩)))):=by kernel_rfl
theorem zTM {y40:Int}:K1 false zOD ⟨75,(zE tm [(40,y40)]),d,h⟩ (zD Y7 Q)=((∀u,zB tm u [kk 20,kk 19,kk 18,kk 4,kk 5,kk 0,kk 8,kk 1,kk 3,kk 47,kk 46,kk 9,ss 40 (zL (y40+1)),kk 39,kk 38] (Q .normal ⟨75,u,d,h⟩))):=by kernel_rfl
theorem zR5 {y40 y39:Int}{y38:V}:K1 false zM0 ⟨75,(zE tm [(40,y40),(39,y39),(38,y38)]),d,h⟩ (zD Y7 Q)=(((y40<y39->∃p0 o1,zV zA 23 y38 y40=some (.ptr p0 o1)/\∃x2:Int,zO zA 3 h (.ptr p0 o1)=some (x2:V)/\∀u,zB tm u [kk 20,kk 19,kk 18,kk 4,kk 5,kk 0,kk 8,kk 1,kk 3,ss 47 (0:Int),ss 46 (.int .i64 (max x2 0)),ss 9 y40,ss 40 y40,ss 39 y39,ss 38 y38] (wpC Tryz.prog zA false (.loop zMZ) ⟨75,u,d,h⟩ λe s1=>(λe s1=>(thenC (λs1=>K1 false zOD s1 (zD Y7 Q)) (zD Y7 Q)) (zK 3 e) s1) (zK 4 e) s1))/\(¬(y40<y39)->∀u,zB tm u [kk 20,kk 19,kk 18,kk 4,kk 5,kk 0,kk 8,kk 1,kk 3,kk 47,kk 46,kk 9,ss 40 y40,ss 39 y39,ss 38 y38] (Q (.exit 2) ⟨75,u,d,h⟩)))):=by kernel_rfl
theorem zTN {y1:V}:K1 false zOE ⟨75,(zE tm [(1,y1)]),d,h⟩ (zD Y7 Q)=(zY zA 59 1 h y1 λv0 h1=>∃v2,zO zA 23 h1 v0=some v2/\∃x3:Int,zc zA 23 h1 v2=some (x3:V)/\∀u,zB tm u [kk 20,kk 19,kk 18,kk 4,kk 5,kk 0,ss 8 (0:Int),ss 1 y1,kk 3,kk 47,kk 46,kk 9,ss 40 (0:Int),ss 39 x3,ss 38 v2] (wpC Tryz.prog zA false (.loop zM0) ⟨75,u,d,h1⟩ λe s1=>(zD Y7 Q) (zK 2 e) s1)):=by kernel_rfl
theorem z2D  {a0 a1:V}{Q:V->H->Prop}:K1 false Xk ⟨75,zF [a0,a1] 0 (Tb.leaf zC),[],h⟩ (endW zA ⟨75,[],Xk⟩ Q)=(zY zA 59 0 h a1 λv0 h1=>∃x2:Int,zO zA 3 h1 v0=some (x2:V)/\∃x3:Int,zj .shl .i64 1 x2=some (x3:V)/\∃v4 h5,yD zA ⟨none,.makeMap 377 none,0, "",#[],none⟩ (λ_=>none) h1=some (.val v4 h5)/\zY zA 59 1 h5 a1 λv6 h7=>∃v8,zO zA 23 h7 v6=some v8/\∃x9:Int,zc zA 23 h7 v8=some (x9:V)/\∀u,zB (Tb.leaf zC) u [ss 20 (0:Int),ss 19 x9,ss 18 v8,ss 4 v4,ss 5 (zL (x3-1)),ss 0 a0,kk 8,ss 1 a1,ss 3 x3,kk 47,kk 46,kk 9,kk 40,kk 39,kk 38] (wpC Tryz.prog zA false (.loop zMY) ⟨75,u,[],h7⟩ λe s1=>(thenC (λs1=>K1 false zOE s1 (endW zA ⟨75,[],Xk⟩ Q)) (endW zA ⟨75,[],Xk⟩ Q)) (zK 0 e) s1)):=by kernel_rfl
end Go.Proofs.YtnpeieeomokomaaGreat
