/- CE. No condition. -/
import Derived.Test.YtnpeieeomokomaaGreatZCtx
import Derived.Test.YtnpeieeomokomaaGreatZCT
import Derived.Test.YtnpeieeomokomaaGreatZV
import Derived.Test.YtnpeieeomokomaaGreatZY
import Derived.Test.YtnpeieeomokomaaGreatZCA
import Derived.Test.YtnpeieeomokomaaGreatZCB
import Derived.Test.YtnpeieeomokomaaGreatZCC
import Derived.Test.YtnpeieeomokomaaGreatZCD
noncomputable section
namespace Go.Proofs.YtnpeieeomokomaaGreat
open Go.Sim
noncomputable def b82:Code:=zJ Tryz.f82
def zUI:Code:=zd b82 [1,1,1,1,1,1,1,1]
def zUJ:Code:=zd b82 [1,1]
theorem z4l:(zA.fn.get 82).map zR=some ⟨54,[.tmp 2,.tmp 3,.tmp 4],b82⟩:=by kernel_rfl
def L82:List Nat:=[2,3,4,8,0]
abbrev W82 (b:Bool):Code->St->(AX->St->Prop)->Prop:=wpS Tryz.prog zA L82 4 b
variable {tm:Tm}{d:List AD}{h:H}{Q:AX->St->Prop}
theorem zXM {y8 y3:Int}:W82 false zUI ⟨54,(zE tm [(8,y8),(3,y3)]),d,h⟩ (zD L82 Q)=(RF Tryz.prog zA 145 [y8] h λv0 h1=>∃x2:Int,v0=x2/\∀u,zB tm u [ss 2 x2,ss 3 y3,ss 4 (0:Int),ss 8 y8,kk 0] (Q .ret ⟨54,u,d,h1⟩)):=by kernel_rfl
theorem zXN {y0:V}:W82 false zUJ ⟨54,(zE tm [(0,y0)]),d,h⟩ (zD L82 Q)=(RF Tryz.prog zA 142 [y0] h λv0 h1=>∃x2:Int,∃b3:Bool,v0=(.tuple [x2,b3])/\(b3=true->RF Tryz.prog zA 143 [y0,(.func (.func 144) [] [])] h1 λv4 h5=>∃x6:Int,v4=x6/\RF Tryz.prog zA 145 [x6] h5 λv7 h8=>∃x9:Int,v7=x9/\∃x10:Int,zj .shl .i64 1 (zN .u64 ((max x9 0)))=some (x10:V)/\(x2=0->∀u,zB tm u [ss 2 (0:Int),ss 3 (0:Int),ss 4 (21:Int),ss 8 (zL (x10-x6)),ss 0 y0] (Q .ret ⟨54,u,d,h8⟩))/\(¬(x2=0)->((11:Int)<x9->∀u,zB tm u [ss 2 (0:Int),ss 3 (0:Int),ss 4 (21:Int),ss 8 (zL (x10-x6)),ss 0 y0] (Q .ret ⟨54,u,d,h8⟩))/\(¬((11:Int)<x9)->((zL (x10-x6))<1->∀u,zB tm u [ss 2 (0:Int),ss 3 (0:Int),ss 4 (21:Int),ss 8 (zL (x10-x6)),ss 0 y0] (Q .ret ⟨54,u,d,h8⟩))/\(¬((zL (x10-x6))<1)->∃x11:Int,zj .and .i64 (zL (x10-x6)) (zL ((zL (x10-x6))-1))=some (x11:V)/\(x11≠0->∀u,zB tm u [ss 2 (0:Int),ss 3 (0:Int),ss 4 (21:Int),ss 8 (zL (x10-x6)),ss 0 y0] (Q .ret ⟨54,u,d,h8⟩))/\(¬(x11≠0)->∀u,zB tm u [kk 2,ss 3 x9,kk 4,ss 8 (zL (x10-x6)),ss 0 y0] (W82 false zUI ⟨54,u,d,h8⟩ (zD L82 Q)))))))/\(b3=false->∀u,zB tm u [ss 2 (0:Int),ss 3 (0:Int),ss 4 (2:Int),kk 8,ss 0 y0] (Q .ret ⟨54,u,d,h1⟩))):=by kernel_rfl
theorem z59  {a0:V}{Q:V->H->Prop}:W82 false b82 ⟨54,zF [a0] 0 (Tb.leaf zC),[],h⟩ (endW zA ⟨54,[.tmp 2,.tmp 3,.tmp 4],b82⟩ Q)=(∃x0:Int,zc zA 23 h a0=some (x0:V)/\(x0<1->Q (.tuple [(0:Int),(0:Int),(4:Int)]) h)/\(¬(x0<1)->∃x1:Int,zc zA 23 h a0=some (x1:V)/\((255:Int)<x1->Q (.tuple [(0:Int),(0:Int),(4:Int)]) h)/\(¬((255:Int)<x1)->∀u,zB (Tb.leaf zC) u [ss 2 (0:Int),ss 3 (0:Int),ss 4 (0:Int),kk 8,ss 0 a0] (W82 false zUJ ⟨54,u,[],h⟩ (endW zA ⟨54,[.tmp 2,.tmp 3,.tmp 4],b82⟩ Q))))):=by kernel_rfl
noncomputable def b86:Code:=zJ Tryz.f86
def zTr:Code:=zd b86 [1,1,1,0,1,0,0]
def zUK:Code:=zd b86 [1,1,1,1]
def zUL:Code:=zd b86 [1,1,1]
def zUM:Code:=zd b86 [1,1]
theorem z4m:(zA.fn.get 86).map zR=some ⟨66,[.tmp 2],b86⟩:=by kernel_rfl
def L86:List Nat:=[2,3,1]
abbrev W86 (b:Bool):Code->St->(AX->St->Prop)->Prop:=wpS Tryz.prog zA L86 4 b
theorem zWw {y3:Int}{y1:V}:W86 false zTr ⟨66,(zE tm [(3,y3),(1,y1)]),d,h⟩ (zD L86 Q)=(zY zA 59 1 h y1 λv0 h1=>∃v2,zO zA 23 h1 v0=some v2/\∃x3:Int,zc zA 23 h1 v2=some (x3:V)/\(y3<x3->(h1.next<=T.top/\h1.low<=T.top)/\zY zA 59 1 h1 y1 λv4 h5=>∃v6,zO zA 23 h5 v4=some v6/\∃p7 o8,zV zA 23 v6 y3=some (.ptr p7 o8)/\∃x9:Int,zO zA 3 h5 (.ptr p7 o8)=some (x9:V)/\(x9<(-1)->∀u,zB tm u [ss 2 (23:Int),ss 3 y3,ss 1 y1] (Q .ret ⟨66,u,d,h5⟩))/\(¬(x9<(-1))->zY zA 59 1 h5 y1 λv10 h11=>∃v12,zO zA 23 h11 v10=some v12/\∃p13 o14,zV zA 23 v12 y3=some (.ptr p13 o14)/\∃x15:Int,zO zA 3 h11 (.ptr p13 o14)=some (x15:V)/\zY zA 59 0 h11 y1 λv16 h17=>∃x18:Int,zO zA 3 h17 v16=some (x18:V)/\∃x19:Int,zj .shl .i64 1 (zN .u64 (x18))=some (x19:V)/\(x19<x15->∀u,zB tm u [ss 2 (23:Int),ss 3 y3,ss 1 y1] (Q .ret ⟨66,u,d,h17⟩))/\(¬(x19<x15)->∀u,zB tm u [kk 2,ss 3 (zL (y3+1)),ss 1 y1] (Q .normal ⟨66,u,d,h17⟩))))/\(¬(y3<x3)->∀u,zB tm u [kk 2,ss 3 y3,ss 1 y1] (Q (.exit 0) ⟨66,u,d,h1⟩))):=by kernel_rfl
theorem zXO {y1:V}:W86 false zUK ⟨66,(zE tm [(1,y1)]),d,h⟩ (zD L86 Q)=(((h.next<=T.top/\h.low<=T.top)/\zY zA 59 1 h y1 λv0 h1=>∃v2,zO zA 23 h1 v0=some v2/\RF Tryz.prog zA 148 [v2] (za h1) λv3 h4=>∃x5:Int,v3=x5/\(h1.next<=h4.low/\h4.next<=T.top)/\∀h6,h6=yh h1 h4->zY zA 59 0 h6 y1 λv7 h8=>∃x9:Int,zO zA 3 h8 v7=some (x9:V)/\∃x10:Int,zj .shl .i64 1 (zN .u64 (x9))=some (x10:V)/\(x5≠x10->∀u,zB tm u [ss 2 (23:Int),kk 3,ss 1 y1] (Q .ret ⟨66,u,d,h8⟩))/\(¬(x5≠x10)->∀u,zB tm u [ss 2 (0:Int),kk 3,ss 1 y1] (Q .ret ⟨66,u,d,h8⟩)))):=by kernel_rfl
theorem zXP:W86 false zUL ⟨66,(zE tm []),d,h⟩ (zD L86 Q)=((∀u,zB tm u [kk 2,ss 3 (0:Int),kk 1] (wpC Tryz.prog zA false (.loop zTr) ⟨66,u,d,h⟩ λe s1=>(thenC (λs1=>W86 false zUK s1 (zD L86 Q)) (zD L86 Q)) (zK 0 e) s1))):=by kernel_rfl
theorem zXQ {y1:V}:W86 false zUM ⟨66,(zE tm [(1,y1)]),d,h⟩ (zD L86 Q)=(zY zA 59 1 h y1 λv0 h1=>∃v2,zO zA 23 h1 v0=some v2/\∃x3:Int,zc zA 23 h1 v2=some (x3:V)/\(x3<1->∀u,zB tm u [ss 2 (23:Int),kk 3,ss 1 y1] (Q .ret ⟨66,u,d,h1⟩))/\(¬(x3<1)->zY zA 59 1 h1 y1 λv4 h5=>∃v6,zO zA 23 h5 v4=some v6/\∃x7:Int,zc zA 23 h5 v6=some (x7:V)/\((256:Int)<x7->∀u,zB tm u [ss 2 (23:Int),kk 3,ss 1 y1] (Q .ret ⟨66,u,d,h5⟩))/\(¬((256:Int)<x7)->zY zA 59 1 h5 y1 λv8 h9=>∃v10,zO zA 23 h9 v8=some v10/\zY zA 59 1 h9 y1 λv11 h12=>∃v13,zO zA 23 h12 v11=some v13/\∃x14:Int,zc zA 23 h12 v13=some (x14:V)/\∃p15 o16,zV zA 23 v10 (zL (x14-1))=some (.ptr p15 o16)/\∃x17:Int,zO zA 3 h12 (.ptr p15 o16)=some (x17:V)/\(x17=0->∀u,zB tm u [ss 2 (23:Int),kk 3,ss 1 y1] (Q .ret ⟨66,u,d,h12⟩))/\(¬(x17=0)->∀u,zB tm u [kk 2,kk 3,ss 1 y1] (W86 false zUL ⟨66,u,d,h12⟩ (zD L86 Q)))))):=by kernel_rfl
theorem z5a  {a0_0:Int}{a0_1:V}{Q:V->H->Prop}:W86 false b86 ⟨66,zF [(.agg [a0_0,a0_1])] 0 (Tb.leaf zC),[],h⟩ (endW zA ⟨66,[.tmp 2],b86⟩ Q)=(xV (cond (zU (V.cells (.agg [a0_0,a0_1]))) (Cs.ofL (V.cells (.agg [a0_0,a0_1]))) none) λcs2=>h.next<T.top/\∀p0 h1,p0=h.next->h1=h.new (.cells cs2 ⟨0,60,0⟩ true false)->∃x3:Int,zO zA 3 h1 (.ptr p0 (0+0))=some (x3:V)/\(x3<5->Q (31:Int) h1)/\(¬(x3<5)->∃x4:Int,zO zA 3 h1 (.ptr p0 (0+0))=some (x4:V)/\((12:Int)<x4->Q (31:Int) h1)/\(¬((12:Int)<x4)->∀u,zB (Tb.leaf zC) u [ss 2 (0:Int),kk 3,ss 1 (.ptr p0 0)] (W86 false zUM ⟨66,u,[],h1⟩ (endW zA ⟨66,[.tmp 2],b86⟩ Q))))):=by kernel_rfl
noncomputable def zKa:Code:=zJ Tryz.f218
def zN2:Code:=zd zKa [1,1]
theorem zYr:(zA.fn.get 218).map zR=some ⟨20,[.tmp 2,.tmp 3],zKa⟩:=by kernel_rfl
def zXi:List Nat:=[2,3,0]
abbrev zUy (b:Bool):Code->St->(AX->St->Prop)->Prop:=wpS Tryz.prog zA zXi 4 b
theorem zSX {y0:Int}:zUy false zN2 ⟨20,(zE tm [(0,y0)]),d,h⟩ (zD zXi Q)=(∃x0:Int,zj .shl .i64 1 (zN .u64 (y0))=some (x0:V)/\(2:Int)≠0/\(8:Int)≠0/\∀u,zB tm u [ss 2 (zL ((zL ((zL (Int.tdiv x0 2))+(zL (Int.tdiv x0 8))))+3)),ss 3 (0:Int),ss 0 y0] (Q .ret ⟨20,u,d,h⟩)):=by kernel_rfl
theorem z1E  {a0:Int}{Q:V->H->Prop}:zUy false zKa ⟨20,zF [a0] 0 (Tb.leaf zC),[],h⟩ (endW zA ⟨20,[.tmp 2,.tmp 3],zKa⟩ Q)=(((a0<5->Q (.tuple [(0:Int),(2:Int)]) h)/\(¬(a0<5)->((12:Int)<a0->Q (.tuple [(0:Int),(2:Int)]) h)/\(¬((12:Int)<a0)->∀u,zB (Tb.leaf zC) u [ss 2 (0:Int),ss 3 (0:Int),ss 0 a0] (zUy false zN2 ⟨20,u,[],h⟩ (endW zA ⟨20,[.tmp 2,.tmp 3],zKa⟩ Q)))))):=by kernel_rfl
noncomputable def zF8:Code:=zJ Tryz.f243
def zMI:Code:=zd zF8 [1,1,1,0,1,0,0]
def zNl:Code:=zd zF8 [1,1,1,1]
theorem zZP:(zA.fn.get 243).map zR=some ⟨25,[.tmp 2],zF8⟩:=by kernel_rfl
def zUj:List Nat:=[2,11,10,9,4,3]
abbrev zPQ (b:Bool):Code->St->(AX->St->Prop)->Prop:=wpS Tryz.prog zA zUj 4 b
theorem zRM {y11 y10:Int}{y9 y4:V}:zPQ false zMI ⟨25,(zE tm [(11,y11),(10,y10),(9,y9),(4,y4)]),d,h⟩ (zD zUj Q)=(((y11<y10->∃p0 o1,zV zA 23 y9 y11=some (.ptr p0 o1)/\∃x2:Int,zO zA 3 h (.ptr p0 o1)=some (x2:V)/\(x2<0->yV zA Tryz.prog 0 h (λv3 h4=>(∀u,zB tm u [kk 2,ss 11 (zL (y11+1)),ss 10 y10,ss 9 y9,ss 4 y4,kk 3] (Q .normal ⟨25,u,d,h4⟩))) [(1:Int)] y4)/\(¬(x2<0)->yV zA Tryz.prog 0 h (λv5 h6=>(∀u,zB tm u [kk 2,ss 11 (zL (y11+1)),ss 10 y10,ss 9 y9,ss 4 y4,kk 3] (Q .normal ⟨25,u,d,h6⟩))) [(.int .i64 (min x2 1048576))] y4))/\(¬(y11<y10)->∀u,zB tm u [kk 2,ss 11 y11,ss 10 y10,ss 9 y9,ss 4 y4,kk 3] (Q (.exit 0) ⟨25,u,d,h⟩)))):=by kernel_rfl
theorem zSm {y3:V}:zPQ false zNl ⟨25,(zE tm [(3,y3)]),d,h⟩ (zD zUj Q)=(∃x0:Int,zO zA 3 h y3=some (x0:V)/\∀u,zB tm u [ss 2 x0,kk 11,kk 10,kk 9,kk 4,ss 3 y3] (Q .ret ⟨25,u,d,h⟩)):=by kernel_rfl
theorem z11  {a0_0:Int}{a0_1:V}{Q:V->H->Prop}:zPQ false zF8 ⟨25,zF [(.agg [a0_0,a0_1])] 0 (Tb.leaf zC),[],h⟩ (endW zA ⟨25,[.tmp 2],zF8⟩ Q)=(xV (cond (zU (V.cells (.agg [a0_0,a0_1]))) (Cs.ofL (V.cells (.agg [a0_0,a0_1]))) none) λcs2=>h.next<T.top/\∀p0 h1,p0=h.next->h1=h.new (.cells cs2 ⟨0,60,0⟩ true false)->V.one (0:Int)=true/\h1.next<T.top/\∀p3 h4,p3=h1.next->h4=h1.new (.cells (.ls [(0:Int)]) ⟨0,4,0⟩ true false)->∃h5,yA zA 3 h4 (.ptr p3 0) (0:Int)=some h5/\∃v6,zO zA 23 h5 (.ptr p0 (0+1))=some v6/\∃x7:Int,zc zA 23 h5 v6=some (x7:V)/\∀u,zB (Tb.leaf zC) u [ss 2 (0:Int),ss 11 (0:Int),ss 10 x7,ss 9 v6,ss 4 (.func (.func 286) [] [(.ptr p3 0)]),ss 3 (.ptr p3 0)] (wpC Tryz.prog zA false (.loop zMI) ⟨25,u,[],h5⟩ λe s1=>(thenC (λs1=>zPQ false zNl s1 (endW zA ⟨25,[.tmp 2],zF8⟩ Q)) (endW zA ⟨25,[.tmp 2],zF8⟩ Q)) (zK 0 e) s1)):=by kernel_rfl
noncomputable def zVs:Code:=zJ Tryz.f307
theorem zZk:(zA.fn.get 307).map zR=some ⟨4,[.tmp 2],zVs⟩:=by kernel_rfl
def z3K:List Nat:=[2]
abbrev z4B (b:Bool):Code->St->(AX->St->Prop)->Prop:=wpS Tryz.prog zA z3K 4 b
theorem z1w  {a0_0:Int}{a0_1:V}{Q:V->H->Prop}:z4B false zVs ⟨4,zF [(.agg [a0_0,a0_1])] 0 (Tb.leaf zC),[],h⟩ (endW zA ⟨4,[.tmp 2],zVs⟩ Q)=(xV (cond (zU (V.cells (.agg [a0_0,a0_1]))) (Cs.ofL (V.cells (.agg [a0_0,a0_1]))) none) λcs2=>h.next<T.top/\∀p0 h1,p0=h.next->h1=h.new (.cells cs2 ⟨0,60,0⟩ true false)->Q (.func (.func 323) [] [(.ptr p0 0)]) h1):=by kernel_rfl
noncomputable def zVv:Code:=zJ Tryz.f324
theorem zZs:(zA.fn.get 324).map zR=some ⟨12,[.tmp 2],zVv⟩:=by kernel_rfl
def z3N:List Nat:=[2]
abbrev z4E (b:Bool):Code->St->(AX->St->Prop)->Prop:=wpS Tryz.prog zA z3N 4 b
theorem z2E  {a0:Int}{Q:V->H->Prop}:z4E false zVv ⟨12,zF [a0] 0 (Tb.leaf zC),[],h⟩ (endW zA ⟨12,[.tmp 2],zVv⟩ Q)=(∃x0:Int,zj .shl .i64 1 a0=some (x0:V)/\∃x1:Int,zj .shr .i64 x0 1=some (x1:V)/\∃x2:Int,zj .shr .i64 x0 3=some (x2:V)/\Q (zL ((zL (x1+x2))+3)) h):=by kernel_rfl
end Go.Proofs.YtnpeieeomokomaaGreat

