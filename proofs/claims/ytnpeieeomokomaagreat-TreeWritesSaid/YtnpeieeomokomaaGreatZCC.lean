/- CC. No condition. -/
import Derived.Test.YtnpeieeomokomaaGreatZCtx
import Derived.Test.YtnpeieeomokomaaGreatZCT
import Derived.Test.YtnpeieeomokomaaGreatZV
import Derived.Test.YtnpeieeomokomaaGreatZY
noncomputable section
namespace Go.Proofs.YtnpeieeomokomaaGreat
open Go.Sim
noncomputable def zFX:Code:=zJ Tryz.f145
theorem zYY:(zA.fn.get 145).map zR=some ⟨6,[.tmp 2],zFX⟩:=by kernel_rfl
def z27:List Nat:=[2]
abbrev z31 (b:Bool):Code->St->(AX->St->Prop)->Prop:=wpS Tryz.prog zA z27 4 b
variable {tm:Tm}{d:List AD}{h:H}{Q:AX->St->Prop}
theorem z0b  {a0:Int}{Q:V->H->Prop}:z31 false zFX ⟨6,zF [a0] 0 (Tb.leaf zC),[],h⟩ (endW zA ⟨6,[.tmp 2],zFX⟩ Q)=(RF Tryz.prog zA 216 [a0] h λv0 h1=>∃x2:Int,v0=x2/\Q (zL (x2+1)) h1):=by kernel_rfl
noncomputable def zFY:Code:=zJ Tryz.f153
def zLc:Code:=zd zFY [1,1,0,0,0]
def zNF:Code:=zd zFY [1,1,1]
theorem zY1:(zA.fn.get 153).map zR=some ⟨11,[.tmp 2],zFY⟩:=by kernel_rfl
def zUc:List Nat:=[2,0,3]
abbrev zPJ (b:Bool):Code->St->(AX->St->Prop)->Prop:=wpS Tryz.prog zA zUc 4 b
theorem zQi {y0 y3:Int}:zPJ false zLc ⟨11,(zE tm [(0,y0),(3,y3)]),d,h⟩ (zD zUc Q)=((((0:Int)<y0->(2:Int)≠0/\∀u,zB tm u [kk 2,ss 0 (zL (Int.tdiv y0 2)),ss 3 (zL (y3+1))] (Q .normal ⟨11,u,d,h⟩))/\(¬((0:Int)<y0)->∀u,zB tm u [kk 2,ss 0 y0,ss 3 y3] (Q (.exit 0) ⟨11,u,d,h⟩)))):=by kernel_rfl
theorem zRk {y3:Int}:zPJ false zNF ⟨11,(zE tm [(3,y3)]),d,h⟩ (zD zUc Q)=((∀u,zB tm u [ss 2 y3,kk 0,ss 3 y3] (Q .ret ⟨11,u,d,h⟩))):=by kernel_rfl
theorem z0e  {a0:Int}{Q:V->H->Prop}:zPJ false zFY ⟨11,zF [a0] 0 (Tb.leaf zC),[],h⟩ (endW zA ⟨11,[.tmp 2],zFY⟩ Q)=((∀u,zB (Tb.leaf zC) u [ss 2 (0:Int),ss 0 a0,ss 3 (.int .i64 ((-1)))] (wpC Tryz.prog zA false (.loop zLc) ⟨11,u,[],h⟩ λe s1=>(thenC (λs1=>zPJ false zNF s1 (endW zA ⟨11,[.tmp 2],zFY⟩ Q)) (endW zA ⟨11,[.tmp 2],zFY⟩ Q)) (zK 0 e) s1))):=by kernel_rfl
noncomputable def zF2:Code:=zJ Tryz.f216
def zLt:Code:=zd zF2 [1,1,0,1,0,0]
def zN1:Code:=zd zF2 [1,1,1]
theorem zYq:(zA.fn.get 216).map zR=some ⟨15,[.tmp 2],zF2⟩:=by kernel_rfl
def zUe:List Nat:=[2,5,0,3]
abbrev zPL (b:Bool):Code->St->(AX->St->Prop)->Prop:=wpS Tryz.prog zA zUe 4 b
theorem zQy {y5 y0:Int}:zPL false zLt ⟨15,(zE tm [(5,y5),(0,y0)]),d,h⟩ (zD zUe Q)=(((y5<63->∃x0:Int,zj .shr .i64 y0 y5=some (x0:V)/\((0:Int)<x0->∀u,zB tm u [kk 2,ss 5 (zL (y5+1)),ss 0 y0,ss 3 y5] (Q .normal ⟨15,u,d,h⟩))/\(¬((0:Int)<x0)->∀u,zB tm u [kk 2,ss 5 (zL (y5+1)),ss 0 y0,kk 3] (Q .normal ⟨15,u,d,h⟩)))/\(¬(y5<63)->∀u,zB tm u [kk 2,ss 5 y5,ss 0 y0,kk 3] (Q (.exit 0) ⟨15,u,d,h⟩)))):=by kernel_rfl
theorem zSW {y3:Int}:zPL false zN1 ⟨15,(zE tm [(3,y3)]),d,h⟩ (zD zUe Q)=((∀u,zB tm u [ss 2 y3,kk 5,kk 0,ss 3 y3] (Q .ret ⟨15,u,d,h⟩))):=by kernel_rfl
theorem z1D  {a0:Int}{Q:V->H->Prop}:zPL false zF2 ⟨15,zF [a0] 0 (Tb.leaf zC),[],h⟩ (endW zA ⟨15,[.tmp 2],zF2⟩ Q)=((∀u,zB (Tb.leaf zC) u [ss 2 (0:Int),ss 5 (0:Int),ss 0 a0,ss 3 (.int .i64 ((-1)))] (wpC Tryz.prog zA false (.loop zLt) ⟨15,u,[],h⟩ λe s1=>(thenC (λs1=>zPL false zN1 s1 (endW zA ⟨15,[.tmp 2],zF2⟩ Q)) (endW zA ⟨15,[.tmp 2],zF2⟩ Q)) (zK 0 e) s1))):=by kernel_rfl
end Go.Proofs.YtnpeieeomokomaaGreat
