/- CG. No condition. -/
import Derived.Test.YtnpeieeomokomaaGreatZCF
namespace Go.Proofs.YtnpeieeomokomaaGreat
open Go.Sim
def Y6:List Nat:=[4,24,6,10,9,8,5,0,1]
abbrev Y8 (b:Bool):Code->St->(AX->St->Prop)->Prop:=wpS Tryz.prog zA Y6 4 b
variable {tm:Tm}{d:List AD}{h:H}{Q:AX->St->Prop}
theorem zOf {y6:Int}{y24:Bool}:Y8 false zNh ⟨28,(zE tm [(24,y24),(6,y6)]),d,h⟩ (zD Y6 Q)=(jk y24 λu=>match u with|true=>(∀u,zB tm u [kk 4,ss 24 y24,ss 6 y6,kk 10,kk 9,kk 8,ss 5 y6,kk 0,kk 1] (Q .normal ⟨28,u,d,h⟩))|false=>(∀u,zB tm u [kk 4,ss 24 y24,ss 6 y6,kk 10,kk 9,kk 8,kk 5,kk 0,kk 1] (Q .normal ⟨28,u,d,h⟩))):=by kernel_rfl
theorem zEr {y10:Int}:Y8 false zGc ⟨28,(zE tm [(10,y10)]),d,h⟩ (zD Y6 Q)=((∀u,zB tm u [kk 4,kk 24,kk 6,ss 10 (zL (y10+1)),kk 9,kk 8,kk 5,kk 0,kk 1] (Q .normal ⟨28,u,d,h⟩))):=by kernel_rfl
theorem zOe {y10 y9:Int}{y8:V}:Y8 false zMG ⟨28,(zE tm [(10,y10),(9,y9),(8,y8)]),d,h⟩ (zD Y6 Q)=(((y10<y9->∃p0 o1,zV zA 23 y8 y10=some (.ptr p0 o1)/\∃x2:Int,zO zA 3 h (.ptr p0 o1)=some (x2:V)/\wpDr Tryz.prog zA false z4T.toList ⟨28,(Tb.set (Tb.set (Tb.set (Tb.set (Tb.set (Tb.set (zE tm [(10,y10),(9,y9),(8,y8)]) 11 true) 12 y10) 13 (.ptr p0 o1)) 14 x2) 6 y10) 7 x2),d,h⟩ (thenC (λs1=>Y8 false zNh s1 λe s1=>(thenC (λs1=>Y8 false zGc s1 (zD Y6 Q)) (zD Y6 Q)) (zK 1 e) s1) λe s1=>(thenC (λs1=>Y8 false zGc s1 (zD Y6 Q)) (zD Y6 Q)) (zK 1 e) s1))/\(¬(y10<y9)->∀u,zB tm u [kk 4,kk 24,kk 6,ss 10 y10,ss 9 y9,ss 8 y8,kk 5,kk 0,kk 1] (Q (.exit 0) ⟨28,u,d,h⟩)))):=by kernel_rfl
theorem zOg {y5:Int}:Y8 false zNi ⟨28,(zE tm [(5,y5)]),d,h⟩ (zD Y6 Q)=((∀u,zB tm u [ss 4 y5,kk 24,kk 6,kk 10,kk 9,kk 8,ss 5 y5,kk 0,kk 1] (Q .ret ⟨28,u,d,h⟩))):=by kernel_rfl
theorem zWo  {a0 a1:V}{Q:V->H->Prop}:Y8 false zA1 ⟨28,zF [a0,a1] 0 (Tb.leaf zC),[],h⟩ (endW zA ⟨28,[.tmp 4],zA1⟩ Q)=(∃x0:Int,zc zA 23 h a0=some (x0:V)/\∀u,zB (Tb.leaf zC) u [ss 4 (0:Int),kk 24,kk 6,ss 10 (0:Int),ss 9 x0,ss 8 a0,ss 5 (0:Int),ss 0 a0,ss 1 a1] (wpC Tryz.prog zA false (.loop zMG) ⟨28,u,[],h⟩ λe s1=>(thenC (λs1=>Y8 false zNi s1 (endW zA ⟨28,[.tmp 4],zA1⟩ Q)) (endW zA ⟨28,[.tmp 4],zA1⟩ Q)) (zK 0 e) s1)):=by kernel_rfl
end Go.Proofs.YtnpeieeomokomaaGreat
