/- CD. No condition. -/
import Derived.Test.YtnpeieeomokomaaGreatYCtx
import Derived.Test.YtnpeieeomokomaaGreatYCT
import Derived.Test.YtnpeieeomokomaaGreatYS
import Derived.Test.YtnpeieeomokomaaGreatYW
import Derived.Test.YtnpeieeomokomaaGreatYCA
noncomputable section
namespace Go.Proofs.YtnpeieeomokomaaGreat
open Go.Sim
variable{a1:Int}{a0 y6:V}
noncomputable def b12:Code:=zE Tryz.f12
def zVT:Code:=zi b12 [1,1,0,1,0,0]
def zV9:Code:=zi b12 [1,1,1]
theorem z6q:(zA.fn.get 12).map zI=some ⟨26,[.tmp 4],b12⟩:=by kernel_rfl
def L12:List Nat:=[4,5,0,1]
abbrev W12(b:Bool):Code->St->(AX->St->Prop)->Prop:=wpS Tryz.prog zA L12 4 b
variable {tm:Tm}{d:List AD}{h:H}{Q:AX->St->Prop}
theorem zYW{y5:Int}{y0 y1:V}:Vy (W12 false) 26 L12 zVT [(5,y5),(0,y0),(1,y1)] d h Q (λE _ _ _ _=>∃x0:Int,zp zA 23 h y0=some (x0:V)/\(y5<x0->(h.nx<=T.top/\h.low<=T.top)/\∃p1 o2,z8 zA 23 y0 y5=some (.ptr p1 o2)/\∃x3:Int,zK zA 3 h (.ptr p1 o2)=some (x3:V)/\∃p4 o5,z8 zA 23 y1 y5=some (.ptr p4 o5)/\∃x6:Int,zK zA 3 h (.ptr p4 o5)=some (x6:V)/\(x3≠x6->E [(4,false)] .ret h)/\(¬(x3≠x6)->E [(5,(zG (y5+1)))] .normal h))/\(¬(y5<x0)->E [] (.exit 0) h)):=λ_=>by kernel_rfl
theorem zYc :Vy (W12 false) 26 L12 zV9 [] d h Q (λE _ _ _ _=>(E [(4,true)] .ret h)):=λ_=>by kernel_rfl
theorem z7a{a1:V}{Q:V->H->Prop}:W12 false b12 ⟨26,zC [a0,a1] 0 (Tb.leaf zB),[],h⟩ (endW zA ⟨26,[.tmp 4],b12⟩ Q)=(∃x0:Int,zp zA 23 h a0=some (x0:V)/\∃x1:Int,zp zA 23 h a1=some (x1:V)/\(x0≠x1->Q false h)/\(¬(x0≠x1)->Lz L12 26 [(4,false),(5,(0:Int)),(0,a0),(1,a1)] zVT h (Kx (W12 false) zV9 0 (endW zA ⟨26,[.tmp 4],b12⟩ Q)))):=by kernel_rfl
noncomputable def b40:Code:=zE Tryz.f40
theorem z7B:(zA.fn.get 40).map zI=some ⟨32,[.tmp 2,.cell 3 26],b40⟩:=by kernel_rfl
def L40:List Nat:=[2,3]
abbrev W40(b:Bool):Code->St->(AX->St->Prop)->Prop:=wpS Tryz.prog zA L40 4 b
theorem z7k{a0:List UInt8}{Q:V->H->Prop}:W40 false b40 ⟨32,zC [a0] 0 (Tb.leaf zB),[],h⟩ (endW zA ⟨32,[.tmp 2,.cell 3 26],b40⟩ Q)=((h.nx<T.top/\∀p0 h1,p0=h.nx->h1=h.new (.cells (.ls [(0:Int),(0:Int)]) ⟨0,27,0⟩ true false)->RF Tryz.prog zA 80 [a0,(0:Int),(6:Int),(12:Int)] h1 λv2 h3=>∃x4:Int,∃v5,∃x6:Int,∃x7:Int,∃x8:Int,v2=(.tuple [(.agg [x4,v5]),x6,(.agg [x7,x8])])/\h3.nx<T.top/\∀p9 h10,p9=h3.nx->h10=h3.new (.cells (.ls [(0:Int),.nilslice]) ⟨0,60,0⟩ true false)->∃h11,zg zA 59 h10 (.ptr p9 0) (.agg [x4,v5])=some h11/\∃h12,zg zA 26 h11 (.ptr p0 0) (.agg [x7,x8])=some h12/\∃x13:Int,zK zA 24 h12 (.ptr p0 (0+0))=some (x13:V)/\(x13≠0->(h12.nx<=T.top/\h12.low<=T.top)/\∃x14:Int,∃x15:Int,zK zA 26 h12 (.ptr p0 0)=some (.agg [x14,x15])/\∃h16,zg zA 26 h12 (.ptr p0 0) (.agg [x14,x15])=some h16/\endL zA h16 [(.tmp 2,.nilslice),(.cell 3 26,(.ptr p0 0))] Q)/\(¬(x13≠0)->(h12.nx<=T.top/\h12.low<=T.top)/\∃x17:Int,∃v18,zK zA 59 h12 (.ptr p9 0)=some (.agg [x17,v18])/\∃l19:List UInt8,yB zA 9 h12 a0 (some (x6:V)) none none=some (.str l19)/\RF Tryz.prog zA 81 [(.agg [x17,v18]),l19] (zM h12) λv20 h21=>∃v22,∃x23:Int,v20=(.tuple [v22,x23])/\h21.nx<=T.top/\∀h24,h24=yL h12 h21->(x23≠0->∃h25,zg zA 26 h24 (.ptr p0 0) (.agg [x23,x6])=some h25/\endL zA h25 [(.tmp 2,.nilslice),(.cell 3 26,(.ptr p0 0))] Q)/\(¬(x23≠0)->∃h26,zg zA 26 h24 (.ptr p0 0) (.agg [(0:Int),(0:Int)])=some h26/\endL zA h26 [(.tmp 2,v22),(.cell 3 26,(.ptr p0 0))] Q)))):=by kernel_rfl
noncomputable def b91:Code:=zE Tryz.f91
def zV3:Code:=zi b91 [1,1,1,0,1,0,0]
def zVm:Code:=zi b91 [1,1,1,1]
theorem z7Q:(zA.fn.get 91).map zI=some ⟨32,[.tmp 4],b91⟩:=by kernel_rfl
def L91:List Nat:=[4,16,15,14,6,1]
abbrev W91(b:Bool):Code->St->(AX->St->Prop)->Prop:=wpS Tryz.prog zA L91 4 b
theorem zY8{y16 y15 y1:Int}{y14:V}:Vy (W91 false) 32 L91 zV3 [(16,y16),(15,y15),(14,y14),(6,y6),(1,y1)] d h Q (λE _ _ _ _=>((y16<y15->∃p0 o1,z8 zA 23 y14 y16=some (.ptr p0 o1)/\∃x2:Int,zK zA 3 h (.ptr p0 o1)=some (x2:V)/\(x2≠0->∃p3 o4,z8 zA 23 y6 y16=some (.ptr p3 o4)/\∃h5,zg zA 3 h (.ptr p3 o4) (zG ((zG (y1+1))-x2))=some h5/\E [(16,(zG (y16+1)))] .normal h5)/\(¬(x2≠0)->E [(16,(zG (y16+1)))] .normal h))/\(¬(y16<y15)->E [] (.exit 0) h))):=λ_=>by kernel_rfl
theorem zYu:Vy (W91 false) 32 L91 zVm [(6,y6)] d h Q (λE _ _ _ _=>(E [(4,y6)] .ret h)):=λ_=>by kernel_rfl
theorem z7z{Q:V->H->Prop}:W91 false b91 ⟨32,zC [a0,a1] 0 (Tb.leaf zB),[],h⟩ (endW zA ⟨32,[.tmp 4],b91⟩ Q)=(ws (cond (zL (V.cells (.agg (List.replicate 256 (0:Int))))) (Cs.ofL (V.cells (.agg (List.replicate 256 (0:Int))))) none) λcs2=>h.nx<T.top/\∀p0 h1,p0=h.nx->h1=h.new (.cells cs2 ⟨0,207,0⟩ true false)->∃x3:Int,zp zA 23 h1 a0=some (x3:V)/\∃x4:Int,zp zA 23 h1 a0=some (x4:V)/\∃v5,yB zA 206 h1 (.ptr p0 0) none (some (x3:V)) (some (x4:V))=some v5/\∃x6:Int,zp zA 23 h1 a0=some (x6:V)/\Lz L91 32 [(4,.nilslice),(16,(0:Int)),(15,x6),(14,a0),(6,v5),(1,a1)] zV3 h1 (Kx (W91 false) zVm 0 (endW zA ⟨32,[.tmp 4],b91⟩ Q))):=by kernel_rfl
noncomputable def zWd:Code:=zE Tryz.f140
theorem z0K:(zA.fn.get 140).map zI=some ⟨35,[.tmp 4,.tmp 5],zWd⟩:=by kernel_rfl
def z40:List Nat:=[4,5]
abbrev z52(b:Bool):Code->St->(AX->St->Prop)->Prop:=wpS Tryz.prog zA z40 4 b
theorem z2T{a0_0:Int}{a1:List UInt8}{a0_1:V}{Q:V->H->Prop}:z52 false zWd ⟨35,zC [(.agg [a0_0,a0_1]),a1] 0 (Tb.leaf zB),[],h⟩ (endW zA ⟨35,[.tmp 4,.tmp 5],zWd⟩ Q)=(ws (cond (zL (V.cells (.agg [a0_0,a0_1]))) (Cs.ofL (V.cells (.agg [a0_0,a0_1]))) none) λcs2=>h.nx<T.top/\∀p0 h1,p0=h.nx->h1=h.new (.cells cs2 ⟨0,60,0⟩ true false)->∃x3:Int,∃v4,zK zA 59 h1 (.ptr p0 0)=some (.agg [x3,v4])/\RF Tryz.prog zA 173 [(.agg [x3,v4])] h1 λv5 h6=>∃x7:Int,v5=x7/\(x7≠0->Q (.tuple [.nilptr,x7]) h6)/\(¬(x7≠0)->RF Tryz.prog zA 213 [a1] h6 λv8 h9=>∃l10:List UInt8,∃x11:Int,∃x12:Int,v8=(.tuple [(.agg [l10,x11]),x12])/\h9.nx<T.top/\∀p13 h14,p13=h9.nx->h14=h9.new (.cells (.ls [(.str []),(0:Int)]) ⟨0,121,0⟩ true false)->∃h15,zg zA 120 h14 (.ptr p13 0) (.agg [l10,x11])=some h15/\(x12≠0->Q (.tuple [.nilptr,x12]) h15)/\(¬(x12≠0)->∃x16:Int,∃v17,zK zA 59 h15 (.ptr p0 0)=some (.agg [x16,v17])/\RF Tryz.prog zA 214 [(.agg [x16,v17])] h15 λv18 h19=>∃v20,∃x21:Int,v18=(.tuple [v20,x21])/\∃l22:List UInt8,∃x23:Int,zK zA 120 h19 (.ptr p13 0)=some (.agg [l22,x23])/\∃x24:Int,zK zA 3 h19 (.ptr p0 (0+0))=some (x24:V)/\xp zA 195 (xA zA 195 [(0,(.agg [l22,x23])),(1,v20),(2,x24)]) λv25=>ws (cond (zL (V.cells v25)) (Cs.ofL (V.cells v25)) none) λcs28=>h19.nx<T.top/\∀p26 h27,p26=h19.nx->h27=h19.new (.cells cs28 ⟨0,196,0⟩ true false)->Q (.tuple [(.ptr p26 0),x21]) h27))):=by kernel_rfl
noncomputable def zWf:Code:=zE Tryz.f144
theorem z0N:(zA.fn.get 144).map zI=some ⟨7,[.tmp 2],zWf⟩:=by kernel_rfl
def z42:List Nat:=[2]
abbrev z55(b:Bool):Code->St->(AX->St->Prop)->Prop:=wpS Tryz.prog zA z42 4 b
theorem z2W{a0:Int}{Q:V->H->Prop}:z55 false zWf ⟨7,zC [a0] 0 (Tb.leaf zB),[],h⟩ (endW zA ⟨7,[.tmp 2],zWf⟩ Q)=(∃x0:Int,zq .shl .i64 1 (zT .u64 ((zG (a0-1))))=some (x0:V)/\Q x0 h):=by kernel_rfl
noncomputable def zGv:Code:=zE Tryz.f242
def zNe:Code:=zi zGv [1,1,1,0,1,0,0]
def zPG:Code:=zi zGv [1,1,1,1]
def zPH:Code:=zi zGv [1,1]
theorem z0h:(zA.fn.get 242).map zI=some ⟨25,[.tmp 2],zGv⟩:=by kernel_rfl
def zMC:List Nat:=[2,4,0,3]
abbrev zJv(b:Bool):Code->St->(AX->St->Prop)->Prop:=wpS Tryz.prog zA zMC 4 b
theorem zTJ{y4 y3:Int}{y0:V}:Vy (zJv false) 25 zMC zNe [(4,y4),(0,y0),(3,y3)] d h Q (λE _ _ _ _=>∃x0:Int,zp zA 23 h y0=some (x0:V)/\(y4<x0->∃p1 o2,z8 zA 23 y0 y4=some (.ptr p1 o2)/\∃x3:Int,zK zA 3 h (.ptr p1 o2)=some (x3:V)/\E [(4,(zG (y4+1))),(3,(.int .i64 (min y3 x3)))] .normal h)/\(¬(y4<x0)->E [] (.exit 0) h)):=λ_=>by kernel_rfl
theorem zUK{y3:Int}:Vy (zJv false) 25 zMC zPG [(3,y3)] d h Q (λE _ _ _ _=>(E [(2,y3)] .ret h)):=λ_=>by kernel_rfl
theorem zUL{y0:V}:Vy (zJv false) 25 zMC zPH [(0,y0)] d h Q (λ_ _ M S _=>∃p0 o1,z8 zA 23 y0 (0:Int)=some (.ptr p0 o1)/\∃x2:Int,zK zA 3 h (.ptr p0 o1)=some (x2:V)/\M [(4,(1:Int)),(3,x2)] zNe h (Kx (zJv false) zPG 0 S)):=λ_=>by kernel_rfl
theorem z2q{Q:V->H->Prop}:zJv false zGv ⟨25,zC [a0] 0 (Tb.leaf zB),[],h⟩ (endW zA ⟨25,[.tmp 2],zGv⟩ Q)=(∃x0:Int,zp zA 23 h a0=some (x0:V)/\(x0<1->False)/\(¬(x0<1)->Gz zMC (Tb.leaf zB) [(2,(0:Int)),(0,a0)] λu=>zJv false zPH ⟨25,u,[],h⟩ (endW zA ⟨25,[.tmp 2],zGv⟩ Q))):=by kernel_rfl
noncomputable def zE9:Code:=zE Tryz.f275
def zDh:Code:=zi zE9 [1,1,1,1,0,1,0,0,1,1,0,0,1,1]
def zDi:Code:=zi zE9 [1,1,1,1,0,1,0,0,1,1,1]
def zNm:Code:=zi zE9 [1,1,1,1,0,1,0,0]
def zPT:Code:=zi zE9 [1,1,1,1,1]
theorem z1C:(zA.fn.get 275).map zI=some ⟨64,[.tmp 6],zE9⟩:=by kernel_rfl
def zBI:List Nat:=[6,9,11,0,8,20,19,18,1]
abbrev Kg(b:Bool):Code->St->(AX->St->Prop)->Prop:=wpS Tryz.prog zA zBI 4 b
theorem zU2{y11 y0:Int}{y9 y8:V}:Vy (Kg false) 64 zBI zDh [(9,y9),(11,y11),(0,y0),(8,y8)] d h Q (λE _ _ _ _=>∃x0:Int,ZQ zA 357 h y9 y11 false=some (x0:V)/\∃x1:Int,ZQ zA 357 h y9 y11 false=some (x1:V)/\∃h2,Kj zA 357 h y9 y11 (zG (x1+1))=some h2/\RF Tryz.prog zA 216 [x0] h2 λv3 h4=>∃x5:Int,v3=x5/\∃x6:Int,zq .shl .i64 x0 (zT .u64 ((zG (y0-x5))))=some (x6:V)/\∃x7:Int,zq .shl .i64 1 (zT .u64 (y0))=some (x7:V)/\∃v8 h9,zF zA 123 1 [(0,(.agg [y11,(zG (y0-x5)),(zG (x6-x7))]))] h4=some (v8,h9)/\True/\∃v10 h11,zc zA 123 h9 y8 v8=some (v10,h11)/\E [(8,v10)] .normal h11):=λ_=>by kernel_rfl
theorem zU3{y20:Int}:Vy (Kg false) 64 zBI zDi [(20,y20)] d h Q (λE _ _ _ _=>(E [(20,(zG (y20+1)))] .normal h)):=λ_=>by kernel_rfl
theorem zTR{y20 y19:Int}{y18 y9 y1:V}:Vy (Kg false) 64 zBI zNm [(20,y20),(19,y19),(18,y18),(9,y9),(1,y1)] d h Q (λE _ _ S tm=>((y20<y19->∃p0 o1,z8 zA 23 y18 y20=some (.ptr p0 o1)/\∃x2:Int,zK zA 3 h (.ptr p0 o1)=some (x2:V)/\∃x3:Int,∃b4:Bool,ZQ zA 357 h y9 x2 true=some (.tuple [x3,b4])/\(b4=true->Gz zBI tm [(11,x2)] λu=>Kg false zDh ⟨64,u,d,h⟩ (Kx (Kg false) zDi 1 S))/\(b4=false->yW zA Tryz.prog 3 h (λv5 h6=>∃h7,Kj zA 357 h6 y9 x2 v5=some h7/\Gz zBI tm [(11,x2)] λu=>Kg false zDh ⟨64,u,d,h7⟩ (Kx (Kg false) zDi 1 S)) [x2] y1))/\(¬(y20<y19)->E [] (.exit 0) h))):=λ_=>by kernel_rfl
theorem zU4{y8:V}:Vy (Kg false) 64 zBI zPT [(8,y8)] d h Q (λE _ _ _ _=>(E [(6,y8)] .ret h)):=λ_=>by kernel_rfl
theorem z3L{a0:Int}{a1 a2:V}{Q:V->H->Prop}:Kg false zE9 ⟨64,zC [a0,a1,a2] 0 (Tb.leaf zB),[],h⟩ (endW zA ⟨64,[.tmp 6],zE9⟩ Q)=(ws (cond (zL (V.cells (.agg (List.replicate 1536 (0:Int))))) (Cs.ofL (V.cells (.agg (List.replicate 1536 (0:Int))))) none) λcs2=>h.nx<T.top/\∀p0 h1,p0=h.nx->h1=h.new (.cells cs2 ⟨0,357,0⟩ true false)->∃v3,yB zA 356 h1 (.ptr p0 0) none (some (.int .i64 0)) (some (.int .i64 512))=some v3/\∃v4 h5,zh zA ⟨none,.makeMap 357 none,0, "",#[],none⟩ (λ_=>none) h1=some (.val v4 h5)/\∃x6:Int,zp zA 23 h5 a2=some (x6:V)/\Lz zBI 64 [(6,.nilslice),(9,v4),(0,a0),(8,v3),(20,(0:Int)),(19,x6),(18,a2),(1,a1)] zNm h5 (Kx (Kg false) zPT 0 (endW zA ⟨64,[.tmp 6],zE9⟩ Q))):=by kernel_rfl
noncomputable def zGz:Code:=zE Tryz.f308
def z6j:Array Oper:=Yg (zi zGz [1,1,0])
def zP1:Code:=zi zGz [1,1,1]
theorem z1X:(zA.fn.get 308).map zI=some ⟨27,[.tmp 2],zGz⟩:=by kernel_rfl
def zZV:List Nat:=[2]
abbrev zWW(b:Bool):Code->St->(AX->St->Prop)->Prop:=wpS Tryz.prog zA zZV 4 b
theorem zUh :Vy (zWW false) 27 zZV zP1 [] d h Q (λE _ _ _ _=>(E [] .ret h)):=λ_=>by kernel_rfl
theorem z36{a0_1:Int}{a0_0:List UInt8}{Q:V->H->Prop}:zWW false zGz ⟨27,zC [(.agg [a0_0,a0_1])] 0 (Tb.leaf zB),[],h⟩ (endW zA ⟨27,[.tmp 2],zGz⟩ Q)=((h.nx<T.top/\∀p0 h1,p0=h.nx->h1=h.new (.cells (.ls [a0_0,a0_1]) ⟨0,121,0⟩ true false)->∃l2:List UInt8,zK zA 9 h1 (.ptr p0 (0+0))=some (.str l2)/\h1.nx<T.top/\∀p3 h4,p3=h1.nx->h4=h1.new (.cells (.ls [(.str [])]) ⟨0,299,0⟩ true false)->∃h5,zg zA 298 h4 (.ptr p3 0) (.agg [l2])=some h5/\wpDr Tryz.prog zA false z6j.toList ⟨27,(Tb.set (Tb.set (Tb.set (Tb.set (Tb.set (Tb.set (Tb.set (Tb.leaf zB) 0 (.agg [a0_0,a0_1])) 1 (.ptr p0 0)) 2 (0:Int)) 4 (.ptr p0 (0+0))) 5 l2) 6 (.agg [l2])) 3 (.ptr p3 0)),[],h5⟩ (thenC (λs1=>zWW false zP1 s1 (endW zA ⟨27,[.tmp 2],zGz⟩ Q)) (endW zA ⟨27,[.tmp 2],zGz⟩ Q)))):=by kernel_rfl
noncomputable def b13:Code:=zE Tryz.f13
theorem z6r:(zA.fn.get 13).map zI=some ⟨27,[.tmp 4,.tmp 5,.cell 6 26],b13⟩:=by kernel_rfl
def L13:List Nat:=[4,5,6]
abbrev W13(b:Bool):Code->St->(AX->St->Prop)->Prop:=wpS Tryz.prog zA L13 4 b
theorem z7b{a0:List UInt8}{Q:V->H->Prop}:W13 false b13 ⟨27,zC [a0,a1] 0 (Tb.leaf zB),[],h⟩ (endW zA ⟨27,[.tmp 4,.tmp 5,.cell 6 26],b13⟩ Q)=((h.nx<T.top/\∀p0 h1,p0=h.nx->h1=h.new (.cells (.ls [(0:Int),(0:Int)]) ⟨0,27,0⟩ true false)->RF Tryz.prog zA 10 [a0,a1] h1 λv2 h3=>∃v4,∃x5:Int,∃x6:Int,∃x7:Int,v2=(.tuple [v4,x5,(.agg [x6,x7])])/\∃h8,zg zA 26 h3 (.ptr p0 0) (.agg [x6,x7])=some h8/\∃x9:Int,zK zA 24 h8 (.ptr p0 (0+0))=some (x9:V)/\(x9≠0->(h8.nx<=T.top/\h8.low<=T.top)/\∃x10:Int,∃x11:Int,zK zA 26 h8 (.ptr p0 0)=some (.agg [x10,x11])/\∃h12,zg zA 26 h8 (.ptr p0 0) (.agg [x10,x11])=some h12/\endL zA h12 [(.tmp 4,.nilslice),(.tmp 5,(0:Int)),(.cell 6 26,(.ptr p0 0))] Q)/\(¬(x9≠0)->RF Tryz.prog zA 46 [v4] h8 λv13 h14=>∃v15,∃x16:Int,v13=(.tuple [v15,x16])/\(h14.nx<=T.top/\h14.low<=T.top)/\∃x17:Int,∃x18:Int,zK zA 26 h14 (.ptr p0 0)=some (.agg [x17,x18])/\∃h19,zg zA 26 h14 (.ptr p0 0) (.agg [x17,x18])=some h19/\endL zA h19 [(.tmp 4,v15),(.tmp 5,x5),(.cell 6 26,(.ptr p0 0))] Q))):=by kernel_rfl
noncomputable def b38:Code:=zE Tryz.f38
theorem z6z:(zA.fn.get 38).map zI=some ⟨12,[],b38⟩:=by kernel_rfl
def L38:List Nat:=[]
abbrev W38(b:Bool):Code->St->(AX->St->Prop)->Prop:=wpS Tryz.prog zA L38 4 b
noncomputable def b39:Code:=zE Tryz.f39
def zJR:Code:=zi b39 [1,0,1]
def zVX:Code:=zi b39 [1,1,1,1,1,1,1,0,0,0]
def zVd:Code:=zi b39 [1,1,1,1,1,1,1,1]
def zJS:Code:=zi b39 [1,1]
theorem z7A:(zA.fn.get 39).map zI=some ⟨85,[.tmp 4,.tmp 5,.cell 6 26],b39⟩:=by kernel_rfl
def L39:List Nat:=[4,5,6,16,7,8,1,0]
abbrev W39(b:Bool):Code->St->(AX->St->Prop)->Prop:=wpS Tryz.prog zA L39 4 b
theorem zYh{y16:Bool}:Vy (W39 false) 85 L39 zJR [(16,y16),(6,y6)] d h Q (λE _ _ _ _=>ZT y16 λu=>match u with|true=>∃h0,zg zA 26 h y6 (.agg [(2:Int),(0:Int)])=some h0/\(E [(4,.nilslice),(5,(0:Int))] .ret h0)|false=>(E [] .normal h)):=λ_=>by kernel_rfl
theorem zY0{y8:Int}{y7:V}:Vy (W39 false) 85 L39 zVX [(7,y7),(8,y8)] d h Q (λE _ _ _ _=>∃v0 h1,zh zA ⟨none,.nilCheck (t 0),0, "",#[],none⟩ (λ_=>some y7) h=some (.val v0 h1)/\zR zA 105 1 h1 v0 λv2 h3=>∃v4,zK zA 23 h3 v2=some v4/\∃x5:Int,zp zA 23 h3 v4=some (x5:V)/\(x5<y8->∃v6 h7,zh zA ⟨none,.nilCheck (t 0),0, "",#[],none⟩ (λ_=>some y7) h3=some (.val v6 h7)/\zR zA 105 1 h7 v6 λv8 h9=>∃v10,zK zA 23 h9 v8=some v10/\∃x11:Int,zp zA 23 h9 v10=some (x11:V)/\RF Tryz.prog zA 79 [y7,(zG (y8-x11))] h9 λv12 h13=>v12=(.tuple [])/\E [] .normal h13)/\(¬(x5<y8)->E [] (.exit 0) h3)):=λ_=>by kernel_rfl
theorem zYi{y1:Int}{y7:V}:Vy (W39 false) 85 L39 zVd [(7,y7),(1,y1),(6,y6)] d h Q (λE _ _ _ _=>∃v0 h1,zh zA ⟨none,.nilCheck (t 0),0, "",#[],none⟩ (λ_=>some y7) h=some (.val v0 h1)/\zR zA 105 1 h1 v0 λv2 h3=>∃v4,zK zA 23 h3 v2=some v4/\RF Tryz.prog zA 41 [v4] h3 λv5 h6=>∃x7:Int,v5=x7/\(x7≠0->∃h8,zg zA 26 h6 y6 (.agg [(21:Int),y1])=some h8/\E [(4,.nilslice),(5,(0:Int))] .ret h8)/\(¬(x7≠0)->(h6.nx<=T.top/\h6.low<=T.top)/\∃v9 h10,zh zA ⟨none,.nilCheck (t 0),0, "",#[],none⟩ (λ_=>some y7) (zM h6)=some (.val v9 h10)/\(h6.nx<=h10.low/\h10.nx<=T.top)/\∀h11,h11=yL h6 h10->zR zA 105 1 h11 v9 λv12 h13=>∃v14,zK zA 23 h13 v12=some v14/\∃v15 h16,zh zA ⟨none,.nilCheck (t 0),0, "",#[],none⟩ (λ_=>some y7) (zM h13)=some (.val v15 h16)/\(h13.nx<=h16.low/\h16.nx<=T.top)/\∀h17,h17=yL h13 h16->zR zA 105 0 h17 v15 λv18 h19=>zR zA 103 1 h19 v18 λv20 h21=>∃x22:Int,zK zA 3 h21 v20=some (x22:V)/\∃h23,zg zA 26 h21 y6 (.agg [(0:Int),(0:Int)])=some h23/\E [(4,v14),(5,x22)] .ret h23)):=λ_=>by kernel_rfl
theorem zYj{y1:Int}{y0:List UInt8}:Vy (W39 false) 85 L39 zJS [(0,y0),(1,y1),(6,y6)] d h Q (λE _ M S _=>(h.nx<T.top/\∀p0 h1,p0=h.nx->h1=h.new (.cells (.ls [y0,y1,.nilslice]) ⟨0,106,0⟩ true false)->∃v2 h3,zh zA ⟨none,.nilCheck (t 0),0, "",#[],none⟩ (λ_=>some (.ptr p0 0)) h1=some (.val v2 h3)/\zR zA 105 0 h3 v2 λv4 h5=>RF Tryz.prog zA 77 [v4] h5 λv6 h7=>∃x8:Int,v6=x8/\(x8=0->∃h9,zg zA 26 h7 y6 (.agg [(5:Int),(.int .i64 (Int.ofNat (List.length y0)))])=some h9/\E [(4,.nilslice),(5,(0:Int)),(7,(.ptr p0 0))] .ret h9)/\(¬(x8=0)->∃v10 h11,zh zA ⟨none,.nilCheck (t 0),0, "",#[],none⟩ (λ_=>some (.ptr p0 0)) h7=some (.val v10 h11)/\zR zA 105 0 h11 v10 λv12 h13=>RF Tryz.prog zA 78 [v12] h13 λv14 h15=>∃x16:Int,v14=x16/\((zG (x16-127))<1->∃h17,zg zA 26 h15 y6 (.agg [(21:Int),y1])=some h17/\E [(4,.nilslice),(5,(0:Int)),(7,(.ptr p0 0)),(8,(zG (x16-127)))] .ret h17)/\(¬((zG (x16-127))<1)->∃v18 h19,zh zA ⟨none,.nilCheck (t 0),0, "",#[],none⟩ (λ_=>some (.ptr p0 0)) h15=some (.val v18 h19)/\zR zA 105 0 h19 v18 λv20 h21=>RF Tryz.prog zA 77 [v20] h21 λv22 h23=>∃x24:Int,v22=x24/\(2:Int)≠0/\(x24<(zG (Int.tdiv (zG ((zG (x16-127))+1)) 2))->∃h25,zg zA 26 h23 y6 (.agg [(5:Int),(.int .i64 (Int.ofNat (List.length y0)))])=some h25/\E [(4,.nilslice),(5,(0:Int)),(7,(.ptr p0 0)),(8,(zG (x16-127)))] .ret h25)/\(¬(x24<(zG (Int.tdiv (zG ((zG (x16-127))+1)) 2)))->M [(7,(.ptr p0 0)),(8,(zG (x16-127)))] zVX h23 (Kx (W39 false) zVd 0 S)))))):=λ_=>by kernel_rfl
theorem z7j{a0:List UInt8}{Q:V->H->Prop}:W39 false b39 ⟨85,zC [a0,a1] 0 (Tb.leaf zB),[],h⟩ (endW zA ⟨85,[.tmp 4,.tmp 5,.cell 6 26],b39⟩ Q)=((h.nx<T.top/\∀p0 h1,p0=h.nx->h1=h.new (.cells (.ls [(0:Int),(0:Int)]) ⟨0,27,0⟩ true false)->(a1<0->Gz L39 (Tb.leaf zB) [(4,.nilslice),(5,(0:Int)),(6,(.ptr p0 0)),(16,true),(1,a1),(0,a0)] λu=>W39 false zJR ⟨85,u,[],h1⟩ (thenC (sealK L39 λs1=>W39 false zJS s1 (endW zA ⟨85,[.tmp 4,.tmp 5,.cell 6 26],b39⟩ Q)) (endW zA ⟨85,[.tmp 4,.tmp 5,.cell 6 26],b39⟩ Q)))/\(¬(a1<0)->((Int.ofNat (List.length a0))<a1->Gz L39 (Tb.leaf zB) [(4,.nilslice),(5,(0:Int)),(6,(.ptr p0 0)),(16,true),(1,a1),(0,a0)] λu=>W39 false zJR ⟨85,u,[],h1⟩ (thenC (sealK L39 λs1=>W39 false zJS s1 (endW zA ⟨85,[.tmp 4,.tmp 5,.cell 6 26],b39⟩ Q)) (endW zA ⟨85,[.tmp 4,.tmp 5,.cell 6 26],b39⟩ Q)))/\(¬((Int.ofNat (List.length a0))<a1)->Gz L39 (Tb.leaf zB) [(4,.nilslice),(5,(0:Int)),(6,(.ptr p0 0)),(16,false),(1,a1),(0,a0)] λu=>W39 false zJR ⟨85,u,[],h1⟩ (thenC (sealK L39 λs1=>W39 false zJS s1 (endW zA ⟨85,[.tmp 4,.tmp 5,.cell 6 26],b39⟩ Q)) (endW zA ⟨85,[.tmp 4,.tmp 5,.cell 6 26],b39⟩ Q)))))):=by kernel_rfl
noncomputable def b46:Code:=zE Tryz.f46
theorem z7D:(zA.fn.get 46).map zI=some ⟨27,[.tmp 2,.tmp 3],b46⟩:=by kernel_rfl
def L46:List Nat:=[2,3]
abbrev W46(b:Bool):Code->St->(AX->St->Prop)->Prop:=wpS Tryz.prog zA L46 4 b
theorem z7m{Q:V->H->Prop}:W46 false b46 ⟨27,zC [a0] 0 (Tb.leaf zB),[],h⟩ (endW zA ⟨27,[.tmp 2,.tmp 3],b46⟩ Q)=(RF Tryz.prog zA 82 [a0] h λv0 h1=>∃x2:Int,∃x3:Int,∃x4:Int,v0=(.tuple [x2,x3,x4])/\(x4≠0->Q (.tuple [.nilslice,x4]) h1)/\(¬(x4≠0)->∃x5:Int,zp zA 23 h1 a0=some (x5:V)/\∃x6:Int,zp zA 23 h1 a0=some (x6:V)/\∃v7,yB zA 23 h1 a0 none (some (x5:V)) (some (x6:V))=some v7/\∃v8 h9,zF zA 23 1 [(0,x2)] h1=some (v8,h9)/\True/\∃v10 h11,zc zA 23 h9 v7 v8=some (v10,h11)/\RF Tryz.prog zA 91 [v10,x3] h11 λv12 h13=>∃v14,v12=v14/\Q (.tuple [v14,(0:Int)]) h13)):=by kernel_rfl
noncomputable def b77:Code:=zE Tryz.f77
theorem z7K:(zA.fn.get 77).map zI=some ⟨13,[.tmp 2],b77⟩:=by kernel_rfl
def L77:List Nat:=[2]
abbrev W77(b:Bool):Code->St->(AX->St->Prop)->Prop:=wpS Tryz.prog zA L77 4 b
theorem z7t{Q:V->H->Prop}:W77 false b77 ⟨13,zC [a0] 0 (Tb.leaf zB),[],h⟩ (endW zA ⟨13,[.tmp 2],b77⟩ Q)=(((h.nx<=T.top/\h.low<=T.top)/\∃v0 h1,zh zA ⟨none,.nilCheck (t 0),0, "",#[],none⟩ (λ_=>some a0) (zM h)=some (.val v0 h1)/\(h.nx<=h1.low/\h1.nx<=T.top)/\∀h2,h2=yL h h1->zR zA 103 0 h2 v0 λv3 h4=>∃l5:List UInt8,zK zA 9 h4 v3=some (.str l5)/\∃v6 h7,zh zA ⟨none,.nilCheck (t 0),0, "",#[],none⟩ (λ_=>some a0) (zM h4)=some (.val v6 h7)/\(h4.nx<=h7.low/\h7.nx<=T.top)/\∀h8,h8=yL h4 h7->zR zA 103 1 h8 v6 λv9 h10=>∃x11:Int,zK zA 3 h10 v9=some (x11:V)/\Q (zG ((Int.ofNat (List.length l5))-x11)) h10)):=by kernel_rfl
noncomputable def b79:Code:=zE Tryz.f79
theorem z7M:(zA.fn.get 79).map zI=some ⟨33,[],b79⟩:=by kernel_rfl
def L79:List Nat:=[]
abbrev W79(b:Bool):Code->St->(AX->St->Prop)->Prop:=wpS Tryz.prog zA L79 4 b
theorem z7v{Q:V->H->Prop}:W79 false b79 ⟨33,zC [a0,a1] 0 (Tb.leaf zB),[],h⟩ (endW zA ⟨33,[],b79⟩ Q)=(∃v0 h1,zh zA ⟨none,.nilCheck (t 0),0, "",#[],none⟩ (λ_=>some a0) h=some (.val v0 h1)/\zR zA 105 0 h1 v0 λv2 h3=>RF Tryz.prog zA 78 [v2] h3 λv4 h5=>∃x6:Int,v4=x6/\∃v7 h8,zh zA ⟨none,.nilCheck (t 0),0, "",#[],none⟩ (λ_=>some a0) h5=some (.val v7 h8)/\zR zA 105 1 h8 v7 λv9 h10=>∃v11,zK zA 23 h10 v9=some v11/\∃x12:Int,zq .shr .i64 x6 4=some (x12:V)/\∃v13 h14,zF zA 23 1 [(0,x12)] h10=some (v13,h14)/\True/\∃v15 h16,zc zA 23 h14 v11 v13=some (v15,h16)/\∃v17 h18,zh zA ⟨none,.nilCheck (t 0),0, "",#[],none⟩ (λ_=>some a0) h16=some (.val v17 h18)/\zR zA 105 1 h18 v17 λv19 h20=>∃h21,zg zA 23 h20 v19 v15=some h21/\((1:Int)<a1->∃v22 h23,zh zA ⟨none,.nilCheck (t 0),0, "",#[],none⟩ (λ_=>some a0) h21=some (.val v22 h23)/\zR zA 105 1 h23 v22 λv24 h25=>∃v26,zK zA 23 h25 v24=some v26/\∃x27:Int,zq .and .i64 x6 15=some (x27:V)/\∃v28 h29,zF zA 23 1 [(0,x27)] h25=some (v28,h29)/\True/\∃v30 h31,zc zA 23 h29 v26 v28=some (v30,h31)/\∃v32 h33,zh zA ⟨none,.nilCheck (t 0),0, "",#[],none⟩ (λ_=>some a0) h31=some (.val v32 h33)/\zR zA 105 1 h33 v32 λv34 h35=>∃h36,zg zA 23 h35 v34 v30=some h36/\Q (.tuple []) h36)/\(¬((1:Int)<a1)->Q (.tuple []) h21)):=by kernel_rfl
noncomputable def b82:Code:=zE Tryz.f82
def zVk:Code:=zi b82 [1,1,1,1,1,1,1,1]
def zVl:Code:=zi b82 [1,1]
theorem z7P:(zA.fn.get 82).map zI=some ⟨54,[.tmp 2,.tmp 3,.tmp 4],b82⟩:=by kernel_rfl
def L82:List Nat:=[2,3,4,8,0]
abbrev W82(b:Bool):Code->St->(AX->St->Prop)->Prop:=wpS Tryz.prog zA L82 4 b
theorem zYs{y8 y3:Int}:Vy (W82 false) 54 L82 zVk [(8,y8),(3,y3)] d h Q (λE _ _ _ _=>RF Tryz.prog zA 145 [y8] h λv0 h1=>∃x2:Int,v0=x2/\E [(2,x2),(4,(0:Int))] .ret h1):=λ_=>by kernel_rfl
theorem zYt{y0:V}:Vy (W82 false) 54 L82 zVl [(0,y0)] d h Q (λE F _ _ _=>RF Tryz.prog zA 142 [y0] h λv0 h1=>∃x2:Int,∃b3:Bool,v0=(.tuple [x2,b3])/\(b3=true->RF Tryz.prog zA 143 [y0,(.func (.func 144) [] [])] h1 λv4 h5=>∃x6:Int,v4=x6/\RF Tryz.prog zA 145 [x6] h5 λv7 h8=>∃x9:Int,v7=x9/\∃x10:Int,zq .shl .i64 1 (zT .u64 ((max x9 0)))=some (x10:V)/\(x2=0->E [(2,(0:Int)),(3,(0:Int)),(4,(21:Int)),(8,(zG (x10-x6)))] .ret h8)/\(¬(x2=0)->((11:Int)<x9->E [(2,(0:Int)),(3,(0:Int)),(4,(21:Int)),(8,(zG (x10-x6)))] .ret h8)/\(¬((11:Int)<x9)->((zG (x10-x6))<1->E [(2,(0:Int)),(3,(0:Int)),(4,(21:Int)),(8,(zG (x10-x6)))] .ret h8)/\(¬((zG (x10-x6))<1)->∃x11:Int,zq .and .i64 (zG (x10-x6)) (zG ((zG (x10-x6))-1))=some (x11:V)/\(x11≠0->E [(2,(0:Int)),(3,(0:Int)),(4,(21:Int)),(8,(zG (x10-x6)))] .ret h8)/\(¬(x11≠0)->F [(3,x9),(8,(zG (x10-x6)))] zVk h8)))))/\(b3=false->E [(2,(0:Int)),(3,(0:Int)),(4,(2:Int))] .ret h1)):=λ_=>by kernel_rfl
theorem z7y{Q:V->H->Prop}:W82 false b82 ⟨54,zC [a0] 0 (Tb.leaf zB),[],h⟩ (endW zA ⟨54,[.tmp 2,.tmp 3,.tmp 4],b82⟩ Q)=(∃x0:Int,zp zA 23 h a0=some (x0:V)/\(x0<1->Q (.tuple [(0:Int),(0:Int),(4:Int)]) h)/\(¬(x0<1)->∃x1:Int,zp zA 23 h a0=some (x1:V)/\((255:Int)<x1->Q (.tuple [(0:Int),(0:Int),(4:Int)]) h)/\(¬((255:Int)<x1)->Gz L82 (Tb.leaf zB) [(2,(0:Int)),(3,(0:Int)),(4,(0:Int)),(0,a0)] λu=>W82 false zVl ⟨54,u,[],h⟩ (endW zA ⟨54,[.tmp 2,.tmp 3,.tmp 4],b82⟩ Q)))):=by kernel_rfl
noncomputable def zE4:Code:=zE Tryz.f137
def zHT:Code:=zi zE4 [1,1,1,1,1,1,0,0,0,1,0,1,1,1,1,1,1,1,1,0,0]
def Jl:Code:=zi zE4 [1,1,1,1,1,1,0,0,0,1,0,1,1,1,1]
def zHU:Code:=zi zE4 [1,1,1,1,1,1,0,0,0]
def zOp:Code:=zi zE4 [1,1,1,1,1,1,1]
theorem z0I:(zA.fn.get 137).map zI=some ⟨137,[.cell 6 59,.tmp 7],zE4⟩:=by kernel_rfl
def Kf:List Nat:=[6,7,18,0,10,2,14,11]
abbrev OX(b:Bool):Code->St->(AX->St->Prop)->Prop:=wpS Tryz.prog zA Kf 4 b
theorem zJb{y18 y2:Int}{y0 y10:V}:Vy (OX false) 137 Kf zHT [(18,y18),(0,y0),(6,y6),(10,y10),(2,y2)] d h Q (λE _ _ _ _=>((y18=3->RF Tryz.prog zA 208 [y0,(2:Int)] h λv0 h1=>∃x2:Int,∃v3,v0=(.tuple [x2,v3])/\wh zA .neq 163 (t 116) (.const .nilIface) 4 v3 .nilIface λv4=>xM v4 λu=>match u with|true=>∃h5,zg zA 59 h1 y6 (.agg [(0:Int),.nilslice])=some h5/\(E [(7,v3),(18,x2)] .ret h5)|false=>zR zA 59 1 h1 y10 λv6 h7=>∃v8,zK zA 23 h7 v6=some v8/\∃x9:Int,zp zA 23 h7 v8=some (x9:V)/\(y2<(zG (x9+x2))->xp zA 269 (xA zA 269 [(0,(.iface 24 (23:Int)))]) λv10=>∃h11,zg zA 59 h7 y6 (.agg [(0:Int),.nilslice])=some h11/\E [(7,(.iface 269 v10)),(18,x2)] .ret h11)/\(¬(y2<(zG (x9+x2)))->zR zA 59 1 h7 y10 λv12 h13=>∃v14,zK zA 23 h13 v12=some v14/\True/\∃v15 h16,X1 zA 23 h13 v14 x2=some (v15,h16)/\zR zA 59 1 h16 y10 λv17 h18=>∃h19,zg zA 23 h18 v17 v15=some h19/\E [(18,x2)] .normal h19))/\(¬(y18=3)->E [] (.exit 2) h))):=λ_=>by kernel_rfl
theorem zTj{y2 y14 y11:Int}{y10:V}:Vy (OX false) 137 Kf Jl [(10,y10),(2,y2),(6,y6),(14,y14),(11,y11)] d h Q (λE _ M S _=>zR zA 59 1 h y10 λv0 h1=>∃v2,zK zA 23 h1 v0=some v2/\∃x3:Int,zp zA 23 h1 v2=some (x3:V)/\(x3=y2->xp zA 269 (xA zA 269 [(0,(.iface 24 (23:Int)))]) λv4=>∃h5,zg zA 59 h1 y6 (.agg [(0:Int),.nilslice])=some h5/\E [(7,(.iface 269 v4))] .ret h5)/\(¬(x3=y2)->zR zA 59 1 h1 y10 λv6 h7=>∃v8,zK zA 23 h7 v6=some v8/\∃v9 h10,zF zA 23 1 [(0,(zG (y14-1)))] h7=some (v9,h10)/\True/\∃v11 h12,zc zA 23 h10 v8 v9=some (v11,h12)/\zR zA 59 1 h12 y10 λv13 h14=>∃h15,zg zA 23 h14 v13 v11=some h15/\(y14≠1->E [(11,(zG (y11-(max (zG (y14-1)) 1))))] (.exit 1) h15)/\(¬(y14≠1)->M [(18,(3:Int))] zHT h15 λe s1=>S (ze 2 e) s1))):=λ_=>by kernel_rfl
theorem zSz{y11:Int}{y0:V}:Vy (OX false) 137 Kf zHU [(11,y11),(0,y0),(6,y6)] d h Q (λE _ _ S tm=>(((0:Int)<y11->RF Tryz.prog zA 209 [y11] h λv0 h1=>∃x2:Int,∃x3:Int,v0=(.tuple [x2,x3])/\RF Tryz.prog zA 208 [y0,(zG (x2-1))] h1 λv4 h5=>∃x6:Int,∃v7,v4=(.tuple [x6,v7])/\wh zA .neq 163 (t 56) (.const .nilIface) 4 v7 .nilIface λv8=>xM v8 λu=>match u with|true=>∃h9,zg zA 59 h5 y6 (.agg [(0:Int),.nilslice])=some h9/\(E [(7,v7),(14,x6)] .ret h9)|false=>((x3<=x6->RF Tryz.prog zA 208 [y0,(1:Int)] h5 λv10 h11=>∃x12:Int,∃v13,v10=(.tuple [x12,v13])/\wh zA .neq 163 (t 68) (.const .nilIface) 4 v13 .nilIface λv14=>xM v14 λu=>match u with|true=>∃h15,zg zA 59 h11 y6 (.agg [(0:Int),.nilslice])=some h15/\(E [(7,v13),(14,x6)] .ret h15)|false=>∃x16:Int,zq .shl .i64 x12 (zG (x2-1))=some (x16:V)/\∃x17:Int,zq .shl .i64 1 (zG (x2-1))=some (x17:V)/\(x17<=(zG (x6+x16))->Gz Kf tm [(14,(zG ((zG (x6+x16))-x3)))] λu=>OX false Jl ⟨137,u,d,h11⟩ λe s1=>S (ze 1 e) s1)/\(¬(x17<=(zG (x6+x16)))->Gz Kf tm [(14,(zG (x6+x16)))] λu=>OX false Jl ⟨137,u,d,h11⟩ λe s1=>S (ze 1 e) s1))/\(¬(x3<=x6)->Gz Kf tm [(14,x6)] λu=>OX false Jl ⟨137,u,d,h5⟩ λe s1=>S (ze 1 e) s1)))/\(¬((0:Int)<y11)->E [] (.exit 0) h))):=λ_=>by kernel_rfl
theorem zTk{y10:V}:Vy (OX false) 137 Kf zOp [(10,y10),(6,y6)] d h Q (λE _ _ _ _=>∃x0:Int,∃v1,zK zA 59 h y10=some (.agg [x0,v1])/\∃h2,zg zA 59 h y6 (.agg [x0,v1])=some h2/\E [(7,.nilIface)] .ret h2):=λ_=>by kernel_rfl
theorem z2R{a2:Int}{Q:V->H->Prop}:OX false zE4 ⟨137,zC [a0,a1,a2] 0 (Tb.leaf zB),[],h⟩ (endW zA ⟨137,[.cell 6 59,.tmp 7],zE4⟩ Q)=((h.nx<T.top/\∀p0 h1,p0=h.nx->h1=h.new (.cells (.ls [(0:Int),.nilslice]) ⟨0,60,0⟩ true false)->RF Tryz.prog zA 208 [a0,(4:Int)] h1 λv2 h3=>∃x4:Int,∃v5,v2=(.tuple [x4,v5])/\wh zA .neq 163 (t 24) (.const .nilIface) 4 v5 .nilIface λv6=>xM v6 λu=>match u with|true=>∃h7,zg zA 59 h3 (.ptr p0 0) (.agg [(0:Int),.nilslice])=some h7/\endL zA h7 [(.cell 6 59,(.ptr p0 0)),(.tmp 7,v5)] Q|false=>(h3.nx<T.top/\∀p8 h9,p8=h3.nx->h9=h3.new (.cells (.ls [(0:Int),.nilslice]) ⟨0,60,0⟩ true false)->∃h10,zg zA 59 h9 (.ptr p8 0) (.agg [(zG (x4+5)),.nilslice])=some h10/\∃x11:Int,zK zA 3 h10 (.ptr p8 (0+0))=some (x11:V)/\(a1<x11->xp zA 269 (xA zA 269 [(0,(.iface 24 (31:Int)))]) λv12=>∃h13,zg zA 59 h10 (.ptr p0 0) (.agg [(0:Int),.nilslice])=some h13/\endL zA h13 [(.cell 6 59,(.ptr p0 0)),(.tmp 7,(.iface 269 v12))] Q)/\(¬(a1<x11)->∃x14:Int,zK zA 3 h10 (.ptr p8 (0+0))=some (x14:V)/\∃x15:Int,zq .shl .i64 1 x14=some (x15:V)/\Lz Kf 137 [(6,(.ptr p0 0)),(7,.nilIface),(0,a0),(10,(.ptr p8 0)),(2,a2),(11,x15)] zHU h10 (Kx (OX false) zOp 0 (endW zA ⟨137,[.cell 6 59,.tmp 7],zE4⟩ Q)))))):=by kernel_rfl
noncomputable def zWq:Code:=zE Tryz.f208
theorem z02:(zA.fn.get 208).map zI=some ⟨28,[.tmp 4,.tmp 5],zWq⟩:=by kernel_rfl
def z4e:List Nat:=[4,5]
abbrev z5g(b:Bool):Code->St->(AX->St->Prop)->Prop:=wpS Tryz.prog zA z4e 4 b
theorem z2c{Q:V->H->Prop}:z5g false zWq ⟨28,zC [a0,a1] 0 (Tb.leaf zB),[],h⟩ (endW zA ⟨28,[.tmp 4,.tmp 5],zWq⟩ Q)=(∃v0 h1,zh zA ⟨none,.nilCheck (t 0),0, "",#[],none⟩ (λ_=>some a0) h=some (.val v0 h1)/\∃l2:List UInt8,∃x3:Int,zK zA 112 h1 v0=some (.agg [l2,x3])/\RF Tryz.prog zA 272 [(.agg [l2,x3]),a1] h1 λv4 h5=>∃l6:List UInt8,∃x7:Int,∃x8:Int,∃x9:Int,v4=(.tuple [(.agg [l6,x7]),x8,x9])/\h5.nx<T.top/\∀p10 h11,p10=h5.nx->h11=h5.new (.cells (.ls [(.str []),(0:Int)]) ⟨0,113,0⟩ true false)->∃h12,zg zA 112 h11 (.ptr p10 0) (.agg [l6,x7])=some h12/\(x9≠0->xp zA 269 (xA zA 269 [(0,(.iface 24 x9))]) λv13=>Q (.tuple [(0:Int),(.iface 269 v13)]) h12)/\(¬(x9≠0)->∃l14:List UInt8,∃x15:Int,zK zA 112 h12 (.ptr p10 0)=some (.agg [l14,x15])/\∃v16 h17,zh zA ⟨none,.nilCheck (t 0),0, "",#[],none⟩ (λ_=>some a0) h12=some (.val v16 h17)/\∃h18,zg zA 112 h17 v16 (.agg [l14,x15])=some h18/\Q (.tuple [x8,.nilIface]) h18)):=by kernel_rfl
noncomputable def zWu:Code:=zE Tryz.f214
theorem z06:(zA.fn.get 214).map zI=some ⟨25,[.tmp 2,.tmp 3],zWu⟩:=by kernel_rfl
def z4i:List Nat:=[2,3]
abbrev z5k(b:Bool):Code->St->(AX->St->Prop)->Prop:=wpS Tryz.prog zA z4i 4 b
theorem z2g{a0_0:Int}{a0_1:V}{Q:V->H->Prop}:z5k false zWu ⟨25,zC [(.agg [a0_0,a0_1])] 0 (Tb.leaf zB),[],h⟩ (endW zA ⟨25,[.tmp 2,.tmp 3],zWu⟩ Q)=(ws (cond (zL (V.cells (.agg [a0_0,a0_1]))) (Cs.ofL (V.cells (.agg [a0_0,a0_1]))) none) λcs2=>h.nx<T.top/\∀p0 h1,p0=h.nx->h1=h.new (.cells cs2 ⟨0,60,0⟩ true false)->∃x3:Int,∃v4,zK zA 59 h1 (.ptr p0 0)=some (.agg [x3,v4])/\RF Tryz.prog zA 173 [(.agg [x3,v4])] h1 λv5 h6=>∃x7:Int,v5=x7/\(x7≠0->Q (.tuple [.nilslice,x7]) h6)/\(¬(x7≠0)->∃x8:Int,∃v9,zK zA 59 h6 (.ptr p0 0)=some (.agg [x8,v9])/\RF Tryz.prog zA 274 [(.agg [x8,v9])] h6 λv10 h11=>∃v12,∃x13:Int,v10=(.tuple [v12,x13])/\(x13≠0->Q (.tuple [.nilslice,x13]) h11)/\(¬(x13≠0)->∃x14:Int,zK zA 3 h11 (.ptr p0 (0+0))=some (x14:V)/\RF Tryz.prog zA 275 [x14,(.func (.func 276) [] [(.ptr p0 0)]),v12] h11 λv15 h16=>∃v17,v15=v17/\Q (.tuple [v17,(0:Int)]) h16))):=by kernel_rfl
noncomputable def zKL:Code:=zE Tryz.f243
def zNf:Code:=zi zKL [1,1,1,0,1,0,0]
def zPI:Code:=zi zKL [1,1,1,1]
theorem z0i:(zA.fn.get 243).map zI=some ⟨25,[.tmp 2],zKL⟩:=by kernel_rfl
def zQd:List Nat:=[2,11,10,9,4,3]
abbrev zQx(b:Bool):Code->St->(AX->St->Prop)->Prop:=wpS Tryz.prog zA zQd 4 b
theorem zTK{y11 y10:Int}{y9 y4:V}:Vy (zQx false) 25 zQd zNf [(11,y11),(10,y10),(9,y9),(4,y4)] d h Q (λE _ _ _ _=>((y11<y10->∃p0 o1,z8 zA 23 y9 y11=some (.ptr p0 o1)/\∃x2:Int,zK zA 3 h (.ptr p0 o1)=some (x2:V)/\(x2<0->yW zA Tryz.prog 0 h (λ_ h4=>(E [(11,(zG (y11+1)))] .normal h4)) [(1:Int)] y4)/\(¬(x2<0)->yW zA Tryz.prog 0 h (λ_ h6=>(E [(11,(zG (y11+1)))] .normal h6)) [(.int .i64 (min x2 1048576))] y4))/\(¬(y11<y10)->E [] (.exit 0) h))):=λ_=>by kernel_rfl
theorem zUM{y3:V}:Vy (zQx false) 25 zQd zPI [(3,y3)] d h Q (λE _ _ _ _=>∃x0:Int,zK zA 3 h y3=some (x0:V)/\E [(2,x0)] .ret h):=λ_=>by kernel_rfl
theorem z2r{a0_0:Int}{a0_1:V}{Q:V->H->Prop}:zQx false zKL ⟨25,zC [(.agg [a0_0,a0_1])] 0 (Tb.leaf zB),[],h⟩ (endW zA ⟨25,[.tmp 2],zKL⟩ Q)=(ws (cond (zL (V.cells (.agg [a0_0,a0_1]))) (Cs.ofL (V.cells (.agg [a0_0,a0_1]))) none) λcs2=>h.nx<T.top/\∀p0 h1,p0=h.nx->h1=h.new (.cells cs2 ⟨0,60,0⟩ true false)->V.one (0:Int)=true/\h1.nx<T.top/\∀p3 h4,p3=h1.nx->h4=h1.new (.cells (.ls [(0:Int)]) ⟨0,4,0⟩ true false)->∃h5,zg zA 3 h4 (.ptr p3 0) (0:Int)=some h5/\∃v6,zK zA 23 h5 (.ptr p0 (0+1))=some v6/\∃x7:Int,zp zA 23 h5 v6=some (x7:V)/\Lz zQd 25 [(2,(0:Int)),(11,(0:Int)),(10,x7),(9,v6),(4,(.func (.func 286) [] [(.ptr p3 0)])),(3,(.ptr p3 0))] zNf h5 (Kx (zQx false) zPI 0 (endW zA ⟨25,[.tmp 2],zKL⟩ Q))):=by kernel_rfl
noncomputable def zXI:Code:=zE Tryz.f276
theorem z1D:(zA.fn.get 276).map zI=some ⟨10,[.tmp 3],zXI⟩:=by kernel_rfl
def z4w:List Nat:=[3]
abbrev z5y(b:Bool):Code->St->(AX->St->Prop)->Prop:=wpS Tryz.prog zA z4w 4 b
theorem z3M{a0:Int}{a1:V}{Q:V->H->Prop}:z5y false zXI ⟨10,zC [a0,a1] 0 (Tb.leaf zB),[],h⟩ (endW zA ⟨10,[.tmp 3],zXI⟩ Q)=(zR zA 59 1 h a1 λv0 h1=>∃v2,zK zA 23 h1 v0=some v2/\∃p3 o4,z8 zA 23 v2 a0=some (.ptr p3 o4)/\∃x5:Int,zK zA 3 h1 (.ptr p3 o4)=some (x5:V)/\RF Tryz.prog zA 277 [x5] h1 λv6 h7=>∃x8:Int,v6=x8/\Q x8 h7):=by kernel_rfl
noncomputable def O9:Code:=zE Tryz.f278
def zDj:Code:=zi O9 [1,0,1]
def zDk:Code:=zi O9 [1,1]
theorem z1F:(zA.fn.get 278).map zI=some ⟨32,[.tmp 4,.tmp 5],O9⟩:=by kernel_rfl
def zCd:List Nat:=[4,5,6,2,1]
abbrev zCh(b:Bool):Code->St->(AX->St->Prop)->Prop:=wpS Tryz.prog zA zCd 4 b
theorem zU5{y6:Int}:Vy (zCh false) 32 zCd zDj [(6,y6)] d h Q (λE _ _ _ _=>((y6≠0->E [(4,(.int .u64 0)),(5,y6)] .ret h)/\(¬(y6≠0)->E [] .normal h))):=λ_=>by kernel_rfl
theorem zU6{y1:Int}{y2:V}:Vy (zCh false) 32 zCd zDk [(2,y2),(1,y1)] d h Q (λE _ _ _ _=>zR zA 120 0 h y2 λv0 h1=>∃l2:List UInt8,zK zA 9 h1 v0=some (.str l2)/\zR zA 120 1 h1 y2 λv3 h4=>∃x5:Int,zK zA 3 h4 v3=some (x5:V)/\h4.nx<T.top/\∀p6 h7,p6=h4.nx->h7=h4.new (.cells (.ls [l2,x5]) ⟨0,361,0⟩ true false)->RF Tryz.prog zA 309 [(.ptr p6 0),y1] h7 λv8 h9=>∃x10:Int,v8=(.int .u64 x10)/\E [(4,(.int .u64 x10)),(5,(0:Int))] .ret h9):=λ_=>by kernel_rfl
theorem z3O{a0_1:Int}{a0_0:List UInt8}{Q:V->H->Prop}:zCh false O9 ⟨32,zC [(.agg [a0_0,a0_1]),a1] 0 (Tb.leaf zB),[],h⟩ (endW zA ⟨32,[.tmp 4,.tmp 5],O9⟩ Q)=((h.nx<T.top/\∀p0 h1,p0=h.nx->h1=h.new (.cells (.ls [a0_0,a0_1]) ⟨0,121,0⟩ true false)->∃l2:List UInt8,∃x3:Int,zK zA 120 h1 (.ptr p0 0)=some (.agg [l2,x3])/\RF Tryz.prog zA 308 [(.agg [l2,x3])] h1 λv4 h5=>∃x6:Int,v4=x6/\(a1<0->RF Tryz.prog zA 250 [true,(2:Int)] h5 λv7 h8=>∃x9:Int,v7=x9/\∃v10 h11,zF zA 343 2 [(0,x6),(1,x9)] h8=some (v10,h11)/\RF Tryz.prog zA 248 [v10] h11 λv12 h13=>∃x14:Int,v12=x14/\Gz zCd (Tb.leaf zB) [(4,(.int .u64 0)),(5,(0:Int)),(6,x14),(2,(.ptr p0 0)),(1,a1)] λu=>zCh false zDj ⟨32,u,[],h13⟩ (thenC (sealK zCd λs1=>zCh false zDk s1 (endW zA ⟨32,[.tmp 4,.tmp 5],O9⟩ Q)) (endW zA ⟨32,[.tmp 4,.tmp 5],O9⟩ Q)))/\(¬(a1<0)->((32:Int)<a1->RF Tryz.prog zA 250 [true,(2:Int)] h5 λv15 h16=>∃x17:Int,v15=x17/\∃v18 h19,zF zA 343 2 [(0,x6),(1,x17)] h16=some (v18,h19)/\RF Tryz.prog zA 248 [v18] h19 λv20 h21=>∃x22:Int,v20=x22/\Gz zCd (Tb.leaf zB) [(4,(.int .u64 0)),(5,(0:Int)),(6,x22),(2,(.ptr p0 0)),(1,a1)] λu=>zCh false zDj ⟨32,u,[],h21⟩ (thenC (sealK zCd λs1=>zCh false zDk s1 (endW zA ⟨32,[.tmp 4,.tmp 5],O9⟩ Q)) (endW zA ⟨32,[.tmp 4,.tmp 5],O9⟩ Q)))/\(¬((32:Int)<a1)->RF Tryz.prog zA 250 [false,(2:Int)] h5 λv23 h24=>∃x25:Int,v23=x25/\∃v26 h27,zF zA 343 2 [(0,x6),(1,x25)] h24=some (v26,h27)/\RF Tryz.prog zA 248 [v26] h27 λv28 h29=>∃x30:Int,v28=x30/\Gz zCd (Tb.leaf zB) [(4,(.int .u64 0)),(5,(0:Int)),(6,x30),(2,(.ptr p0 0)),(1,a1)] λu=>zCh false zDj ⟨32,u,[],h29⟩ (thenC (sealK zCd λs1=>zCh false zDk s1 (endW zA ⟨32,[.tmp 4,.tmp 5],O9⟩ Q)) (endW zA ⟨32,[.tmp 4,.tmp 5],O9⟩ Q)))))):=by kernel_rfl
noncomputable def zXR:Code:=zE Tryz.f307
theorem z1W:(zA.fn.get 307).map zI=some ⟨4,[.tmp 2],zXR⟩:=by kernel_rfl
def z5F:List Nat:=[2]
abbrev z6H(b:Bool):Code->St->(AX->St->Prop)->Prop:=wpS Tryz.prog zA z5F 4 b
theorem z35{a0_0:Int}{a0_1:V}{Q:V->H->Prop}:z6H false zXR ⟨4,zC [(.agg [a0_0,a0_1])] 0 (Tb.leaf zB),[],h⟩ (endW zA ⟨4,[.tmp 2],zXR⟩ Q)=(ws (cond (zL (V.cells (.agg [a0_0,a0_1]))) (Cs.ofL (V.cells (.agg [a0_0,a0_1]))) none) λcs2=>h.nx<T.top/\∀p0 h1,p0=h.nx->h1=h.new (.cells cs2 ⟨0,60,0⟩ true false)->Q (.func (.func 323) [] [(.ptr p0 0)]) h1):=by kernel_rfl
noncomputable def zXU:Code:=zE Tryz.f322
theorem z15:(zA.fn.get 322).map zI=some ⟨6,[.tmp 2],zXU⟩:=by kernel_rfl
def z5I:List Nat:=[2]
abbrev z6K(b:Bool):Code->St->(AX->St->Prop)->Prop:=wpS Tryz.prog zA z5I 4 b
theorem z3e{a0:Int}{Q:V->H->Prop}:z6K false zXU ⟨6,zC [(.int .u8 a0)] 0 (Tb.leaf zB),[],h⟩ (endW zA ⟨6,[.tmp 2],zXU⟩ Q)=(∃x0:Int,xe zA 9 (.str [0,1,2,2,3,3,3,3,4,4,4,4,4,4,4,4,5,5,5,5,5,5,5,5,5,5,5,5,5,5,5,5,6,6,6,6,6,6,6,6,6,6,6,6,6,6,6,6,6,6,6,6,6,6,6,6,6,6,6,6,6,6,6,6,7,7,7,7,7,7,7,7,7,7,7,7,7,7,7,7,7,7,7,7,7,7,7,7,7,7,7,7,7,7,7,7,7,7,7,7,7,7,7,7,7,7,7,7,7,7,7,7,7,7,7,7,7,7,7,7,7,7,7,7,7,7,7,7,8,8,8,8,8,8,8,8,8,8,8,8,8,8,8,8,8,8,8,8,8,8,8,8,8,8,8,8,8,8,8,8,8,8,8,8,8,8,8,8,8,8,8,8,8,8,8,8,8,8,8,8,8,8,8,8,8,8,8,8,8,8,8,8,8,8,8,8,8,8,8,8,8,8,8,8,8,8,8,8,8,8,8,8,8,8,8,8,8,8,8,8,8,8,8,8,8,8,8,8,8,8,8,8,8,8,8,8,8,8,8,8,8,8,8,8,8,8,8,8,8,8,8,8,8,8,8,8]) (.int .u8 a0)=some (.int .u8 x0)/\Q (zG (x0)) h):=by kernel_rfl
noncomputable def zXV:Code:=zE Tryz.f324
theorem z17:(zA.fn.get 324).map zI=some ⟨12,[.tmp 2],zXV⟩:=by kernel_rfl
def z5J:List Nat:=[2]
abbrev z6L(b:Bool):Code->St->(AX->St->Prop)->Prop:=wpS Tryz.prog zA z5J 4 b
theorem z3g{a0:Int}{Q:V->H->Prop}:z6L false zXV ⟨12,zC [a0] 0 (Tb.leaf zB),[],h⟩ (endW zA ⟨12,[.tmp 2],zXV⟩ Q)=(∃x0:Int,zq .shl .i64 1 a0=some (x0:V)/\∃x1:Int,zq .shr .i64 x0 1=some (x1:V)/\∃x2:Int,zq .shr .i64 x0 3=some (x2:V)/\Q (zG ((zG (x1+x2))+3)) h):=by kernel_rfl
end Go.Proofs.YtnpeieeomokomaaGreat

