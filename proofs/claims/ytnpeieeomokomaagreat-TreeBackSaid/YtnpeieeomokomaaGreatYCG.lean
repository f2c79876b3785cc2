/- CG. No condition. -/
import Derived.Test.YtnpeieeomokomaaGreatYCF
import Derived.Test.YtnpeieeomokomaaGreatYCtx
import Derived.Test.YtnpeieeomokomaaGreatYS
import Derived.Test.YtnpeieeomokomaaGreatYW
import Derived.Test.YtnpeieeomokomaaGreatYCD
import Derived.Test.YtnpeieeomokomaaGreatYCT
noncomputable section
namespace Go.Proofs.YtnpeieeomokomaaGreat
open Go.Sim
variable{a1:Int}{a0:V}
def ZY:List Nat:=[4,24,6,10,9,8,5,0,1]
abbrev X0(b:Bool):Code->St->(AX->St->Prop)->Prop:=wpS Tryz.prog zA ZY 4 b
variable {tm:Tm}{d:List AD}{h:H}{Q:AX->St->Prop}
theorem zQN{y6:Int}{y24:Bool}:Vy (X0 false) 28 ZY zPE [(24,y24),(6,y6)] d h Q (λE _ _ _ _=>ZT y24 λu=>match u with|true=>(E [(5,y6)] .normal h)|false=>(E [] .normal h)):=λ_=>by kernel_rfl
theorem zG4{y10:Int}:Vy (X0 false) 28 ZY zHj [(10,y10)] d h Q (λE _ _ _ _=>(E [(10,(zG (y10+1)))] .normal h)):=λ_=>by kernel_rfl
theorem zQL{y10 y9:Int}{y8:V}:X0 false zNd ⟨28,(yu tm [(10,y10),(9,y9),(8,y8)]),d,h⟩ (yE ZY Q)=(((y10<y9->∃p0 o1,z8 zA 23 y8 y10=some (.ptr p0 o1)/\∃x2:Int,zK zA 3 h (.ptr p0 o1)=some (x2:V)/\wpDr Tryz.prog zA false z6g.toList ⟨28,(Tb.set (Tb.set (Tb.set (Tb.set (Tb.set (Tb.set (yu tm [(10,y10),(9,y9),(8,y8)]) 11 true) 12 y10) 13 (.ptr p0 o1)) 14 x2) 6 y10) 7 x2),d,h⟩ (thenC (λs1=>X0 false zPE s1 λe s1=>(thenC (λs1=>X0 false zHj s1 (yE ZY Q)) (yE ZY Q)) (ze 1 e) s1) λe s1=>(thenC (λs1=>X0 false zHj s1 (yE ZY Q)) (yE ZY Q)) (ze 1 e) s1))/\(¬(y10<y9)->Gz ZY tm [(10,y10),(9,y9),(8,y8)] λu=>Q (.exit 0) ⟨28,u,d,h⟩))):=by kernel_rfl
theorem zQO{y5:Int}:Vy (X0 false) 28 ZY zPF [(5,y5)] d h Q (λE _ _ _ _=>(E [(4,y5)] .ret h)):=λ_=>by kernel_rfl
theorem zYV{a1:V}{Q:V->H->Prop}:X0 false zCq ⟨28,zC [a0,a1] 0 (Tb.leaf zB),[],h⟩ (endW zA ⟨28,[.tmp 4],zCq⟩ Q)=(∃x0:Int,zp zA 23 h a0=some (x0:V)/\Lz ZY 28 [(4,(0:Int)),(10,(0:Int)),(9,x0),(8,a0),(5,(0:Int)),(0,a0),(1,a1)] zNd h (Kx (X0 false) zPF 0 (endW zA ⟨28,[.tmp 4],zCq⟩ Q))):=by kernel_rfl
theorem zVu:zA.ty.get 426=some ⟨426,(.array 3 3),3,24,some (.agg [(ip 0),(ip 0),(ip 0)]),true,false,false,[]⟩:=by kernel_rfl
noncomputable def b24:Code:=zE Tryz.f24
def zVa:Code:=zi b24 [1,1,1,1,0,1,0,0,1]
def zVU:Code:=zi b24 [1,1,1,1,0,1,0,0]
def zVV:Code:=zi b24 [1,1,1,1,1,1,1,1,0,1,0,0]
def zVb:Code:=zi b24 [1,1,1,1,1,1,1,1,1]
def zPL:Code:=zi b24 [1,1,1,1,1]
theorem z6u:(zA.fn.get 24).map zI=some ⟨79,[.tmp 4,.tmp 5],b24⟩:=by kernel_rfl
def L24:List Nat:=[4,5,0,8,7,6,13,10,12]
abbrev W24(b:Bool):Code->St->(AX->St->Prop)->Prop:=wpS Tryz.prog zA L24 4 b
theorem zYd{y8 y6:Int}{y0 y7:V}:Vy (W24 false) 79 L24 zVa [(0,y0),(8,y8),(7,y7),(6,y6)] d h Q (λE _ _ _ _=>∃p0 o1,z8 zA 23 y0 y8=some (.ptr p0 o1)/\∃x2:Int,zK zA 3 h (.ptr p0 o1)=some (x2:V)/\RF Tryz.prog zA 27 [x2,(1048576:Int)] h λv3 h4=>∃x5:Int,v3=x5/\(h4.nx<=T.top/\h4.low<=T.top)/\y6≠0/\y6≠0/\(977:Int)≠0/\(zG (1+(Int.tmod x5 977)))≠0/\∃p6 o7,z8 zA 23 y7 (.int .i64 (Int.tmod x5 y6))=some (.ptr p6 o7)/\∃h8,zg zA 3 h4 (.ptr p6 o7) (zG (1+(Int.tmod (zG (Int.tdiv x5 y6)) (zG (1+(Int.tmod x5 977))))))=some h8/\E [(8,(zG (y8+1)))] .normal h8):=λ_=>by kernel_rfl
theorem zYX{y8:Int}{y0:V}:Vy (W24 false) 79 L24 zVU [(8,y8),(0,y0)] d h Q (λE F _ _ _=>∃x0:Int,zp zA 23 h y0=some (x0:V)/\(y8<x0->(y8<60->F [] zVa h)/\(¬(y8<60)->E [] (.exit 0) h))/\(¬(y8<x0)->E [] (.exit 0) h)):=λ_=>by kernel_rfl
theorem zYY{y13:Int}{y10:V}:Vy (W24 false) 79 L24 zVV [(13,y13),(10,y10)] d h Q (λE _ _ _ _=>∃x0:Int,zp zA 23 h y10=some (x0:V)/\(y13<x0->∃p1 o2,z8 zA 23 y10 y13=some (.ptr p1 o2)/\∃x3:Int,zK zA 3 h (.ptr p1 o2)=some (x3:V)/\(x3≠0->E [(13,(zG (y13+1))),(12,y13)] .normal h)/\(¬(x3≠0)->E [(13,(zG (y13+1)))] .normal h))/\(¬(y13<x0)->E [] (.exit 2) h)):=λ_=>by kernel_rfl
theorem zYe{y12:Int}{y10:V}:Vy (W24 false) 79 L24 zVb [(10,y10),(12,y12)] d h Q (λE _ _ _ _=>∃x0:Int,zp zA 23 h y10=some (x0:V)/\∃v1,yB zA 23 h y10 none (some (.int .i64 (min (zG (y12+1)) x0))) none=some v1/\E [(4,v1),(5,true)] .ret h):=λ_=>by kernel_rfl
theorem zYf{y7:V}:Vy (W24 false) 79 L24 zPL [(7,y7)] d h Q (λE _ M S _=>RF Tryz.prog zA 55 [y7] h λv0 h1=>∃v2,∃x3:Int,v0=(.tuple [v2,x3])/\(x3≠0->E [(4,.nilslice),(5,false),(10,v2)] .ret h1)/\(¬(x3≠0)->M [(13,(0:Int)),(10,v2),(12,(0:Int))] zVV h1 (Kx (W24 false) zVb 2 S))):=λ_=>by kernel_rfl
theorem z7e{Q:V->H->Prop}:W24 false b24 ⟨79,zC [a0,a1] 0 (Tb.leaf zB),[],h⟩ (endW zA ⟨79,[.tmp 4,.tmp 5],b24⟩ Q)=(RF Tryz.prog zA 27 [a1,(255:Int)] h λv0 h1=>∃x2:Int,v0=x2/\∃v3 h4,jy zA 23 (zG (2+x2)) (zG (2+x2)) h1=some (v3,h4)/\∃p5 o6,z8 zA 23 v3 (0:Int)=some (.ptr p5 o6)/\∃h7,zg zA 3 h4 (.ptr p5 o6) (1:Int)=some h7/\∃p8 o9,z8 zA 23 v3 (zG ((zG (2+x2))-1))=some (.ptr p8 o9)/\∃h10,zg zA 3 h7 (.ptr p8 o9) (1:Int)=some h10/\Lz L24 79 [(4,.nilslice),(5,false),(0,a0),(8,(0:Int)),(7,v3),(6,(zG (2+x2)))] zVU h10 (Kx (W24 false) zPL 0 (endW zA ⟨79,[.tmp 4,.tmp 5],b24⟩ Q))):=by kernel_rfl
noncomputable def b27:Code:=zE Tryz.f27
theorem z6x:(zA.fn.get 27).map zI=some ⟨16,[.tmp 4],b27⟩:=by kernel_rfl
def L27:List Nat:=[4]
abbrev W27(b:Bool):Code->St->(AX->St->Prop)->Prop:=wpS Tryz.prog zA L27 4 b
theorem z7h{a0:Int}{Q:V->H->Prop}:W27 false b27 ⟨16,zC [a0,a1] 0 (Tb.leaf zB),[],h⟩ (endW zA ⟨16,[.tmp 4],b27⟩ Q)=(((a1<1->Q (0:Int) h)/\(¬(a1<1)->a1≠0/\((Int.tmod a0 a1)<0->Q (zG ((Int.tmod a0 a1)+a1)) h)/\(¬((Int.tmod a0 a1)<0)->Q (.int .i64 (Int.tmod a0 a1)) h)))):=by kernel_rfl
noncomputable def b55:Code:=zE Tryz.f55
def zOD:Code:=zi b55 [1,0,1,1,1,0,0,0,1,0,1,0,0,1,1,0,0,1,1,0,0,1,0,0]
def zVg:Code:=zi b55 [1,0,1,1,1,0,0,0,1,0,1,0,0,1,1,0,0,1,1,0,1]
def z1v:Code:=zi b55 [1,0,1,1,1,0,0,0,1,0,1,0,0,1,1,1]
def zV0:Code:=zi b55 [1,0,1,1,1,0,0,0,1,0,1,0,0]
def zVh:Code:=zi b55 [1,0,1,1,1,0,0,0,1,1]
def zV1:Code:=zi b55 [1,0,1,1,1,0,0]
theorem z7I:(zA.fn.get 55).map zI=some ⟨47,[.tmp 2,.tmp 3],b55⟩:=by kernel_rfl
def L55:List Nat:=[2,3,30,29,5,22,21,20,6]
abbrev W55(b:Bool):Code->St->(AX->St->Prop)->Prop:=wpS Tryz.prog zA L55 4 b
theorem zY3{y30 y29:Int}{y5:V}:Vy (W55 false) 47 L55 zOD [(30,y30),(29,y29),(5,y5)] d h Q (λE _ _ _ _=>((y30<y29->(h.nx<=T.top/\h.low<=T.top)/\∃p0 o1,z8 zA 23 y5 y30=some (.ptr p0 o1)/\∃x2:Int,zK zA 3 h (.ptr p0 o1)=some (x2:V)/\∃p3 o4,z8 zA 23 y5 y30=some (.ptr p3 o4)/\∃x5:Int,zK zA 3 h (.ptr p3 o4)=some (x5:V)/\∃x6:Int,zq .shr .i64 x5 1=some (x6:V)/\∃p7 o8,z8 zA 23 y5 y30=some (.ptr p7 o8)/\∃h9,zg zA 3 h (.ptr p7 o8) (zG (x2-x6))=some h9/\E [(30,(zG (y30+1)))] .normal h9)/\(¬(y30<y29)->E [] (.exit 4) h))):=λ_=>by kernel_rfl
theorem zYm :Vy (W55 false) 47 L55 zVg [] d h Q (λE _ _ _ _=>(E [] (.exit 1) h)):=λ_=>by kernel_rfl
theorem zY4{y22 y21:Int}{y20 y5:V}:Vy (W55 false) 47 L55 zV0 [(22,y22),(21,y21),(20,y20),(5,y5)] d h Q (λE _ M S _=>((y22<y21->∃p0 o1,z8 zA 23 y20 y22=some (.ptr p0 o1)/\∃x2:Int,zK zA 3 h (.ptr p0 o1)=some (x2:V)/\((11:Int)<x2->∃x3:Int,zp zA 23 h y5=some (x3:V)/\M [(30,(0:Int)),(29,x3)] zOD h (Kx (W55 false) zVg 4 (Kx (W55 false) z1v 3 S)))/\(¬((11:Int)<x2)->E [(22,(zG (y22+1)))] .normal h))/\(¬(y22<y21)->E [] (.exit 2) h))):=λ_=>by kernel_rfl
theorem zYn{y6:V}:Vy (W55 false) 47 L55 zVh [(6,y6)] d h Q (λE _ _ _ _=>(E [(2,y6),(3,(0:Int))] .ret h)):=λ_=>by kernel_rfl
theorem zY5{y5:V}:Vy (W55 false) 47 L55 zV1 [(5,y5)] d h Q (λ_ _ M S _=>RF Tryz.prog zA 106 [y5] h λv0 h1=>∃v2,v0=v2/\∃x3:Int,zp zA 23 h1 v2=some (x3:V)/\M [(22,(0:Int)),(21,x3),(20,v2),(6,v2)] zV0 h1 (Kx (W55 false) zVh 2 λe s1=>S (ze 1 e) s1)):=λ_=>by kernel_rfl
theorem z7r{Q:V->H->Prop}:W55 false b55 ⟨47,zC [a0] 0 (Tb.leaf zB),[],h⟩ (endW zA ⟨47,[.tmp 2,.tmp 3],b55⟩ Q)=(RF Tryz.prog zA 105 [a0] h λv0 h1=>∃x2:Int,v0=x2/\(x2≠0->Q (.tuple [.nilslice,x2]) h1)/\(¬(x2≠0)->∃v3 h4,zF zA 23 0 [] h1=some (v3,h4)/\True/\∃v5 h6,zc zA 23 h4 v3 a0=some (v5,h6)/\Lz L55 47 [(2,.nilslice),(3,(0:Int)),(5,v5)] zV1 h6 λe s1=>(endW zA ⟨47,[.tmp 2,.tmp 3],b55⟩ Q) (ze 0 e) s1)):=by kernel_rfl
noncomputable def zWa:Code:=zE Tryz.f105
theorem z0E:(zA.fn.get 105).map zI=some ⟨18,[.tmp 2],zWa⟩:=by kernel_rfl
def z4Y:List Nat:=[2]
abbrev z5Z(b:Bool):Code->St->(AX->St->Prop)->Prop:=wpS Tryz.prog zA z4Y 4 b
theorem z2N{Q:V->H->Prop}:z5Z false zWa ⟨18,zC [a0] 0 (Tb.leaf zB),[],h⟩ (endW zA ⟨18,[.tmp 2],zWa⟩ Q)=(RF Tryz.prog zA 169 [a0] h λv0 h1=>∃x2:Int,v0=x2/\(x2≠0->Q x2 h1)/\(¬(x2≠0)->RF Tryz.prog zA 101 [a0] h1 λv3 h4=>∃x5:Int,∃x6:Int,v3=(.tuple [x5,x6])/\(x5<2->Q (7:Int) h4)/\(¬(x5<2)->Q (0:Int) h4))):=by kernel_rfl
noncomputable def zBQ:Code:=zE Tryz.f106
def zN0:Code:=zi zBQ [1,1,0,1,0,0]
def zN1:Code:=zi zBQ [1,1,1,0,1,0,0]
def z6d:Array Oper:=Yg (zi zBQ [1,1,1,1,1,1,1,0])
def zOk:Code:=zi zBQ [1,1,1,1,1,1,1,1]
def zOl:Code:=zi zBQ [1,1,1,1]
def zOm:Code:=zi zBQ [1,1,1]
theorem z0F:(zA.fn.get 106).map zI=some ⟨76,[.tmp 2],zBQ⟩:=by kernel_rfl
def zCa:List Nat:=[2,15,14,13,3,6,9,0]
abbrev zCe(b:Bool):Code->St->(AX->St->Prop)->Prop:=wpS Tryz.prog zA zCa 4 b
theorem zSw{y15 y14:Int}{y13 y3:V}:Vy (zCe false) 76 zCa zN0 [(15,y15),(14,y14),(13,y13),(3,y3)] d h Q (λE _ _ _ _=>((y15<y14->∃p0 o1,z8 zA 23 y13 y15=some (.ptr p0 o1)/\∃x2:Int,zK zA 3 h (.ptr p0 o1)=some (x2:V)/\((0:Int)<x2->h.nx<T.top/\∀p3 h4,p3=h.nx->h4=h.new (.cells (.ls [x2,y15,(0:Int),.nilptr,.nilptr]) ⟨0,238,0⟩ true false)->RF Tryz.prog zA 179 [(.iface 231 y3),(.iface 235 (.ptr p3 0))] h4 λv5 h6=>v5=(.tuple [])/\E [(15,(zG (y15+1)))] .normal h6)/\(¬((0:Int)<x2)->E [(15,(zG (y15+1)))] .normal h))/\(¬(y15<y14)->E [] (.exit 0) h))):=λ_=>by kernel_rfl
theorem zSx{y6:Int}{y3:V}:Vy (zCe false) 76 zCa zN1 [(3,y3),(6,y6)] d h Q (λE _ _ _ _=>∃v0 h1,zh zA ⟨none,.nilCheck (t 0),0, "",#[],none⟩ (λ_=>some y3) h=some (.val v0 h1)/\∃v2,zK zA 233 h1 v0=some v2/\RF Tryz.prog zA 180 [v2] h1 λv3 h4=>∃x5:Int,v3=x5/\((1:Int)<x5->RF Tryz.prog zA 181 [(.iface 231 y3)] h4 λv6 h7=>∃v8,v6=v8/\∃v9 h10,zh zA ⟨none,.typeAssert (t 0) 20 235 false,0, "",#[],none⟩ (λ_=>some v8) h7=some (.val v9 h10)/\RF Tryz.prog zA 181 [(.iface 231 y3)] h10 λv11 h12=>∃v13,v11=v13/\∃v14 h15,zh zA ⟨none,.typeAssert (t 0) 20 235 false,0, "",#[],none⟩ (λ_=>some v13) h12=some (.val v14 h15)/\(h15.nx<=T.top/\h15.low<=T.top)/\∃v16 h17,zh zA ⟨none,.nilCheck (t 0),0, "",#[],none⟩ (λ_=>some v9) (zM h15)=some (.val v16 h17)/\(h15.nx<=h17.low/\h17.nx<=T.top)/\∀h18,h18=yL h15 h17->zR zA 237 0 h18 v16 λv19 h20=>∃x21:Int,zK zA 3 h20 v19=some (x21:V)/\∃v22 h23,zh zA ⟨none,.nilCheck (t 0),0, "",#[],none⟩ (λ_=>some v14) (zM h20)=some (.val v22 h23)/\(h20.nx<=h23.low/\h23.nx<=T.top)/\∀h24,h24=yL h20 h23->zR zA 237 0 h24 v22 λv25 h26=>∃x27:Int,zK zA 3 h26 v25=some (x27:V)/\xp zA 237 (xA zA 237 [(0,(zG (x21+x27))),(2,y6),(3,v9),(4,v14)]) λv28=>ws (cond (zL (V.cells v28)) (Cs.ofL (V.cells v28)) none) λcs31=>h26.nx<T.top/\∀p29 h30,p29=h26.nx->h30=h26.new (.cells cs31 ⟨0,238,0⟩ true false)->RF Tryz.prog zA 179 [(.iface 231 y3),(.iface 235 (.ptr p29 0))] h30 λv32 h33=>v32=(.tuple [])/\E [(6,(zG (y6+1)))] .normal h33)/\(¬((1:Int)<x5)->E [] (.exit 2) h4)):=λ_=>by kernel_rfl
theorem zTe{y9:V}:Vy (zCe false) 76 zCa zOk [(9,y9)] d h Q (λE _ _ _ _=>∃v0,zK zA 23 h y9=some v0/\E [(2,v0)] .ret h):=λ_=>by kernel_rfl
theorem zTf{y0:V}:zCe false zOl ⟨76,(yu tm [(0,y0)]),d,h⟩ (yE zCa Q)=(∃x0:Int,zp zA 23 h y0=some (x0:V)/\∃v1 h2,jy zA 23 x0 x0 h=some (v1,h2)/\V.one .nilslice=true/\h2.nx<T.top/\∀p3 h4,p3=h2.nx->h4=h2.new (.cells (.ls [.nilslice]) ⟨0,24,0⟩ true false)->∃h5,zg zA 23 h4 (.ptr p3 0) v1=some h5/\V.one .nilFunc=true/\h5.nx<T.top/\∀p6 h7,p6=h5.nx->h7=h5.new (.cells (.ls [.nilFunc]) ⟨0,240,0⟩ true false)->∃h8,zg zA 239 h7 (.ptr p6 0) (.func (.func 182) [] [(.ptr p3 0),(.ptr p6 0)])=some h8/\wpDr Tryz.prog zA false z6d.toList ⟨76,(Tb.set (Tb.set (Tb.set (Tb.set (Tb.set (Tb.set (yu tm [(0,y0)]) 64 y0) 65 x0) 66 v1) 9 (.ptr p3 0)) 10 (.ptr p6 0)) 67 (.func (.func 182) [] [(.ptr p3 0),(.ptr p6 0)])),d,h8⟩ (thenC (λs1=>zCe false zOk s1 (yE zCa Q)) (yE zCa Q))):=by kernel_rfl
theorem zTg :Vy (zCe false) 76 zCa zOm [] d h Q (λ_ _ M S _=>(M [(6,(1:Int))] zN1 h (Kx (zCe false) zOl 2 S))):=λ_=>by kernel_rfl
theorem z2O{Q:V->H->Prop}:zCe false zBQ ⟨76,zC [a0] 0 (Tb.leaf zB),[],h⟩ (endW zA ⟨76,[.tmp 2],zBQ⟩ Q)=(∃v0 h1,zF zA 233 0 [] h=some (v0,h1)/\V.one v0=true/\h1.nx<T.top/\∀p2 h3,p2=h1.nx->h3=h1.new (.cells (.ls [v0]) ⟨0,234,0⟩ true false)->∃x4:Int,zp zA 23 h3 a0=some (x4:V)/\Lz zCa 76 [(2,.nilslice),(15,(0:Int)),(14,x4),(13,a0),(3,(.ptr p2 0)),(0,a0)] zN0 h3 (Kx (zCe false) zOm 0 (endW zA ⟨76,[.tmp 2],zBQ⟩ Q))):=by kernel_rfl
noncomputable def zWm:Code:=zE Tryz.f179
theorem z0Y:(zA.fn.get 179).map zI=some ⟨12,[],zWm⟩:=by kernel_rfl
def z4a:List Nat:=[]
abbrev z5c(b:Bool):Code->St->(AX->St->Prop)->Prop:=wpS Tryz.prog zA z4a 4 b
theorem z27{a1:V}{Q:V->H->Prop}:z5c false zWm ⟨12,zC [(.iface 231 a0),a1] 0 (Tb.leaf zB),[],h⟩ (endW zA ⟨12,[],zWm⟩ Q)=(RF Tryz.prog zA 386 [a0,a1] h λv0 h1=>v0=(.tuple [])/\∃v2,zK zA 233 h1 a0=some v2/\RF Tryz.prog zA 180 [v2] h1 λv3 h4=>∃x5:Int,v3=x5/\RF Tryz.prog zA 258 [(.iface 231 a0),(zG (x5-1))] h4 λv6 h7=>v6=(.tuple [])/\Q (.tuple []) h7):=by kernel_rfl
noncomputable def zWn:Code:=zE Tryz.f180
theorem z0Z:(zA.fn.get 180).map zI=some ⟨5,[.tmp 2],zWn⟩:=by kernel_rfl
def z4b:List Nat:=[2]
abbrev z5d(b:Bool):Code->St->(AX->St->Prop)->Prop:=wpS Tryz.prog zA z4b 4 b
theorem z29{Q:V->H->Prop}:z5d false zWn ⟨5,zC [a0] 0 (Tb.leaf zB),[],h⟩ (endW zA ⟨5,[.tmp 2],zWn⟩ Q)=(∃x0:Int,zp zA 233 h a0=some (x0:V)/\Q x0 h):=by kernel_rfl
noncomputable def zWo:Code:=zE Tryz.f181
theorem z00:(zA.fn.get 181).map zI=some ⟨15,[.tmp 2],zWo⟩:=by kernel_rfl
def z4c:List Nat:=[2]
abbrev z5e(b:Bool):Code->St->(AX->St->Prop)->Prop:=wpS Tryz.prog zA z4c 4 b
theorem z2a{Q:V->H->Prop}:z5e false zWo ⟨15,zC [(.iface 231 a0)] 0 (Tb.leaf zB),[],h⟩ (endW zA ⟨15,[.tmp 2],zWo⟩ Q)=(∃v0,zK zA 233 h a0=some v0/\RF Tryz.prog zA 180 [v0] h λv1 h2=>∃x3:Int,v1=x3/\∃v4,zK zA 233 h2 a0=some v4/\RF Tryz.prog zA 387 [v4,(0:Int),(zG (x3-1))] h2 λv5 h6=>v5=(.tuple [])/\RF Tryz.prog zA 259 [(.iface 231 a0),(0:Int),(zG (x3-1))] h6 λv7 h8=>∃b9:Bool,v7=b9/\(b9=true->RF Tryz.prog zA 385 [a0] h8 λv10 h11=>∃v12,v10=v12/\Q v12 h11)/\(b9=false->RF Tryz.prog zA 385 [a0] h8 λv13 h14=>∃v15,v13=v15/\Q v15 h14)):=by kernel_rfl
noncomputable def zE6:Code:=zE Tryz.f182
def z6e:Array Oper:=Yg (zi zE6 [1,0])
def z6f:Array Oper:=Yg (zi zE6 [1,1])
def zOz:Code:=zi zE6 [1,1]
theorem zVO:(zA.fn.get 182).map zI=some ⟨34,[],zE6⟩:=by kernel_rfl
def zWF:List Nat:=[]
abbrev zWS(b:Bool):Code->St->(AX->St->Prop)->Prop:=wpS Tryz.prog zA zWF 4 b
theorem zUE:zWS false zOz ⟨34,(yu tm []),d,h⟩ (yE zWF Q)=(wpDr Tryz.prog zA false z6f.toList ⟨34,(yu tm []),d,h⟩ (yE zWF Q)):=by kernel_rfl
theorem zVx{a2 a3:V}{Q:V->H->Prop}:zWS false zE6 ⟨34,zC [a0,a1,a2,a3] 0 (Tb.leaf zB),[],h⟩ (endW zA ⟨34,[],zE6⟩ Q)=(∃v0 h1,zh zA ⟨none,.nilCheck (t 0),0, "",#[],none⟩ (λ_=>some a0) h=some (.val v0 h1)/\zR zA 237 2 h1 v0 λv2 h3=>∃x4:Int,zK zA 3 h3 v2=some (x4:V)/\(x4=0->(h3.nx<=T.top/\h3.low<=T.top)/\∃v5,zK zA 23 h3 a2=some v5/\∃v6 h7,zh zA ⟨none,.nilCheck (t 0),0, "",#[],none⟩ (λ_=>some a0) (zM h3)=some (.val v6 h7)/\(h3.nx<=h7.low/\h7.nx<=T.top)/\∀h8,h8=yL h3 h7->zR zA 237 1 h8 v6 λv9 h10=>∃x11:Int,zK zA 3 h10 v9=some (x11:V)/\∃p12 o13,z8 zA 23 v5 x11=some (.ptr p12 o13)/\∃h14,zg zA 3 h10 (.ptr p12 o13) a1=some h14/\Q (.tuple []) h14)/\(¬(x4=0)->wpDr Tryz.prog zA false z6e.toList ⟨34,(Tb.set (Tb.set (Tb.set (Tb.set (Tb.set (Tb.set (Tb.set (Tb.set (Tb.set (Tb.leaf zB) 0 a0) 1 a1) 2 a2) 3 a3) 6 a0) 7 v0) 8 v2) 9 x4) 10 false),[],h3⟩ (thenC (λs1=>zWS false zOz s1 (endW zA ⟨34,[],zE6⟩ Q)) (endW zA ⟨34,[],zE6⟩ Q)))):=by kernel_rfl
noncomputable def zGw:Code:=zE Tryz.f258
def zPQ:Code:=zi zGw [0,0,0,1,1]
def zNk:Code:=zi zGw [0,0]
theorem z0x:(zA.fn.get 258).map zI=some ⟨23,[],zGw⟩:=by kernel_rfl
def zMD:List Nat:=[0,4,1]
abbrev zRA(b:Bool):Code->St->(AX->St->Prop)->Prop:=wpS Tryz.prog zA zMD 4 b
theorem zUV{y4 y1:Int}{y0:V}:Vy (zRA false) 23 zMD zPQ [(0,(.iface 231 y0)),(4,y4),(1,y1)] d h Q (λE _ _ _ _=>∃v0,zK zA 233 h y0=some v0/\RF Tryz.prog zA 387 [v0,y4,y1] h λv1 h2=>v1=(.tuple [])/\E [(1,y4)] .normal h2):=λ_=>by kernel_rfl
theorem zTP{y1:Int}{y0:V}:Vy (zRA false) 23 zMD zNk [(1,y1),(0,(.iface 231 y0))] d h Q (λE _ _ S tm=>((2:Int)≠0/\((zG (Int.tdiv (zG (y1-1)) 2))=y1->E [(4,(zG (Int.tdiv (zG (y1-1)) 2)))] (.exit 0) h)/\(¬((zG (Int.tdiv (zG (y1-1)) 2))=y1)->∃v0,zK zA 233 h y0=some v0/\RF Tryz.prog zA 384 [v0,y1,(zG (Int.tdiv (zG (y1-1)) 2))] h λv1 h2=>∃b3:Bool,v1=b3/\(b3=true->Gz zMD tm [(4,(zG (Int.tdiv (zG (y1-1)) 2)))] λu=>zRA false zPQ ⟨23,u,d,h2⟩ λe s1=>S (ze 1 e) s1)/\(b3=false->E [(4,(zG (Int.tdiv (zG (y1-1)) 2)))] (.exit 0) h2)))):=λ_=>by kernel_rfl
theorem z3G{Q:V->H->Prop}:zRA false zGw ⟨23,zC [(.iface 231 a0),a1] 0 (Tb.leaf zB),[],h⟩ (endW zA ⟨23,[],zGw⟩ Q)=((Lz zMD 23 [(0,(.iface 231 a0)),(1,a1)] zNk h λe s1=>(endW zA ⟨23,[],zGw⟩ Q) (ze 0 e) s1)):=by kernel_rfl
noncomputable def Kl:Code:=zE Tryz.f259
def Jo:Code:=zi Kl [1,1,0,0,0,0,1,1,1,1]
def zPR:Code:=zi Kl [1,1,0,0,0,0,1,1]
def zNl:Code:=zi Kl [1,1,0,0,0]
def zDf:Code:=zi Kl [1,1,1]
theorem z0y:(zA.fn.get 259).map zI=some ⟨48,[.tmp 6],Kl⟩:=by kernel_rfl
def zCc:List Nat:=[6,0,9,7,8,2,1]
abbrev OY(b:Bool):Code->St->(AX->St->Prop)->Prop:=wpS Tryz.prog zA zCc 4 b
theorem zUW{y9 y7:Int}{y0:V}:Vy (OY false) 48 zCc Jo [(0,(.iface 231 y0)),(9,y9),(7,y7)] d h Q (λE _ _ _ _=>∃v0,zK zA 233 h y0=some v0/\RF Tryz.prog zA 384 [v0,y9,y7] h λv1 h2=>∃b3:Bool,v1=b3/\(b3=true->∃v4,zK zA 233 h2 y0=some v4/\RF Tryz.prog zA 387 [v4,y7,y9] h2 λv5 h6=>v5=(.tuple [])/\E [(7,y9)] .normal h6)/\(b3=false->E [] (.exit 0) h2)):=λ_=>by kernel_rfl
theorem zUX{y8 y2:Int}{y0:V}:Vy (OY false) 48 zCc zPR [(8,y8),(2,y2),(0,(.iface 231 y0))] d h Q (λ_ F _ _ _=>(((zG (y8+1))<y2->∃v0,zK zA 233 h y0=some v0/\RF Tryz.prog zA 384 [v0,(zG (y8+1)),y8] h λv1 h2=>∃b3:Bool,v1=b3/\(b3=true->F [(9,(zG (y8+1)))] Jo h2)/\(b3=false->F [(9,y8)] Jo h2))/\(¬((zG (y8+1))<y2)->F [(9,y8)] Jo h))):=λ_=>by kernel_rfl
theorem zTQ{y7 y2:Int}:Vy (OY false) 48 zCc zNl [(7,y7),(2,y2)] d h Q (λE _ _ S tm=>((y2<=(zG ((zG (2*y7))+1))->E [(8,(zG ((zG (2*y7))+1)))] (.exit 0) h)/\(¬(y2<=(zG ((zG (2*y7))+1)))->((zG ((zG (2*y7))+1))<0->E [(8,(zG ((zG (2*y7))+1)))] (.exit 0) h)/\(¬((zG ((zG (2*y7))+1))<0)->Gz zCc tm [(8,(zG ((zG (2*y7))+1)))] λu=>OY false zPR ⟨48,u,d,h⟩ λe s1=>S (ze 1 e) s1)))):=λ_=>by kernel_rfl
theorem zUY{y7 y1:Int}:Vy (OY false) 48 zCc zDf [(7,y7),(1,y1)] d h Q (λE _ _ _ _=>((y1<y7->E [(6,true)] .ret h)/\(¬(y1<y7)->E [(6,false)] .ret h))):=λ_=>by kernel_rfl
theorem z3H{a2:Int}{Q:V->H->Prop}:OY false Kl ⟨48,zC [(.iface 231 a0),a1,a2] 0 (Tb.leaf zB),[],h⟩ (endW zA ⟨48,[.tmp 6],Kl⟩ Q)=((Lz zCc 48 [(6,false),(0,(.iface 231 a0)),(7,a1),(2,a2),(1,a1)] zNl h (Kx (OY false) zDf 0 (endW zA ⟨48,[.tmp 6],Kl⟩ Q)))):=by kernel_rfl
noncomputable def zKY:Code:=zE Tryz.f334
def zOC:Code:=zi zKY [1,1,0,1,0,0]
def zPa:Code:=zi zKY [1,1,1]
theorem z1b:(zA.fn.get 334).map zI=some ⟨18,[.tmp 2],zKY⟩:=by kernel_rfl
def zQo:List Nat:=[2,8,7,6,3]
abbrev zRI(b:Bool):Code->St->(AX->St->Prop)->Prop:=wpS Tryz.prog zA zQo 4 b
theorem zT8{y8 y7 y3:Int}{y6:V}:Vy (zRI false) 18 zQo zOC [(8,y8),(7,y7),(6,y6),(3,y3)] d h Q (λE _ _ _ _=>((y8<y7->∃p0 o1,z8 zA 23 y6 y8=some (.ptr p0 o1)/\∃x2:Int,zK zA 3 h (.ptr p0 o1)=some (x2:V)/\(x2≠y3->E [(2,x2)] .ret h)/\(¬(x2≠y3)->E [(8,(zG (y8+1)))] .normal h))/\(¬(y8<y7)->E [] (.exit 0) h))):=λ_=>by kernel_rfl
theorem zUt{y3:Int}:Vy (zRI false) 18 zQo zPa [(3,y3)] d h Q (λE _ _ _ _=>(E [(2,y3)] .ret h)):=λ_=>by kernel_rfl
theorem z3k{Q:V->H->Prop}:zRI false zKY ⟨18,zC [a0] 0 (Tb.leaf zB),[],h⟩ (endW zA ⟨18,[.tmp 2],zKY⟩ Q)=(∃x0:Int,zp zA 23 h a0=some (x0:V)/\Lz zQo 18 [(2,(0:Int)),(8,(0:Int)),(7,x0),(6,a0),(3,(0:Int))] zOC h (Kx (zRI false) zPa 0 (endW zA ⟨18,[.tmp 2],zKY⟩ Q))):=by kernel_rfl
noncomputable def zXY:Code:=zE Tryz.f335
theorem z1c:(zA.fn.get 335).map zI=some ⟨20,[.tmp 4],zXY⟩:=by kernel_rfl
def z5M:List Nat:=[4]
abbrev z6O(b:Bool):Code->St->(AX->St->Prop)->Prop:=wpS Tryz.prog zA z5M 4 b
theorem z3l{a0:Int}{Q:V->H->Prop}:z6O false zXY ⟨20,zC [a0,a1] 0 (Tb.leaf zB),[],h⟩ (endW zA ⟨20,[.tmp 4],zXY⟩ Q)=(RF Tryz.prog zA 338 [a0] h λv0 h1=>∃b2:Bool,v0=b2/\(b2=true->RF Tryz.prog zA 338 [a1] h1 λv3 h4=>∃b5:Bool,v3=b5/\(b5=true->Q (0:Int) h4)/\(b5=false->Q (.int .i64 ((-1))) h4))/\(b2=false->RF Tryz.prog zA 338 [a1] h1 λv6 h7=>∃b8:Bool,v6=b8/\(b8=true->Q (1:Int) h7)/\(b8=false->(a0<a1->Q (.int .i64 ((-1))) h7)/\(¬(a0<a1)->(a1<a0->Q (1:Int) h7)/\(¬(a1<a0)->Q (0:Int) h7))))):=by kernel_rfl
noncomputable def zHA:Code:=zE Tryz.f384
def z6k:Array Oper:=Yg (zi zHA [1,0])
def zPb:Code:=zi zHA [1,1]
theorem z1e:(zA.fn.get 384).map zI=some ⟨18,[.tmp 6],zHA⟩:=by kernel_rfl
def zZW:List Nat:=[6]
abbrev zWX(b:Bool):Code->St->(AX->St->Prop)->Prop:=wpS Tryz.prog zA zZW 4 b
theorem zUu :Vy (zWX false) 18 zZW zPb [] d h Q (λE _ _ _ _=>(E [] .ret h)):=λ_=>by kernel_rfl
theorem z3n{a2:Int}{Q:V->H->Prop}:zWX false zHA ⟨18,zC [a0,a1,a2] 0 (Tb.leaf zB),[],h⟩ (endW zA ⟨18,[.tmp 6],zHA⟩ Q)=(wpDr Tryz.prog zA false z6k.toList ⟨18,(Tb.set (Tb.set (Tb.set (Tb.set (Tb.leaf zB) 0 a0) 1 a1) 2 a2) 6 false),[],h⟩ (thenC (λs1=>zWX false zPb s1 (endW zA ⟨18,[.tmp 6],zHA⟩ Q)) (endW zA ⟨18,[.tmp 6],zHA⟩ Q))):=by kernel_rfl
noncomputable def zX0:Code:=zE Tryz.f385
theorem z1f:(zA.fn.get 385).map zI=some ⟨23,[.tmp 2],zX0⟩:=by kernel_rfl
def z5O:List Nat:=[2]
abbrev z6Q(b:Bool):Code->St->(AX->St->Prop)->Prop:=wpS Tryz.prog zA z5O 4 b
theorem z3o{Q:V->H->Prop}:z6Q false zX0 ⟨23,zC [a0] 0 (Tb.leaf zB),[],h⟩ (endW zA ⟨23,[.tmp 2],zX0⟩ Q)=(∃v0 h1,zh zA ⟨none,.nilCheck (t 0),0, "",#[],none⟩ (λ_=>some a0) h=some (.val v0 h1)/\∃v2,zK zA 233 h1 v0=some v2/\∃x3:Int,zp zA 233 h1 v2=some (x3:V)/\∃p4 o5,z8 zA 233 v2 (zG (x3-1))=some (.ptr p4 o5)/\∃v6,zK zA 235 h1 (.ptr p4 o5)=some v6/\∃x7:Int,zp zA 233 h1 v2=some (x7:V)/\∃v8,yB zA 233 h1 v2 none (some (.int .i64 (zG (x7-1)))) none=some v8/\∃v9 h10,zh zA ⟨none,.nilCheck (t 0),0, "",#[],none⟩ (λ_=>some a0) h1=some (.val v9 h10)/\∃h11,zg zA 233 h10 v9 v8=some h11/\Q (.iface 235 v6) h11):=by kernel_rfl
noncomputable def zX1:Code:=zE Tryz.f386
theorem z1g:(zA.fn.get 386).map zI=some ⟨13,[],zX1⟩:=by kernel_rfl
def z5P:List Nat:=[]
abbrev z6R(b:Bool):Code->St->(AX->St->Prop)->Prop:=wpS Tryz.prog zA z5P 4 b
theorem z3p{a1:V}{Q:V->H->Prop}:z6R false zX1 ⟨13,zC [a0,a1] 0 (Tb.leaf zB),[],h⟩ (endW zA ⟨13,[],zX1⟩ Q)=(((h.nx<=T.top/\h.low<=T.top)/\∃v0 h1,zh zA ⟨none,.nilCheck (t 0),0, "",#[],none⟩ (λ_=>some a0) (zM h)=some (.val v0 h1)/\(h.nx<=h1.low/\h1.nx<=T.top)/\∀h2,h2=yL h h1->∃v3,zK zA 233 h2 v0=some v3/\∃v4 h5,zh zA ⟨none,.typeAssert (t 0) 20 235 false,0, "",#[],none⟩ (λ_=>some a1) (zM h2)=some (.val v4 h5)/\(h2.nx<=h5.low/\h5.nx<=T.top)/\∀h6,h6=yL h2 h5->∃v7 h8,zF zA 233 1 [(0,v4)] h6=some (v7,h8)/\True/\∃v9 h10,zc zA 233 (zM h8) v3 v7=some (v9,h10)/\h10.nx<=T.top/\∀h11,h11=yL h8 h10->∃v12 h13,zh zA ⟨none,.nilCheck (t 0),0, "",#[],none⟩ (λ_=>some a0) h11=some (.val v12 h13)/\∃h14,zg zA 233 h13 v12 v9=some h14/\Q (.tuple []) h14)):=by kernel_rfl
noncomputable def zX2:Code:=zE Tryz.f387
theorem z1h:(zA.fn.get 387).map zI=some ⟨20,[],zX2⟩:=by kernel_rfl
def z5Q:List Nat:=[]
abbrev z6S(b:Bool):Code->St->(AX->St->Prop)->Prop:=wpS Tryz.prog zA z5Q 4 b
theorem z3q{a2:Int}{Q:V->H->Prop}:z6S false zX2 ⟨20,zC [a0,a1,a2] 0 (Tb.leaf zB),[],h⟩ (endW zA ⟨20,[],zX2⟩ Q)=(((h.nx<=T.top/\h.low<=T.top)/\∃p0 o1,z8 zA 233 a0 a2=some (.ptr p0 o1)/\∃v2,zK zA 235 h (.ptr p0 o1)=some v2/\∃p3 o4,z8 zA 233 a0 a1=some (.ptr p3 o4)/\∃v5,zK zA 235 h (.ptr p3 o4)=some v5/\∃p6 o7,z8 zA 233 a0 a1=some (.ptr p6 o7)/\∃h8,zg zA 235 (zM h) (.ptr p6 o7) v2=some h8/\h8.nx<=T.top/\∀h9,h9=yL h h8->∃p10 o11,z8 zA 233 a0 a2=some (.ptr p10 o11)/\∃h12,zg zA 235 h9 (.ptr p10 o11) v5=some h12/\Q (.tuple []) h12)):=by kernel_rfl
noncomputable def zHB:Code:=zE Tryz.f388
def z6l:Array Oper:=Yg (zi zHB [1,0])
def zPc:Code:=zi zHB [1,1]
theorem z1i:(zA.fn.get 388).map zI=some ⟨23,[.tmp 4],zHB⟩:=by kernel_rfl
def zZX:List Nat:=[4]
abbrev zWY(b:Bool):Code->St->(AX->St->Prop)->Prop:=wpS Tryz.prog zA zZX 4 b
theorem zUv :Vy (zWY false) 23 zZX zPc [] d h Q (λE _ _ _ _=>(E [] .ret h)):=λ_=>by kernel_rfl
theorem z3r{a0_0 a0_1 a0_2 a1_0 a1_1 a1_2:Int}{Q:V->H->Prop}:zWY false zHB ⟨23,zC [(.agg [a0_0,a0_1,a0_2]),(.agg [a1_0,a1_1,a1_2])] 0 (Tb.leaf zB),[],h⟩ (endW zA ⟨23,[.tmp 4],zHB⟩ Q)=((h.nx<T.top/\∀p0 h1,p0=h.nx->h1=h.new (.cells (.ls [a0_0,a0_1,a0_2]) ⟨0,427,0⟩ true false)->h1.nx<T.top/\∀p2 h3,p2=h1.nx->h3=h1.new (.cells (.ls [a1_0,a1_1,a1_2]) ⟨0,427,0⟩ true false)->wpDr Tryz.prog zA false z6l.toList ⟨23,(Tb.set (Tb.set (Tb.set (Tb.set (Tb.set (Tb.leaf zB) 0 (.agg [a0_0,a0_1,a0_2])) 1 (.agg [a1_0,a1_1,a1_2])) 2 (.ptr p0 0)) 3 (.ptr p2 0)) 4 false),[],h3⟩ (thenC (λs1=>zWY false zPc s1 (endW zA ⟨23,[.tmp 4],zHB⟩ Q)) (endW zA ⟨23,[.tmp 4],zHB⟩ Q)))):=by kernel_rfl
noncomputable def zX3:Code:=zE Tryz.f389
theorem z1j:(zA.fn.get 389).map zI=some ⟨16,[.cell 2 426],zX3⟩:=by kernel_rfl
def z5R:List Nat:=[2]
abbrev z6T(b:Bool):Code->St->(AX->St->Prop)->Prop:=wpS Tryz.prog zA z5R 4 b
theorem z3s{Q:V->H->Prop}:z6T false zX3 ⟨16,zC [a0] 0 (Tb.leaf zB),[],h⟩ (endW zA ⟨16,[.cell 2 426],zX3⟩ Q)=((h.nx<T.top/\∀p0 h1,p0=h.nx->h1=h.new (.cells (.ls [(0:Int),(0:Int),(0:Int)]) ⟨0,427,0⟩ true false)->(h1.nx<=T.top/\h1.low<=T.top)/\∃v2 h3,zh zA ⟨none,.nilCheck (t 0),0, "",#[],none⟩ (λ_=>some a0) (zM h1)=some (.val v2 h3)/\(h1.nx<=h3.low/\h3.nx<=T.top)/\∀h4,h4=yL h1 h3->zR zA 237 0 h4 v2 λv5 h6=>∃x7:Int,zK zA 3 h6 v5=some (x7:V)/\∃v8 h9,zh zA ⟨none,.nilCheck (t 0),0, "",#[],none⟩ (λ_=>some a0) (zM h6)=some (.val v8 h9)/\(h6.nx<=h9.low/\h9.nx<=T.top)/\∀h10,h10=yL h6 h9->zR zA 237 2 h10 v8 λv11 h12=>∃x13:Int,zK zA 3 h12 v11=some (x13:V)/\∃v14 h15,zh zA ⟨none,.nilCheck (t 0),0, "",#[],none⟩ (λ_=>some a0) (zM h12)=some (.val v14 h15)/\(h12.nx<=h15.low/\h15.nx<=T.top)/\∀h16,h16=yL h12 h15->zR zA 237 1 h16 v14 λv17 h18=>∃x19:Int,zK zA 3 h18 v17=some (x19:V)/\∃h20,zg zA 426 h18 (.ptr p0 0) (.agg [x7,x13,x19])=some h20/\endL zA h20 [(.cell 2 426,(.ptr p0 0))] Q)):=by kernel_rfl
noncomputable def b9:Code:=zE Tryz.f9
theorem fn9:(zA.fn.get 9).map zI=some ⟨29,[.tmp 0],b9⟩:=by kernel_rfl
def L9:List Nat:=[0]
abbrev W9(b:Bool):Code->St->(AX->St->Prop)->Prop:=wpS Tryz.prog zA L9 4 b
theorem vb9{Q:V->H->Prop}:W9 false b9 ⟨29,zC [] 0 (Tb.leaf zB),[],h⟩ (endW zA ⟨29,[.tmp 0],b9⟩ Q)=(RF Tryz.prog zA 13 [(.str [128,16]),(0:Int)] h λv0 h1=>∃v2,∃x3:Int,∃x4:Int,∃x5:Int,v0=(.tuple [v2,x3,(.agg [x4,x5])])/\h1.nx<T.top/\∀p6 h7,p6=h1.nx->h7=h1.new (.cells (.ls [(0:Int),(0:Int)]) ⟨0,27,0⟩ true false)->∃h8,zg zA 26 h7 (.ptr p6 0) (.agg [x4,x5])=some h8/\∃v9 h10,zF zA 23 2 [(0,(1:Int)),(1,(1:Int))] h8=some (v9,h10)/\RF Tryz.prog zA 37 [v9,(.str [128,16])] h10 λv11 h12=>∃b13:Bool,v11=b13/\(b13=true->∃v14 h15,zF zA 23 3 [(0,(2:Int)),(1,(2:Int)),(2,(1:Int))] h12=some (v14,h15)/\RF Tryz.prog zA 37 [v14,(.str [129,17])] h15 λv16 h17=>∃b18:Bool,v16=b18/\(b18=true->∃v19 h20,zF zA 23 2 [(0,(1:Int)),(1,(1:Int))] h17=some (v19,h20)/\RF Tryz.prog zA 12 [v2,v19] h20 λv21 h22=>∃b23:Bool,v21=b23/\(b23=true->(x3=2->∃x24:Int,∃x25:Int,zK zA 26 h22 (.ptr p6 0)=some (.agg [x24,x25])/\∃b26:Bool,Yo zA .eql 26 (t 25) (t 26) (.agg [x24,x25]) (.agg [(0:Int),(0:Int)])=some (.bool b26)/\(b26=true->Q true h22)/\(b26=false->Q false h22))/\(¬(x3=2)->Q false h22))/\(b23=false->Q false h22))/\(b18=false->Q false h17))/\(b13=false->Q false h12)):=by kernel_rfl
noncomputable def b37:Code:=zE Tryz.f37
theorem z6y:(zA.fn.get 37).map zI=some ⟨19,[.tmp 4],b37⟩:=by kernel_rfl
def L37:List Nat:=[4]
abbrev W37(b:Bool):Code->St->(AX->St->Prop)->Prop:=wpS Tryz.prog zA L37 4 b
theorem z7i{a1:List UInt8}{Q:V->H->Prop}:W37 false b37 ⟨19,zC [a0,a1] 0 (Tb.leaf zB),[],h⟩ (endW zA ⟨19,[.tmp 4],b37⟩ Q)=(RF Tryz.prog zA 16 [a0] h λv0 h1=>∃l2:List UInt8,∃x3:Int,v0=(.tuple [l2,x3])/\(l2=a1->(x3=0->Q true h1)/\(¬(x3=0)->Q false h1))/\(¬(l2=a1)->Q false h1)):=by kernel_rfl
end Go.Proofs.YtnpeieeomokomaaGreat

