/- CH. No condition. -/
import Derived.Test.YtnpeieeomokomaaGreatYCtx
import Derived.Test.YtnpeieeomokomaaGreatYS
import Derived.Test.YtnpeieeomokomaaGreatYW
import Derived.Test.YtnpeieeomokomaaGreatYCD
import Derived.Test.YtnpeieeomokomaaGreatYCF
import Derived.Test.YtnpeieeomokomaaGreatYCG
import Derived.Test.YtnpeieeomokomaaGreatYCT
noncomputable section
namespace Go.Proofs.YtnpeieeomokomaaGreat
open Go.Sim
noncomputable def b5:Code:=zE Tryz.f5
def zYJ:Code:=zi b5 [1,1,1,1,1,1,1,1,1]
def z1w:Code:=zi b5 [1,1]
theorem fn5:(zA.fn.get 5).map zI=some ⟨132,[.tmp 8],b5⟩:=by kernel_rfl
def L5:List Nat:=[8,11,0,1,2,3]
abbrev W5(b:Bool):Code->St->(AX->St->Prop)->Prop:=wpS Tryz.prog zA L5 4 b
variable {tm:Tm}{d:List AD}{h:H}{Q:AX->St->Prop}
theorem z3t{y11:List UInt8}:Vy (W5 false) 132 L5 zYJ [(11,y11)] d h Q (λE _ _ _ _=>∃x0:Int,xe zA 9 y11 (0:Int)=some (.int .u8 x0)/\((128:Int)<=(zG (x0))->(2:Int)≠0/\((Int.ofNat (List.length y11))=(zG (1+(zG (Int.tdiv (zG ((zG ((zG (x0))-127))+1)) 2))))->RF Tryz.prog zA 9 [] h λv1 h2=>∃b3:Bool,v1=b3/\(b3=true->E [(8,true)] .ret h2)/\(b3=false->E [(8,false)] .ret h2))/\(¬((Int.ofNat (List.length y11))=(zG (1+(zG (Int.tdiv (zG ((zG ((zG (x0))-127))+1)) 2)))))->((zG (x0))<128->((Int.ofNat (List.length y11))=(zG (1+(zG (x0))))->RF Tryz.prog zA 9 [] h λv4 h5=>∃b6:Bool,v4=b6/\(b6=true->E [(8,true)] .ret h5)/\(b6=false->E [(8,false)] .ret h5))/\(¬((Int.ofNat (List.length y11))=(zG (1+(zG (x0)))))->E [(8,false)] .ret h))/\(¬((zG (x0))<128)->E [(8,false)] .ret h)))/\(¬((128:Int)<=(zG (x0)))->((zG (x0))<128->((Int.ofNat (List.length y11))=(zG (1+(zG (x0))))->RF Tryz.prog zA 9 [] h λv7 h8=>∃b9:Bool,v7=b9/\(b9=true->E [(8,true)] .ret h8)/\(b9=false->E [(8,false)] .ret h8))/\(¬((Int.ofNat (List.length y11))=(zG (1+(zG (x0)))))->E [(8,false)] .ret h))/\(¬((zG (x0))<128)->E [(8,false)] .ret h))):=λ_=>by kernel_rfl
theorem z3u{y1:Int}{y2 y3:List UInt8}{y0:V}:Vy (W5 false) 132 L5 z1w [(0,y0),(1,y1),(2,y2),(3,y3)] d h Q (λE F _ _ _=>RF Tryz.prog zA 24 [y0,y1] h λv0 h1=>∃v2,∃b3:Bool,v0=(.tuple [v2,b3])/\(b3=true->RF Tryz.prog zA 16 [v2] h1 λv4 h5=>∃l6:List UInt8,∃x7:Int,v4=(.tuple [l6,x7])/\(x7=7->RF Tryz.prog zA 9 [] h5 λv8 h9=>∃JT:Bool,v8=JT/\(JT=true->E [(8,true),(11,l6)] .ret h9)/\(JT=false->E [(8,false),(11,l6)] .ret h9))/\(¬(x7=7)->List.length y2+List.length l6<=4611686018427387904/\List.length (y2++l6)+List.length y3<=4611686018427387904/\RF Tryz.prog zA 13 [(.str ((y2++l6)++y3)),(.int .i64 (Int.ofNat (List.length y2)))] h5 λv11 h12=>∃v13,∃x14:Int,∃x15:Int,∃x16:Int,v11=(.tuple [v13,x14,(.agg [x15,x16])])/\h12.nx<T.top/\∀p17 h18,p17=h12.nx->h18=h12.new (.cells (.ls [(0:Int),(0:Int)]) ⟨0,27,0⟩ true false)->∃h19,zg zA 26 h18 (.ptr p17 0) (.agg [x15,x16])=some h19/\RF Tryz.prog zA 20 [v2] h19 λv20 h21=>∃x22:Int,∃x23:Int,v20=(.tuple [x22,x23])/\(x7≠0->E [(8,false),(11,l6)] .ret h21)/\(¬(x7≠0)->∃x24:Int,∃x25:Int,zK zA 26 h21 (.ptr p17 0)=some (.agg [x24,x25])/\∃b26:Bool,Yo zA .neq 26 (t 64) (t 65) (.agg [x24,x25]) (.agg [(0:Int),(0:Int)])=some (.bool b26)/\(b26=true->E [(8,false),(11,l6)] .ret h21)/\(b26=false->(x23≠0->E [(8,false),(11,l6)] .ret h21)/\(¬(x23≠0)->(x22≠(Int.ofNat (List.length l6))->E [(8,false),(11,l6)] .ret h21)/\(¬(x22≠(Int.ofNat (List.length l6)))->((Int.ofNat (List.length l6))<2->E [(8,false),(11,l6)] .ret h21)/\(¬((Int.ofNat (List.length l6))<2)->((128:Int)<(Int.ofNat (List.length l6))->E [(8,false),(11,l6)] .ret h21)/\(¬((128:Int)<(Int.ofNat (List.length l6)))->RF Tryz.prog zA 12 [v13,v2] h21 λv27 h28=>∃b29:Bool,v27=b29/\(b29=true->(x14≠(zG ((Int.ofNat (List.length y2))+(Int.ofNat (List.length l6))))->E [(8,false),(11,l6)] .ret h28)/\(¬(x14≠(zG ((Int.ofNat (List.length y2))+(Int.ofNat (List.length l6)))))->F [(11,l6)] zYJ h28))/\(b29=false->E [(8,false),(11,l6)] .ret h28)))))))))/\(b3=false->E [(8,false)] .ret h1)):=λ_=>by kernel_rfl
theorem vb5{a1:Int}{a2 a3:List UInt8}{a0:V}{Q:V->H->Prop}:W5 false b5 ⟨132,zC [a0,a1,a2,a3] 0 (Tb.leaf zB),[],h⟩ (endW zA ⟨132,[.tmp 8],b5⟩ Q)=((((20:Int)<(Int.ofNat (List.length a2))->RF Tryz.prog zA 9 [] h λv0 h1=>∃b2:Bool,v0=b2/\(b2=true->Q true h1)/\(b2=false->Q false h1))/\(¬((20:Int)<(Int.ofNat (List.length a2)))->((20:Int)<(Int.ofNat (List.length a3))->RF Tryz.prog zA 9 [] h λv3 h4=>∃b5:Bool,v3=b5/\(b5=true->Q true h4)/\(b5=false->Q false h4))/\(¬((20:Int)<(Int.ofNat (List.length a3)))->Gz L5 (Tb.leaf zB) [(8,false),(0,a0),(1,a1),(2,a2),(3,a3)] λu=>W5 false z1w ⟨132,u,[],h⟩ (endW zA ⟨132,[.tmp 8],b5⟩ Q))))):=by kernel_rfl
end Go.Proofs.YtnpeieeomokomaaGreat

