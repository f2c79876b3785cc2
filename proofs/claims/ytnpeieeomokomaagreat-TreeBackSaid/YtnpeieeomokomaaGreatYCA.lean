/- CA. No condition. -/
import Derived.Test.YtnpeieeomokomaaGreatYCtx
import Derived.Test.YtnpeieeomokomaaGreatYCT
import Derived.Test.YtnpeieeomokomaaGreatYS
import Derived.Test.YtnpeieeomokomaaGreatYW
noncomputable section
namespace Go.Proofs.YtnpeieeomokomaaGreat
open Go.Sim
variable{a1 y5 y8:Int}{a0:List UInt8}{y4 y6:V}
noncomputable def b41:Code:=zE Tryz.f41
theorem z7C:(zA.fn.get 41).map zI=some ⟨13,[.tmp 2],b41⟩:=by kernel_rfl
def L41:List Nat:=[2]
abbrev W41(b:Bool):Code->St->(AX->St->Prop)->Prop:=wpS Tryz.prog zA L41 4 b
variable {tm:Tm}{d:List AD}{h:H}{Q:AX->St->Prop}
theorem z7l{a0:V}{Q:V->H->Prop}:W41 false b41 ⟨13,zC [a0] 0 (Tb.leaf zB),[],h⟩ (endW zA ⟨13,[.tmp 2],b41⟩ Q)=(RF Tryz.prog zA 82 [a0] h λv0 h1=>∃x2:Int,∃x3:Int,∃x4:Int,v0=(.tuple [x2,x3,x4])/\Q x4 h1):=by kernel_rfl
noncomputable def b78:Code:=zE Tryz.f78
theorem z7L:(zA.fn.get 78).map zI=some ⟨21,[.tmp 2],b78⟩:=by kernel_rfl
def L78:List Nat:=[2]
abbrev W78(b:Bool):Code->St->(AX->St->Prop)->Prop:=wpS Tryz.prog zA L78 4 b
theorem z7u{a0:V}{Q:V->H->Prop}:W78 false b78 ⟨21,zC [a0] 0 (Tb.leaf zB),[],h⟩ (endW zA ⟨21,[.tmp 2],b78⟩ Q)=(∃v0 h1,zh zA ⟨none,.nilCheck (t 0),0, "",#[],none⟩ (λ_=>some a0) h=some (.val v0 h1)/\zR zA 103 1 h1 v0 λv2 h3=>∃x4:Int,zK zA 3 h3 v2=some (x4:V)/\∃v5 h6,zh zA ⟨none,.nilCheck (t 0),0, "",#[],none⟩ (λ_=>some a0) h3=some (.val v5 h6)/\zR zA 103 1 h6 v5 λv7 h8=>∃h9,zg zA 3 h8 v7 (zG (x4+1))=some h9/\(h9.nx<=T.top/\h9.low<=T.top)/\∃v10 h11,zh zA ⟨none,.nilCheck (t 0),0, "",#[],none⟩ (λ_=>some a0) (zM h9)=some (.val v10 h11)/\(h9.nx<=h11.low/\h11.nx<=T.top)/\∀h12,h12=yL h9 h11->zR zA 103 0 h12 v10 λv13 h14=>∃l15:List UInt8,zK zA 9 h14 v13=some (.str l15)/\∃v16 h17,zh zA ⟨none,.nilCheck (t 0),0, "",#[],none⟩ (λ_=>some a0) (zM h14)=some (.val v16 h17)/\(h14.nx<=h17.low/\h17.nx<=T.top)/\∀h18,h18=yL h14 h17->zR zA 103 1 h18 v16 λv19 h20=>∃x21:Int,zK zA 3 h20 v19=some (x21:V)/\∃x22:Int,xe zA 9 l15 (zG (x21-1))=some (.int .u8 x22)/\Q (zG (x22)) h20):=by kernel_rfl
noncomputable def b80:Code:=zE Tryz.f80
def KT:Code:=zi b80 [1,0,1]
def KU:Code:=zi b80 [1,1]
theorem z7N:(zA.fn.get 80).map zI=some ⟨77,[.cell 8 59,.tmp 9,.cell 10 26],b80⟩:=by kernel_rfl
def L80:List Nat:=[8,9,10,36,0,1,2,3]
abbrev W80(b:Bool):Code->St->(AX->St->Prop)->Prop:=wpS Tryz.prog zA L80 4 b
theorem zYo{y36:Bool}{y8 y10:V}:Vy (W80 false) 77 L80 KT [(36,y36),(8,y8),(10,y10)] d h Q (λE _ _ _ _=>ZT y36 λu=>match u with|true=>∃x0:Int,∃v1,zK zA 59 h y8=some (.agg [x0,v1])/\∃h2,zg zA 59 h y8 (.agg [x0,v1])=some h2/\∃h3,zg zA 26 h2 y10 (.agg [(2:Int),(0:Int)])=some h3/\(E [(9,(0:Int))] .ret h3)|false=>(E [] .normal h)):=λ_=>by kernel_rfl
theorem zYp{y1 y2 y3:Int}{y0:List UInt8}{y8 y10:V}:Vy (W80 false) 77 L80 KU [(0,y0),(1,y1),(2,y2),(3,y3),(8,y8),(10,y10)] d h Q (λE _ _ _ _=>∃l0:List UInt8,yB zA 9 h y0 (some (y1:V)) (some (.int .i64 (min (Int.ofNat (List.length y0)) (zG (y1+2000))))) none=some (.str l0)/\h.nx<T.top/\∀p1 h2,p1=h.nx->h2=h.new (.cells (.ls [(.str []),(0:Int)]) ⟨0,113,0⟩ true false)->∃h3,zg zA 112 h2 (.ptr p1 0) (.agg [l0,(0:Int)])=some h3/\RF Tryz.prog zA 137 [(.ptr p1 0),y2,y3] h3 λv4 h5=>∃x6:Int,∃v7,∃v8,v4=(.tuple [(.agg [x6,v7]),v8])/\∃h9,zg zA 59 h5 y8 (.agg [x6,v7])=some h9/\RF Tryz.prog zA 138 [v8,(.iface 24 (31:Int))] h9 λv10 h11=>∃b12:Bool,v10=b12/\(b12=true->∃h13,zg zA 59 h11 y8 (.agg [(0:Int),.nilslice])=some h13/\∃h14,zg zA 26 h13 y10 (.agg [(31:Int),y1])=some h14/\E [(9,(0:Int))] .ret h14)/\(b12=false->wh zA .neq 163 (t 62) (.const .nilIface) 4 v8 .nilIface λv15=>xM v15 λu=>match u with|true=>∃h16,zg zA 59 h11 y8 (.agg [(0:Int),.nilslice])=some h16/\∃h17,zg zA 26 h16 y10 (.agg [(23:Int),y1])=some h17/\(E [(9,(0:Int))] .ret h17)|false=>∃l18:List UInt8,∃x19:Int,zK zA 112 h11 (.ptr p1 0)=some (.agg [l18,x19])/\RF Tryz.prog zA 139 [(.agg [l18,x19])] h11 λv20 h21=>∃x22:Int,∃x23:Int,v20=(.tuple [x22,x23])/\∃x24:Int,∃v25,zK zA 59 h21 y8=some (.agg [x24,v25])/\∃h26,zg zA 59 h21 y8 (.agg [x24,v25])=some h26/\∃h27,zg zA 26 h26 y10 (.agg [(0:Int),(0:Int)])=some h27/\E [(9,(zG (y1+x22)))] .ret h27)):=λ_=>by kernel_rfl
theorem z7w{a2 a3:Int}{Q:V->H->Prop}:W80 false b80 ⟨77,zC [a0,a1,a2,a3] 0 (Tb.leaf zB),[],h⟩ (endW zA ⟨77,[.cell 8 59,.tmp 9,.cell 10 26],b80⟩ Q)=((h.nx<T.top/\∀p0 h1,p0=h.nx->h1=h.new (.cells (.ls [(0:Int),.nilslice]) ⟨0,60,0⟩ true false)->h1.nx<T.top/\∀p2 h3,p2=h1.nx->h3=h1.new (.cells (.ls [(0:Int),(0:Int)]) ⟨0,27,0⟩ true false)->(a1<0->Gz L80 (Tb.leaf zB) [(8,(.ptr p0 0)),(9,(0:Int)),(10,(.ptr p2 0)),(36,true),(0,a0),(1,a1),(2,a2),(3,a3)] λu=>W80 false KT ⟨77,u,[],h3⟩ (thenC (sealK L80 λs1=>W80 false KU s1 (endW zA ⟨77,[.cell 8 59,.tmp 9,.cell 10 26],b80⟩ Q)) (endW zA ⟨77,[.cell 8 59,.tmp 9,.cell 10 26],b80⟩ Q)))/\(¬(a1<0)->((Int.ofNat (List.length a0))<a1->Gz L80 (Tb.leaf zB) [(8,(.ptr p0 0)),(9,(0:Int)),(10,(.ptr p2 0)),(36,true),(0,a0),(1,a1),(2,a2),(3,a3)] λu=>W80 false KT ⟨77,u,[],h3⟩ (thenC (sealK L80 λs1=>W80 false KU s1 (endW zA ⟨77,[.cell 8 59,.tmp 9,.cell 10 26],b80⟩ Q)) (endW zA ⟨77,[.cell 8 59,.tmp 9,.cell 10 26],b80⟩ Q)))/\(¬((Int.ofNat (List.length a0))<a1)->(a2<5->Gz L80 (Tb.leaf zB) [(8,(.ptr p0 0)),(9,(0:Int)),(10,(.ptr p2 0)),(36,true),(0,a0),(1,a1),(2,a2),(3,a3)] λu=>W80 false KT ⟨77,u,[],h3⟩ (thenC (sealK L80 λs1=>W80 false KU s1 (endW zA ⟨77,[.cell 8 59,.tmp 9,.cell 10 26],b80⟩ Q)) (endW zA ⟨77,[.cell 8 59,.tmp 9,.cell 10 26],b80⟩ Q)))/\(¬(a2<5)->((12:Int)<a2->Gz L80 (Tb.leaf zB) [(8,(.ptr p0 0)),(9,(0:Int)),(10,(.ptr p2 0)),(36,true),(0,a0),(1,a1),(2,a2),(3,a3)] λu=>W80 false KT ⟨77,u,[],h3⟩ (thenC (sealK L80 λs1=>W80 false KU s1 (endW zA ⟨77,[.cell 8 59,.tmp 9,.cell 10 26],b80⟩ Q)) (endW zA ⟨77,[.cell 8 59,.tmp 9,.cell 10 26],b80⟩ Q)))/\(¬((12:Int)<a2)->(a3<1->Gz L80 (Tb.leaf zB) [(8,(.ptr p0 0)),(9,(0:Int)),(10,(.ptr p2 0)),(36,true),(0,a0),(1,a1),(2,a2),(3,a3)] λu=>W80 false KT ⟨77,u,[],h3⟩ (thenC (sealK L80 λs1=>W80 false KU s1 (endW zA ⟨77,[.cell 8 59,.tmp 9,.cell 10 26],b80⟩ Q)) (endW zA ⟨77,[.cell 8 59,.tmp 9,.cell 10 26],b80⟩ Q)))/\(¬(a3<1)->((256:Int)<a3->Gz L80 (Tb.leaf zB) [(8,(.ptr p0 0)),(9,(0:Int)),(10,(.ptr p2 0)),(36,true),(0,a0),(1,a1),(2,a2),(3,a3)] λu=>W80 false KT ⟨77,u,[],h3⟩ (thenC (sealK L80 λs1=>W80 false KU s1 (endW zA ⟨77,[.cell 8 59,.tmp 9,.cell 10 26],b80⟩ Q)) (endW zA ⟨77,[.cell 8 59,.tmp 9,.cell 10 26],b80⟩ Q)))/\(¬((256:Int)<a3)->Gz L80 (Tb.leaf zB) [(8,(.ptr p0 0)),(9,(0:Int)),(10,(.ptr p2 0)),(36,false),(0,a0),(1,a1),(2,a2),(3,a3)] λu=>W80 false KT ⟨77,u,[],h3⟩ (thenC (sealK L80 λs1=>W80 false KU s1 (endW zA ⟨77,[.cell 8 59,.tmp 9,.cell 10 26],b80⟩ Q)) (endW zA ⟨77,[.cell 8 59,.tmp 9,.cell 10 26],b80⟩ Q)))))))))):=by kernel_rfl
noncomputable def zKI:Code:=zE Tryz.f143
def zN4:Code:=zi zKI [1,0,1,0,0]
def zOt:Code:=zi zKI [1,1]
theorem zVM:(zA.fn.get 143).map zI=some ⟨22,[.tmp 4],zKI⟩:=by kernel_rfl
def zQb:List Nat:=[4,9,8,7,1]
abbrev zQt(b:Bool):Code->St->(AX->St->Prop)->Prop:=wpS Tryz.prog zA zQb 4 b
theorem zJc{y9 y4:Int}{y7 y1:V}:Vy (zQt false) 22 zQb zN4 [(9,y9),(8,y8),(7,y7),(4,y4),(1,y1)] d h Q (λE _ _ _ _=>((y9<y8->∃p0 o1,z8 zA 23 y7 y9=some (.ptr p0 o1)/\∃x2:Int,zK zA 3 h (.ptr p0 o1)=some (x2:V)/\(x2≠0->yW zA Tryz.prog 3 h (λv3 h4=>wh zA .add 3 (t 15) (t 18) 3 y4 v3 λv5=>(E [(4,v5),(9,(zG (y9+1)))] .normal h4)) [x2] y1)/\(¬(x2≠0)->E [(9,(zG (y9+1)))] .normal h))/\(¬(y9<y8)->E [] (.exit 0) h))):=λ_=>by kernel_rfl
theorem zJe{y4:Int}:Vy (zQt false) 22 zQb zOt [(4,y4)] d h Q (λE _ _ _ _=>(E [] .ret h)):=λ_=>by kernel_rfl
theorem zVv{a0 a1:V}{Q:V->H->Prop}:zQt false zKI ⟨22,zC [a0,a1] 0 (Tb.leaf zB),[],h⟩ (endW zA ⟨22,[.tmp 4],zKI⟩ Q)=(∃x0:Int,zp zA 23 h a0=some (x0:V)/\Lz zQb 22 [(4,(0:Int)),(9,(0:Int)),(8,x0),(7,a0),(1,a1)] zN4 h (Kx (zQt false) zOt 0 (endW zA ⟨22,[.tmp 4],zKI⟩ Q))):=by kernel_rfl
noncomputable def zWs:Code:=zE Tryz.f212
theorem z04:(zA.fn.get 212).map zI=some ⟨21,[.tmp 2],zWs⟩:=by kernel_rfl
def z4g:List Nat:=[2]
abbrev z5i(b:Bool):Code->St->(AX->St->Prop)->Prop:=wpS Tryz.prog zA z4g 4 b
theorem z2e{a0_1:Int}{a0_0:List UInt8}{Q:V->H->Prop}:z5i false zWs ⟨21,zC [(.agg [a0_0,a0_1])] 0 (Tb.leaf zB),[],h⟩ (endW zA ⟨21,[.tmp 2],zWs⟩ Q)=((h.nx<T.top/\∀p0 h1,p0=h.nx->h1=h.new (.cells (.ls [a0_0,a0_1]) ⟨0,113,0⟩ true false)->∃l2:List UInt8,zK zA 9 h1 (.ptr p0 (0+0))=some (.str l2)/\((1048576:Int)<(Int.ofNat (List.length l2))->Q (4:Int) h1)/\(¬((1048576:Int)<(Int.ofNat (List.length l2)))->∃x3:Int,zK zA 3 h1 (.ptr p0 (0+1))=some (x3:V)/\(x3<0->Q (2:Int) h1)/\(¬(x3<0)->∃x4:Int,zK zA 3 h1 (.ptr p0 (0+1))=some (x4:V)/\∃l5:List UInt8,zK zA 9 h1 (.ptr p0 (0+0))=some (.str l5)/\((zG (8*(Int.ofNat (List.length l5))))<x4->Q (2:Int) h1)/\(¬((zG (8*(Int.ofNat (List.length l5))))<x4)->Q (0:Int) h1))))):=by kernel_rfl
noncomputable def zWv:Code:=zE Tryz.f215
theorem z07:(zA.fn.get 215).map zI=some ⟨34,[.cell 4 120,.tmp 5,.tmp 6],zWv⟩:=by kernel_rfl
def z4j:List Nat:=[4,5,6]
abbrev z5l(b:Bool):Code->St->(AX->St->Prop)->Prop:=wpS Tryz.prog zA z4j 4 b
theorem z2h{a0_1:Int}{a0_0:List UInt8}{Q:V->H->Prop}:z5l false zWv ⟨34,zC [(.agg [a0_0,a0_1]),a1] 0 (Tb.leaf zB),[],h⟩ (endW zA ⟨34,[.cell 4 120,.tmp 5,.tmp 6],zWv⟩ Q)=((h.nx<T.top/\∀p0 h1,p0=h.nx->h1=h.new (.cells (.ls [a0_0,a0_1]) ⟨0,121,0⟩ true false)->h1.nx<T.top/\∀p2 h3,p2=h1.nx->h3=h1.new (.cells (.ls [(.str []),(0:Int)]) ⟨0,121,0⟩ true false)->∃l4:List UInt8,∃x5:Int,zK zA 120 h3 (.ptr p0 0)=some (.agg [l4,x5])/\RF Tryz.prog zA 278 [(.agg [l4,x5]),a1] h3 λv6 h7=>∃x8:Int,∃x9:Int,v6=(.tuple [(.int .u64 x8),x9])/\∃x10:Int,zK zA 3 h7 (.ptr p0 (0+1))=some (x10:V)/\(x10<a1->RF Tryz.prog zA 250 [true,(5:Int)] h7 λv11 h12=>∃x13:Int,v11=x13/\∃v14 h15,zF zA 343 2 [(0,x9),(1,x13)] h12=some (v14,h15)/\RF Tryz.prog zA 248 [v14] h15 λv16 h17=>∃x18:Int,v16=x18/\(x18≠0->∃h19,zg zA 120 h17 (.ptr p2 0) (.agg [(.str []),(0:Int)])=some h19/\endL zA h19 [(.cell 4 120,(.ptr p2 0)),(.tmp 5,(.int .u64 0)),(.tmp 6,x18)] Q)/\(¬(x18≠0)->∃x20:Int,zK zA 3 h17 (.ptr p0 (0+1))=some (x20:V)/\∃h21,zg zA 3 h17 (.ptr p0 (0+1)) (zG (x20-a1))=some h21/\∃l22:List UInt8,∃x23:Int,zK zA 120 h21 (.ptr p0 0)=some (.agg [l22,x23])/\∃h24,zg zA 120 h21 (.ptr p2 0) (.agg [l22,x23])=some h24/\endL zA h24 [(.cell 4 120,(.ptr p2 0)),(.tmp 5,(.int .u64 x8)),(.tmp 6,(0:Int))] Q))/\(¬(x10<a1)->RF Tryz.prog zA 250 [false,(5:Int)] h7 λv25 h26=>∃x27:Int,v25=x27/\∃v28 h29,zF zA 343 2 [(0,x9),(1,x27)] h26=some (v28,h29)/\RF Tryz.prog zA 248 [v28] h29 λv30 h31=>∃x32:Int,v30=x32/\(x32≠0->∃h33,zg zA 120 h31 (.ptr p2 0) (.agg [(.str []),(0:Int)])=some h33/\endL zA h33 [(.cell 4 120,(.ptr p2 0)),(.tmp 5,(.int .u64 0)),(.tmp 6,x32)] Q)/\(¬(x32≠0)->∃x34:Int,zK zA 3 h31 (.ptr p0 (0+1))=some (x34:V)/\∃h35,zg zA 3 h31 (.ptr p0 (0+1)) (zG (x34-a1))=some h35/\∃l36:List UInt8,∃x37:Int,zK zA 120 h35 (.ptr p0 0)=some (.agg [l36,x37])/\∃h38,zg zA 120 h35 (.ptr p2 0) (.agg [l36,x37])=some h38/\endL zA h38 [(.cell 4 120,(.ptr p2 0)),(.tmp 5,(.int .u64 x8)),(.tmp 6,(0:Int))] Q)))):=by kernel_rfl
noncomputable def zKM:Code:=zE Tryz.f248
def zNg:Code:=zi zKM [1,0,1,1,0,1,0,0]
def zPK:Code:=zi zKM [1,0,1,1,1]
theorem z0n:(zA.fn.get 248).map zI=some ⟨17,[.tmp 2],zKM⟩:=by kernel_rfl
def zQe:List Nat:=[2,8,7,6,3]
abbrev zQy(b:Bool):Code->St->(AX->St->Prop)->Prop:=wpS Tryz.prog zA zQe 4 b
theorem zTL{y7:Int}:Vy (zQy false) 17 zQe zNg [(8,y8),(7,y7),(6,y6)] d h Q (λE _ _ _ _=>((y8<y7->∃p0 o1,z8 zA 343 y6 y8=some (.ptr p0 o1)/\∃x2:Int,zK zA 24 h (.ptr p0 o1)=some (x2:V)/\(x2≠0->E [(3,x2)] (.exit 0) h)/\(¬(x2≠0)->E [(8,(zG (y8+1)))] .normal h))/\(¬(y8<y7)->E [] (.exit 0) h))):=λ_=>by kernel_rfl
theorem zJg{y3:Int}:Vy (zQy false) 17 zQe zPK [(3,y3)] d h Q (λE _ _ _ _=>(E [(2,y3)] .ret h)):=λ_=>by kernel_rfl
theorem z2w{a0:V}{Q:V->H->Prop}:zQy false zKM ⟨17,zC [a0] 0 (Tb.leaf zB),[],h⟩ (endW zA ⟨17,[.tmp 2],zKM⟩ Q)=(∃x0:Int,zp zA 343 h a0=some (x0:V)/\Lz zQe 17 [(2,(0:Int)),(8,(0:Int)),(7,x0),(6,a0),(3,(0:Int))] zNg h (Kx (zQy false) zPK 0 (endW zA ⟨17,[.tmp 2],zKM⟩ Q))):=by kernel_rfl
noncomputable def zCr:Code:=zE Tryz.f274
def Yn:Code:=zi zCr [1,1,1,0,1,0,0]
def Zf:Code:=zi zCr [1,1,1,0,1,0,1]
def zYI:Code:=zi zCr [1,1,1,0,1,0]
def zHm:Code:=zi zCr [1,1,1,1]
theorem z1B:(zA.fn.get 274).map zI=some ⟨26,[.tmp 2,.tmp 3],zCr⟩:=by kernel_rfl
def zJr:List Nat:=[2,3,19,20,5,6,7,18]
abbrev zJy(b:Bool):Code->St->(AX->St->Prop)->Prop:=wpS Tryz.prog zA zJr 4 b
theorem zSp{y19 y20:V}:zJy true (jB Yn) ⟨26,(yu tm [(19,y19),(20,y20)]),d,h⟩ (yE zJr Q)=((Gz zJr tm [(19,y19),(20,y20),(6,y19),(7,y20)] λu=>Q .normal ⟨26,u,d,h⟩)):=by kernel_rfl
theorem zSu{y6 y7:Int}{y5:V}:Vy (zJy true) 26 zJr (jB Zf) [(5,y5),(6,y6),(7,y7)] d h Q (λE _ _ _ _=>∃v0,zK zA 23 h y5=some v0/\∃p1 o2,z8 zA 23 v0 y6=some (.ptr p1 o2)/\∃h3,zg zA 3 h (.ptr p1 o2) y7=some h3/\E [] .normal h3):=λ_=>by kernel_rfl
theorem zU1{y5:V}:Vy (zJy false) 26 zJr zHm [(5,y5)] d h Q (λE _ _ _ _=>∃v0,zK zA 23 h y5=some v0/\E [(2,v0),(3,(0:Int))] .ret h):=λ_=>by kernel_rfl
theorem z3K{a0_0:Int}{a0_1:V}{Q:V->H->Prop}:zJy false zCr ⟨26,zC [(.agg [a0_0,a0_1])] 0 (Tb.leaf zB),[],h⟩ (endW zA ⟨26,[.tmp 2,.tmp 3],zCr⟩ Q)=(ws (cond (zL (V.cells (.agg [a0_0,a0_1]))) (Cs.ofL (V.cells (.agg [a0_0,a0_1]))) none) λcs2=>h.nx<T.top/\∀p0 h1,p0=h.nx->h1=h.new (.cells cs2 ⟨0,60,0⟩ true false)->∃x3:Int,∃v4,zK zA 59 h1 (.ptr p0 0)=some (.agg [x3,v4])/\RF Tryz.prog zA 173 [(.agg [x3,v4])] h1 λv5 h6=>∃x7:Int,v5=x7/\(x7≠0->Q (.tuple [.nilslice,x7]) h6)/\(¬(x7≠0)->∃x8:Int,zK zA 3 h6 (.ptr p0 (0+0))=some (x8:V)/\∃x9:Int,zq .shl .i64 1 x8=some (x9:V)/\∃v10 h11,jy zA 23 x9 x9 h6=some (v10,h11)/\V.one .nilslice=true/\h11.nx<T.top/\∀p12 h13,p12=h11.nx->h13=h11.new (.cells (.ls [.nilslice]) ⟨0,24,0⟩ true false)->∃h14,zg zA 23 h13 (.ptr p12 0) v10=some h14/\∃x15:Int,∃v16,zK zA 59 h14 (.ptr p0 0)=some (.agg [x15,v16])/\RF Tryz.prog zA 307 [(.agg [x15,v16])] h14 λv17 h18=>∃v19,v17=v19/\Gz zJr (Tb.leaf zB) [(2,.nilslice),(3,(0:Int)),(5,(.ptr p12 0)),(18,v19)] λu=>RC Tryz.prog false zYI ⟨26,u,[],h18⟩ (Kx (zJy false) zHm 0 (endW zA ⟨26,[.tmp 2,.tmp 3],zCr⟩ Q)))):=by kernel_rfl
noncomputable def zXL:Code:=zE Tryz.f286
theorem zVP:(zA.fn.get 286).map zI=some ⟨7,[],zXL⟩:=by kernel_rfl
def z4z:List Nat:=[]
abbrev z6B(b:Bool):Code->St->(AX->St->Prop)->Prop:=wpS Tryz.prog zA z4z 4 b
theorem zVy{a0:Int}{a1:V}{Q:V->H->Prop}:z6B false zXL ⟨7,zC [a0,a1] 0 (Tb.leaf zB),[],h⟩ (endW zA ⟨7,[],zXL⟩ Q)=(∃x0:Int,zK zA 3 h a1=some (x0:V)/\∃h1,zg zA 3 h a1 (.int .i64 (min (zG (x0+a0)) 1048576))=some h1/\Q (.tuple []) h1):=by kernel_rfl
noncomputable def zKS:Code:=zE Tryz.f304
def zNt:Code:=zi zKS [1,1,0,1,0,0]
def zPZ:Code:=zi zKS [1,1,1]
theorem z1T:(zA.fn.get 304).map zI=some ⟨40,[.tmp 4],zKS⟩:=by kernel_rfl
def zQi:List Nat:=[4,9,8,2,5]
abbrev zRC(b:Bool):Code->St->(AX->St->Prop)->Prop:=wpS Tryz.prog zA zQi 4 b
theorem zTY{y9:Int}{y2:V}:Vy (zRC false) 40 zQi zNt [(9,y9),(8,y8),(2,y2),(5,y5)] d h Q (λE _ _ _ _=>((y9<y8->zR zA 112 1 h y2 λv0 h1=>∃x2:Int,zK zA 3 h1 v0=some (x2:V)/\zR zA 112 0 h1 y2 λv3 h4=>∃l5:List UInt8,zK zA 9 h4 v3=some (.str l5)/\((zG (x2+y9))<(zG (8*(Int.ofNat (List.length l5))))->zR zA 112 0 h4 y2 λv6 h7=>∃l8:List UInt8,zK zA 9 h7 v6=some (.str l8)/\(8:Int)≠0/\∃x9:Int,xe zA 9 l8 (zG (Int.tdiv (zG (x2+y9)) 8))=some (.int .u8 x9)/\(8:Int)≠0/\∃x10:Int,zq .shr .u8 x9 (zT .u64 ((Int.tmod (zG (x2+y9)) 8)))=some (.int .u8 x10)/\∃x11:Int,zq .and .u8 x10 1=some (.int .u8 x11)/\∃x12:Int,zq .shl .i64 (zG (x11)) (zT .u64 (y9))=some (x12:V)/\∃x13:Int,zq .or .i64 y5 x12=some (x13:V)/\E [(9,(zG (y9+1))),(5,x13)] .normal h7)/\(¬((zG (x2+y9))<(zG (8*(Int.ofNat (List.length l5)))))->E [(9,(zG (y9+1)))] .normal h4))/\(¬(y9<y8)->E [] (.exit 0) h))):=λ_=>by kernel_rfl
theorem zUf:Vy (zRC false) 40 zQi zPZ [(5,y5)] d h Q (λE _ _ _ _=>(E [(4,y5)] .ret h)):=λ_=>by kernel_rfl
theorem z32{a0_1:Int}{a0_0:List UInt8}{Q:V->H->Prop}:zRC false zKS ⟨40,zC [(.agg [a0_0,a0_1]),a1] 0 (Tb.leaf zB),[],h⟩ (endW zA ⟨40,[.tmp 4],zKS⟩ Q)=((h.nx<T.top/\∀p0 h1,p0=h.nx->h1=h.new (.cells (.ls [a0_0,a0_1]) ⟨0,113,0⟩ true false)->Lz zQi 40 [(4,(0:Int)),(9,(0:Int)),(8,a1),(2,(.ptr p0 0)),(5,(0:Int))] zNt h1 (Kx (zRC false) zPZ 0 (endW zA ⟨40,[.tmp 4],zKS⟩ Q)))):=by kernel_rfl
noncomputable def Km:Code:=zE Tryz.f323
def zNz:Code:=zi Km [1,1,1,0,1,0,0]
def zHV:Code:=zi Km [1,1,1,1,1,1,0,0,1,1,0,0,1,1,0,0,1,1,0,0,1,1,0,0]
def zP7:Code:=zi Km [1,1,1,1,1,1,0,0,1,1,0,0,1,1,0,0,1,1,1]
def zOA:Code:=zi Km [1,1,1,1,1,1,0,0,1,1,0,0,1,1,0,0]
def zP8:Code:=zi Km [1,1,1,1,1,1,0,0,1,1,1]
def zOB:Code:=zi Km [1,1,1,1,1,1,0,0]
def zP9:Code:=zi Km [1,1,1,1]
theorem z16:(zA.fn.get 323).map zI=some ⟨75,[],Km⟩:=by kernel_rfl
def zBJ:List Nat:=[20,19,18,4,5,0,8,1,3,47,46,9,40,39,38]
abbrev OZ(b:Bool):Code->St->(AX->St->Prop)->Prop:=wpS Tryz.prog zA zBJ 4 b
theorem zT4{y20 y19:Int}{y18 y0:V}:Vy (OZ false) 75 zBJ zNz [(20,y20),(19,y19),(18,y18),(4,y4),(5,y5),(0,y0)] d h Q (λE _ _ _ _=>((y20<y19->∃p0 o1,z8 zA 23 y18 y20=some (.ptr p0 o1)/\∃x2:Int,zK zA 3 h (.ptr p0 o1)=some (x2:V)/\(x2=(-1)->∃h3,Kj zA 377 h y4 y5 true=some h3/\yW zA Tryz.prog 4 h3 (λv4 h5=>zBC .not v4 λv6=>xM v6 λu=>match u with|true=>(E [] .ret h5)|false=>(E [(20,(zG (y20+1))),(5,(zG (y5-1)))] .normal h5)) [y5,y20] y0)/\(¬(x2=(-1))->E [(20,(zG (y20+1)))] .normal h))/\(¬(y20<y19)->E [] (.exit 0) h))):=λ_=>by kernel_rfl
theorem zT5{y3:Int}{y1:V}:Vy (OZ false) 75 zBJ zHV [(4,y4),(8,y8),(1,y1),(3,y3)] d h Q (λE _ _ _ _=>∃b0:Bool,ZQ zA 377 h y4 y8 false=some (.bool b0)/\(b0=true->zR zA 59 0 h y1 λv1 h2=>∃x3:Int,zK zA 3 h2 v1=some (x3:V)/\RF Tryz.prog zA 324 [x3] h2 λv4 h5=>∃x6:Int,v4=x6/\∃x7:Int,zq .and .i64 (zG (y8+x6)) (zG (y3-1))=some (x7:V)/\E [(8,x7)] .normal h5)/\(b0=false->E [] (.exit 6) h)):=λ_=>by kernel_rfl
theorem zUn{y47:Int}:Vy (OZ false) 75 zBJ zP7 [(47,y47)] d h Q (λE _ _ _ _=>(E [(47,(zG (y47+1)))] .normal h)):=λ_=>by kernel_rfl
theorem zT6{y47 y46 y9 y3:Int}{y0 y1:V}:Vy (OZ false) 75 zBJ zOA [(47,y47),(46,y46),(0,y0),(8,y8),(9,y9),(1,y1),(3,y3)] d h Q (λE _ M S _=>((y47<y46->yW zA Tryz.prog 4 h (λv0 h1=>zBC .not v0 λv2=>xM v2 λu=>match u with|true=>(E [] .ret h1)|false=>zR zA 59 0 h1 y1 λv3 h4=>∃x5:Int,zK zA 3 h4 v3=some (x5:V)/\RF Tryz.prog zA 324 [x5] h4 λv6 h7=>∃x8:Int,v6=x8/\∃x9:Int,zq .and .i64 (zG (y8+x8)) (zG (y3-1))=some (x9:V)/\M [(8,x9)] zHV h7 λe s1=>(Kx (OZ false) zP7 5 S) (ze 6 e) s1) [y8,y9] y0)/\(¬(y47<y46)->E [] (.exit 4) h))):=λ_=>by kernel_rfl
theorem zUo{y40:Int}:Vy (OZ false) 75 zBJ zP8 [(40,y40)] d h Q (λE _ _ _ _=>(E [(40,(zG (y40+1)))] .normal h)):=λ_=>by kernel_rfl
theorem zT7{y40 y39:Int}{y38:V}:Vy (OZ false) 75 zBJ zOB [(40,y40),(39,y39),(38,y38)] d h Q (λE _ M S _=>((y40<y39->∃p0 o1,z8 zA 23 y38 y40=some (.ptr p0 o1)/\∃x2:Int,zK zA 3 h (.ptr p0 o1)=some (x2:V)/\M [(47,(0:Int)),(46,(.int .i64 (max x2 0))),(9,y40)] zOA h λe s1=>(Kx (OZ false) zP8 3 S) (ze 4 e) s1)/\(¬(y40<y39)->E [] (.exit 2) h))):=λ_=>by kernel_rfl
theorem zUp{y1:V}:Vy (OZ false) 75 zBJ zP9 [(1,y1)] d h Q (λ_ _ M S _=>zR zA 59 1 h y1 λv0 h1=>∃v2,zK zA 23 h1 v0=some v2/\∃x3:Int,zp zA 23 h1 v2=some (x3:V)/\M [(8,(0:Int)),(40,(0:Int)),(39,x3),(38,v2)] zOB h1 λe s1=>S (ze 2 e) s1):=λ_=>by kernel_rfl
theorem z3f{a0 a1:V}{Q:V->H->Prop}:OZ false Km ⟨75,zC [a0,a1] 0 (Tb.leaf zB),[],h⟩ (endW zA ⟨75,[],Km⟩ Q)=(zR zA 59 0 h a1 λv0 h1=>∃x2:Int,zK zA 3 h1 v0=some (x2:V)/\∃x3:Int,zq .shl .i64 1 x2=some (x3:V)/\∃v4 h5,zh zA ⟨none,.makeMap 377 none,0, "",#[],none⟩ (λ_=>none) h1=some (.val v4 h5)/\zR zA 59 1 h5 a1 λv6 h7=>∃v8,zK zA 23 h7 v6=some v8/\∃x9:Int,zp zA 23 h7 v8=some (x9:V)/\Lz zBJ 75 [(20,(0:Int)),(19,x9),(18,v8),(4,v4),(5,(zG (x3-1))),(0,a0),(1,a1),(3,x3)] zNz h7 (Kx (OZ false) zP9 0 (endW zA ⟨75,[],Km⟩ Q))):=by kernel_rfl
noncomputable def JT:Code:=zE Tryz.f10
def zGA:Code:=zi JT [1,0,1]
def zJO:Code:=zi JT [1,1,1,1,1,1,0,0,1]
def zJP:Code:=zi JT [1,1,1,1,1,1,1,0,1]
def z8b:Array Oper:=Yg (zi JT [1,1,1,1,1,1,1,1,0])
def z8j:Code:=zi JT [1,1,1,1,1,1,1,1,1]
def zCO:Code:=zi JT [1,1,1,1,1,1,1,1]
def zJQ:Code:=zi JT [1,1,1,1,1,1,1]
def zGB:Code:=zi JT [1,1]
theorem z6p:(zA.fn.get 10).map zI=some ⟨80,[.cell 4 23,.cell 5 3,.cell 6 26],JT⟩:=by kernel_rfl
def XY:List Nat:=[4,5,6,16,1,8,0,7,74]
abbrev XZ(b:Bool):Code->St->(AX->St->Prop)->Prop:=wpS Tryz.prog zA XY 4 b
theorem zQM{y16:Bool}{y5:V}:Vy (XZ false) 80 XY zGA [(16,y16),(4,y4),(5,y5),(6,y6)] d h Q (λE _ _ _ _=>ZT y16 λu=>match u with|true=>∃h0,zg zA 23 h y4 .nilslice=some h0/\∃h1,zg zA 3 h0 y5 (0:Int)=some h1/\∃h2,zg zA 26 h1 y6 (.agg [(2:Int),(0:Int)])=some h2/\(E [] .ret h2)|false=>(E [] .normal h)):=λ_=>by kernel_rfl
theorem zY9{y1:Int}{y0:List UInt8}{y5 y7:V}:Vy (XZ false) 80 XY zJO [(1,y1),(8,y8),(5,y5),(0,y0),(4,y4),(6,y6),(7,y7)] d h Q (λE _ _ _ _=>∃h0,zg zA 3 h y5 (zG ((zG (y1+1))+y8))=some h0/\∃x1:Int,zK zA 3 h0 y5=some (x1:V)/\∃l2:List UInt8,yB zA 9 h0 y0 (some (.int .i64 (zG (y1+1)))) (some (x1:V)) none=some (.str l2)/\RF Tryz.prog zA 40 [l2] h0 λv3 h4=>∃v5,∃x6:Int,∃x7:Int,v3=(.tuple [v5,(.agg [x6,x7])])/\∃h8,zg zA 23 h4 y4 v5=some h8/\∃h9,zg zA 26 h8 y6 (.agg [x6,x7])=some h9/\∃h10,zg zA 3 h9 y7 (zG (y1+1))=some h10/\E [] (.exit 0) h10):=λ_=>by kernel_rfl
theorem zIM{y1:Int}{y74:Bool}{y7:V}:Vy (XZ false) 80 XY zJP [(74,y74),(1,y1),(6,y6),(7,y7)] d h Q (λE _ _ _ _=>ZT y74 λu=>match u with|true=>∃h0,zg zA 26 h y6 (.agg [(21:Int),y1])=some h0/\∃h1,zg zA 3 h0 y7 (0:Int)=some h1/\(E [] .normal h1)|false=>(E [] .normal h)):=λ_=>by kernel_rfl
theorem zYa:Vy (XZ false) 80 XY zJQ [(6,y6),(4,y4)] d h Q (λ_ _ _ S tm=>zR zA 26 0 h y6 λv0 h1=>∃x2:Int,zK zA 24 h1 v0=some (x2:V)/\(x2=0->∃v3,zK zA 23 h1 y4=some v3/\RF Tryz.prog zA 41 [v3] h1 λv4 h5=>∃x6:Int,v4=x6/\(x6≠0->Gz XY tm [(74,true)] λu=>XZ false zJP ⟨80,u,d,h5⟩ (thenC (sealK XY λs1=>XZ false zCO s1 S) S))/\(¬(x6≠0)->Gz XY tm [(74,false)] λu=>XZ false zJP ⟨80,u,d,h5⟩ (thenC (sealK XY λs1=>XZ false zCO s1 S) S)))/\(¬(x2=0)->Gz XY tm [(74,false)] λu=>XZ false zJP ⟨80,u,d,h1⟩ (thenC (sealK XY λs1=>XZ false zCO s1 S) S))):=λ_=>by kernel_rfl
theorem zYb{y1:Int}{y0:List UInt8}{y5:V}:Vy (XZ false) 80 XY zGB [(1,y1),(0,y0),(4,y4),(5,y5),(6,y6)] d h Q (λE _ _ S tm=>((y1=(Int.ofNat (List.length y0))->∃h0,zg zA 23 h y4 .nilslice=some h0/\∃h1,zg zA 3 h0 y5 (0:Int)=some h1/\∃h2,zg zA 26 h1 y6 (.agg [(5:Int),y1])=some h2/\E [] .ret h2)/\(¬(y1=(Int.ofNat (List.length y0)))->V.one (0:Int)=true/\h.nx<T.top/\∀p3 h4,p3=h.nx->h4=h.new (.cells (.ls [(0:Int)]) ⟨0,4,0⟩ true false)->∃h5,zg zA 3 h4 (.ptr p3 0) (0:Int)=some h5/\false=false/\∃x6:Int,xe zA 9 y0 y1=some (.int .u8 x6)/\((127:Int)<(zG (x6))->RF Tryz.prog zA 39 [y0,y1] h5 λv7 h8=>∃v9,∃x10:Int,∃x11:Int,∃x12:Int,v7=(.tuple [v9,x10,(.agg [x11,x12])])/\∃h13,zg zA 23 h8 y4 v9=some h13/\∃h14,zg zA 3 h13 y5 x10=some h14/\∃h15,zg zA 26 h14 y6 (.agg [x11,x12])=some h15/\Gz XY tm [(8,(zG (x6))),(7,(.ptr p3 0))] λu=>Q .ret ⟨80,u,((.fn 38 [y6,y4,y5,(.ptr p3 0)] [])::d),h15⟩)/\(¬((127:Int)<(zG (x6)))->((Int.ofNat (List.length y0))<(zG ((zG (y1+1))+(zG (x6))))->∃h16,zg zA 23 h5 y4 .nilslice=some h16/\∃h17,zg zA 3 h16 y5 (0:Int)=some h17/\∃h18,zg zA 26 h17 y6 (.agg [(5:Int),(.int .i64 (Int.ofNat (List.length y0)))])=some h18/\Gz XY tm [(8,(zG (x6))),(7,(.ptr p3 0))] λu=>Q .ret ⟨80,u,((.fn 38 [y6,y4,y5,(.ptr p3 0)] [])::d),h18⟩)/\(¬((Int.ofNat (List.length y0))<(zG ((zG (y1+1))+(zG (x6)))))->((zG (x6))=0->Gz XY tm [(8,(zG (x6))),(7,(.ptr p3 0))] λu=>XZ false zJO ⟨80,u,((.fn 38 [y6,y4,y5,(.ptr p3 0)] [])::d),h5⟩ λe s1=>(thenC (sealK XY λs1=>XZ false zJQ s1 S) S) (ze 0 e) s1)/\(¬((zG (x6))=0)->Gz XY tm [(8,(zG (x6))),(7,(.ptr p3 0))] λu=>XZ false zJO ⟨80,u,((.fn 38 [y6,y4,y5,(.ptr p3 0)] [])::d),h5⟩ λe s1=>(thenC (sealK XY λs1=>XZ false zJQ s1 S) S) (ze 0 e) s1)))))):=λ_=>by kernel_rfl
theorem z79{Q:V->H->Prop}:XZ false JT ⟨80,zC [a0,a1] 0 (Tb.leaf zB),[],h⟩ (endW1 Tryz.prog zA ⟨80,[.cell 4 23,.cell 5 3,.cell 6 26],JT⟩ Q)=((V.one .nilslice=true/\h.nx<T.top/\∀p0 h1,p0=h.nx->h1=h.new (.cells (.ls [.nilslice]) ⟨0,24,0⟩ true false)->V.one (0:Int)=true/\h1.nx<T.top/\∀p2 h3,p2=h1.nx->h3=h1.new (.cells (.ls [(0:Int)]) ⟨0,4,0⟩ true false)->h3.nx<T.top/\∀p4 h5,p4=h3.nx->h5=h3.new (.cells (.ls [(0:Int),(0:Int)]) ⟨0,27,0⟩ true false)->(a1<0->Gz XY (Tb.leaf zB) [(4,(.ptr p0 0)),(5,(.ptr p2 0)),(6,(.ptr p4 0)),(16,true),(1,a1),(0,a0)] λu=>XZ false zGA ⟨80,u,[],h5⟩ (thenC (sealK XY λs1=>XZ false zGB s1 (endW1 Tryz.prog zA ⟨80,[.cell 4 23,.cell 5 3,.cell 6 26],JT⟩ Q)) (endW1 Tryz.prog zA ⟨80,[.cell 4 23,.cell 5 3,.cell 6 26],JT⟩ Q)))/\(¬(a1<0)->((Int.ofNat (List.length a0))<a1->Gz XY (Tb.leaf zB) [(4,(.ptr p0 0)),(5,(.ptr p2 0)),(6,(.ptr p4 0)),(16,true),(1,a1),(0,a0)] λu=>XZ false zGA ⟨80,u,[],h5⟩ (thenC (sealK XY λs1=>XZ false zGB s1 (endW1 Tryz.prog zA ⟨80,[.cell 4 23,.cell 5 3,.cell 6 26],JT⟩ Q)) (endW1 Tryz.prog zA ⟨80,[.cell 4 23,.cell 5 3,.cell 6 26],JT⟩ Q)))/\(¬((Int.ofNat (List.length a0))<a1)->Gz XY (Tb.leaf zB) [(4,(.ptr p0 0)),(5,(.ptr p2 0)),(6,(.ptr p4 0)),(16,false),(1,a1),(0,a0)] λu=>XZ false zGA ⟨80,u,[],h5⟩ (thenC (sealK XY λs1=>XZ false zGB s1 (endW1 Tryz.prog zA ⟨80,[.cell 4 23,.cell 5 3,.cell 6 26],JT⟩ Q)) (endW1 Tryz.prog zA ⟨80,[.cell 4 23,.cell 5 3,.cell 6 26],JT⟩ Q)))))):=by kernel_rfl
noncomputable def b81:Code:=zE Tryz.f81
def zV2:Code:=zi b81 [1,1,1,1,0,1,0,0]
def zOE:Code:=zi b81 [1,1,1,1,1,1,0,1,0,0]
def zVi:Code:=zi b81 [1,1,1,1,1,1,1]
def zVj:Code:=zi b81 [1,1,1,1,1]
theorem z7O:(zA.fn.get 81).map zI=some ⟨105,[.tmp 4,.tmp 5],b81⟩:=by kernel_rfl
def L81:List Nat:=[4,5,26,6,2,8,13,12]
abbrev W81(b:Bool):Code->St->(AX->St->Prop)->Prop:=wpS Tryz.prog zA L81 4 b
theorem zY6{y26:Int}{y2 y8:V}:Vy (W81 false) 105 L81 zV2 [(26,y26),(6,y6),(2,y2),(8,y8)] d h Q (λE _ _ _ _=>((y26<2->zR zA 59 0 h y2 λv0 h1=>∃x2:Int,zK zA 3 h1 v0=some (x2:V)/\RF Tryz.prog zA 141 [y6,x2] h1 λv3 h4=>∃x5:Int,∃b6:Bool,v3=(.tuple [x5,b6])/\(b6=true->∃p7 o8,z8 zA 126 y8 y26=some (.ptr p7 o8)/\∃h9,zg zA 3 h4 (.ptr p7 o8) x5=some h9/\E [(26,(zG (y26+1)))] .normal h9)/\(b6=false->E [(4,.nilslice),(5,(21:Int))] .ret h4))/\(¬(y26<2)->E [] (.exit 0) h))):=λ_=>by kernel_rfl
theorem zY7{y13:Int}{y8 y12:V}:Vy (W81 false) 105 L81 zOE [(6,y6),(13,y13),(8,y8),(12,y12)] d h Q (λE _ _ _ _=>((h.nx<=T.top/\h.low<=T.top)/\∃v0 h1,zh zA ⟨none,.nilCheck (t 0),0, "",#[],none⟩ (λ_=>some y6) (zM h)=some (.val v0 h1)/\(h.nx<=h1.low/\h1.nx<=T.top)/\∀h2,h2=yL h h1->zR zA 195 1 h2 v0 λv3 h4=>∃v5,zK zA 123 h4 v3=some v5/\(2:Int)≠0/\∃p6 o7,z8 zA 126 y8 (.int .i64 (Int.tmod y13 2))=some (.ptr p6 o7)/\∃x8:Int,zK zA 3 h4 (.ptr p6 o7)=some (x8:V)/\∃p9 o10,z8 zA 123 v5 x8=some (.ptr p9 o10)/\∃x11:Int,∃x12:Int,∃x13:Int,zK zA 131 h4 (.ptr p9 o10)=some (.agg [x11,x12,x13])/\h4.nx<T.top/\∀p14 h15,p14=h4.nx->h15=h4.new (.cells (.ls [(0:Int),(0:Int),(0:Int)]) ⟨0,132,0⟩ true false)->∃h16,zg zA 131 h15 (.ptr p14 0) (.agg [x11,x12,x13])=some h16/\∃x17:Int,zK zA 3 h16 (.ptr p14 (0+0))=some (x17:V)/\∃v18 h19,zF zA 23 1 [(0,x17)] h16=some (v18,h19)/\True/\∃v20 h21,zc zA 23 h19 y12 v18=some (v20,h21)/\∃x22:Int,zK zA 3 h21 (.ptr p14 (0+1))=some (x22:V)/\RF Tryz.prog zA 141 [y6,x22] h21 λv23 h24=>∃x25:Int,∃b26:Bool,v23=(.tuple [x25,b26])/\(b26=true->(2:Int)≠0/\∃x27:Int,zK zA 3 h24 (.ptr p14 (0+2))=some (x27:V)/\∃p28 o29,z8 zA 126 y8 (.int .i64 (Int.tmod y13 2))=some (.ptr p28 o29)/\∃h30,zg zA 3 h24 (.ptr p28 o29) (zG (x27+x25))=some h30/\∃x31:Int,zp zA 23 h30 v20=some (x31:V)/\((255:Int)<x31->E [(12,v20)] (.exit 2) h30)/\(¬((255:Int)<x31)->E [(13,(zG (y13+1))),(12,v20)] .normal h30))/\(b26=false->(h24.nx<=T.top/\h24.low<=T.top)/\∃v32 h33,zh zA ⟨none,.nilCheck (t 0),0, "",#[],none⟩ (λ_=>some y6) (zM h24)=some (.val v32 h33)/\(h24.nx<=h33.low/\h33.nx<=T.top)/\∀h34,h34=yL h24 h33->zR zA 195 1 h34 v32 λv35 h36=>∃v37,zK zA 123 h36 v35=some v37/\(2:Int)≠0/\∃p38 o39,z8 zA 126 y8 (zG (1-(Int.tmod y13 2)))=some (.ptr p38 o39)/\∃x40:Int,zK zA 3 h36 (.ptr p38 o39)=some (x40:V)/\∃p41 o42,z8 zA 123 v37 x40=some (.ptr p41 o42)/\∃x43:Int,zK zA 3 h36 (.ptr p41 (o42+0))=some (x43:V)/\∃v44 h45,zF zA 23 1 [(0,x43)] h36=some (v44,h45)/\True/\∃v46 h47,zc zA 23 h45 v20 v44=some (v46,h47)/\E [(12,v46)] (.exit 2) h47))):=λ_=>by kernel_rfl
theorem zYq{y12:V}:Vy (W81 false) 105 L81 zVi [(12,y12),(6,y6)] d h Q (λE _ _ _ _=>∃x0:Int,zp zA 23 h y12=some (x0:V)/\((255:Int)<x0->E [(4,.nilslice),(5,(21:Int))] .ret h)/\(¬((255:Int)<x0)->∃v1 h2,zh zA ⟨none,.nilCheck (t 0),0, "",#[],none⟩ (λ_=>some y6) h=some (.val v1 h2)/\zR zA 195 0 h2 v1 λv3 h4=>zR zA 120 1 h4 v3 λv5 h6=>∃x7:Int,zK zA 3 h6 v5=some (x7:V)/\((0:Int)<x7->E [(4,.nilslice),(5,(21:Int))] .ret h6)/\(¬((0:Int)<x7)->E [(4,y12),(5,(0:Int))] .ret h6))):=λ_=>by kernel_rfl
theorem zYr :Vy (W81 false) 105 L81 zVj [] d h Q (λ_ _ M S _=>(M [(13,(0:Int)),(12,.nilslice)] zOE h (Kx (W81 false) zVi 2 S))):=λ_=>by kernel_rfl
theorem z7x{a0_0:Int}{a1:List UInt8}{a0_1:V}{Q:V->H->Prop}:W81 false b81 ⟨105,zC [(.agg [a0_0,a0_1]),a1] 0 (Tb.leaf zB),[],h⟩ (endW zA ⟨105,[.tmp 4,.tmp 5],b81⟩ Q)=(ws (cond (zL (V.cells (.agg [a0_0,a0_1]))) (Cs.ofL (V.cells (.agg [a0_0,a0_1]))) none) λcs2=>h.nx<T.top/\∀p0 h1,p0=h.nx->h1=h.new (.cells cs2 ⟨0,60,0⟩ true false)->∃x3:Int,∃v4,zK zA 59 h1 (.ptr p0 0)=some (.agg [x3,v4])/\RF Tryz.prog zA 140 [(.agg [x3,v4]),a1] h1 λv5 h6=>∃v7,∃x8:Int,v5=(.tuple [v7,x8])/\(x8≠0->Q (.tuple [.nilslice,x8]) h6)/\(¬(x8≠0)->h6.nx<T.top/\∀p9 h10,p9=h6.nx->h10=h6.new (.cells (.ls [(0:Int),(0:Int)]) ⟨0,127,0⟩ true false)->Lz L81 105 [(4,.nilslice),(5,(0:Int)),(26,(0:Int)),(6,v7),(2,(.ptr p0 0)),(8,(.ptr p9 0))] zV2 h10 (Kx (W81 false) zVj 0 (endW zA ⟨105,[.tmp 4,.tmp 5],b81⟩ Q)))):=by kernel_rfl
noncomputable def zE5:Code:=zE Tryz.f142
def zOq:Code:=zi zE5 [1,0,1,0,0,1,1,0,0,1,1]
def zOr:Code:=zi zE5 [1,0,1,0,0,1,1,1]
def zN3:Code:=zi zE5 [1,0,1,0,0]
def zOs:Code:=zi zE5 [1,1]
theorem z0M:(zA.fn.get 142).map zI=some ⟨24,[.tmp 2,.tmp 3],zE5⟩:=by kernel_rfl
def zGi:List Nat:=[2,3,5,8,7,6]
abbrev zEO(b:Bool):Code->St->(AX->St->Prop)->Prop:=wpS Tryz.prog zA zGi 4 b
theorem zTl{y2:Int}:Vy (zEO false) 24 zGi zOq [(5,y5),(2,y2)] d h Q (λE _ _ _ _=>((y5≠0->E [(2,(zG (y2+1)))] .normal h)/\(¬(y5≠0)->E [] .normal h))):=λ_=>by kernel_rfl
theorem zJd:Vy (zEO false) 24 zGi zOr [(8,y8)] d h Q (λE _ _ _ _=>(E [(8,(zG (y8+1)))] .normal h)):=λ_=>by kernel_rfl
theorem zTA{y7:Int}:Vy (zEO false) 24 zGi zN3 [(8,y8),(7,y7),(6,y6)] d h Q (λE _ _ S tm=>((y8<y7->∃p0 o1,z8 zA 23 y6 y8=some (.ptr p0 o1)/\∃x2:Int,zK zA 3 h (.ptr p0 o1)=some (x2:V)/\(x2<0->E [(2,(0:Int)),(3,false),(5,x2)] .ret h)/\(¬(x2<0)->((11:Int)<x2->E [(2,(0:Int)),(3,false),(5,x2)] .ret h)/\(¬((11:Int)<x2)->Gz zGi tm [(5,x2)] λu=>zEO false zOq ⟨24,u,d,h⟩ (Kx (zEO false) zOr 1 S))))/\(¬(y8<y7)->E [] (.exit 0) h))):=λ_=>by kernel_rfl
theorem zTm{y2:Int}:Vy (zEO false) 24 zGi zOs [(2,y2)] d h Q (λE _ _ _ _=>(E [(3,true)] .ret h)):=λ_=>by kernel_rfl
theorem z2V{a0:V}{Q:V->H->Prop}:zEO false zE5 ⟨24,zC [a0] 0 (Tb.leaf zB),[],h⟩ (endW zA ⟨24,[.tmp 2,.tmp 3],zE5⟩ Q)=(∃x0:Int,zp zA 23 h a0=some (x0:V)/\Lz zGi 24 [(2,(0:Int)),(3,false),(8,(0:Int)),(7,x0),(6,a0)] zN3 h (Kx (zEO false) zOs 0 (endW zA ⟨24,[.tmp 2,.tmp 3],zE5⟩ Q))):=by kernel_rfl
noncomputable def zWr:Code:=zE Tryz.f209
theorem z03:(zA.fn.get 209).map zI=some ⟨14,[.tmp 2,.tmp 3],zWr⟩:=by kernel_rfl
def z4f:List Nat:=[2,3]
abbrev z5h(b:Bool):Code->St->(AX->St->Prop)->Prop:=wpS Tryz.prog zA z4f 4 b
theorem z2d{a0:Int}{Q:V->H->Prop}:z5h false zWr ⟨14,zC [a0] 0 (Tb.leaf zB),[],h⟩ (endW zA ⟨14,[.tmp 2,.tmp 3],zWr⟩ Q)=(RF Tryz.prog zA 145 [(zG (a0+1))] h λv0 h1=>∃x2:Int,v0=x2/\(h1.nx<=T.top/\h1.low<=T.top)/\∃x3:Int,zq .shl .i64 1 x2=some (x3:V)/\Q (.tuple [x2,(zG ((zG (x3-1))-(zG (a0+1))))]) h1):=by kernel_rfl
noncomputable def zWt:Code:=zE Tryz.f213
theorem z05:(zA.fn.get 213).map zI=some ⟨18,[.cell 2 120,.tmp 3],zWt⟩:=by kernel_rfl
def z4h:List Nat:=[2,3]
abbrev z5j(b:Bool):Code->St->(AX->St->Prop)->Prop:=wpS Tryz.prog zA z4h 4 b
theorem z2f{Q:V->H->Prop}:z5j false zWt ⟨18,zC [a0] 0 (Tb.leaf zB),[],h⟩ (endW zA ⟨18,[.cell 2 120,.tmp 3],zWt⟩ Q)=((h.nx<T.top/\∀p0 h1,p0=h.nx->h1=h.new (.cells (.ls [(.str []),(0:Int)]) ⟨0,121,0⟩ true false)->RF Tryz.prog zA 273 [a0] h1 λv2 h3=>∃x4:Int,∃x5:Int,v2=(.tuple [x4,x5])/\(x5≠0->∃h6,zg zA 120 h3 (.ptr p0 0) (.agg [(.str []),(0:Int)])=some h6/\endL zA h6 [(.cell 2 120,(.ptr p0 0)),(.tmp 3,x5)] Q)/\(¬(x5≠0)->∃h7,zg zA 120 h3 (.ptr p0 0) (.agg [a0,x4])=some h7/\endL zA h7 [(.cell 2 120,(.ptr p0 0)),(.tmp 3,(0:Int))] Q))):=by kernel_rfl
noncomputable def zXE:Code:=zE Tryz.f250
theorem z0p:(zA.fn.get 250).map zI=some ⟨7,[.tmp 4],zXE⟩:=by kernel_rfl
def z4s:List Nat:=[4]
abbrev z5u(b:Bool):Code->St->(AX->St->Prop)->Prop:=wpS Tryz.prog zA z4s 4 b
theorem z2y{a0:Bool}{Q:V->H->Prop}:z5u false zXE ⟨7,zC [a0,a1] 0 (Tb.leaf zB),[],h⟩ (endW zA ⟨7,[.tmp 4],zXE⟩ Q)=(ZT a0 λu=>match u with|true=>Q a1 h|false=>Q (0:Int) h):=by kernel_rfl
noncomputable def zBS:Code:=zE Tryz.f273
def z6i:Array Oper:=Yg (zi zBS [1,1,0,0])
def zPS:Code:=zi zBS [1,1,0,1]
def zHl:Code:=zi zBS [1,1,1]
theorem z1A:(zA.fn.get 273).map zI=some ⟨22,[.tmp 2,.tmp 3],zBS⟩:=by kernel_rfl
def zWJ:List Nat:=[2,3,5,4]
abbrev zJx(b:Bool):Code->St->(AX->St->Prop)->Prop:=wpS Tryz.prog zA zWJ 4 b
theorem zUZ:Vy (zJx false) 22 zWJ zPS [(5,y5)] d h Q (λE _ _ _ _=>((y5≠0->E [(2,(0:Int)),(3,y5)] .ret h)/\(¬(y5≠0)->E [] .normal h))):=λ_=>by kernel_rfl
theorem zU0:Vy (zJx false) 22 zWJ zHl [(4,y4)] d h Q (λE _ _ _ _=>∃l0:List UInt8,zK zA 298 h y4=some (.agg [l0])/\RF Tryz.prog zA 306 [(.agg [l0])] h λv1 h2=>∃x3:Int,v1=x3/\E [(2,x3),(3,(0:Int))] .ret h2):=λ_=>by kernel_rfl
theorem z3J{Q:V->H->Prop}:zJx false zBS ⟨22,zC [a0] 0 (Tb.leaf zB),[],h⟩ (endW zA ⟨22,[.tmp 2,.tmp 3],zBS⟩ Q)=((h.nx<T.top/\∀p0 h1,p0=h.nx->h1=h.new (.cells (.ls [(.str [])]) ⟨0,299,0⟩ true false)->∃h2,zg zA 298 h1 (.ptr p0 0) (.agg [a0])=some h2/\wpDr Tryz.prog zA false z6i.toList ⟨22,(Tb.set (Tb.set (Tb.set (Tb.set (Tb.set (Tb.set (Tb.leaf zB) 0 a0) 2 (0:Int)) 3 (0:Int)) 6 a0) 7 (.agg [a0])) 4 (.ptr p0 0)),[],h2⟩ (thenC (λs1=>zJx false zPS s1 (thenC (λs1=>zJx false zHl s1 (endW zA ⟨22,[.tmp 2,.tmp 3],zBS⟩ Q)) (endW zA ⟨22,[.tmp 2,.tmp 3],zBS⟩ Q))) (thenC (λs1=>zJx false zHl s1 (endW zA ⟨22,[.tmp 2,.tmp 3],zBS⟩ Q)) (endW zA ⟨22,[.tmp 2,.tmp 3],zBS⟩ Q))))):=by kernel_rfl
noncomputable def zXJ:Code:=zE Tryz.f277
theorem z1E:(zA.fn.get 277).map zI=some ⟨6,[.tmp 2],zXJ⟩:=by kernel_rfl
def z4x:List Nat:=[2]
abbrev z5z(b:Bool):Code->St->(AX->St->Prop)->Prop:=wpS Tryz.prog zA z4x 4 b
theorem z3N{a0:Int}{Q:V->H->Prop}:z5z false zXJ ⟨6,zC [a0] 0 (Tb.leaf zB),[],h⟩ (endW zA ⟨6,[.tmp 2],zXJ⟩ Q)=(((a0<0->Q (1:Int) h)/\(¬(a0<0)->Q a0 h))):=by kernel_rfl
noncomputable def zM5:Code:=zE Tryz.f306
def zP0:Code:=zi zM5 [1,1]
theorem z1V:(zA.fn.get 306).map zI=some ⟨31,[.tmp 2],zM5⟩:=by kernel_rfl
def zWO:List Nat:=[2,1]
abbrev zWV(b:Bool):Code->St->(AX->St->Prop)->Prop:=wpS Tryz.prog zA zWO 4 b
theorem zUg{y1:V}:Vy (zWV false) 31 zWO zP0 [(1,y1)] d h Q (λE _ _ _ _=>((h.nx<=T.top/\h.low<=T.top)/\zR zA 298 0 h y1 λv0 h1=>∃l2:List UInt8,zK zA 9 h1 v0=some (.str l2)/\zR zA 298 0 h1 y1 λv3 h4=>∃l5:List UInt8,zK zA 9 h4 v3=some (.str l5)/\zR zA 298 0 h4 y1 λv6 h7=>∃l8:List UInt8,zK zA 9 h7 v6=some (.str l8)/\∃x9:Int,xe zA 9 l5 (zG ((Int.ofNat (List.length l8))-1))=some (.int .u8 x9)/\RF Tryz.prog zA 322 [(.int .u8 x9)] (zM h7) λv10 h11=>∃x12:Int,v10=x12/\(h7.nx<=h11.low/\h11.nx<=T.top)/\∀h13,h13=yL h7 h11->E [(2,(zG ((zG ((zG (8*(zG ((Int.ofNat (List.length l2))-1))))+x12))-1)))] .ret h13)):=λ_=>by kernel_rfl
theorem z34{a0_0:List UInt8}{Q:V->H->Prop}:zWV false zM5 ⟨31,zC [(.agg [a0_0])] 0 (Tb.leaf zB),[],h⟩ (endW zA ⟨31,[.tmp 2],zM5⟩ Q)=((h.nx<T.top/\∀p0 h1,p0=h.nx->h1=h.new (.cells (.ls [a0_0]) ⟨0,299,0⟩ true false)->∃l2:List UInt8,zK zA 9 h1 (.ptr p0 (0+0))=some (.str l2)/\(l2=[]->Q (.int .i64 ((-1))) h1)/\(¬(l2=[])->∃l3:List UInt8,zK zA 9 h1 (.ptr p0 (0+0))=some (.str l3)/\∃l4:List UInt8,zK zA 9 h1 (.ptr p0 (0+0))=some (.str l4)/\∃x5:Int,xe zA 9 l3 (zG ((Int.ofNat (List.length l4))-1))=some (.int .u8 x5)/\(x5=0->Q (.int .i64 ((-1))) h1)/\(¬(x5=0)->Gz zWO (Tb.leaf zB) [(2,(0:Int)),(1,(.ptr p0 0))] λu=>zWV false zP0 ⟨31,u,[],h1⟩ (endW zA ⟨31,[.tmp 2],zM5⟩ Q))))):=by kernel_rfl
noncomputable def zXW:Code:=zE Tryz.f325
theorem z18:(zA.fn.get 325).map zI=some ⟨16,[.tmp 4],zXW⟩:=by kernel_rfl
def z5K:List Nat:=[4]
abbrev z6M(b:Bool):Code->St->(AX->St->Prop)->Prop:=wpS Tryz.prog zA z5K 4 b
theorem z3h{a0_0:List UInt8}{Q:V->H->Prop}:z6M false zXW ⟨16,zC [(.agg [a0_0]),a1] 0 (Tb.leaf zB),[],h⟩ (endW zA ⟨16,[.tmp 4],zXW⟩ Q)=((h.nx<T.top/\∀p0 h1,p0=h.nx->h1=h.new (.cells (.ls [a0_0]) ⟨0,299,0⟩ true false)->∃l2:List UInt8,zK zA 9 h1 (.ptr p0 (0+0))=some (.str l2)/\(8:Int)≠0/\∃x3:Int,xe zA 9 l2 (zG (Int.tdiv a1 8))=some (.int .u8 x3)/\(8:Int)≠0/\∃x4:Int,zq .shr .u64 (zT .u64 (x3)) (zT .u64 ((Int.tmod a1 8)))=some (.int .u64 x4)/\∃x5:Int,zq .and .u64 x4 1=some (.int .u64 x5)/\Q (.int .u64 x5) h1)):=by kernel_rfl
noncomputable def zWc:Code:=zE Tryz.f139
theorem z0J:(zA.fn.get 139).map zI=some ⟨14,[.tmp 2,.tmp 3],zWc⟩:=by kernel_rfl
def z4Z:List Nat:=[2,3]
abbrev z50(b:Bool):Code->St->(AX->St->Prop)->Prop:=wpS Tryz.prog zA z4Z 4 b
theorem z2S{a0_1:Int}{a0_0:List UInt8}{Q:V->H->Prop}:z50 false zWc ⟨14,zC [(.agg [a0_0,a0_1])] 0 (Tb.leaf zB),[],h⟩ (endW zA ⟨14,[.tmp 2,.tmp 3],zWc⟩ Q)=((h.nx<T.top/\∀p0 h1,p0=h.nx->h1=h.new (.cells (.ls [a0_0,a0_1]) ⟨0,113,0⟩ true false)->∃l2:List UInt8,∃x3:Int,zK zA 112 h1 (.ptr p0 0)=some (.agg [l2,x3])/\RF Tryz.prog zA 212 [(.agg [l2,x3])] h1 λv4 h5=>∃x6:Int,v4=x6/\(x6≠0->Q (.tuple [(0:Int),x6]) h5)/\(¬(x6≠0)->∃x7:Int,zK zA 3 h5 (.ptr p0 (0+1))=some (x7:V)/\(8:Int)≠0/\Q (.tuple [(zG (Int.tdiv (zG (x7+7)) 8)),(0:Int)]) h5))):=by kernel_rfl
noncomputable def zWe:Code:=zE Tryz.f141
theorem z0L:(zA.fn.get 141).map zI=some ⟨27,[.tmp 4,.tmp 5],zWe⟩:=by kernel_rfl
def z41:List Nat:=[4,5]
abbrev z54(b:Bool):Code->St->(AX->St->Prop)->Prop:=wpS Tryz.prog zA z41 4 b
theorem z2U{a0:V}{Q:V->H->Prop}:z54 false zWe ⟨27,zC [a0,a1] 0 (Tb.leaf zB),[],h⟩ (endW zA ⟨27,[.tmp 4,.tmp 5],zWe⟩ Q)=(∃v0 h1,zh zA ⟨none,.nilCheck (t 0),0, "",#[],none⟩ (λ_=>some a0) h=some (.val v0 h1)/\zR zA 195 0 h1 v0 λv2 h3=>∃l4:List UInt8,∃x5:Int,zK zA 120 h3 v2=some (.agg [l4,x5])/\RF Tryz.prog zA 215 [(.agg [l4,x5]),a1] h3 λv6 h7=>∃l8:List UInt8,∃x9:Int,∃x10:Int,∃x11:Int,v6=(.tuple [(.agg [l8,x9]),(.int .u64 x10),x11])/\h7.nx<T.top/\∀p12 h13,p12=h7.nx->h13=h7.new (.cells (.ls [(.str []),(0:Int)]) ⟨0,121,0⟩ true false)->∃h14,zg zA 120 h13 (.ptr p12 0) (.agg [l8,x9])=some h14/\(x11≠0->Q (.tuple [(0:Int),false]) h14)/\(¬(x11≠0)->∃l15:List UInt8,∃x16:Int,zK zA 120 h14 (.ptr p12 0)=some (.agg [l15,x16])/\∃v17 h18,zh zA ⟨none,.nilCheck (t 0),0, "",#[],none⟩ (λ_=>some a0) h14=some (.val v17 h18)/\zR zA 195 0 h18 v17 λv19 h20=>∃h21,zg zA 120 h20 v19 (.agg [l15,x16])=some h21/\Q (.tuple [(zG (x10)),true]) h21)):=by kernel_rfl
noncomputable def zWg:Code:=zE Tryz.f145
theorem z0O:(zA.fn.get 145).map zI=some ⟨6,[.tmp 2],zWg⟩:=by kernel_rfl
def z43:List Nat:=[2]
abbrev z56(b:Bool):Code->St->(AX->St->Prop)->Prop:=wpS Tryz.prog zA z43 4 b
theorem z2X{a0:Int}{Q:V->H->Prop}:z56 false zWg ⟨6,zC [a0] 0 (Tb.leaf zB),[],h⟩ (endW zA ⟨6,[.tmp 2],zWg⟩ Q)=(RF Tryz.prog zA 216 [a0] h λv0 h1=>∃x2:Int,v0=x2/\Q (zG (x2+1)) h1):=by kernel_rfl
noncomputable def zKJ:Code:=zE Tryz.f216
def zNa:Code:=zi zKJ [1,1,0,1,0,0]
def zPA:Code:=zi zKJ [1,1,1]
theorem z08:(zA.fn.get 216).map zI=some ⟨15,[.tmp 2],zKJ⟩:=by kernel_rfl
def zQc:List Nat:=[2,5,0,3]
abbrev zQv(b:Bool):Code->St->(AX->St->Prop)->Prop:=wpS Tryz.prog zA zQc 4 b
theorem zTG{y0:Int}:Vy (zQv false) 15 zQc zNa [(5,y5),(0,y0)] d h Q (λE _ _ _ _=>((y5<63->∃x0:Int,zq .shr .i64 y0 y5=some (x0:V)/\((0:Int)<x0->E [(5,(zG (y5+1))),(3,y5)] .normal h)/\(¬((0:Int)<x0)->E [(5,(zG (y5+1)))] .normal h))/\(¬(y5<63)->E [] (.exit 0) h))):=λ_=>by kernel_rfl
theorem zUF{y3:Int}:Vy (zQv false) 15 zQc zPA [(3,y3)] d h Q (λE _ _ _ _=>(E [(2,y3)] .ret h)):=λ_=>by kernel_rfl
theorem z2i{a0:Int}{Q:V->H->Prop}:zQv false zKJ ⟨15,zC [a0] 0 (Tb.leaf zB),[],h⟩ (endW zA ⟨15,[.tmp 2],zKJ⟩ Q)=((Lz zQc 15 [(2,(0:Int)),(5,(0:Int)),(0,a0),(3,(.int .i64 ((-1))))] zNa h (Kx (zQv false) zPA 0 (endW zA ⟨15,[.tmp 2],zKJ⟩ Q)))):=by kernel_rfl
noncomputable def zGx:Code:=zE Tryz.f272
def zDg:Code:=zi zGx [1,1,1]
theorem z0z:(zA.fn.get 272).map zI=some ⟨39,[.cell 4 112,.tmp 5,.tmp 6],zGx⟩:=by kernel_rfl
def zME:List Nat:=[4,5,6,7,2,1]
abbrev zMG(b:Bool):Code->St->(AX->St->Prop)->Prop:=wpS Tryz.prog zA zME 4 b
theorem zJh{y7 y1:Int}{y2:V}:Vy (zMG false) 39 zME zDg [(7,y7),(4,y4),(2,y2),(1,y1)] d h Q (λE _ _ _ _=>((y7≠0->∃h0,zg zA 112 h y4 (.agg [(.str []),(0:Int)])=some h0/\E [(5,(0:Int)),(6,y7)] .ret h0)/\(¬(y7≠0)->∃l1:List UInt8,∃x2:Int,zK zA 112 h y2=some (.agg [l1,x2])/\RF Tryz.prog zA 304 [(.agg [l1,x2]),y1] h λv3 h4=>∃x5:Int,v3=x5/\zR zA 112 1 h4 y2 λv6 h7=>∃x8:Int,zK zA 3 h7 v6=some (x8:V)/\zR zA 112 1 h7 y2 λv9 h10=>∃h11,zg zA 3 h10 v9 (zG (x8+y1))=some h11/\∃l12:List UInt8,∃x13:Int,zK zA 112 h11 y2=some (.agg [l12,x13])/\∃h14,zg zA 112 h11 y4 (.agg [l12,x13])=some h14/\E [(5,x5),(6,(0:Int))] .ret h14))):=λ_=>by kernel_rfl
theorem z3I{a0_1:Int}{a0_0:List UInt8}{Q:V->H->Prop}:zMG false zGx ⟨39,zC [(.agg [a0_0,a0_1]),a1] 0 (Tb.leaf zB),[],h⟩ (endW zA ⟨39,[.cell 4 112,.tmp 5,.tmp 6],zGx⟩ Q)=((h.nx<T.top/\∀p0 h1,p0=h.nx->h1=h.new (.cells (.ls [a0_0,a0_1]) ⟨0,113,0⟩ true false)->h1.nx<T.top/\∀p2 h3,p2=h1.nx->h3=h1.new (.cells (.ls [(.str []),(0:Int)]) ⟨0,113,0⟩ true false)->∃l4:List UInt8,∃x5:Int,zK zA 112 h3 (.ptr p0 0)=some (.agg [l4,x5])/\RF Tryz.prog zA 303 [(.agg [l4,x5]),a1] h3 λv6 h7=>∃x8:Int,v6=x8/\(x8=0->∃l9:List UInt8,zK zA 9 h7 (.ptr p0 (0+0))=some (.str l9)/\∃x10:Int,zK zA 3 h7 (.ptr p0 (0+1))=some (x10:V)/\((zG ((zG (8*(Int.ofNat (List.length l9))))-x10))<a1->Gz zME (Tb.leaf zB) [(4,(.ptr p2 0)),(5,(0:Int)),(6,(0:Int)),(7,(5:Int)),(2,(.ptr p0 0)),(1,a1)] λu=>zMG false zDg ⟨39,u,[],h7⟩ (endW zA ⟨39,[.cell 4 112,.tmp 5,.tmp 6],zGx⟩ Q))/\(¬((zG ((zG (8*(Int.ofNat (List.length l9))))-x10))<a1)->Gz zME (Tb.leaf zB) [(4,(.ptr p2 0)),(5,(0:Int)),(6,(0:Int)),(7,x8),(2,(.ptr p0 0)),(1,a1)] λu=>zMG false zDg ⟨39,u,[],h7⟩ (endW zA ⟨39,[.cell 4 112,.tmp 5,.tmp 6],zGx⟩ Q)))/\(¬(x8=0)->Gz zME (Tb.leaf zB) [(4,(.ptr p2 0)),(5,(0:Int)),(6,(0:Int)),(7,x8),(2,(.ptr p0 0)),(1,a1)] λu=>zMG false zDg ⟨39,u,[],h7⟩ (endW zA ⟨39,[.cell 4 112,.tmp 5,.tmp 6],zGx⟩ Q)))):=by kernel_rfl
noncomputable def zXP:Code:=zE Tryz.f303
theorem z1S:(zA.fn.get 303).map zI=some ⟨19,[.tmp 4],zXP⟩:=by kernel_rfl
def z5D:List Nat:=[4]
abbrev z6F(b:Bool):Code->St->(AX->St->Prop)->Prop:=wpS Tryz.prog zA z5D 4 b
theorem z31{a0_1:Int}{a0_0:List UInt8}{Q:V->H->Prop}:z6F false zXP ⟨19,zC [(.agg [a0_0,a0_1]),a1] 0 (Tb.leaf zB),[],h⟩ (endW zA ⟨19,[.tmp 4],zXP⟩ Q)=((h.nx<T.top/\∀p0 h1,p0=h.nx->h1=h.new (.cells (.ls [a0_0,a0_1]) ⟨0,113,0⟩ true false)->∃l2:List UInt8,∃x3:Int,zK zA 112 h1 (.ptr p0 0)=some (.agg [l2,x3])/\RF Tryz.prog zA 212 [(.agg [l2,x3])] h1 λv4 h5=>∃x6:Int,v4=x6/\(x6=0->(a1<0->Q (2:Int) h5)/\(¬(a1<0)->((32:Int)<a1->Q (2:Int) h5)/\(¬((32:Int)<a1)->Q x6 h5)))/\(¬(x6=0)->Q x6 h5))):=by kernel_rfl
noncomputable def zXQ:Code:=zE Tryz.f305
theorem z1U:(zA.fn.get 305).map zI=some ⟨7,[.tmp 2],zXQ⟩:=by kernel_rfl
def z5E:List Nat:=[2]
abbrev z6G(b:Bool):Code->St->(AX->St->Prop)->Prop:=wpS Tryz.prog zA z5E 4 b
theorem z33{a0_0:List UInt8}{Q:V->H->Prop}:z6G false zXQ ⟨7,zC [(.agg [a0_0])] 0 (Tb.leaf zB),[],h⟩ (endW zA ⟨7,[.tmp 2],zXQ⟩ Q)=((h.nx<T.top/\∀p0 h1,p0=h.nx->h1=h.new (.cells (.ls [a0_0]) ⟨0,299,0⟩ true false)->∃l2:List UInt8,zK zA 9 h1 (.ptr p0 (0+0))=some (.str l2)/\((1048576:Int)<(Int.ofNat (List.length l2))->Q true h1)/\(¬((1048576:Int)<(Int.ofNat (List.length l2)))->Q false h1))):=by kernel_rfl
noncomputable def zKT:Code:=zE Tryz.f309
def zNu:Code:=zi zKT [1,1,0,1,0,0]
def zP2:Code:=zi zKT [1,1,1]
theorem z1Y:(zA.fn.get 309).map zI=some ⟨33,[.tmp 4],zKT⟩:=by kernel_rfl
def zQj:List Nat:=[4,9,8,5,0]
abbrev zRD(b:Bool):Code->St->(AX->St->Prop)->Prop:=wpS Tryz.prog zA zQj 4 b
theorem zTZ{y9:Int}{y0:V}:Vy (zRD false) 33 zQj zNu [(9,y9),(8,y8),(5,(.int .u64 y5)),(0,y0)] d h Q (λE _ _ _ _=>((y9<y8->∃x0:Int,zq .shl .u64 y5 1=some (.int .u64 x0)/\∃v1 h2,zh zA ⟨none,.nilCheck (t 0),0, "",#[],none⟩ (λ_=>some y0) h=some (.val v1 h2)/\zR zA 360 1 h2 v1 λv3 h4=>∃x5:Int,zK zA 3 h4 v3=some (x5:V)/\((0:Int)<=(zG ((zG (x5-1))-y9))->∃v6 h7,zh zA ⟨none,.nilCheck (t 0),0, "",#[],none⟩ (λ_=>some y0) h4=some (.val v6 h7)/\zR zA 360 0 h7 v6 λv8 h9=>∃l10:List UInt8,zK zA 298 h9 v8=some (.agg [l10])/\RF Tryz.prog zA 325 [(.agg [l10]),(zG ((zG (x5-1))-y9))] h9 λv11 h12=>∃x13:Int,v11=(.int .u64 x13)/\∃x14:Int,zq .or .u64 x0 x13=some (.int .u64 x14)/\E [(9,(zG (y9+1))),(5,(.int .u64 x14))] .normal h12)/\(¬((0:Int)<=(zG ((zG (x5-1))-y9)))->E [(9,(zG (y9+1))),(5,(.int .u64 x0))] .normal h4))/\(¬(y9<y8)->E [] (.exit 0) h))):=λ_=>by kernel_rfl
theorem zUi:Vy (zRD false) 33 zQj zP2 [(5,(.int .u64 y5))] d h Q (λE _ _ _ _=>(E [(4,(.int .u64 y5))] .ret h)):=λ_=>by kernel_rfl
theorem z37{a0:V}{Q:V->H->Prop}:zRD false zKT ⟨33,zC [a0,a1] 0 (Tb.leaf zB),[],h⟩ (endW zA ⟨33,[.tmp 4],zKT⟩ Q)=((Lz zQj 33 [(4,(.int .u64 0)),(9,(0:Int)),(8,a1),(5,(.int .u64 0)),(0,a0)] zNu h (Kx (zRD false) zP2 0 (endW zA ⟨33,[.tmp 4],zKT⟩ Q)))):=by kernel_rfl
end Go.Proofs.YtnpeieeomokomaaGreat
