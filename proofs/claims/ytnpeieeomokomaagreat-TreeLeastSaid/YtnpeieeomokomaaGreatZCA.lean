/- CA. No condition. -/
import Derived.Test.YtnpeieeomokomaaGreatZCtx
import Derived.Test.YtnpeieeomokomaaGreatZCT
import Derived.Test.YtnpeieeomokomaaGreatZS
import Derived.Test.YtnpeieeomokomaaGreatZW
noncomputable section
namespace Go.Proofs.YtnpeieeomokomaaGreat
open Go.Sim
noncomputable def b41:Code:=zE Tryz.f41
theorem z6T:(zA.fn.get 41).map zI=some ⟨13,[.tmp 2],b41⟩:=by kernel_rfl
def L41:List Nat:=[2]
abbrev W41 (b:Bool):Code->St->(AX->St->Prop)->Prop:=wpS Tryz.prog zA L41 4 b
variable {tm:Tm}{d:List AD}{h:H}{Q:AX->St->Prop}
theorem z7D  {a0:V}{Q:V->H->Prop}:W41 false b41 ⟨13,zC [a0] 0 (Tb.leaf zB),[],h⟩ (endW zA ⟨13,[.tmp 2],b41⟩ Q)=(RF Tryz.prog zA 82 [a0] h λv0 h1=>∃x2:Int,∃x3:Int,∃x4:Int,v0=(.tuple [x2,x3,x4])/\Q x4 h1):=by kernel_rfl
noncomputable def b78:Code:=zE Tryz.f78
theorem z62:(zA.fn.get 78).map zI=some ⟨21,[.tmp 2],b78⟩:=by kernel_rfl
def L78:List Nat:=[2]
abbrev W78 (b:Bool):Code->St->(AX->St->Prop)->Prop:=wpS Tryz.prog zA L78 4 b
theorem z7M  {a0:V}{Q:V->H->Prop}:W78 false b78 ⟨21,zC [a0] 0 (Tb.leaf zB),[],h⟩ (endW zA ⟨21,[.tmp 2],b78⟩ Q)=(∃v0 h1,zh zA ⟨none,.nilCheck (t 0),0, "",#[],none⟩ (λ_=>some a0) h=some (.val v0 h1)/\zS zA 103 1 h1 v0 λv2 h3=>∃x4:Int,zK zA 3 h3 v2=some (x4:V)/\∃v5 h6,zh zA ⟨none,.nilCheck (t 0),0, "",#[],none⟩ (λ_=>some a0) h3=some (.val v5 h6)/\zS zA 103 1 h6 v5 λv7 h8=>∃h9,zf zA 3 h8 v7 (zH (x4+1))=some h9/\(h9.nx<=T.top/\h9.low<=T.top)/\∃v10 h11,zh zA ⟨none,.nilCheck (t 0),0, "",#[],none⟩ (λ_=>some a0) (zM h9)=some (.val v10 h11)/\(h9.nx<=h11.low/\h11.nx<=T.top)/\∀h12,h12=yG h9 h11->zS zA 103 0 h12 v10 λv13 h14=>∃l15:List UInt8,zK zA 9 h14 v13=some (.str l15)/\∃v16 h17,zh zA ⟨none,.nilCheck (t 0),0, "",#[],none⟩ (λ_=>some a0) (zM h14)=some (.val v16 h17)/\(h14.nx<=h17.low/\h17.nx<=T.top)/\∀h18,h18=yG h14 h17->zS zA 103 1 h18 v16 λv19 h20=>∃x21:Int,zK zA 3 h20 v19=some (x21:V)/\∃x22:Int,xl zA 9 l15 (zH (x21-1))=some (.int .u8 x22)/\Q (zH (x22)) h20):=by kernel_rfl
noncomputable def b80:Code:=zE Tryz.f80
def KS:Code:=zg b80 [1,0,1]
def KT:Code:=zg b80 [1,1]
theorem z64:(zA.fn.get 80).map zI=some ⟨77,[.cell 8 59,.tmp 9,.cell 10 26],b80⟩:=by kernel_rfl
def L80:List Nat:=[8,9,10,36,0,1,2,3]
abbrev W80 (b:Bool):Code->St->(AX->St->Prop)->Prop:=wpS Tryz.prog zA L80 4 b
theorem zYM {y36:Bool}{y8 y10:V}:Vy (W80 false) 77 L80 KS [(36,y36),(8,y8),(10,y10)] d h Q (λE _ _ _ _=>ZM y36 λu=>match u with|true=>∃x0:Int,∃v1,zK zA 59 h y8=some (.agg [x0,v1])/\∃h2,zf zA 59 h y8 (.agg [x0,v1])=some h2/\∃h3,zf zA 26 h2 y10 (.agg [(2:Int),(0:Int)])=some h3/\(E [(9,(0:Int))] .ret h3)|false=>(E [] .normal h)):=λ_=>by kernel_rfl
theorem zYN {y1 y2 y3:Int}{y0:List UInt8}{y8 y10:V}:Vy (W80 false) 77 L80 KT [(0,y0),(1,y1),(2,y2),(3,y3),(8,y8),(10,y10)] d h Q (λE _ _ _ _=>∃l0:List UInt8,zq zA 9 h y0 (some (y1:V)) (some (.int .i64 (min (Int.ofNat (List.length y0)) (zH (y1+2000))))) none=some (.str l0)/\h.nx<T.top/\∀p1 h2,p1=h.nx->h2=h.new (.cells (.ls [(.str []),(0:Int)]) ⟨0,113,0⟩ true false)->∃h3,zf zA 112 h2 (.ptr p1 0) (.agg [l0,(0:Int)])=some h3/\RF Tryz.prog zA 137 [(.ptr p1 0),y2,y3] h3 λv4 h5=>∃x6:Int,∃v7,∃v8,v4=(.tuple [(.agg [x6,v7]),v8])/\∃h9,zf zA 59 h5 y8 (.agg [x6,v7])=some h9/\RF Tryz.prog zA 138 [v8,(.iface 24 (31:Int))] h9 λv10 h11=>∃KI:Bool,v10=KI/\(KI=true->∃h13,zf zA 59 h11 y8 (.agg [(0:Int),.nilslice])=some h13/\∃h14,zf zA 26 h13 y10 (.agg [(31:Int),y1])=some h14/\E [(9,(0:Int))] .ret h14)/\(KI=false->wY zA .neq 163 (t 62) (.const .nilIface) 4 v8 .nilIface λv15=>xJ v15 λu=>match u with|true=>∃h16,zf zA 59 h11 y8 (.agg [(0:Int),.nilslice])=some h16/\∃h17,zf zA 26 h16 y10 (.agg [(23:Int),y1])=some h17/\(E [(9,(0:Int))] .ret h17)|false=>∃l18:List UInt8,∃x19:Int,zK zA 112 h11 (.ptr p1 0)=some (.agg [l18,x19])/\RF Tryz.prog zA 139 [(.agg [l18,x19])] h11 λv20 h21=>∃x22:Int,∃x23:Int,v20=(.tuple [x22,x23])/\∃x24:Int,∃v25,zK zA 59 h21 y8=some (.agg [x24,v25])/\∃h26,zf zA 59 h21 y8 (.agg [x24,v25])=some h26/\∃h27,zf zA 26 h26 y10 (.agg [(0:Int),(0:Int)])=some h27/\E [(9,(zH (y1+x22)))] .ret h27)):=λ_=>by kernel_rfl
theorem z7O  {a1 a2 a3:Int}{a0:List UInt8}{Q:V->H->Prop}:W80 false b80 ⟨77,zC [a0,a1,a2,a3] 0 (Tb.leaf zB),[],h⟩ (endW zA ⟨77,[.cell 8 59,.tmp 9,.cell 10 26],b80⟩ Q)=((h.nx<T.top/\∀p0 h1,p0=h.nx->h1=h.new (.cells (.ls [(0:Int),.nilslice]) ⟨0,60,0⟩ true false)->h1.nx<T.top/\∀p2 h3,p2=h1.nx->h3=h1.new (.cells (.ls [(0:Int),(0:Int)]) ⟨0,27,0⟩ true false)->(a1<0->Gz L80 (Tb.leaf zB) [(8,(.ptr p0 0)),(9,(0:Int)),(10,(.ptr p2 0)),(36,true),(0,a0),(1,a1),(2,a2),(3,a3)] λu=>W80 false KS ⟨77,u,[],h3⟩ (thenC (sealK L80 λs1=>W80 false KT s1 (endW zA ⟨77,[.cell 8 59,.tmp 9,.cell 10 26],b80⟩ Q)) (endW zA ⟨77,[.cell 8 59,.tmp 9,.cell 10 26],b80⟩ Q)))/\(¬(a1<0)->((Int.ofNat (List.length a0))<a1->Gz L80 (Tb.leaf zB) [(8,(.ptr p0 0)),(9,(0:Int)),(10,(.ptr p2 0)),(36,true),(0,a0),(1,a1),(2,a2),(3,a3)] λu=>W80 false KS ⟨77,u,[],h3⟩ (thenC (sealK L80 λs1=>W80 false KT s1 (endW zA ⟨77,[.cell 8 59,.tmp 9,.cell 10 26],b80⟩ Q)) (endW zA ⟨77,[.cell 8 59,.tmp 9,.cell 10 26],b80⟩ Q)))/\(¬((Int.ofNat (List.length a0))<a1)->(a2<5->Gz L80 (Tb.leaf zB) [(8,(.ptr p0 0)),(9,(0:Int)),(10,(.ptr p2 0)),(36,true),(0,a0),(1,a1),(2,a2),(3,a3)] λu=>W80 false KS ⟨77,u,[],h3⟩ (thenC (sealK L80 λs1=>W80 false KT s1 (endW zA ⟨77,[.cell 8 59,.tmp 9,.cell 10 26],b80⟩ Q)) (endW zA ⟨77,[.cell 8 59,.tmp 9,.cell 10 26],b80⟩ Q)))/\(¬(a2<5)->((12:Int)<a2->Gz L80 (Tb.leaf zB) [(8,(.ptr p0 0)),(9,(0:Int)),(10,(.ptr p2 0)),(36,true),(0,a0),(1,a1),(2,a2),(3,a3)] λu=>W80 false KS ⟨77,u,[],h3⟩ (thenC (sealK L80 λs1=>W80 false KT s1 (endW zA ⟨77,[.cell 8 59,.tmp 9,.cell 10 26],b80⟩ Q)) (endW zA ⟨77,[.cell 8 59,.tmp 9,.cell 10 26],b80⟩ Q)))/\(¬((12:Int)<a2)->(a3<1->Gz L80 (Tb.leaf zB) [(8,(.ptr p0 0)),(9,(0:Int)),(10,(.ptr p2 0)),(36,true),(0,a0),(1,a1),(2,a2),(3,a3)] λu=>W80 false KS ⟨77,u,[],h3⟩ (thenC (sealK L80 λs1=>W80 false KT s1 (endW zA ⟨77,[.cell 8 59,.tmp 9,.cell 10 26],b80⟩ Q)) (endW zA ⟨77,[.cell 8 59,.tmp 9,.cell 10 26],b80⟩ Q)))/\(¬(a3<1)->((256:Int)<a3->Gz L80 (Tb.leaf zB) [(8,(.ptr p0 0)),(9,(0:Int)),(10,(.ptr p2 0)),(36,true),(0,a0),(1,a1),(2,a2),(3,a3)] λu=>W80 false KS ⟨77,u,[],h3⟩ (thenC (sealK L80 λs1=>W80 false KT s1 (endW zA ⟨77,[.cell 8 59,.tmp 9,.cell 10 26],b80⟩ Q)) (endW zA ⟨77,[.cell 8 59,.tmp 9,.cell 10 26],b80⟩ Q)))/\(¬((256:Int)<a3)->Gz L80 (Tb.leaf zB) [(8,(.ptr p0 0)),(9,(0:Int)),(10,(.ptr p2 0)),(36,false),(0,a0),(1,a1),(2,a2),(3,a3)] λu=>W80 false KS ⟨77,u,[],h3⟩ (thenC (sealK L80 λs1=>W80 false KT s1 (endW zA ⟨77,[.cell 8 59,.tmp 9,.cell 10 26],b80⟩ Q)) (endW zA ⟨77,[.cell 8 59,.tmp 9,.cell 10 26],b80⟩ Q)))))))))):=by kernel_rfl
noncomputable def zJs:Code:=zE Tryz.f143
def zMz:Code:=zg zJs [1,0,1,0,0]
def zOU:Code:=zg zJs [1,1]
theorem zUa:(zA.fn.get 143).map zI=some ⟨22,[.tmp 4],zJs⟩:=by kernel_rfl
def zPy:List Nat:=[4,9,8,7,1]
abbrev zQQ (b:Bool):Code->St->(AX->St->Prop)->Prop:=wpS Tryz.prog zA zPy 4 b
theorem zJW {y9 y8 y4:Int}{y7 y1:V}:Vy (zQQ false) 22 zPy zMz [(9,y9),(8,y8),(7,y7),(4,y4),(1,y1)] d h Q (λE _ _ _ _=>((y9<y8->∃p0 o1,z7 zA 23 y7 y9=some (.ptr p0 o1)/\∃x2:Int,zK zA 3 h (.ptr p0 o1)=some (x2:V)/\(x2≠0->yT zA Tryz.prog 3 h (λv3 h4=>wY zA .add 3 (t 15) (t 18) 3 y4 v3 λv5=>(E [(4,v5),(9,(zH (y9+1)))] .normal h4)) [x2] y1)/\(¬(x2≠0)->E [(9,(zH (y9+1)))] .normal h))/\(¬(y9<y8)->E [] (.exit 0) h))):=λ_=>by kernel_rfl
theorem zJY {y4:Int}:Vy (zQQ false) 22 zPy zOU [(4,y4)] d h Q (λE _ _ _ _=>(E [] .ret h)):=λ_=>by kernel_rfl
theorem zVU  {a0 a1:V}{Q:V->H->Prop}:zQQ false zJs ⟨22,zC [a0,a1] 0 (Tb.leaf zB),[],h⟩ (endW zA ⟨22,[.tmp 4],zJs⟩ Q)=(∃x0:Int,zm zA 23 h a0=some (x0:V)/\Lz zPy 22 [(4,(0:Int)),(9,(0:Int)),(8,x0),(7,a0),(1,a1)] zMz h (Kx (zQQ false) zOU 0 (endW zA ⟨22,[.tmp 4],zJs⟩ Q))):=by kernel_rfl
noncomputable def zWR:Code:=zE Tryz.f212
theorem zZr:(zA.fn.get 212).map zI=some ⟨21,[.tmp 2],zWR⟩:=by kernel_rfl
def z3y:List Nat:=[2]
abbrev z4z (b:Bool):Code->St->(AX->St->Prop)->Prop:=wpS Tryz.prog zA z3y 4 b
theorem z1y  {a0_1:Int}{a0_0:List UInt8}{Q:V->H->Prop}:z4z false zWR ⟨21,zC [(.agg [a0_0,a0_1])] 0 (Tb.leaf zB),[],h⟩ (endW zA ⟨21,[.tmp 2],zWR⟩ Q)=((h.nx<T.top/\∀p0 h1,p0=h.nx->h1=h.new (.cells (.ls [a0_0,a0_1]) ⟨0,113,0⟩ true false)->∃l2:List UInt8,zK zA 9 h1 (.ptr p0 (0+0))=some (.str l2)/\((1048576:Int)<(Int.ofNat (List.length l2))->Q (4:Int) h1)/\(¬((1048576:Int)<(Int.ofNat (List.length l2)))->∃x3:Int,zK zA 3 h1 (.ptr p0 (0+1))=some (x3:V)/\(x3<0->Q (2:Int) h1)/\(¬(x3<0)->∃x4:Int,zK zA 3 h1 (.ptr p0 (0+1))=some (x4:V)/\∃l5:List UInt8,zK zA 9 h1 (.ptr p0 (0+0))=some (.str l5)/\((zH (8*(Int.ofNat (List.length l5))))<x4->Q (2:Int) h1)/\(¬((zH (8*(Int.ofNat (List.length l5))))<x4)->Q (0:Int) h1))))):=by kernel_rfl
noncomputable def zWU:Code:=zE Tryz.f215
theorem zZu:(zA.fn.get 215).map zI=some ⟨34,[.cell 4 120,.tmp 5,.tmp 6],zWU⟩:=by kernel_rfl
def z4B:List Nat:=[4,5,6]
abbrev z5C (b:Bool):Code->St->(AX->St->Prop)->Prop:=wpS Tryz.prog zA z4B 4 b
theorem z2B  {a0_1 a1:Int}{a0_0:List UInt8}{Q:V->H->Prop}:z5C false zWU ⟨34,zC [(.agg [a0_0,a0_1]),a1] 0 (Tb.leaf zB),[],h⟩ (endW zA ⟨34,[.cell 4 120,.tmp 5,.tmp 6],zWU⟩ Q)=((h.nx<T.top/\∀p0 h1,p0=h.nx->h1=h.new (.cells (.ls [a0_0,a0_1]) ⟨0,121,0⟩ true false)->h1.nx<T.top/\∀p2 h3,p2=h1.nx->h3=h1.new (.cells (.ls [(.str []),(0:Int)]) ⟨0,121,0⟩ true false)->∃l4:List UInt8,∃x5:Int,zK zA 120 h3 (.ptr p0 0)=some (.agg [l4,x5])/\RF Tryz.prog zA 278 [(.agg [l4,x5]),a1] h3 λv6 h7=>∃x8:Int,∃x9:Int,v6=(.tuple [(.int .u64 x8),x9])/\∃x10:Int,zK zA 3 h7 (.ptr p0 (0+1))=some (x10:V)/\(x10<a1->RF Tryz.prog zA 250 [true,(5:Int)] h7 λv11 h12=>∃x13:Int,v11=x13/\∃v14 h15,zF zA 343 2 [(0,x9),(1,x13)] h12=some (v14,h15)/\RF Tryz.prog zA 248 [v14] h15 λv16 h17=>∃x18:Int,v16=x18/\(x18≠0->∃h19,zf zA 120 h17 (.ptr p2 0) (.agg [(.str []),(0:Int)])=some h19/\endL zA h19 [(.cell 4 120,(.ptr p2 0)),(.tmp 5,(.int .u64 0)),(.tmp 6,x18)] Q)/\(¬(x18≠0)->∃x20:Int,zK zA 3 h17 (.ptr p0 (0+1))=some (x20:V)/\∃h21,zf zA 3 h17 (.ptr p0 (0+1)) (zH (x20-a1))=some h21/\∃l22:List UInt8,∃x23:Int,zK zA 120 h21 (.ptr p0 0)=some (.agg [l22,x23])/\∃h24,zf zA 120 h21 (.ptr p2 0) (.agg [l22,x23])=some h24/\endL zA h24 [(.cell 4 120,(.ptr p2 0)),(.tmp 5,(.int .u64 x8)),(.tmp 6,(0:Int))] Q))/\(¬(x10<a1)->RF Tryz.prog zA 250 [false,(5:Int)] h7 λv25 h26=>∃x27:Int,v25=x27/\∃v28 h29,zF zA 343 2 [(0,x9),(1,x27)] h26=some (v28,h29)/\RF Tryz.prog zA 248 [v28] h29 λv30 h31=>∃x32:Int,v30=x32/\(x32≠0->∃h33,zf zA 120 h31 (.ptr p2 0) (.agg [(.str []),(0:Int)])=some h33/\endL zA h33 [(.cell 4 120,(.ptr p2 0)),(.tmp 5,(.int .u64 0)),(.tmp 6,x32)] Q)/\(¬(x32≠0)->∃x34:Int,zK zA 3 h31 (.ptr p0 (0+1))=some (x34:V)/\∃h35,zf zA 3 h31 (.ptr p0 (0+1)) (zH (x34-a1))=some h35/\∃l36:List UInt8,∃x37:Int,zK zA 120 h35 (.ptr p0 0)=some (.agg [l36,x37])/\∃h38,zf zA 120 h35 (.ptr p2 0) (.agg [l36,x37])=some h38/\endL zA h38 [(.cell 4 120,(.ptr p2 0)),(.tmp 5,(.int .u64 x8)),(.tmp 6,(0:Int))] Q)))):=by kernel_rfl
noncomputable def zJw:Code:=zE Tryz.f248
def zNL:Code:=zg zJw [1,0,1,1,0,1,0,0]
def zOb:Code:=zg zJw [1,0,1,1,1]
theorem z0K:(zA.fn.get 248).map zI=some ⟨17,[.tmp 2],zJw⟩:=by kernel_rfl
def zQB:List Nat:=[2,8,7,6,3]
abbrev zQV (b:Bool):Code->St->(AX->St->Prop)->Prop:=wpS Tryz.prog zA zQB 4 b
theorem zS3 {y8 y7:Int}{y6:V}:Vy (zQV false) 17 zQB zNL [(8,y8),(7,y7),(6,y6)] d h Q (λE _ _ _ _=>((y8<y7->∃p0 o1,z7 zA 343 y6 y8=some (.ptr p0 o1)/\∃x2:Int,zK zA 24 h (.ptr p0 o1)=some (x2:V)/\(x2≠0->E [(3,x2)] (.exit 0) h)/\(¬(x2≠0)->E [(8,(zH (y8+1)))] .normal h))/\(¬(y8<y7)->E [] (.exit 0) h))):=λ_=>by kernel_rfl
theorem zJ0 {y3:Int}:Vy (zQV false) 17 zQB zOb [(3,y3)] d h Q (λE _ _ _ _=>(E [(2,y3)] .ret h)):=λ_=>by kernel_rfl
theorem z2Q  {a0:V}{Q:V->H->Prop}:zQV false zJw ⟨17,zC [a0] 0 (Tb.leaf zB),[],h⟩ (endW zA ⟨17,[.tmp 2],zJw⟩ Q)=(∃x0:Int,zm zA 343 h a0=some (x0:V)/\Lz zQB 17 [(2,(0:Int)),(8,(0:Int)),(7,x0),(6,a0),(3,(0:Int))] zNL h (Kx (zQV false) zOb 0 (endW zA ⟨17,[.tmp 2],zJw⟩ Q))):=by kernel_rfl
noncomputable def zCj:Code:=zE Tryz.f274
def Yh:Code:=zg zCj [1,1,1,0,1,0,0]
def Z7:Code:=zg zCj [1,1,1,0,1,0,1]
def zX7:Code:=zg zCj [1,1,1,0,1,0]
def zHa:Code:=zg zCj [1,1,1,1]
theorem z0Y:(zA.fn.get 274).map zI=some ⟨26,[.tmp 2,.tmp 3],zCj⟩:=by kernel_rfl
def zJc:List Nat:=[2,3,19,20,5,6,7,18]
abbrev zJj (b:Bool):Code->St->(AX->St->Prop)->Prop:=wpS Tryz.prog zA zJc 4 b
theorem zSH {y19 y20:V}:zJj true (wq Yh) ⟨26,(yq tm [(19,y19),(20,y20)]),d,h⟩ (zy zJc Q)=((Gz zJc tm [(19,y19),(20,y20),(6,y19),(7,y20)] λu=>Q .normal ⟨26,u,d,h⟩)):=by kernel_rfl
theorem zSM {y6 y7:Int}{y5:V}:Vy (zJj true) 26 zJc (wq Z7) [(5,y5),(6,y6),(7,y7)] d h Q (λE _ _ _ _=>∃v0,zK zA 23 h y5=some v0/\∃p1 o2,z7 zA 23 v0 y6=some (.ptr p1 o2)/\∃h3,zf zA 3 h (.ptr p1 o2) y7=some h3/\E [] .normal h3):=λ_=>by kernel_rfl
theorem zTj {y5:V}:Vy (zJj false) 26 zJc zHa [(5,y5)] d h Q (λE _ _ _ _=>∃v0,zK zA 23 h y5=some v0/\E [(2,v0),(3,(0:Int))] .ret h):=λ_=>by kernel_rfl
theorem z24  {a0_0:Int}{a0_1:V}{Q:V->H->Prop}:zJj false zCj ⟨26,zC [(.agg [a0_0,a0_1])] 0 (Tb.leaf zB),[],h⟩ (endW zA ⟨26,[.tmp 2,.tmp 3],zCj⟩ Q)=(wh (cond (zL (V.cells (.agg [a0_0,a0_1]))) (Cs.ofL (V.cells (.agg [a0_0,a0_1]))) none) λcs2=>h.nx<T.top/\∀p0 h1,p0=h.nx->h1=h.new (.cells cs2 ⟨0,60,0⟩ true false)->∃x3:Int,∃v4,zK zA 59 h1 (.ptr p0 0)=some (.agg [x3,v4])/\RF Tryz.prog zA 173 [(.agg [x3,v4])] h1 λv5 h6=>∃x7:Int,v5=x7/\(x7≠0->Q (.tuple [.nilslice,x7]) h6)/\(¬(x7≠0)->∃x8:Int,zK zA 3 h6 (.ptr p0 (0+0))=some (x8:V)/\∃x9:Int,zn .shl .i64 1 x8=some (x9:V)/\∃v10 h11,js zA 23 x9 x9 h6=some (v10,h11)/\V.one .nilslice=true/\h11.nx<T.top/\∀p12 h13,p12=h11.nx->h13=h11.new (.cells (.ls [.nilslice]) ⟨0,24,0⟩ true false)->∃h14,zf zA 23 h13 (.ptr p12 0) v10=some h14/\∃x15:Int,∃v16,zK zA 59 h14 (.ptr p0 0)=some (.agg [x15,v16])/\RF Tryz.prog zA 307 [(.agg [x15,v16])] h14 λv17 h18=>∃v19,v17=v19/\Gz zJc (Tb.leaf zB) [(2,.nilslice),(3,(0:Int)),(5,(.ptr p12 0)),(18,v19)] λu=>RC Tryz.prog false zX7 ⟨26,u,[],h18⟩ (Kx (zJj false) zHa 0 (endW zA ⟨26,[.tmp 2,.tmp 3],zCj⟩ Q)))):=by kernel_rfl
noncomputable def zWa:Code:=zE Tryz.f286
theorem zUd:(zA.fn.get 286).map zI=some ⟨7,[],zWa⟩:=by kernel_rfl
def z4R:List Nat:=[]
abbrev z5S (b:Bool):Code->St->(AX->St->Prop)->Prop:=wpS Tryz.prog zA z4R 4 b
theorem zVX  {a0:Int}{a1:V}{Q:V->H->Prop}:z5S false zWa ⟨7,zC [a0,a1] 0 (Tb.leaf zB),[],h⟩ (endW zA ⟨7,[],zWa⟩ Q)=(∃x0:Int,zK zA 3 h a1=some (x0:V)/\∃h1,zf zA 3 h a1 (.int .i64 (min (zH (x0+a0)) 1048576))=some h1/\Q (.tuple []) h1):=by kernel_rfl
noncomputable def zKC:Code:=zE Tryz.f304
def zNY:Code:=zg zKC [1,1,0,1,0,0]
def zOq:Code:=zg zKC [1,1,1]
theorem z0g:(zA.fn.get 304).map zI=some ⟨40,[.tmp 4],zKC⟩:=by kernel_rfl
def zQF:List Nat:=[4,9,8,2,5]
abbrev zQZ (b:Bool):Code->St->(AX->St->Prop)->Prop:=wpS Tryz.prog zA zQF 4 b
theorem zSg {y9 y8 y5:Int}{y2:V}:Vy (zQZ false) 40 zQF zNY [(9,y9),(8,y8),(2,y2),(5,y5)] d h Q (λE _ _ _ _=>((y9<y8->zS zA 112 1 h y2 λv0 h1=>∃x2:Int,zK zA 3 h1 v0=some (x2:V)/\zS zA 112 0 h1 y2 λv3 h4=>∃l5:List UInt8,zK zA 9 h4 v3=some (.str l5)/\((zH (x2+y9))<(zH (8*(Int.ofNat (List.length l5))))->zS zA 112 0 h4 y2 λv6 h7=>∃l8:List UInt8,zK zA 9 h7 v6=some (.str l8)/\(8:Int)≠0/\∃x9:Int,xl zA 9 l8 (zH (Int.tdiv (zH (x2+y9)) 8))=some (.int .u8 x9)/\(8:Int)≠0/\∃x10:Int,zn .shr .u8 x9 (zT .u64 ((Int.tmod (zH (x2+y9)) 8)))=some (.int .u8 x10)/\∃x11:Int,zn .and .u8 x10 1=some (.int .u8 x11)/\∃x12:Int,zn .shl .i64 (zH (x11)) (zT .u64 (y9))=some (x12:V)/\∃x13:Int,zn .or .i64 y5 x12=some (x13:V)/\E [(9,(zH (y9+1))),(5,x13)] .normal h7)/\(¬((zH (x2+y9))<(zH (8*(Int.ofNat (List.length l5)))))->E [(9,(zH (y9+1)))] .normal h4))/\(¬(y9<y8)->E [] (.exit 0) h))):=λ_=>by kernel_rfl
theorem zTx {y5:Int}:Vy (zQZ false) 40 zQF zOq [(5,y5)] d h Q (λE _ _ _ _=>(E [(4,y5)] .ret h)):=λ_=>by kernel_rfl
theorem z2n  {a0_1 a1:Int}{a0_0:List UInt8}{Q:V->H->Prop}:zQZ false zKC ⟨40,zC [(.agg [a0_0,a0_1]),a1] 0 (Tb.leaf zB),[],h⟩ (endW zA ⟨40,[.tmp 4],zKC⟩ Q)=((h.nx<T.top/\∀p0 h1,p0=h.nx->h1=h.new (.cells (.ls [a0_0,a0_1]) ⟨0,113,0⟩ true false)->Lz zQF 40 [(4,(0:Int)),(9,(0:Int)),(8,a1),(2,(.ptr p0 0)),(5,(0:Int))] zNY h1 (Kx (zQZ false) zOq 0 (endW zA ⟨40,[.tmp 4],zKC⟩ Q)))):=by kernel_rfl
noncomputable def Kj:Code:=zE Tryz.f323
def zN4:Code:=zg Kj [1,1,1,0,1,0,0]
def zHI:Code:=zg Kj [1,1,1,1,1,1,0,0,1,1,0,0,1,1,0,0,1,1,0,0,1,1,0,0]
def zOy:Code:=zg Kj [1,1,1,1,1,1,0,0,1,1,0,0,1,1,0,0,1,1,1]
def zN5:Code:=zg Kj [1,1,1,1,1,1,0,0,1,1,0,0,1,1,0,0]
def zOz:Code:=zg Kj [1,1,1,1,1,1,0,0,1,1,1]
def zN6:Code:=zg Kj [1,1,1,1,1,1,0,0]
def zPA:Code:=zg Kj [1,1,1,1]
theorem z0t:(zA.fn.get 323).map zI=some ⟨75,[],Kj⟩:=by kernel_rfl
def zBC:List Nat:=[20,19,18,4,5,0,8,1,3,47,46,9,40,39,38]
abbrev OR (b:Bool):Code->St->(AX->St->Prop)->Prop:=wpS Tryz.prog zA zBC 4 b
theorem zSm {y20 y19 y5:Int}{y18 y4 y0:V}:Vy (OR false) 75 zBC zN4 [(20,y20),(19,y19),(18,y18),(4,y4),(5,y5),(0,y0)] d h Q (λE _ _ _ _=>((y20<y19->∃p0 o1,z7 zA 23 y18 y20=some (.ptr p0 o1)/\∃x2:Int,zK zA 3 h (.ptr p0 o1)=some (x2:V)/\(x2=(-1)->∃h3,Kg zA 377 h y4 y5 true=some h3/\yT zA Tryz.prog 4 h3 (λv4 h5=>zAv .not v4 λv6=>xJ v6 λu=>match u with|true=>(E [] .ret h5)|false=>(E [(20,(zH (y20+1))),(5,(zH (y5-1)))] .normal h5)) [y5,y20] y0)/\(¬(x2=(-1))->E [(20,(zH (y20+1)))] .normal h))/\(¬(y20<y19)->E [] (.exit 0) h))):=λ_=>by kernel_rfl
theorem zSn {y8 y3:Int}{y4 y1:V}:Vy (OR false) 75 zBC zHI [(4,y4),(8,y8),(1,y1),(3,y3)] d h Q (λE _ _ _ _=>∃b0:Bool,ZH zA 377 h y4 y8 false=some (.bool b0)/\(b0=true->zS zA 59 0 h y1 λv1 h2=>∃x3:Int,zK zA 3 h2 v1=some (x3:V)/\RF Tryz.prog zA 324 [x3] h2 λv4 h5=>∃x6:Int,v4=x6/\∃x7:Int,zn .and .i64 (zH (y8+x6)) (zH (y3-1))=some (x7:V)/\E [(8,x7)] .normal h5)/\(b0=false->E [] (.exit 6) h)):=λ_=>by kernel_rfl
theorem zUF {y47:Int}:Vy (OR false) 75 zBC zOy [(47,y47)] d h Q (λE _ _ _ _=>(E [(47,(zH (y47+1)))] .normal h)):=λ_=>by kernel_rfl
theorem zSo {y47 y46 y8 y9 y3:Int}{y0 y1:V}:Vy (OR false) 75 zBC zN5 [(47,y47),(46,y46),(0,y0),(8,y8),(9,y9),(1,y1),(3,y3)] d h Q (λE _ M S _=>((y47<y46->yT zA Tryz.prog 4 h (λv0 h1=>zAv .not v0 λv2=>xJ v2 λu=>match u with|true=>(E [] .ret h1)|false=>zS zA 59 0 h1 y1 λv3 h4=>∃x5:Int,zK zA 3 h4 v3=some (x5:V)/\RF Tryz.prog zA 324 [x5] h4 λv6 h7=>∃x8:Int,v6=x8/\∃x9:Int,zn .and .i64 (zH (y8+x8)) (zH (y3-1))=some (x9:V)/\M [(8,x9)] zHI h7 λe s1=>(Kx (OR false) zOy 5 S) (zc 6 e) s1) [y8,y9] y0)/\(¬(y47<y46)->E [] (.exit 4) h))):=λ_=>by kernel_rfl
theorem zUG {y40:Int}:Vy (OR false) 75 zBC zOz [(40,y40)] d h Q (λE _ _ _ _=>(E [(40,(zH (y40+1)))] .normal h)):=λ_=>by kernel_rfl
theorem zSp {y40 y39:Int}{y38:V}:Vy (OR false) 75 zBC zN6 [(40,y40),(39,y39),(38,y38)] d h Q (λE _ M S _=>((y40<y39->∃p0 o1,z7 zA 23 y38 y40=some (.ptr p0 o1)/\∃x2:Int,zK zA 3 h (.ptr p0 o1)=some (x2:V)/\M [(47,(0:Int)),(46,(.int .i64 (max x2 0))),(9,y40)] zN5 h λe s1=>(Kx (OR false) zOz 3 S) (zc 4 e) s1)/\(¬(y40<y39)->E [] (.exit 2) h))):=λ_=>by kernel_rfl
theorem zUH {y1:V}:Vy (OR false) 75 zBC zPA [(1,y1)] d h Q (λ_ _ M S _=>zS zA 59 1 h y1 λv0 h1=>∃v2,zK zA 23 h1 v0=some v2/\∃x3:Int,zm zA 23 h1 v2=some (x3:V)/\M [(8,(0:Int)),(40,(0:Int)),(39,x3),(38,v2)] zN6 h1 λe s1=>S (zc 2 e) s1):=λ_=>by kernel_rfl
theorem z3A  {a0 a1:V}{Q:V->H->Prop}:OR false Kj ⟨75,zC [a0,a1] 0 (Tb.leaf zB),[],h⟩ (endW zA ⟨75,[],Kj⟩ Q)=(zS zA 59 0 h a1 λv0 h1=>∃x2:Int,zK zA 3 h1 v0=some (x2:V)/\∃x3:Int,zn .shl .i64 1 x2=some (x3:V)/\∃v4 h5,zh zA ⟨none,.makeMap 377 none,0, "",#[],none⟩ (λ_=>none) h1=some (.val v4 h5)/\zS zA 59 1 h5 a1 λv6 h7=>∃v8,zK zA 23 h7 v6=some v8/\∃x9:Int,zm zA 23 h7 v8=some (x9:V)/\Lz zBC 75 [(20,(0:Int)),(19,x9),(18,v8),(4,v4),(5,(zH (x3-1))),(0,a0),(1,a1),(3,x3)] zN4 h7 (Kx (OR false) zPA 0 (endW zA ⟨75,[],Kj⟩ Q))):=by kernel_rfl
noncomputable def JM:Code:=zE Tryz.f10
def zFo:Code:=zg JM [1,0,1]
def zJB:Code:=zg JM [1,1,1,1,1,1,0,0,1]
def zJC:Code:=zg JM [1,1,1,1,1,1,1,0,1]
def z7t:Array Oper:=Y9 (zg JM [1,1,1,1,1,1,1,1,0])
def z8B:Code:=zg JM [1,1,1,1,1,1,1,1,1]
def zCE:Code:=zg JM [1,1,1,1,1,1,1,1]
def zJD:Code:=zg JM [1,1,1,1,1,1,1]
def zFp:Code:=zg JM [1,1]
theorem z6F:(zA.fn.get 10).map zI=some ⟨80,[.cell 4 23,.cell 5 3,.cell 6 26],JM⟩:=by kernel_rfl
def XQ:List Nat:=[4,5,6,16,1,8,0,7,74]
abbrev XR (b:Bool):Code->St->(AX->St->Prop)->Prop:=wpS Tryz.prog zA XQ 4 b
theorem zPb {y16:Bool}{y4 y5 y6:V}:Vy (XR false) 80 XQ zFo [(16,y16),(4,y4),(5,y5),(6,y6)] d h Q (λE _ _ _ _=>ZM y16 λu=>match u with|true=>∃h0,zf zA 23 h y4 .nilslice=some h0/\∃h1,zf zA 3 h0 y5 (0:Int)=some h1/\∃h2,zf zA 26 h1 y6 (.agg [(2:Int),(0:Int)])=some h2/\(E [] .ret h2)|false=>(E [] .normal h)):=λ_=>by kernel_rfl
theorem zXx {y1 y8:Int}{y0:List UInt8}{y5 y4 y6 y7:V}:Vy (XR false) 80 XQ zJB [(1,y1),(8,y8),(5,y5),(0,y0),(4,y4),(6,y6),(7,y7)] d h Q (λE _ _ _ _=>∃h0,zf zA 3 h y5 (zH ((zH (y1+1))+y8))=some h0/\∃x1:Int,zK zA 3 h0 y5=some (x1:V)/\∃l2:List UInt8,zq zA 9 h0 y0 (some (.int .i64 (zH (y1+1)))) (some (x1:V)) none=some (.str l2)/\RF Tryz.prog zA 40 [l2] h0 λv3 h4=>∃v5,∃x6:Int,∃x7:Int,v3=(.tuple [v5,(.agg [x6,x7])])/\∃h8,zf zA 23 h4 y4 v5=some h8/\∃h9,zf zA 26 h8 y6 (.agg [x6,x7])=some h9/\∃h10,zf zA 3 h9 y7 (zH (y1+1))=some h10/\E [] (.exit 0) h10):=λ_=>by kernel_rfl
theorem zHy {y1:Int}{y74:Bool}{y6 y7:V}:Vy (XR false) 80 XQ zJC [(74,y74),(1,y1),(6,y6),(7,y7)] d h Q (λE _ _ _ _=>ZM y74 λu=>match u with|true=>∃h0,zf zA 26 h y6 (.agg [(21:Int),y1])=some h0/\∃h1,zf zA 3 h0 y7 (0:Int)=some h1/\(E [] .normal h1)|false=>(E [] .normal h)):=λ_=>by kernel_rfl
theorem zXy {y6 y4:V}:Vy (XR false) 80 XQ zJD [(6,y6),(4,y4)] d h Q (λ_ _ _ S tm=>zS zA 26 0 h y6 λv0 h1=>∃x2:Int,zK zA 24 h1 v0=some (x2:V)/\(x2=0->∃v3,zK zA 23 h1 y4=some v3/\RF Tryz.prog zA 41 [v3] h1 λv4 h5=>∃x6:Int,v4=x6/\(x6≠0->Gz XQ tm [(74,true)] λu=>XR false zJC ⟨80,u,d,h5⟩ (thenC (sealK XQ λs1=>XR false zCE s1 S) S))/\(¬(x6≠0)->Gz XQ tm [(74,false)] λu=>XR false zJC ⟨80,u,d,h5⟩ (thenC (sealK XQ λs1=>XR false zCE s1 S) S)))/\(¬(x2=0)->Gz XQ tm [(74,false)] λu=>XR false zJC ⟨80,u,d,h1⟩ (thenC (sealK XQ λs1=>XR false zCE s1 S) S))):=λ_=>by kernel_rfl
theorem zXz {y1:Int}{y0:List UInt8}{y4 y5 y6:V}:Vy (XR false) 80 XQ zFp [(1,y1),(0,y0),(4,y4),(5,y5),(6,y6)] d h Q (λE _ _ S tm=>((y1=(Int.ofNat (List.length y0))->∃h0,zf zA 23 h y4 .nilslice=some h0/\∃h1,zf zA 3 h0 y5 (0:Int)=some h1/\∃h2,zf zA 26 h1 y6 (.agg [(5:Int),y1])=some h2/\E [] .ret h2)/\(¬(y1=(Int.ofNat (List.length y0)))->V.one (0:Int)=true/\h.nx<T.top/\∀p3 h4,p3=h.nx->h4=h.new (.cells (.ls [(0:Int)]) ⟨0,4,0⟩ true false)->∃h5,zf zA 3 h4 (.ptr p3 0) (0:Int)=some h5/\false=false/\∃x6:Int,xl zA 9 y0 y1=some (.int .u8 x6)/\((127:Int)<(zH (x6))->RF Tryz.prog zA 39 [y0,y1] h5 λv7 h8=>∃v9,∃x10:Int,∃x11:Int,∃x12:Int,v7=(.tuple [v9,x10,(.agg [x11,x12])])/\∃h13,zf zA 23 h8 y4 v9=some h13/\∃h14,zf zA 3 h13 y5 x10=some h14/\∃h15,zf zA 26 h14 y6 (.agg [x11,x12])=some h15/\Gz XQ tm [(8,(zH (x6))),(7,(.ptr p3 0))] λu=>Q .ret ⟨80,u,((.fn 38 [y6,y4,y5,(.ptr p3 0)] [])::d),h15⟩)/\(¬((127:Int)<(zH (x6)))->((Int.ofNat (List.length y0))<(zH ((zH (y1+1))+(zH (x6))))->∃h16,zf zA 23 h5 y4 .nilslice=some h16/\∃h17,zf zA 3 h16 y5 (0:Int)=some h17/\∃h18,zf zA 26 h17 y6 (.agg [(5:Int),(.int .i64 (Int.ofNat (List.length y0)))])=some h18/\Gz XQ tm [(8,(zH (x6))),(7,(.ptr p3 0))] λu=>Q .ret ⟨80,u,((.fn 38 [y6,y4,y5,(.ptr p3 0)] [])::d),h18⟩)/\(¬((Int.ofNat (List.length y0))<(zH ((zH (y1+1))+(zH (x6)))))->((zH (x6))=0->Gz XQ tm [(8,(zH (x6))),(7,(.ptr p3 0))] λu=>XR false zJB ⟨80,u,((.fn 38 [y6,y4,y5,(.ptr p3 0)] [])::d),h5⟩ λe s1=>(thenC (sealK XQ λs1=>XR false zJD s1 S) S) (zc 0 e) s1)/\(¬((zH (x6))=0)->Gz XQ tm [(8,(zH (x6))),(7,(.ptr p3 0))] λu=>XR false zJB ⟨80,u,((.fn 38 [y6,y4,y5,(.ptr p3 0)] [])::d),h5⟩ λe s1=>(thenC (sealK XQ λs1=>XR false zJD s1 S) S) (zc 0 e) s1)))))):=λ_=>by kernel_rfl
theorem z6q  {a1:Int}{a0:List UInt8}{Q:V->H->Prop}:XR false JM ⟨80,zC [a0,a1] 0 (Tb.leaf zB),[],h⟩ (endW1 Tryz.prog zA ⟨80,[.cell 4 23,.cell 5 3,.cell 6 26],JM⟩ Q)=((V.one .nilslice=true/\h.nx<T.top/\∀p0 h1,p0=h.nx->h1=h.new (.cells (.ls [.nilslice]) ⟨0,24,0⟩ true false)->V.one (0:Int)=true/\h1.nx<T.top/\∀p2 h3,p2=h1.nx->h3=h1.new (.cells (.ls [(0:Int)]) ⟨0,4,0⟩ true false)->h3.nx<T.top/\∀p4 h5,p4=h3.nx->h5=h3.new (.cells (.ls [(0:Int),(0:Int)]) ⟨0,27,0⟩ true false)->(a1<0->Gz XQ (Tb.leaf zB) [(4,(.ptr p0 0)),(5,(.ptr p2 0)),(6,(.ptr p4 0)),(16,true),(1,a1),(0,a0)] λu=>XR false zFo ⟨80,u,[],h5⟩ (thenC (sealK XQ λs1=>XR false zFp s1 (endW1 Tryz.prog zA ⟨80,[.cell 4 23,.cell 5 3,.cell 6 26],JM⟩ Q)) (endW1 Tryz.prog zA ⟨80,[.cell 4 23,.cell 5 3,.cell 6 26],JM⟩ Q)))/\(¬(a1<0)->((Int.ofNat (List.length a0))<a1->Gz XQ (Tb.leaf zB) [(4,(.ptr p0 0)),(5,(.ptr p2 0)),(6,(.ptr p4 0)),(16,true),(1,a1),(0,a0)] λu=>XR false zFo ⟨80,u,[],h5⟩ (thenC (sealK XQ λs1=>XR false zFp s1 (endW1 Tryz.prog zA ⟨80,[.cell 4 23,.cell 5 3,.cell 6 26],JM⟩ Q)) (endW1 Tryz.prog zA ⟨80,[.cell 4 23,.cell 5 3,.cell 6 26],JM⟩ Q)))/\(¬((Int.ofNat (List.length a0))<a1)->Gz XQ (Tb.leaf zB) [(4,(.ptr p0 0)),(5,(.ptr p2 0)),(6,(.ptr p4 0)),(16,false),(1,a1),(0,a0)] λu=>XR false zFo ⟨80,u,[],h5⟩ (thenC (sealK XQ λs1=>XR false zFp s1 (endW1 Tryz.prog zA ⟨80,[.cell 4 23,.cell 5 3,.cell 6 26],JM⟩ Q)) (endW1 Tryz.prog zA ⟨80,[.cell 4 23,.cell 5 3,.cell 6 26],JM⟩ Q)))))):=by kernel_rfl
noncomputable def b81:Code:=zE Tryz.f81
def zUq:Code:=zg b81 [1,1,1,1,0,1,0,0]
def zN9:Code:=zg b81 [1,1,1,1,1,1,0,1,0,0]
def zVG:Code:=zg b81 [1,1,1,1,1,1,1]
def zVH:Code:=zg b81 [1,1,1,1,1]
theorem z65:(zA.fn.get 81).map zI=some ⟨105,[.tmp 4,.tmp 5],b81⟩:=by kernel_rfl
def L81:List Nat:=[4,5,26,6,2,8,13,12]
abbrev W81 (b:Bool):Code->St->(AX->St->Prop)->Prop:=wpS Tryz.prog zA L81 4 b
theorem zXu {y26:Int}{y6 y2 y8:V}:Vy (W81 false) 105 L81 zUq [(26,y26),(6,y6),(2,y2),(8,y8)] d h Q (λE _ _ _ _=>((y26<2->zS zA 59 0 h y2 λv0 h1=>∃x2:Int,zK zA 3 h1 v0=some (x2:V)/\RF Tryz.prog zA 141 [y6,x2] h1 λv3 h4=>∃x5:Int,∃b6:Bool,v3=(.tuple [x5,b6])/\(b6=true->∃p7 o8,z7 zA 126 y8 y26=some (.ptr p7 o8)/\∃h9,zf zA 3 h4 (.ptr p7 o8) x5=some h9/\E [(26,(zH (y26+1)))] .normal h9)/\(b6=false->E [(4,.nilslice),(5,(21:Int))] .ret h4))/\(¬(y26<2)->E [] (.exit 0) h))):=λ_=>by kernel_rfl
theorem zXv {y13:Int}{y6 y8 y12:V}:Vy (W81 false) 105 L81 zN9 [(6,y6),(13,y13),(8,y8),(12,y12)] d h Q (λE _ _ _ _=>((h.nx<=T.top/\h.low<=T.top)/\∃v0 h1,zh zA ⟨none,.nilCheck (t 0),0, "",#[],none⟩ (λ_=>some y6) (zM h)=some (.val v0 h1)/\(h.nx<=h1.low/\h1.nx<=T.top)/\∀h2,h2=yG h h1->zS zA 195 1 h2 v0 λv3 h4=>∃v5,zK zA 123 h4 v3=some v5/\(2:Int)≠0/\∃p6 o7,z7 zA 126 y8 (.int .i64 (Int.tmod y13 2))=some (.ptr p6 o7)/\∃x8:Int,zK zA 3 h4 (.ptr p6 o7)=some (x8:V)/\∃p9 o10,z7 zA 123 v5 x8=some (.ptr p9 o10)/\∃x11:Int,∃x12:Int,∃x13:Int,zK zA 131 h4 (.ptr p9 o10)=some (.agg [x11,x12,x13])/\h4.nx<T.top/\∀p14 h15,p14=h4.nx->h15=h4.new (.cells (.ls [(0:Int),(0:Int),(0:Int)]) ⟨0,132,0⟩ true false)->∃h16,zf zA 131 h15 (.ptr p14 0) (.agg [x11,x12,x13])=some h16/\∃x17:Int,zK zA 3 h16 (.ptr p14 (0+0))=some (x17:V)/\∃v18 h19,zF zA 23 1 [(0,x17)] h16=some (v18,h19)/\True/\∃v20 h21,za zA 23 h19 y12 v18=some (v20,h21)/\∃x22:Int,zK zA 3 h21 (.ptr p14 (0+1))=some (x22:V)/\RF Tryz.prog zA 141 [y6,x22] h21 λv23 h24=>∃x25:Int,∃b26:Bool,v23=(.tuple [x25,b26])/\(b26=true->(2:Int)≠0/\∃x27:Int,zK zA 3 h24 (.ptr p14 (0+2))=some (x27:V)/\∃p28 o29,z7 zA 126 y8 (.int .i64 (Int.tmod y13 2))=some (.ptr p28 o29)/\∃h30,zf zA 3 h24 (.ptr p28 o29) (zH (x27+x25))=some h30/\∃x31:Int,zm zA 23 h30 v20=some (x31:V)/\((255:Int)<x31->E [(12,v20)] (.exit 2) h30)/\(¬((255:Int)<x31)->E [(13,(zH (y13+1))),(12,v20)] .normal h30))/\(b26=false->(h24.nx<=T.top/\h24.low<=T.top)/\∃v32 h33,zh zA ⟨none,.nilCheck (t 0),0, "",#[],none⟩ (λ_=>some y6) (zM h24)=some (.val v32 h33)/\(h24.nx<=h33.low/\h33.nx<=T.top)/\∀h34,h34=yG h24 h33->zS zA 195 1 h34 v32 λv35 h36=>∃v37,zK zA 123 h36 v35=some v37/\(2:Int)≠0/\∃p38 o39,z7 zA 126 y8 (zH (1-(Int.tmod y13 2)))=some (.ptr p38 o39)/\∃x40:Int,zK zA 3 h36 (.ptr p38 o39)=some (x40:V)/\∃p41 o42,z7 zA 123 v37 x40=some (.ptr p41 o42)/\∃x43:Int,zK zA 3 h36 (.ptr p41 (o42+0))=some (x43:V)/\∃v44 h45,zF zA 23 1 [(0,x43)] h36=some (v44,h45)/\True/\∃v46 h47,za zA 23 h45 v20 v44=some (v46,h47)/\E [(12,v46)] (.exit 2) h47))):=λ_=>by kernel_rfl
theorem zYO {y12 y6:V}:Vy (W81 false) 105 L81 zVG [(12,y12),(6,y6)] d h Q (λE _ _ _ _=>∃x0:Int,zm zA 23 h y12=some (x0:V)/\((255:Int)<x0->E [(4,.nilslice),(5,(21:Int))] .ret h)/\(¬((255:Int)<x0)->∃v1 h2,zh zA ⟨none,.nilCheck (t 0),0, "",#[],none⟩ (λ_=>some y6) h=some (.val v1 h2)/\zS zA 195 0 h2 v1 λv3 h4=>zS zA 120 1 h4 v3 λv5 h6=>∃x7:Int,zK zA 3 h6 v5=some (x7:V)/\((0:Int)<x7->E [(4,.nilslice),(5,(21:Int))] .ret h6)/\(¬((0:Int)<x7)->E [(4,y12),(5,(0:Int))] .ret h6))):=λ_=>by kernel_rfl
theorem zYP :Vy (W81 false) 105 L81 zVH [] d h Q (λ_ _ M S _=>(M [(13,(0:Int)),(12,.nilslice)] zN9 h (Kx (W81 false) zVG 2 S))):=λ_=>by kernel_rfl
theorem z7P  {a0_0:Int}{a1:List UInt8}{a0_1:V}{Q:V->H->Prop}:W81 false b81 ⟨105,zC [(.agg [a0_0,a0_1]),a1] 0 (Tb.leaf zB),[],h⟩ (endW zA ⟨105,[.tmp 4,.tmp 5],b81⟩ Q)=(wh (cond (zL (V.cells (.agg [a0_0,a0_1]))) (Cs.ofL (V.cells (.agg [a0_0,a0_1]))) none) λcs2=>h.nx<T.top/\∀p0 h1,p0=h.nx->h1=h.new (.cells cs2 ⟨0,60,0⟩ true false)->∃x3:Int,∃v4,zK zA 59 h1 (.ptr p0 0)=some (.agg [x3,v4])/\RF Tryz.prog zA 140 [(.agg [x3,v4]),a1] h1 λv5 h6=>∃v7,∃x8:Int,v5=(.tuple [v7,x8])/\(x8≠0->Q (.tuple [.nilslice,x8]) h6)/\(¬(x8≠0)->h6.nx<T.top/\∀p9 h10,p9=h6.nx->h10=h6.new (.cells (.ls [(0:Int),(0:Int)]) ⟨0,127,0⟩ true false)->Lz L81 105 [(4,.nilslice),(5,(0:Int)),(26,(0:Int)),(6,v7),(2,(.ptr p0 0)),(8,(.ptr p9 0))] zUq h10 (Kx (W81 false) zVH 0 (endW zA ⟨105,[.tmp 4,.tmp 5],b81⟩ Q)))):=by kernel_rfl
noncomputable def zEW:Code:=zE Tryz.f142
def zOR:Code:=zg zEW [1,0,1,0,0,1,1,0,0,1,1]
def zOS:Code:=zg zEW [1,0,1,0,0,1,1,1]
def zMy:Code:=zg zEW [1,0,1,0,0]
def zOT:Code:=zg zEW [1,1]
theorem zZ9:(zA.fn.get 142).map zI=some ⟨24,[.tmp 2,.tmp 3],zEW⟩:=by kernel_rfl
def zG3:List Nat:=[2,3,5,8,7,6]
abbrev zEE (b:Bool):Code->St->(AX->St->Prop)->Prop:=wpS Tryz.prog zA zG3 4 b
theorem zTD {y5 y2:Int}:Vy (zEE false) 24 zG3 zOR [(5,y5),(2,y2)] d h Q (λE _ _ _ _=>((y5≠0->E [(2,(zH (y2+1)))] .normal h)/\(¬(y5≠0)->E [] .normal h))):=λ_=>by kernel_rfl
theorem zJX {y8:Int}:Vy (zEE false) 24 zG3 zOS [(8,y8)] d h Q (λE _ _ _ _=>(E [(8,(zH (y8+1)))] .normal h)):=λ_=>by kernel_rfl
theorem zSS {y8 y7:Int}{y6:V}:Vy (zEE false) 24 zG3 zMy [(8,y8),(7,y7),(6,y6)] d h Q (λE _ _ S tm=>((y8<y7->∃p0 o1,z7 zA 23 y6 y8=some (.ptr p0 o1)/\∃x2:Int,zK zA 3 h (.ptr p0 o1)=some (x2:V)/\(x2<0->E [(2,(0:Int)),(3,false),(5,x2)] .ret h)/\(¬(x2<0)->((11:Int)<x2->E [(2,(0:Int)),(3,false),(5,x2)] .ret h)/\(¬((11:Int)<x2)->Gz zG3 tm [(5,x2)] λu=>zEE false zOR ⟨24,u,d,h⟩ (Kx (zEE false) zOS 1 S))))/\(¬(y8<y7)->E [] (.exit 0) h))):=λ_=>by kernel_rfl
theorem zTE {y2:Int}:Vy (zEE false) 24 zG3 zOT [(2,y2)] d h Q (λE _ _ _ _=>(E [(3,true)] .ret h)):=λ_=>by kernel_rfl
theorem z1g  {a0:V}{Q:V->H->Prop}:zEE false zEW ⟨24,zC [a0] 0 (Tb.leaf zB),[],h⟩ (endW zA ⟨24,[.tmp 2,.tmp 3],zEW⟩ Q)=(∃x0:Int,zm zA 23 h a0=some (x0:V)/\Lz zG3 24 [(2,(0:Int)),(3,false),(8,(0:Int)),(7,x0),(6,a0)] zMy h (Kx (zEE false) zOT 0 (endW zA ⟨24,[.tmp 2,.tmp 3],zEW⟩ Q))):=by kernel_rfl
noncomputable def zWQ:Code:=zE Tryz.f209
theorem zZq:(zA.fn.get 209).map zI=some ⟨14,[.tmp 2,.tmp 3],zWQ⟩:=by kernel_rfl
def z3x:List Nat:=[2,3]
abbrev z4y (b:Bool):Code->St->(AX->St->Prop)->Prop:=wpS Tryz.prog zA z3x 4 b
theorem z1x  {a0:Int}{Q:V->H->Prop}:z4y false zWQ ⟨14,zC [a0] 0 (Tb.leaf zB),[],h⟩ (endW zA ⟨14,[.tmp 2,.tmp 3],zWQ⟩ Q)=(RF Tryz.prog zA 145 [(zH (a0+1))] h λv0 h1=>∃x2:Int,v0=x2/\(h1.nx<=T.top/\h1.low<=T.top)/\∃x3:Int,zn .shl .i64 1 x2=some (x3:V)/\Q (.tuple [x2,(zH ((zH (x3-1))-(zH (a0+1))))]) h1):=by kernel_rfl
noncomputable def zWS:Code:=zE Tryz.f213
theorem zZs:(zA.fn.get 213).map zI=some ⟨18,[.cell 2 120,.tmp 3],zWS⟩:=by kernel_rfl
def z3z:List Nat:=[2,3]
abbrev z5A (b:Bool):Code->St->(AX->St->Prop)->Prop:=wpS Tryz.prog zA z3z 4 b
theorem z1z  {a0:List UInt8}{Q:V->H->Prop}:z5A false zWS ⟨18,zC [a0] 0 (Tb.leaf zB),[],h⟩ (endW zA ⟨18,[.cell 2 120,.tmp 3],zWS⟩ Q)=((h.nx<T.top/\∀p0 h1,p0=h.nx->h1=h.new (.cells (.ls [(.str []),(0:Int)]) ⟨0,121,0⟩ true false)->RF Tryz.prog zA 273 [a0] h1 λv2 h3=>∃x4:Int,∃x5:Int,v2=(.tuple [x4,x5])/\(x5≠0->∃h6,zf zA 120 h3 (.ptr p0 0) (.agg [(.str []),(0:Int)])=some h6/\endL zA h6 [(.cell 2 120,(.ptr p0 0)),(.tmp 3,x5)] Q)/\(¬(x5≠0)->∃h7,zf zA 120 h3 (.ptr p0 0) (.agg [a0,x4])=some h7/\endL zA h7 [(.cell 2 120,(.ptr p0 0)),(.tmp 3,(0:Int))] Q))):=by kernel_rfl
noncomputable def zW3:Code:=zE Tryz.f250
theorem z0M:(zA.fn.get 250).map zI=some ⟨7,[.tmp 4],zW3⟩:=by kernel_rfl
def z4K:List Nat:=[4]
abbrev z5L (b:Bool):Code->St->(AX->St->Prop)->Prop:=wpS Tryz.prog zA z4K 4 b
theorem z2S  {a1:Int}{a0:Bool}{Q:V->H->Prop}:z5L false zW3 ⟨7,zC [a0,a1] 0 (Tb.leaf zB),[],h⟩ (endW zA ⟨7,[.tmp 4],zW3⟩ Q)=(ZM a0 λu=>match u with|true=>Q a1 h|false=>Q (0:Int) h):=by kernel_rfl
noncomputable def zBL:Code:=zE Tryz.f273
def z5y:Array Oper:=Y9 (zg zBL [1,1,0,0])
def zOj:Code:=zg zBL [1,1,0,1]
def zH9:Code:=zg zBL [1,1,1]
theorem z0X:(zA.fn.get 273).map zI=some ⟨22,[.tmp 2,.tmp 3],zBL⟩:=by kernel_rfl
def zV9:List Nat:=[2,3,5,4]
abbrev zJi (b:Bool):Code->St->(AX->St->Prop)->Prop:=wpS Tryz.prog zA zV9 4 b
theorem zTh {y5:Int}:Vy (zJi false) 22 zV9 zOj [(5,y5)] d h Q (λE _ _ _ _=>((y5≠0->E [(2,(0:Int)),(3,y5)] .ret h)/\(¬(y5≠0)->E [] .normal h))):=λ_=>by kernel_rfl
theorem zTi {y4:V}:Vy (zJi false) 22 zV9 zH9 [(4,y4)] d h Q (λE _ _ _ _=>∃l0:List UInt8,zK zA 298 h y4=some (.agg [l0])/\RF Tryz.prog zA 306 [(.agg [l0])] h λv1 h2=>∃x3:Int,v1=x3/\E [(2,x3),(3,(0:Int))] .ret h2):=λ_=>by kernel_rfl
theorem z23  {a0:List UInt8}{Q:V->H->Prop}:zJi false zBL ⟨22,zC [a0] 0 (Tb.leaf zB),[],h⟩ (endW zA ⟨22,[.tmp 2,.tmp 3],zBL⟩ Q)=((h.nx<T.top/\∀p0 h1,p0=h.nx->h1=h.new (.cells (.ls [(.str [])]) ⟨0,299,0⟩ true false)->∃h2,zf zA 298 h1 (.ptr p0 0) (.agg [a0])=some h2/\wpDr Tryz.prog zA false z5y.toList ⟨22,(Tb.set (Tb.set (Tb.set (Tb.set (Tb.set (Tb.set (Tb.leaf zB) 0 a0) 2 (0:Int)) 3 (0:Int)) 6 a0) 7 (.agg [a0])) 4 (.ptr p0 0)),[],h2⟩ (thenC (λs1=>zJi false zOj s1 (thenC (λs1=>zJi false zH9 s1 (endW zA ⟨22,[.tmp 2,.tmp 3],zBL⟩ Q)) (endW zA ⟨22,[.tmp 2,.tmp 3],zBL⟩ Q))) (thenC (λs1=>zJi false zH9 s1 (endW zA ⟨22,[.tmp 2,.tmp 3],zBL⟩ Q)) (endW zA ⟨22,[.tmp 2,.tmp 3],zBL⟩ Q))))):=by kernel_rfl
noncomputable def zW8:Code:=zE Tryz.f277
theorem z01:(zA.fn.get 277).map zI=some ⟨6,[.tmp 2],zW8⟩:=by kernel_rfl
def z4P:List Nat:=[2]
abbrev z5Q (b:Bool):Code->St->(AX->St->Prop)->Prop:=wpS Tryz.prog zA z4P 4 b
theorem z27  {a0:Int}{Q:V->H->Prop}:z5Q false zW8 ⟨6,zC [a0] 0 (Tb.leaf zB),[],h⟩ (endW zA ⟨6,[.tmp 2],zW8⟩ Q)=(((a0<0->Q (1:Int) h)/\(¬(a0<0)->Q a0 h))):=by kernel_rfl
noncomputable def zME:Code:=zE Tryz.f306
def zOr:Code:=zg zME [1,1]
theorem z0i:(zA.fn.get 306).map zI=some ⟨31,[.tmp 2],zME⟩:=by kernel_rfl
def zVe:List Nat:=[2,1]
abbrev zVl (b:Bool):Code->St->(AX->St->Prop)->Prop:=wpS Tryz.prog zA zVe 4 b
theorem zTy {y1:V}:Vy (zVl false) 31 zVe zOr [(1,y1)] d h Q (λE _ _ _ _=>((h.nx<=T.top/\h.low<=T.top)/\zS zA 298 0 h y1 λv0 h1=>∃l2:List UInt8,zK zA 9 h1 v0=some (.str l2)/\zS zA 298 0 h1 y1 λv3 h4=>∃l5:List UInt8,zK zA 9 h4 v3=some (.str l5)/\zS zA 298 0 h4 y1 λv6 h7=>∃l8:List UInt8,zK zA 9 h7 v6=some (.str l8)/\∃x9:Int,xl zA 9 l5 (zH ((Int.ofNat (List.length l8))-1))=some (.int .u8 x9)/\RF Tryz.prog zA 322 [(.int .u8 x9)] (zM h7) λv10 h11=>∃x12:Int,v10=x12/\(h7.nx<=h11.low/\h11.nx<=T.top)/\∀h13,h13=yG h7 h11->E [(2,(zH ((zH ((zH (8*(zH ((Int.ofNat (List.length l2))-1))))+x12))-1)))] .ret h13)):=λ_=>by kernel_rfl
theorem z2p  {a0_0:List UInt8}{Q:V->H->Prop}:zVl false zME ⟨31,zC [(.agg [a0_0])] 0 (Tb.leaf zB),[],h⟩ (endW zA ⟨31,[.tmp 2],zME⟩ Q)=((h.nx<T.top/\∀p0 h1,p0=h.nx->h1=h.new (.cells (.ls [a0_0]) ⟨0,299,0⟩ true false)->∃l2:List UInt8,zK zA 9 h1 (.ptr p0 (0+0))=some (.str l2)/\(l2=[]->Q (.int .i64 ((-1))) h1)/\(¬(l2=[])->∃l3:List UInt8,zK zA 9 h1 (.ptr p0 (0+0))=some (.str l3)/\∃l4:List UInt8,zK zA 9 h1 (.ptr p0 (0+0))=some (.str l4)/\∃x5:Int,xl zA 9 l3 (zH ((Int.ofNat (List.length l4))-1))=some (.int .u8 x5)/\(x5=0->Q (.int .i64 ((-1))) h1)/\(¬(x5=0)->Gz zVe (Tb.leaf zB) [(2,(0:Int)),(1,(.ptr p0 0))] λu=>zVl false zOr ⟨31,u,[],h1⟩ (endW zA ⟨31,[.tmp 2],zME⟩ Q))))):=by kernel_rfl
noncomputable def zWl:Code:=zE Tryz.f325
theorem z0v:(zA.fn.get 325).map zI=some ⟨16,[.tmp 4],zWl⟩:=by kernel_rfl
def z42:List Nat:=[4]
abbrev z55 (b:Bool):Code->St->(AX->St->Prop)->Prop:=wpS Tryz.prog zA z42 4 b
theorem z3C  {a1:Int}{a0_0:List UInt8}{Q:V->H->Prop}:z55 false zWl ⟨16,zC [(.agg [a0_0]),a1] 0 (Tb.leaf zB),[],h⟩ (endW zA ⟨16,[.tmp 4],zWl⟩ Q)=((h.nx<T.top/\∀p0 h1,p0=h.nx->h1=h.new (.cells (.ls [a0_0]) ⟨0,299,0⟩ true false)->∃l2:List UInt8,zK zA 9 h1 (.ptr p0 (0+0))=some (.str l2)/\(8:Int)≠0/\∃x3:Int,xl zA 9 l2 (zH (Int.tdiv a1 8))=some (.int .u8 x3)/\(8:Int)≠0/\∃x4:Int,zn .shr .u64 (zT .u64 (x3)) (zT .u64 ((Int.tmod a1 8)))=some (.int .u64 x4)/\∃x5:Int,zn .and .u64 x4 1=some (.int .u64 x5)/\Q (.int .u64 x5) h1)):=by kernel_rfl
noncomputable def zWB:Code:=zE Tryz.f139
theorem zZ6:(zA.fn.get 139).map zI=some ⟨14,[.tmp 2,.tmp 3],zWB⟩:=by kernel_rfl
def z3i:List Nat:=[2,3]
abbrev z4j (b:Bool):Code->St->(AX->St->Prop)->Prop:=wpS Tryz.prog zA z3i 4 b
theorem z1d  {a0_1:Int}{a0_0:List UInt8}{Q:V->H->Prop}:z4j false zWB ⟨14,zC [(.agg [a0_0,a0_1])] 0 (Tb.leaf zB),[],h⟩ (endW zA ⟨14,[.tmp 2,.tmp 3],zWB⟩ Q)=((h.nx<T.top/\∀p0 h1,p0=h.nx->h1=h.new (.cells (.ls [a0_0,a0_1]) ⟨0,113,0⟩ true false)->∃l2:List UInt8,∃x3:Int,zK zA 112 h1 (.ptr p0 0)=some (.agg [l2,x3])/\RF Tryz.prog zA 212 [(.agg [l2,x3])] h1 λv4 h5=>∃x6:Int,v4=x6/\(x6≠0->Q (.tuple [(0:Int),x6]) h5)/\(¬(x6≠0)->∃x7:Int,zK zA 3 h5 (.ptr p0 (0+1))=some (x7:V)/\(8:Int)≠0/\Q (.tuple [(zH (Int.tdiv (zH (x7+7)) 8)),(0:Int)]) h5))):=by kernel_rfl
noncomputable def zWD:Code:=zE Tryz.f141
theorem zZ8:(zA.fn.get 141).map zI=some ⟨27,[.tmp 4,.tmp 5],zWD⟩:=by kernel_rfl
def z3k:List Nat:=[4,5]
abbrev z4l (b:Bool):Code->St->(AX->St->Prop)->Prop:=wpS Tryz.prog zA z3k 4 b
theorem z1f  {a1:Int}{a0:V}{Q:V->H->Prop}:z4l false zWD ⟨27,zC [a0,a1] 0 (Tb.leaf zB),[],h⟩ (endW zA ⟨27,[.tmp 4,.tmp 5],zWD⟩ Q)=(∃v0 h1,zh zA ⟨none,.nilCheck (t 0),0, "",#[],none⟩ (λ_=>some a0) h=some (.val v0 h1)/\zS zA 195 0 h1 v0 λv2 h3=>∃l4:List UInt8,∃x5:Int,zK zA 120 h3 v2=some (.agg [l4,x5])/\RF Tryz.prog zA 215 [(.agg [l4,x5]),a1] h3 λv6 h7=>∃l8:List UInt8,∃x9:Int,∃x10:Int,∃x11:Int,v6=(.tuple [(.agg [l8,x9]),(.int .u64 x10),x11])/\h7.nx<T.top/\∀p12 h13,p12=h7.nx->h13=h7.new (.cells (.ls [(.str []),(0:Int)]) ⟨0,121,0⟩ true false)->∃h14,zf zA 120 h13 (.ptr p12 0) (.agg [l8,x9])=some h14/\(x11≠0->Q (.tuple [(0:Int),false]) h14)/\(¬(x11≠0)->∃l15:List UInt8,∃x16:Int,zK zA 120 h14 (.ptr p12 0)=some (.agg [l15,x16])/\∃v17 h18,zh zA ⟨none,.nilCheck (t 0),0, "",#[],none⟩ (λ_=>some a0) h14=some (.val v17 h18)/\zS zA 195 0 h18 v17 λv19 h20=>∃h21,zf zA 120 h20 v19 (.agg [l15,x16])=some h21/\Q (.tuple [(zH (x10)),true]) h21)):=by kernel_rfl
noncomputable def zWF:Code:=zE Tryz.f145
theorem zZb:(zA.fn.get 145).map zI=some ⟨6,[.tmp 2],zWF⟩:=by kernel_rfl
def z3m:List Nat:=[2]
abbrev z4n (b:Bool):Code->St->(AX->St->Prop)->Prop:=wpS Tryz.prog zA z3m 4 b
theorem z1i  {a0:Int}{Q:V->H->Prop}:z4n false zWF ⟨6,zC [a0] 0 (Tb.leaf zB),[],h⟩ (endW zA ⟨6,[.tmp 2],zWF⟩ Q)=(RF Tryz.prog zA 216 [a0] h λv0 h1=>∃x2:Int,v0=x2/\Q (zH (x2+1)) h1):=by kernel_rfl
noncomputable def zJt:Code:=zE Tryz.f216
def zNF:Code:=zg zJt [1,1,0,1,0,0]
def zO1:Code:=zg zJt [1,1,1]
theorem zZv:(zA.fn.get 216).map zI=some ⟨15,[.tmp 2],zJt⟩:=by kernel_rfl
def zPz:List Nat:=[2,5,0,3]
abbrev zQS (b:Bool):Code->St->(AX->St->Prop)->Prop:=wpS Tryz.prog zA zPz 4 b
theorem zSY {y5 y0:Int}:Vy (zQS false) 15 zPz zNF [(5,y5),(0,y0)] d h Q (λE _ _ _ _=>((y5<63->∃x0:Int,zn .shr .i64 y0 y5=some (x0:V)/\((0:Int)<x0->E [(5,(zH (y5+1))),(3,y5)] .normal h)/\(¬((0:Int)<x0)->E [(5,(zH (y5+1)))] .normal h))/\(¬(y5<63)->E [] (.exit 0) h))):=λ_=>by kernel_rfl
theorem zTX {y3:Int}:Vy (zQS false) 15 zPz zO1 [(3,y3)] d h Q (λE _ _ _ _=>(E [(2,y3)] .ret h)):=λ_=>by kernel_rfl
theorem z2C  {a0:Int}{Q:V->H->Prop}:zQS false zJt ⟨15,zC [a0] 0 (Tb.leaf zB),[],h⟩ (endW zA ⟨15,[.tmp 2],zJt⟩ Q)=((Lz zPz 15 [(2,(0:Int)),(5,(0:Int)),(0,a0),(3,(.int .i64 ((-1))))] zNF h (Kx (zQS false) zO1 0 (endW zA ⟨15,[.tmp 2],zJt⟩ Q)))):=by kernel_rfl
noncomputable def zGi:Code:=zE Tryz.f272
def zD7:Code:=zg zGi [1,1,1]
theorem z0W:(zA.fn.get 272).map zI=some ⟨39,[.cell 4 112,.tmp 5,.tmp 6],zGi⟩:=by kernel_rfl
def zLk:List Nat:=[4,5,6,7,2,1]
abbrev zLm (b:Bool):Code->St->(AX->St->Prop)->Prop:=wpS Tryz.prog zA zLk 4 b
theorem zJ1 {y7 y1:Int}{y4 y2:V}:Vy (zLm false) 39 zLk zD7 [(7,y7),(4,y4),(2,y2),(1,y1)] d h Q (λE _ _ _ _=>((y7≠0->∃h0,zf zA 112 h y4 (.agg [(.str []),(0:Int)])=some h0/\E [(5,(0:Int)),(6,y7)] .ret h0)/\(¬(y7≠0)->∃l1:List UInt8,∃x2:Int,zK zA 112 h y2=some (.agg [l1,x2])/\RF Tryz.prog zA 304 [(.agg [l1,x2]),y1] h λv3 h4=>∃x5:Int,v3=x5/\zS zA 112 1 h4 y2 λv6 h7=>∃x8:Int,zK zA 3 h7 v6=some (x8:V)/\zS zA 112 1 h7 y2 λv9 h10=>∃h11,zf zA 3 h10 v9 (zH (x8+y1))=some h11/\∃l12:List UInt8,∃x13:Int,zK zA 112 h11 y2=some (.agg [l12,x13])/\∃h14,zf zA 112 h11 y4 (.agg [l12,x13])=some h14/\E [(5,x5),(6,(0:Int))] .ret h14))):=λ_=>by kernel_rfl
theorem z22  {a0_1 a1:Int}{a0_0:List UInt8}{Q:V->H->Prop}:zLm false zGi ⟨39,zC [(.agg [a0_0,a0_1]),a1] 0 (Tb.leaf zB),[],h⟩ (endW zA ⟨39,[.cell 4 112,.tmp 5,.tmp 6],zGi⟩ Q)=((h.nx<T.top/\∀p0 h1,p0=h.nx->h1=h.new (.cells (.ls [a0_0,a0_1]) ⟨0,113,0⟩ true false)->h1.nx<T.top/\∀p2 h3,p2=h1.nx->h3=h1.new (.cells (.ls [(.str []),(0:Int)]) ⟨0,113,0⟩ true false)->∃l4:List UInt8,∃x5:Int,zK zA 112 h3 (.ptr p0 0)=some (.agg [l4,x5])/\RF Tryz.prog zA 303 [(.agg [l4,x5]),a1] h3 λv6 h7=>∃x8:Int,v6=x8/\(x8=0->∃l9:List UInt8,zK zA 9 h7 (.ptr p0 (0+0))=some (.str l9)/\∃x10:Int,zK zA 3 h7 (.ptr p0 (0+1))=some (x10:V)/\((zH ((zH (8*(Int.ofNat (List.length l9))))-x10))<a1->Gz zLk (Tb.leaf zB) [(4,(.ptr p2 0)),(5,(0:Int)),(6,(0:Int)),(7,(5:Int)),(2,(.ptr p0 0)),(1,a1)] λu=>zLm false zD7 ⟨39,u,[],h7⟩ (endW zA ⟨39,[.cell 4 112,.tmp 5,.tmp 6],zGi⟩ Q))/\(¬((zH ((zH (8*(Int.ofNat (List.length l9))))-x10))<a1)->Gz zLk (Tb.leaf zB) [(4,(.ptr p2 0)),(5,(0:Int)),(6,(0:Int)),(7,x8),(2,(.ptr p0 0)),(1,a1)] λu=>zLm false zD7 ⟨39,u,[],h7⟩ (endW zA ⟨39,[.cell 4 112,.tmp 5,.tmp 6],zGi⟩ Q)))/\(¬(x8=0)->Gz zLk (Tb.leaf zB) [(4,(.ptr p2 0)),(5,(0:Int)),(6,(0:Int)),(7,x8),(2,(.ptr p0 0)),(1,a1)] λu=>zLm false zD7 ⟨39,u,[],h7⟩ (endW zA ⟨39,[.cell 4 112,.tmp 5,.tmp 6],zGi⟩ Q)))):=by kernel_rfl
noncomputable def zWe:Code:=zE Tryz.f303
theorem z0f:(zA.fn.get 303).map zI=some ⟨19,[.tmp 4],zWe⟩:=by kernel_rfl
def z4V:List Nat:=[4]
abbrev z5W (b:Bool):Code->St->(AX->St->Prop)->Prop:=wpS Tryz.prog zA z4V 4 b
theorem z2m  {a0_1 a1:Int}{a0_0:List UInt8}{Q:V->H->Prop}:z5W false zWe ⟨19,zC [(.agg [a0_0,a0_1]),a1] 0 (Tb.leaf zB),[],h⟩ (endW zA ⟨19,[.tmp 4],zWe⟩ Q)=((h.nx<T.top/\∀p0 h1,p0=h.nx->h1=h.new (.cells (.ls [a0_0,a0_1]) ⟨0,113,0⟩ true false)->∃l2:List UInt8,∃x3:Int,zK zA 112 h1 (.ptr p0 0)=some (.agg [l2,x3])/\RF Tryz.prog zA 212 [(.agg [l2,x3])] h1 λv4 h5=>∃x6:Int,v4=x6/\(x6=0->(a1<0->Q (2:Int) h5)/\(¬(a1<0)->((32:Int)<a1->Q (2:Int) h5)/\(¬((32:Int)<a1)->Q x6 h5)))/\(¬(x6=0)->Q x6 h5))):=by kernel_rfl
noncomputable def zWf:Code:=zE Tryz.f305
theorem z0h:(zA.fn.get 305).map zI=some ⟨7,[.tmp 2],zWf⟩:=by kernel_rfl
def z4W:List Nat:=[2]
abbrev z5X (b:Bool):Code->St->(AX->St->Prop)->Prop:=wpS Tryz.prog zA z4W 4 b
theorem z2o  {a0_0:List UInt8}{Q:V->H->Prop}:z5X false zWf ⟨7,zC [(.agg [a0_0])] 0 (Tb.leaf zB),[],h⟩ (endW zA ⟨7,[.tmp 2],zWf⟩ Q)=((h.nx<T.top/\∀p0 h1,p0=h.nx->h1=h.new (.cells (.ls [a0_0]) ⟨0,299,0⟩ true false)->∃l2:List UInt8,zK zA 9 h1 (.ptr p0 (0+0))=some (.str l2)/\((1048576:Int)<(Int.ofNat (List.length l2))->Q true h1)/\(¬((1048576:Int)<(Int.ofNat (List.length l2)))->Q false h1))):=by kernel_rfl
noncomputable def zKD:Code:=zE Tryz.f309
def zNZ:Code:=zg zKD [1,1,0,1,0,0]
def zOt:Code:=zg zKD [1,1,1]
theorem z0l:(zA.fn.get 309).map zI=some ⟨33,[.tmp 4],zKD⟩:=by kernel_rfl
def zQG:List Nat:=[4,9,8,5,0]
abbrev zQ0 (b:Bool):Code->St->(AX->St->Prop)->Prop:=wpS Tryz.prog zA zQG 4 b
theorem zSh {y9 y8 y5:Int}{y0:V}:Vy (zQ0 false) 33 zQG zNZ [(9,y9),(8,y8),(5,(.int .u64 y5)),(0,y0)] d h Q (λE _ _ _ _=>((y9<y8->∃x0:Int,zn .shl .u64 y5 1=some (.int .u64 x0)/\∃v1 h2,zh zA ⟨none,.nilCheck (t 0),0, "",#[],none⟩ (λ_=>some y0) h=some (.val v1 h2)/\zS zA 360 1 h2 v1 λv3 h4=>∃x5:Int,zK zA 3 h4 v3=some (x5:V)/\((0:Int)<=(zH ((zH (x5-1))-y9))->∃v6 h7,zh zA ⟨none,.nilCheck (t 0),0, "",#[],none⟩ (λ_=>some y0) h4=some (.val v6 h7)/\zS zA 360 0 h7 v6 λv8 h9=>∃l10:List UInt8,zK zA 298 h9 v8=some (.agg [l10])/\RF Tryz.prog zA 325 [(.agg [l10]),(zH ((zH (x5-1))-y9))] h9 λv11 h12=>∃x13:Int,v11=(.int .u64 x13)/\∃x14:Int,zn .or .u64 x0 x13=some (.int .u64 x14)/\E [(9,(zH (y9+1))),(5,(.int .u64 x14))] .normal h12)/\(¬((0:Int)<=(zH ((zH (x5-1))-y9)))->E [(9,(zH (y9+1))),(5,(.int .u64 x0))] .normal h4))/\(¬(y9<y8)->E [] (.exit 0) h))):=λ_=>by kernel_rfl
theorem zUA {y5:Int}:Vy (zQ0 false) 33 zQG zOt [(5,(.int .u64 y5))] d h Q (λE _ _ _ _=>(E [(4,(.int .u64 y5))] .ret h)):=λ_=>by kernel_rfl
theorem z2s  {a1:Int}{a0:V}{Q:V->H->Prop}:zQ0 false zKD ⟨33,zC [a0,a1] 0 (Tb.leaf zB),[],h⟩ (endW zA ⟨33,[.tmp 4],zKD⟩ Q)=((Lz zQG 33 [(4,(.int .u64 0)),(9,(0:Int)),(8,a1),(5,(.int .u64 0)),(0,a0)] zNZ h (Kx (zQ0 false) zOt 0 (endW zA ⟨33,[.tmp 4],zKD⟩ Q)))):=by kernel_rfl
end Go.Proofs.YtnpeieeomokomaaGreat
