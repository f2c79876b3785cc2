/- CF. No condition. -/
import Derived.Test.YtnpeieeomokomaaGreatYCtx
import Derived.Test.YtnpeieeomokomaaGreatYS
import Derived.Test.YtnpeieeomokomaaGreatYW
import Derived.Test.YtnpeieeomokomaaGreatYCD
import Derived.Test.YtnpeieeomokomaaGreatYCT
noncomputable section
namespace Go.Proofs.YtnpeieeomokomaaGreat
open Go.Sim
variable{a1 a2 y1 y11 y2 y6 y7 y8:Int}{a0 y0 y3 y5:V}
theorem zCY:zA.ty.get 220=some ⟨220,(.struct #[⟨ "S",9,0,false, "", "",0⟩,⟨ "Part",3,1,false, "", "",16⟩,⟨ "N",3,2,false, "", "",24⟩]),3,32,some (.agg [(sb []),(ip 0),(ip 0)]),true,false,false,[]⟩:=by kernel_rfl
theorem kC:zA.ty.get 233=some ⟨233,(.slice 235),1,24,some .nilslice,false,false,false,[⟨ "Len",106,#[],some (180,false)⟩,⟨ "Less",288,#[],some (384,false)⟩,⟨ "Swap",290,#[],some (387,false)⟩]⟩:=by kernel_rfl
theorem qp:zA.ty.get 235=some ⟨235,(.pointer 237),1,8,some .nilptr,true,false,false,[⟨ "cheesepress/length.key",427,#[],some (389,true)⟩]⟩:=by kernel_rfl
theorem zJ6:zA.ty.get 239=some ⟨239,(.func #[235,3] #[] false),1,8,some .nilFunc,false,false,false,[]⟩:=by kernel_rfl
theorem zQI:zA.ty.get 296=some ⟨296,(.array 2 127),2,16,some (.agg [(.int .u64 (.ofNat 0)),(.int .u64 (.ofNat 0))]),true,false,false,[]⟩:=by kernel_rfl
theorem zQJ:zA.ty.get 344=some ⟨344,(.slice 296),1,24,some .nilslice,false,false,false,[]⟩:=by kernel_rfl
theorem zJ8:zA.ty.get 346=some ⟨346,(.struct #[⟨ "EncodeTable",216,0,true, "", "",0⟩]),2,32,some (.agg [(ip 0),.nilslice]),false,false,false,[⟨ "cheesepress/encode.cells",347,#[],some (295,false)⟩,⟨ "cheesepress/encode.put",349,#[],some (296,false)⟩]⟩:=by kernel_rfl
noncomputable def zW7:Code:=zE Tryz.f102
theorem z0B:(zA.fn.get 102).map zI=some ⟨23,[.cell 4 59,.tmp 5],zW7⟩:=by kernel_rfl
def z4V:List Nat:=[4,5]
abbrev z5W(b:Bool):Code->St->(AX->St->Prop)->Prop:=wpS Tryz.prog zA z4V 4 b
variable {tm:Tm}{d:List AD}{h:H}{Q:AX->St->Prop}
theorem z2K{Q:V->H->Prop}:z5W false zW7 ⟨23,zC [a0,a1] 0 (Tb.leaf zB),[],h⟩ (endW zA ⟨23,[.cell 4 59,.tmp 5],zW7⟩ Q)=((h.nx<T.top/\∀p0 h1,p0=h.nx->h1=h.new (.cells (.ls [(0:Int),.nilslice]) ⟨0,60,0⟩ true false)->RF Tryz.prog zA 171 [a0,a1] h1 λv2 h3=>∃x4:Int,∃x5:Int,v2=(.tuple [x4,x5])/\(x5≠0->∃h6,zg zA 59 h3 (.ptr p0 0) (.agg [(0:Int),.nilslice])=some h6/\endL zA h6 [(.cell 4 59,(.ptr p0 0)),(.tmp 5,x5)] Q)/\(¬(x5≠0)->RF Tryz.prog zA 172 [a0,x4] h3 λv7 h8=>∃x9:Int,∃v10,∃x11:Int,v7=(.tuple [(.agg [x9,v10]),x11])/\∃h12,zg zA 59 h8 (.ptr p0 0) (.agg [x9,v10])=some h12/\endL zA h12 [(.cell 4 59,(.ptr p0 0)),(.tmp 5,x11)] Q))):=by kernel_rfl
noncomputable def zW8:Code:=zE Tryz.f103
theorem z0C:(zA.fn.get 103).map zI=some ⟨15,[.tmp 2,.tmp 3],zW8⟩:=by kernel_rfl
def z4W:List Nat:=[2,3]
abbrev z5X(b:Bool):Code->St->(AX->St->Prop)->Prop:=wpS Tryz.prog zA z4W 4 b
theorem z2L{a0_0:Int}{a0_1:V}{Q:V->H->Prop}:z5X false zW8 ⟨15,zC [(.agg [a0_0,a0_1])] 0 (Tb.leaf zB),[],h⟩ (endW zA ⟨15,[.tmp 2,.tmp 3],zW8⟩ Q)=(ws (cond (zL (V.cells (.agg [a0_0,a0_1]))) (Cs.ofL (V.cells (.agg [a0_0,a0_1]))) none) λcs2=>h.nx<T.top/\∀p0 h1,p0=h.nx->h1=h.new (.cells cs2 ⟨0,60,0⟩ true false)->∃x3:Int,∃v4,zK zA 59 h1 (.ptr p0 0)=some (.agg [x3,v4])/\RF Tryz.prog zA 173 [(.agg [x3,v4])] h1 λv5 h6=>∃x7:Int,v5=x7/\(x7≠0->Q (.tuple [(.str []),x7]) h6)/\(¬(x7≠0)->∃x8:Int,∃v9,zK zA 59 h6 (.ptr p0 0)=some (.agg [x8,v9])/\RF Tryz.prog zA 175 [(.agg [x8,v9])] h6 λv10 h11=>∃l12:List UInt8,∃x13:Int,∃x14:Int,v10=(.agg [l12,x13,x14])/\RF Tryz.prog zA 174 [(.agg [l12,x13,x14])] h11 λv15 h16=>∃l17:List UInt8,∃x18:Int,v15=(.tuple [l17,x18])/\Q (.tuple [l17,x18]) h16)):=by kernel_rfl
noncomputable def zM0:Code:=zE Tryz.f107
def zOn:Code:=zi zM0 [1,1]
theorem z0G:(zA.fn.get 107).map zI=some ⟨43,[.tmp 2],zM0⟩:=by kernel_rfl
def zWD:List Nat:=[2,0]
abbrev zWQ(b:Bool):Code->St->(AX->St->Prop)->Prop:=wpS Tryz.prog zA zWD 4 b
theorem zTh:Vy (zWQ false) 43 zWD zOn [(0,y0)] d h Q (λE _ _ _ _=>RF Tryz.prog zA 142 [y0] h λv0 h1=>∃x2:Int,∃b3:Bool,v0=(.tuple [x2,b3])/\(b3=true->RF Tryz.prog zA 108 [y0] h1 λv4 h5=>∃x6:Int,v4=x6/\V.one (0:Int)=true/\h5.nx<T.top/\∀p7 h8,p7=h5.nx->h8=h5.new (.cells (.ls [(0:Int)]) ⟨0,4,0⟩ true false)->∃h9,zg zA 3 h8 (.ptr p7 0) x6=some h9/\(h9.nx<=T.top/\h9.low<=T.top)/\∃x10:Int,zp zA 23 h9 y0=some (x10:V)/\∃p11 o12,z8 zA 23 y0 (zG (x10-1))=some (.ptr p11 o12)/\∃x13:Int,zK zA 3 h9 (.ptr p11 o12)=some (x13:V)/\(x13=0->E [(2,(21:Int))] .ret h9)/\(¬(x13=0)->(x2<2->E [(2,(21:Int))] .ret h9)/\(¬(x2<2)->RF Tryz.prog zA 143 [y0,(.func (.func 183) [] [(.ptr p7 0)])] (zM h9) λv14 h15=>∃x16:Int,v14=x16/\(h9.nx<=h15.low/\h15.nx<=T.top)/\∀h17,h17=yL h9 h15->∃x18:Int,zK zA 3 h17 (.ptr p7 0)=some (x18:V)/\∃x19:Int,zq .shl .i64 1 (zT .u64 (x18))=some (x19:V)/\(x16≠x19->E [(2,(21:Int))] .ret h17)/\(¬(x16≠x19)->E [(2,(0:Int))] .ret h17))))/\(b3=false->E [(2,(2:Int))] .ret h1)):=λ_=>by kernel_rfl
theorem z2P{Q:V->H->Prop}:zWQ false zM0 ⟨43,zC [a0] 0 (Tb.leaf zB),[],h⟩ (endW zA ⟨43,[.tmp 2],zM0⟩ Q)=(∃x0:Int,zp zA 23 h a0=some (x0:V)/\(x0<2->Q (4:Int) h)/\(¬(x0<2)->∃x1:Int,zp zA 23 h a0=some (x1:V)/\((256:Int)<x1->Q (4:Int) h)/\(¬((256:Int)<x1)->Gz zWD (Tb.leaf zB) [(2,(0:Int)),(0,a0)] λu=>zWQ false zOn ⟨43,u,[],h⟩ (endW zA ⟨43,[.tmp 2],zM0⟩ Q)))):=by kernel_rfl
noncomputable def zWh:Code:=zE Tryz.f169
theorem z0P:(zA.fn.get 169).map zI=some ⟨15,[.tmp 2],zWh⟩:=by kernel_rfl
def z44:List Nat:=[2]
abbrev z57(b:Bool):Code->St->(AX->St->Prop)->Prop:=wpS Tryz.prog zA z44 4 b
theorem z2Y{Q:V->H->Prop}:z57 false zWh ⟨15,zC [a0] 0 (Tb.leaf zB),[],h⟩ (endW zA ⟨15,[.tmp 2],zWh⟩ Q)=(∃x0:Int,zp zA 23 h a0=some (x0:V)/\((256:Int)<x0->Q (6:Int) h)/\(¬((256:Int)<x0)->RF Tryz.prog zA 234 [a0] h λv1 h2=>∃x3:Int,∃b4:Bool,v1=(.tuple [x3,b4])/\(b4=true->Q (0:Int) h2)/\(b4=false->Q (2:Int) h2))):=by kernel_rfl
noncomputable def zWi:Code:=zE Tryz.f170
theorem zVN:(zA.fn.get 170).map zI=some ⟨4,[.tmp 2],zWi⟩:=by kernel_rfl
def z45:List Nat:=[2]
abbrev z58(b:Bool):Code->St->(AX->St->Prop)->Prop:=wpS Tryz.prog zA z45 4 b
theorem zVw{Q:V->H->Prop}:z58 false zWi ⟨4,zC [a0] 0 (Tb.leaf zB),[],h⟩ (endW zA ⟨4,[.tmp 2],zWi⟩ Q)=((V.one a0=true/\h.nx<T.top/\∀p0 h1,p0=h.nx->h1=h.new (.cells (.ls [a0]) ⟨0,24,0⟩ true false)->Q (.func (.func 235) [] [(.ptr p0 0)]) h1)):=by kernel_rfl
noncomputable def qG:Code:=zE Tryz.f172
def zD7:Code:=zi qG [1,0,1,0,0,1,1,1]
def zD8:Code:=zi qG [1,0,1,1,1,1,1,0,1,0,1,0,1,1]
def O0:Code:=zi qG [1,0,1,1,1,1,1,0,1,0,0]
def zAH:Code:=zi qG [1,0,1,1,1,1,1,0,1,0,1]
def zYF:Code:=zi qG [1,0,1,1,1,1,1,0,1,0]
def zN5:Code:=zi qG [1,0,1,1,1,1,1,1,1,1,0,0,0]
def zOu:Code:=zi qG [1,0,1,1,1,1,1,1,1,1,1]
def zD9:Code:=zi qG [1,0,1,1,1,1,1,1,1]
def zHg:Code:=zi qG [1,0,1,1,1,1,1,1]
def zDa:Code:=zi qG [1,0,1,1]
theorem z0R:(zA.fn.get 172).map zI=some ⟨105,[.cell 4 59,.tmp 5],qG⟩:=by kernel_rfl
def qE:List Nat:=[4,5,28,7,3,11,13,15,12,56,57,14,6,0,55]
abbrev kQ(b:Bool):Code->St->(AX->St->Prop)->Prop:=wpS Tryz.prog zA qE 4 b
theorem zTp{y28:Bool}{y4:V}:Vy (kQ false) 105 qE zD7 [(28,y28),(4,y4),(7,y7),(3,y3)] d h Q (λE _ _ _ _=>ZT y28 λu=>match u with|true=>∃h0,zg zA 59 h y4 (.agg [(0:Int),.nilslice])=some h0/\(E [(5,(31:Int))] .ret h0)|false=>∃x1:Int,zK zA 3 h y3=some (x1:V)/\∃x2:Int,zq .shl .i64 1 (zT .u64 (x1))=some (x2:V)/\(x2<y7->∃h3,zg zA 59 h y4 (.agg [(0:Int),.nilslice])=some h3/\E [(5,(2:Int))] .ret h3)/\(¬(x2<y7)->E [] .normal h)):=λ_=>by kernel_rfl
theorem zTq{y13 y15:Int}{y11 y12:V}:Vy (kQ true) 105 qE (jB zD8) [(11,y11),(13,y13),(15,y15),(12,y12)] d h Q (λE _ _ _ _=>∃v0,zK zA 23 h y11=some v0/\∃p1 o2,z8 zA 23 v0 y13=some (.ptr p1 o2)/\∃h3,zg zA 3 h (.ptr p1 o2) y15=some h3/\(h3.nx<=T.top/\h3.low<=T.top)/\∃x4:Int,zK zA 3 h3 y12=some (x4:V)/\RF Tryz.prog zA 239 [y15] (zM h3) λv5 h6=>∃x7:Int,v5=x7/\(h3.nx<=h6.low/\h6.nx<=T.top)/\∀h8,h8=yL h3 h6->∃h9,zg zA 3 h8 y12 (zG (x4-x7))=some h9/\E [] .normal h9):=λ_=>by kernel_rfl
theorem zSm{y56 y57:V}:Vy (kQ true) 105 qE (jB O0) [(56,y56),(57,y57)] d h Q (λE _ _ _ _=>(E [(13,y56),(14,y57)] .normal h)):=λ_=>by kernel_rfl
theorem zSr{y14:Int}{y6:V}:Vy (kQ true) 105 qE (jB zAH) [(14,y14),(3,y3),(6,y6)] d h Q (λ_ _ _ S tm=>∃x0:Int,zK zA 3 h y3=some (x0:V)/\∃x1:Int,zq .shl .u64 (zT .u64 (y14)) (zT .u64 (x0))=some (.int .u64 x1)/\∃x2:Int,zK zA 3 h y6=some (x2:V)/\(zT .u64 (x2))≠0/\((zG ((zT .u64 (Int.tdiv x1 (zT .u64 (x2))))))=0->Gz qE tm [(15,(.int .i64 ((-1))))] λu=>kQ true (jB zD8) ⟨105,u,d,h⟩ λe s1=>S (ze 2 e) s1)/\(¬((zG ((zT .u64 (Int.tdiv x1 (zT .u64 (x2))))))=0)->Gz qE tm [(15,(zG ((zT .u64 (Int.tdiv x1 (zT .u64 (x2)))))))] λu=>kQ true (jB zD8) ⟨105,u,d,h⟩ λe s1=>S (ze 2 e) s1)):=λ_=>by kernel_rfl
theorem zTB{y12 y11:V}:Vy (kQ false) 105 qE zN5 [(12,y12),(11,y11)] d h Q (λE _ _ _ _=>∃x0:Int,zK zA 3 h y12=some (x0:V)/\(x0=0->E [] (.exit 3) h)/\(¬(x0=0)->(h.nx<=T.top/\h.low<=T.top)/\∃v1,zK zA 23 h y11=some v1/\∃v2,zK zA 23 h y11=some v2/\RF Tryz.prog zA 240 [v2,(.func (.func 241) [] [])] (zM h) λv3 h4=>∃x5:Int,v3=x5/\(h.nx<=h4.low/\h4.nx<=T.top)/\∀h6,h6=yL h h4->∃p7 o8,z8 zA 23 v1 x5=some (.ptr p7 o8)/\∃x9:Int,zK zA 3 h6 (.ptr p7 o8)=some (x9:V)/\∃p10 o11,z8 zA 23 v1 x5=some (.ptr p10 o11)/\∃h12,zg zA 3 h6 (.ptr p10 o11) (zG (x9-1))=some h12/\∃x13:Int,zK zA 3 h12 y12=some (x13:V)/\∃h14,zg zA 3 h12 y12 (zG (x13+1))=some h14/\E [] .normal h14)):=λ_=>by kernel_rfl
theorem zTr{y11 y4:V}:Vy (kQ false) 105 qE zOu [(3,y3),(11,y11),(4,y4)] d h Q (λE _ _ _ _=>∃x0:Int,zK zA 3 h y3=some (x0:V)/\∃v1,zK zA 23 h y11=some v1/\xp zA 59 (xA zA 59 [(0,x0),(1,v1)]) λv2=>∃h3,zg zA 59 h y4 v2=some h3/\E [(5,(0:Int))] .ret h3):=λ_=>by kernel_rfl
theorem zTs :Vy (kQ false) 105 qE zD9 [] d h Q (λ_ _ M S _=>(M [] zN5 h (Kx (kQ false) zOu 3 S))):=λ_=>by kernel_rfl
theorem zTt{y12 y11:V}:Vy (kQ false) 105 qE zHg [(12,y12),(0,y0),(11,y11)] d h Q (λ_ F _ _ _=>∃x0:Int,zK zA 3 h y12=some (x0:V)/\((0:Int)<x0->RF Tryz.prog zA 240 [y0,(.func (.func 241) [] [])] h λv1 h2=>∃x3:Int,v1=x3/\(h2.nx<=T.top/\h2.low<=T.top)/\∃v4,zK zA 23 h2 y11=some v4/\∃v5,zK zA 23 h2 y11=some v5/\∃p6 o7,z8 zA 23 v5 x3=some (.ptr p6 o7)/\∃x8:Int,zK zA 3 h2 (.ptr p6 o7)=some (x8:V)/\RF Tryz.prog zA 239 [x8] (zM h2) λv9 h10=>∃x11:Int,v9=x11/\(h2.nx<=h10.low/\h10.nx<=T.top)/\∀h12,h12=yL h2 h10->∃x13:Int,zK zA 3 h12 y12=some (x13:V)/\∃p14 o15,z8 zA 23 v4 x3=some (.ptr p14 o15)/\∃h16,zg zA 3 h12 (.ptr p14 o15) (zG (x11+x13))=some h16/\∃h17,zg zA 3 h16 y12 (0:Int)=some h17/\F [] zD9 h17)/\(¬((0:Int)<x0)->F [] zD9 h)):=λ_=>by kernel_rfl
theorem zTu:Vy (kQ false) 105 qE zDa [(0,y0),(3,y3)] d h Q (λ_ _ _ S tm=>RF Tryz.prog zA 237 [y0] h λv0 h1=>∃x2:Int,∃x3:Int,v0=(.tuple [x2,x3])/\∃v4 h5,jy zA 23 (zG (x2+1)) (zG (x2+1)) h1=some (v4,h5)/\V.one .nilslice=true/\h5.nx<T.top/\∀p6 h7,p6=h5.nx->h7=h5.new (.cells (.ls [.nilslice]) ⟨0,24,0⟩ true false)->∃h8,zg zA 23 h7 (.ptr p6 0) v4=some h8/\∃x9:Int,zK zA 3 h8 y3=some (x9:V)/\∃x10:Int,zq .shl .i64 1 (zT .u64 (x9))=some (x10:V)/\V.one (0:Int)=true/\h8.nx<T.top/\∀p11 h12,p11=h8.nx->h12=h8.new (.cells (.ls [(0:Int)]) ⟨0,4,0⟩ true false)->∃h13,zg zA 3 h12 (.ptr p11 0) x10=some h13/\RF Tryz.prog zA 238 [y0] h13 λv14 h15=>∃v16,v14=v16/\Gz qE tm [(11,(.ptr p6 0)),(12,(.ptr p11 0)),(55,v16)] λu=>RC Tryz.prog false zYF ⟨105,u,d,h15⟩ (Kx (kQ false) zHg 1 S)):=λ_=>by kernel_rfl
theorem z20{Q:V->H->Prop}:kQ false qG ⟨105,zC [a0,a1] 0 (Tb.leaf zB),[],h⟩ (endW zA ⟨105,[.cell 4 59,.tmp 5],qG⟩ Q)=((V.one a1=true/\h.nx<T.top/\∀p0 h1,p0=h.nx->h1=h.new (.cells (.ls [a1]) ⟨0,4,0⟩ true false)->h1.nx<T.top/\∀p2 h3,p2=h1.nx->h3=h1.new (.cells (.ls [(0:Int),.nilslice]) ⟨0,60,0⟩ true false)->RF Tryz.prog zA 236 [a0] h3 λv4 h5=>∃x6:Int,∃x7:Int,∃x8:Int,v4=(.tuple [x6,x7,x8])/\V.one (0:Int)=true/\h5.nx<T.top/\∀p9 h10,p9=h5.nx->h10=h5.new (.cells (.ls [(0:Int)]) ⟨0,4,0⟩ true false)->∃h11,zg zA 3 h10 (.ptr p9 0) x6=some h11/\(x8≠0->∃h12,zg zA 59 h11 (.ptr p2 0) (.agg [(0:Int),.nilslice])=some h12/\endL zA h12 [(.cell 4 59,(.ptr p2 0)),(.tmp 5,x8)] Q)/\(¬(x8≠0)->∃x13:Int,zK zA 3 h11 (.ptr p0 0)=some (x13:V)/\(x13<5->Gz qE (Tb.leaf zB) [(4,(.ptr p2 0)),(5,(0:Int)),(28,true),(7,x7),(3,(.ptr p0 0)),(6,(.ptr p9 0)),(0,a0)] λu=>kQ false zD7 ⟨105,u,[],h11⟩ λe s1=>(thenC (sealK qE λs1=>kQ false zDa s1 (endW zA ⟨105,[.cell 4 59,.tmp 5],qG⟩ Q)) (endW zA ⟨105,[.cell 4 59,.tmp 5],qG⟩ Q)) (ze 0 e) s1)/\(¬(x13<5)->∃x14:Int,zK zA 3 h11 (.ptr p0 0)=some (x14:V)/\((12:Int)<x14->Gz qE (Tb.leaf zB) [(4,(.ptr p2 0)),(5,(0:Int)),(28,true),(7,x7),(3,(.ptr p0 0)),(6,(.ptr p9 0)),(0,a0)] λu=>kQ false zD7 ⟨105,u,[],h11⟩ λe s1=>(thenC (sealK qE λs1=>kQ false zDa s1 (endW zA ⟨105,[.cell 4 59,.tmp 5],qG⟩ Q)) (endW zA ⟨105,[.cell 4 59,.tmp 5],qG⟩ Q)) (ze 0 e) s1)/\(¬((12:Int)<x14)->Gz qE (Tb.leaf zB) [(4,(.ptr p2 0)),(5,(0:Int)),(28,false),(7,x7),(3,(.ptr p0 0)),(6,(.ptr p9 0)),(0,a0)] λu=>kQ false zD7 ⟨105,u,[],h11⟩ λe s1=>(thenC (sealK qE λs1=>kQ false zDa s1 (endW zA ⟨105,[.cell 4 59,.tmp 5],qG⟩ Q)) (endW zA ⟨105,[.cell 4 59,.tmp 5],qG⟩ Q)) (ze 0 e) s1))))):=by kernel_rfl
noncomputable def zWy:Code:=zE Tryz.f239
theorem z0e:(zA.fn.get 239).map zI=some ⟨6,[.tmp 2],zWy⟩:=by kernel_rfl
def z4m:List Nat:=[2]
abbrev z5o(b:Bool):Code->St->(AX->St->Prop)->Prop:=wpS Tryz.prog zA z4m 4 b
theorem z2o{a0:Int}{Q:V->H->Prop}:z5o false zWy ⟨6,zC [a0] 0 (Tb.leaf zB),[],h⟩ (endW zA ⟨6,[.tmp 2],zWy⟩ Q)=(((a0<0->Q (1:Int) h)/\(¬(a0<0)->Q a0 h))):=by kernel_rfl
noncomputable def zXA:Code:=zE Tryz.f244
theorem z0j:(zA.fn.get 244).map zI=some ⟨29,[.cell 2 209,.tmp 3],zXA⟩:=by kernel_rfl
def z4o:List Nat:=[2,3]
abbrev z5q(b:Bool):Code->St->(AX->St->Prop)->Prop:=wpS Tryz.prog zA z4o 4 b
theorem z2s{a0_1 a0_2:Int}{a0_0:List UInt8}{Q:V->H->Prop}:z5q false zXA ⟨29,zC [(.agg [a0_0,a0_1,a0_2])] 0 (Tb.leaf zB),[],h⟩ (endW zA ⟨29,[.cell 2 209,.tmp 3],zXA⟩ Q)=((h.nx<T.top/\∀p0 h1,p0=h.nx->h1=h.new (.cells (.ls [a0_0,a0_1,a0_2]) ⟨0,210,0⟩ true false)->h1.nx<T.top/\∀p2 h3,p2=h1.nx->h3=h1.new (.cells (.ls [(.str []),(0:Int),(0:Int)]) ⟨0,210,0⟩ true false)->∃l4:List UInt8,∃x5:Int,∃x6:Int,zK zA 209 h3 (.ptr p0 0)=some (.agg [l4,x5,x6])/\RF Tryz.prog zA 287 [(.agg [l4,x5,x6])] h3 λv7 h8=>∃x9:Int,v7=x9/\(x9≠0->∃h10,zg zA 209 h8 (.ptr p2 0) (.agg [(.str []),(0:Int),(0:Int)])=some h10/\endL zA h10 [(.cell 2 209,(.ptr p2 0)),(.tmp 3,x9)] Q)/\(¬(x9≠0)->∃l11:List UInt8,∃x12:Int,∃x13:Int,zK zA 209 h8 (.ptr p0 0)=some (.agg [l11,x12,x13])/\h8.nx<T.top/\∀p14 h15,p14=h8.nx->h15=h8.new (.cells (.ls [l11,x12,x13]) ⟨0,340,0⟩ true false)->∃v16 h17,zh zA ⟨none,.nilCheck (t 0),0, "",#[],none⟩ (λ_=>some (.ptr p14 0)) h15=some (.val v16 h17)/\zR zA 339 0 h17 v16 λv18 h19=>zR zA 209 2 h19 v18 λv20 h21=>∃x22:Int,zK zA 3 h21 v20=some (x22:V)/\(8:Int)≠0/\RF Tryz.prog zA 289 [(0:Int),(.int .i64 (Int.tmod (zG (8-x22)) 8))] h21 λv23 h24=>∃v25,v23=v25/\RF Tryz.prog zA 288 [(.ptr p14 0),v25] h24 λv26 h27=>v26=(.tuple [])/\RF Tryz.prog zA 290 [(.ptr p14 0)] h27 λv28 h29=>∃l30:List UInt8,∃x31:Int,∃x32:Int,∃x33:Int,v28=(.tuple [(.agg [l30,x31,x32]),x33])/\∃h34,zg zA 209 h29 (.ptr p2 0) (.agg [l30,x31,x32])=some h34/\endL zA h34 [(.cell 2 209,(.ptr p2 0)),(.tmp 3,x33)] Q))):=by kernel_rfl
noncomputable def zXF:Code:=zE Tryz.f251
theorem z0q:(zA.fn.get 251).map zI=some ⟨13,[.tmp 2],zXF⟩:=by kernel_rfl
def z4t:List Nat:=[2]
abbrev z5v(b:Bool):Code->St->(AX->St->Prop)->Prop:=wpS Tryz.prog zA z4t 4 b
theorem z2z{a0_1 a0_2:Int}{a0_0:List UInt8}{Q:V->H->Prop}:z5v false zXF ⟨13,zC [(.agg [a0_0,a0_1,a0_2])] 0 (Tb.leaf zB),[],h⟩ (endW zA ⟨13,[.tmp 2],zXF⟩ Q)=((h.nx<T.top/\∀p0 h1,p0=h.nx->h1=h.new (.cells (.ls [a0_0,a0_1,a0_2]) ⟨0,221,0⟩ true false)->∃l2:List UInt8,zK zA 9 h1 (.ptr p0 (0+0))=some (.str l2)/\∃x3:Int,zK zA 3 h1 (.ptr p0 (0+1))=some (x3:V)/\∃x4:Int,zK zA 3 h1 (.ptr p0 (0+2))=some (x4:V)/\h1.nx<T.top/\∀p5 h6,p5=h1.nx->h6=h1.new (.cells (.ls [l2,(.int .u64 (zT .u64 (x3))),x4]) ⟨0,301,0⟩ true false)->Q (.ptr p5 0) h6)):=by kernel_rfl
noncomputable def zKN:Code:=zE Tryz.f253
def zNj:Code:=zi zKN [1,1,1,1,1,0,1,0,0]
def zPO:Code:=zi zKN [1,1,1,1,1,1]
theorem z0s:(zA.fn.get 253).map zI=some ⟨60,[.cell 2 216,.tmp 3],zKN⟩:=by kernel_rfl
def zQf:List Nat:=[2,3,35,34,33,7]
abbrev zQz(b:Bool):Code->St->(AX->St->Prop)->Prop:=wpS Tryz.prog zA zQf 4 b
theorem zTO{y35 y34:Int}{y33 y7:V}:Vy (zQz false) 60 zQf zNj [(35,y35),(34,y34),(33,y33),(7,y7)] d h Q (λE _ _ _ _=>((y35<y34->∃p0 o1,z8 zA 23 y33 y35=some (.ptr p0 o1)/\∃x2:Int,zK zA 3 h (.ptr p0 o1)=some (x2:V)/\zR zA 216 1 h y7 λv3 h4=>∃v5,zK zA 214 h4 v3=some v5/\∃p6 o7,z8 zA 214 v5 x2=some (.ptr p6 o7)/\∃v8,zK zA 23 h4 (.ptr p6 o7)=some v8/\(h4.nx<=T.top/\h4.low<=T.top)/\zR zA 216 1 h4 y7 λv9 h10=>∃v11,zK zA 214 h10 v9=some v11/\∃x12:Int,zp zA 23 h10 v8=some (x12:V)/\∃x13:Int,zp zA 23 h10 v8=some (x13:V)/\∃v14,yB zA 23 h10 v8 none (some (x12:V)) (some (x13:V))=some v14/\∃v15 h16,zF zA 23 1 [(0,y35)] h10=some (v15,h16)/\True/\∃v17 h18,zc zA 23 (zM h16) v14 v15=some (v17,h18)/\(h16.nx<=h18.low/\h18.nx<=T.top)/\∀h19,h19=yL h16 h18->∃p20 o21,z8 zA 214 v11 x2=some (.ptr p20 o21)/\∃h22,zg zA 23 h19 (.ptr p20 o21) v17=some h22/\E [(35,(zG (y35+1)))] .normal h22)/\(¬(y35<y34)->E [] (.exit 0) h))):=λ_=>by kernel_rfl
theorem zUQ{y7 y2:V}:Vy (zQz false) 60 zQf zPO [(7,y7),(2,y2)] d h Q (λE _ _ _ _=>∃x0:Int,∃v1,zK zA 216 h y7=some (.agg [x0,v1])/\∃h2,zg zA 216 h y2 (.agg [x0,v1])=some h2/\E [(3,(0:Int))] .ret h2):=λ_=>by kernel_rfl
theorem z3B{a0_0:Int}{a0_1:V}{Q:V->H->Prop}:zQz false zKN ⟨60,zC [(.agg [a0_0,a0_1])] 0 (Tb.leaf zB),[],h⟩ (endW zA ⟨60,[.cell 2 216,.tmp 3],zKN⟩ Q)=(ws (cond (zL (V.cells (.agg [a0_0,a0_1]))) (Cs.ofL (V.cells (.agg [a0_0,a0_1]))) none) λcs2=>h.nx<T.top/\∀p0 h1,p0=h.nx->h1=h.new (.cells cs2 ⟨0,60,0⟩ true false)->h1.nx<T.top/\∀p3 h4,p3=h1.nx->h4=h1.new (.cells (.ls [(0:Int),.nilslice]) ⟨0,217,0⟩ true false)->∃x5:Int,∃v6,zK zA 59 h4 (.ptr p0 0)=some (.agg [x5,v6])/\RF Tryz.prog zA 173 [(.agg [x5,v6])] h4 λv7 h8=>∃x9:Int,v7=x9/\(x9≠0->∃h10,zg zA 216 h8 (.ptr p3 0) (.agg [(0:Int),.nilslice])=some h10/\endL zA h10 [(.cell 2 216,(.ptr p3 0)),(.tmp 3,x9)] Q)/\(¬(x9≠0)->∃x11:Int,∃v12,zK zA 59 h8 (.ptr p0 0)=some (.agg [x11,v12])/\RF Tryz.prog zA 274 [(.agg [x11,v12])] h8 λv13 h14=>∃v15,∃x16:Int,v13=(.tuple [v15,x16])/\(x16≠0->∃h17,zg zA 216 h14 (.ptr p3 0) (.agg [(0:Int),.nilslice])=some h17/\endL zA h17 [(.cell 2 216,(.ptr p3 0)),(.tmp 3,x16)] Q)/\(¬(x16≠0)->(h14.nx<=T.top/\h14.low<=T.top)/\∃x18:Int,zK zA 3 h14 (.ptr p0 (0+0))=some (x18:V)/\∃v19,zK zA 23 h14 (.ptr p0 (0+1))=some v19/\∃x20:Int,zp zA 23 h14 v19=some (x20:V)/\∃v21 h22,jy zA 214 x20 x20 h14=some (v21,h22)/\xp zA 216 (xA zA 216 [(0,x18),(1,v21)]) λv23=>(h22.nx<T.top/\∀p24 h25,p24=h22.nx->h25=h22.new (.cells (.ls [(0:Int),.nilslice]) ⟨0,217,0⟩ true false)->∃h26,zg zA 216 h25 (.ptr p24 0) v23=some h26/\∃x27:Int,zp zA 23 h26 v15=some (x27:V)/\Lz zQf 60 [(2,(.ptr p3 0)),(3,(0:Int)),(35,(0:Int)),(34,x27),(33,v15),(7,(.ptr p24 0))] zNj h26 (Kx (zQz false) zPO 0 (endW zA ⟨60,[.cell 2 216,.tmp 3],zKN⟩ Q)))))):=by kernel_rfl
noncomputable def zXK:Code:=zE Tryz.f284
theorem z1G:(zA.fn.get 284).map zI=some ⟨18,[.tmp 2,.tmp 3],zXK⟩:=by kernel_rfl
def z4y:List Nat:=[2,3]
abbrev z6A(b:Bool):Code->St->(AX->St->Prop)->Prop:=wpS Tryz.prog zA z4y 4 b
theorem z3P{Q:V->H->Prop}:z6A false zXK ⟨18,zC [a0] 0 (Tb.leaf zB),[],h⟩ (endW zA ⟨18,[.tmp 2,.tmp 3],zXK⟩ Q)=(RF Tryz.prog zA 169 [a0] h λv0 h1=>∃x2:Int,v0=x2/\(x2≠0->Q (.tuple [(0:Int),x2]) h1)/\(¬(x2≠0)->RF Tryz.prog zA 234 [a0] h1 λv3 h4=>∃x5:Int,∃b6:Bool,v3=(.tuple [x5,b6])/\(b6=true->Q (.tuple [x5,(0:Int)]) h4)/\(b6=false->Q (.tuple [x5,(0:Int)]) h4))):=by kernel_rfl
noncomputable def zKP:Code:=zE Tryz.f288
def zNo:Code:=zi zKP [1,0,0]
theorem z1J:(zA.fn.get 288).map zI=some ⟨16,[],zKP⟩:=by kernel_rfl
def zWL:List Nat:=[8,7,6,0]
abbrev zZj(b:Bool):Code->St->(AX->St->Prop)->Prop:=wpS Tryz.prog zA zWL 4 b
theorem zTT{y6:V}:Vy (zZj false) 16 zWL zNo [(8,y8),(7,y7),(6,y6),(0,y0)] d h Q (λE _ _ _ _=>((y8<y7->∃p0 o1,z8 zA 23 y6 y8=some (.ptr p0 o1)/\∃x2:Int,zK zA 3 h (.ptr p0 o1)=some (x2:V)/\RF Tryz.prog zA 310 [y0,x2] h λv3 h4=>v3=(.tuple [])/\E [(8,(zG (y8+1)))] .normal h4)/\(¬(y8<y7)->E [] (.exit 0) h))):=λ_=>by kernel_rfl
theorem z3S{a1:V}{Q:V->H->Prop}:zZj false zKP ⟨16,zC [a0,a1] 0 (Tb.leaf zB),[],h⟩ (endW zA ⟨16,[],zKP⟩ Q)=(∃x0:Int,zp zA 23 h a1=some (x0:V)/\Lz zWL 16 [(8,(0:Int)),(7,x0),(6,a1),(0,a0)] zNo h λe s1=>(endW zA ⟨16,[],zKP⟩ Q) (ze 0 e) s1):=by kernel_rfl
noncomputable def zXM:Code:=zE Tryz.f290
theorem z1L:(zA.fn.get 290).map zI=some ⟨16,[.cell 2 209,.tmp 3],zXM⟩:=by kernel_rfl
def z5A:List Nat:=[2,3]
abbrev z6C(b:Bool):Code->St->(AX->St->Prop)->Prop:=wpS Tryz.prog zA z5A 4 b
theorem z3U{Q:V->H->Prop}:z6C false zXM ⟨16,zC [a0] 0 (Tb.leaf zB),[],h⟩ (endW zA ⟨16,[.cell 2 209,.tmp 3],zXM⟩ Q)=((h.nx<T.top/\∀p0 h1,p0=h.nx->h1=h.new (.cells (.ls [(.str []),(0:Int),(0:Int)]) ⟨0,210,0⟩ true false)->∃v2 h3,zh zA ⟨none,.nilCheck (t 0),0, "",#[],none⟩ (λ_=>some a0) h1=some (.val v2 h3)/\zR zA 339 0 h3 v2 λv4 h5=>zR zA 209 0 h5 v4 λv6 h7=>∃l8:List UInt8,zK zA 9 h7 v6=some (.str l8)/\((1048576:Int)<(Int.ofNat (List.length l8))->∃h9,zg zA 209 h7 (.ptr p0 0) (.agg [(.str []),(0:Int),(0:Int)])=some h9/\endL zA h9 [(.cell 2 209,(.ptr p0 0)),(.tmp 3,(4:Int))] Q)/\(¬((1048576:Int)<(Int.ofNat (List.length l8)))->∃v10 h11,zh zA ⟨none,.nilCheck (t 0),0, "",#[],none⟩ (λ_=>some a0) h7=some (.val v10 h11)/\zR zA 339 0 h11 v10 λv12 h13=>∃l14:List UInt8,∃x15:Int,∃x16:Int,zK zA 209 h13 v12=some (.agg [l14,x15,x16])/\∃h17,zg zA 209 h13 (.ptr p0 0) (.agg [l14,x15,x16])=some h17/\endL zA h17 [(.cell 2 209,(.ptr p0 0)),(.tmp 3,(0:Int))] Q))):=by kernel_rfl
noncomputable def zCs:Code:=zE Tryz.f294
def zNr:Code:=zi zCs [1,1,0,1,0,0]
def zNs:Code:=zi zCs [1,1,1,1,1,1,0,1,0,0]
def zPV:Code:=zi zCs [1,1,1,1,1,1,1]
def zPW:Code:=zi zCs [1,1,1]
def zPX:Code:=zi zCs [1,1]
theorem z1P:(zA.fn.get 294).map zI=some ⟨57,[.tmp 2],zCs⟩:=by kernel_rfl
def zGl:List Nat:=[2,25,24,23,48,47,46,1]
abbrev zCi(b:Bool):Code->St->(AX->St->Prop)->Prop:=wpS Tryz.prog zA zGl 4 b
theorem zTW{y25 y24:Int}{y23:V}:Vy (zCi false) 57 zGl zNr [(25,y25),(24,y24),(23,y23)] d h Q (λE _ _ _ _=>((y25<y24->∃p0 o1,z8 zA 214 y23 y25=some (.ptr p0 o1)/\∃v2,zK zA 23 h (.ptr p0 o1)=some v2/\RF Tryz.prog zA 312 [v2] h λv3 h4=>∃b5:Bool,v3=b5/\(b5=true->E [(25,(zG (y25+1)))] .normal h4)/\(b5=false->E [(2,(3:Int))] .ret h4))/\(¬(y25<y24)->E [] (.exit 0) h))):=λ_=>by kernel_rfl
theorem zTX{y48 y47:Int}{y46:V}:Vy (zCi false) 57 zGl zNs [(48,y48),(47,y47),(46,y46)] d h Q (λE _ _ _ _=>((y48<y47->∃p0 o1,z8 zA 23 y46 y48=some (.ptr p0 o1)/\∃x2:Int,zK zA 3 h (.ptr p0 o1)=some (x2:V)/\(y48≠x2->E [(2,(3:Int))] .ret h)/\(¬(y48≠x2)->E [(48,(zG (y48+1)))] .normal h))/\(¬(y48<y47)->E [] (.exit 2) h))):=λ_=>by kernel_rfl
theorem zUa :Vy (zCi false) 57 zGl zPV [] d h Q (λE _ _ _ _=>(E [(2,(0:Int))] .ret h)):=λ_=>by kernel_rfl
theorem zUb{y1:V}:Vy (zCi false) 57 zGl zPW [(1,y1)] d h Q (λE _ M S _=>zR zA 216 1 h y1 λv0 h1=>∃v2,zK zA 214 h1 v0=some v2/\RF Tryz.prog zA 314 [v2] h1 λv3 h4=>∃v5,v3=v5/\RF Tryz.prog zA 313 [v5] h4 λv6 h7=>∃v8,v6=v8/\RF Tryz.prog zA 315 [v8] h7 λv9 h10=>v9=(.tuple [])/\∃x11:Int,zp zA 23 h10 v8=some (x11:V)/\zR zA 216 0 h10 y1 λv12 h13=>∃x14:Int,zK zA 3 h13 v12=some (x14:V)/\∃x15:Int,zq .shl .i64 1 (zT .u64 (x14))=some (x15:V)/\(x11≠x15->E [(2,(3:Int))] .ret h13)/\(¬(x11≠x15)->∃x16:Int,zp zA 23 h13 v8=some (x16:V)/\M [(48,(0:Int)),(47,x16),(46,v8)] zNs h13 (Kx (zCi false) zPV 2 S))):=λ_=>by kernel_rfl
theorem zUc{y1:V}:Vy (zCi false) 57 zGl zPX [(1,y1)] d h Q (λ_ _ M S _=>zR zA 216 1 h y1 λv0 h1=>∃v2,zK zA 214 h1 v0=some v2/\∃x3:Int,zp zA 214 h1 v2=some (x3:V)/\M [(25,(0:Int)),(24,x3),(23,v2)] zNr h1 (Kx (zCi false) zPW 0 S)):=λ_=>by kernel_rfl
theorem z3Y{a0_0:Int}{a0_1:V}{Q:V->H->Prop}:zCi false zCs ⟨57,zC [(.agg [a0_0,a0_1])] 0 (Tb.leaf zB),[],h⟩ (endW zA ⟨57,[.tmp 2],zCs⟩ Q)=(ws (cond (zL (V.cells (.agg [a0_0,a0_1]))) (Cs.ofL (V.cells (.agg [a0_0,a0_1]))) none) λcs2=>h.nx<T.top/\∀p0 h1,p0=h.nx->h1=h.new (.cells cs2 ⟨0,217,0⟩ true false)->∃x3:Int,zK zA 3 h1 (.ptr p0 (0+0))=some (x3:V)/\(x3<0->Q (2:Int) h1)/\(¬(x3<0)->∃x4:Int,zK zA 3 h1 (.ptr p0 (0+0))=some (x4:V)/\((12:Int)<x4->Q (2:Int) h1)/\(¬((12:Int)<x4)->∃v5,zK zA 214 h1 (.ptr p0 (0+1))=some v5/\∃x6:Int,zp zA 214 h1 v5=some (x6:V)/\((256:Int)<x6->Q (2:Int) h1)/\(¬((256:Int)<x6)->Gz zGl (Tb.leaf zB) [(2,(0:Int)),(1,(.ptr p0 0))] λu=>zCi false zPX ⟨57,u,[],h1⟩ (endW zA ⟨57,[.tmp 2],zCs⟩ Q))))):=by kernel_rfl
noncomputable def zKX:Code:=zE Tryz.f314
def zNy:Code:=zi zKX [1,1,0,1,0,0]
def zP6:Code:=zi zKX [1,1,1]
theorem z13:(zA.fn.get 314).map zI=some ⟨25,[.tmp 2],zKX⟩:=by kernel_rfl
def zQn:List Nat:=[2,11,10,9,3]
abbrev zRH(b:Bool):Code->St->(AX->St->Prop)->Prop:=wpS Tryz.prog zA zQn 4 b
theorem zT3{y10:Int}{y9:V}:Vy (zRH false) 25 zQn zNy [(11,y11),(10,y10),(9,y9),(3,y3)] d h Q (λE _ _ _ _=>((y11<y10->∃p0 o1,z8 zA 214 y9 y11=some (.ptr p0 o1)/\∃v2,zK zA 23 h (.ptr p0 o1)=some v2/\∃v3,yB zA 23 h v2 none (some (.int .i64 0)) (some (.int .i64 0))=some v3/\True/\∃v4 h5,zc zA 23 h v3 v2=some (v4,h5)/\∃p6 o7,z8 zA 214 y3 y11=some (.ptr p6 o7)/\∃h8,zg zA 23 h5 (.ptr p6 o7) v4=some h8/\E [(11,(zG (y11+1)))] .normal h8)/\(¬(y11<y10)->E [] (.exit 0) h))):=λ_=>by kernel_rfl
theorem zUm:Vy (zRH false) 25 zQn zP6 [(3,y3)] d h Q (λE _ _ _ _=>(E [(2,y3)] .ret h)):=λ_=>by kernel_rfl
theorem z3c{Q:V->H->Prop}:zRH false zKX ⟨25,zC [a0] 0 (Tb.leaf zB),[],h⟩ (endW zA ⟨25,[.tmp 2],zKX⟩ Q)=(∃x0:Int,zp zA 214 h a0=some (x0:V)/\∃v1 h2,jy zA 214 x0 x0 h=some (v1,h2)/\∃x3:Int,zp zA 214 h2 a0=some (x3:V)/\Lz zQn 25 [(2,.nilslice),(11,(0:Int)),(10,x3),(9,a0),(3,v1)] zNy h2 (Kx (zRH false) zP6 0 (endW zA ⟨25,[.tmp 2],zKX⟩ Q))):=by kernel_rfl
noncomputable def b20:Code:=zE Tryz.f20
theorem z6t:(zA.fn.get 20).map zI=some ⟨14,[.tmp 2,.tmp 3],b20⟩:=by kernel_rfl
def L20:List Nat:=[2,3]
abbrev W20(b:Bool):Code->St->(AX->St->Prop)->Prop:=wpS Tryz.prog zA L20 4 b
theorem z7d{Q:V->H->Prop}:W20 false b20 ⟨14,zC [a0] 0 (Tb.leaf zB),[],h⟩ (endW zA ⟨14,[.tmp 2,.tmp 3],b20⟩ Q)=(RF Tryz.prog zA 16 [a0] h λv0 h1=>∃l2:List UInt8,∃x3:Int,v0=(.tuple [l2,x3])/\Q (.tuple [(.int .i64 (Int.ofNat (List.length l2))),x3]) h1):=by kernel_rfl
noncomputable def b49:Code:=zE Tryz.f49
def zVZ:Code:=zi b49 [1,1,0,1,0,0]
def zVf:Code:=zi b49 [1,1,1]
theorem z7F:(zA.fn.get 49).map zI=some ⟨33,[.tmp 4,.tmp 5],b49⟩:=by kernel_rfl
def L49:List Nat:=[4,5,11,10,9,1,6,0]
abbrev W49(b:Bool):Code->St->(AX->St->Prop)->Prop:=wpS Tryz.prog zA L49 4 b
theorem zY2{y10:Int}{y6:List UInt8}{y9 y1:V}:Vy (W49 false) 33 L49 zVZ [(11,y11),(10,y10),(9,y9),(1,y1),(6,y6)] d h Q (λE _ _ _ _=>((y11<y10->∃p0 o1,z8 zA 63 y9 y11=some (.ptr p0 o1)/\∃l2:List UInt8,zK zA 9 h (.ptr p0 o1)=some (.str l2)/\(y11=0->E [(11,(zG (y11+1))),(6,l2)] .normal h)/\(¬(y11=0)->yW zA Tryz.prog 3 h (λv3 h4=>yW zA Tryz.prog 3 h4 (λv5 h6=>wh zA .lss 3 (t 21) (t 24) 4 v3 v5 λv7=>xM v7 λu=>match u with|true=>(E [(11,(zG (y11+1))),(6,l2)] .normal h6)|false=>(E [(11,(zG (y11+1)))] .normal h6)) [y6] y1) [l2] y1))/\(¬(y11<y10)->E [] (.exit 0) h))):=λ_=>by kernel_rfl
theorem zYl{y6:List UInt8}:Vy (W49 false) 33 L49 zVf [(6,y6),(0,y0)] d h Q (λE _ _ _ _=>∃x0:Int,zp zA 63 h y0=some (x0:V)/\((0:Int)<x0->E [(4,y6),(5,true)] .ret h)/\(¬((0:Int)<x0)->E [(4,y6),(5,false)] .ret h)):=λ_=>by kernel_rfl
theorem z7o{a1:V}{Q:V->H->Prop}:W49 false b49 ⟨33,zC [a0,a1] 0 (Tb.leaf zB),[],h⟩ (endW zA ⟨33,[.tmp 4,.tmp 5],b49⟩ Q)=(∃x0:Int,zp zA 63 h a0=some (x0:V)/\Lz L49 33 [(4,(.str [])),(5,false),(11,(0:Int)),(10,x0),(9,a0),(1,a1),(6,(.str [])),(0,a0)] zVZ h (Kx (W49 false) zVf 0 (endW zA ⟨33,[.tmp 4,.tmp 5],b49⟩ Q))):=by kernel_rfl
noncomputable def b54:Code:=zE Tryz.f54
theorem z7H:(zA.fn.get 54).map zI=some ⟨65,[.tmp 2,.tmp 3],b54⟩:=by kernel_rfl
def L54:List Nat:=[2,3]
abbrev W54(b:Bool):Code->St->(AX->St->Prop)->Prop:=wpS Tryz.prog zA L54 4 b
theorem z7q{Q:V->H->Prop}:W54 false b54 ⟨65,zC [a0] 0 (Tb.leaf zB),[],h⟩ (endW zA ⟨65,[.tmp 2,.tmp 3],b54⟩ Q)=(RF Tryz.prog zA 100 [a0,(11:Int)] h λv0 h1=>∃v2,∃x3:Int,v0=(.tuple [v2,x3])/\(x3≠0->Q (.tuple [(.str []),x3]) h1)/\(¬(x3≠0)->RF Tryz.prog zA 101 [v2] h1 λv4 h5=>∃x6:Int,∃x7:Int,v4=(.tuple [x6,x7])/\(x6<2->Q (.tuple [(.str []),(7:Int)]) h5)/\(¬(x6<2)->RF Tryz.prog zA 102 [v2,(6:Int)] h5 λv8 h9=>∃x10:Int,∃v11,∃x12:Int,v8=(.tuple [(.agg [x10,v11]),x12])/\h9.nx<T.top/\∀p13 h14,p13=h9.nx->h14=h9.new (.cells (.ls [(0:Int),.nilslice]) ⟨0,60,0⟩ true false)->∃h15,zg zA 59 h14 (.ptr p13 0) (.agg [x10,v11])=some h15/\(x12≠0->Q (.tuple [(.str []),x12]) h15)/\(¬(x12≠0)->∃x16:Int,∃v17,zK zA 59 h15 (.ptr p13 0)=some (.agg [x16,v17])/\RF Tryz.prog zA 103 [(.agg [x16,v17])] h15 λv18 h19=>∃l20:List UInt8,∃x21:Int,v18=(.tuple [l20,x21])/\(x21≠0->Q (.tuple [(.str []),x21]) h19)/\(¬(x21≠0)->∃x22:Int,∃v23,zK zA 59 h19 (.ptr p13 0)=some (.agg [x22,v23])/\RF Tryz.prog zA 104 [(.agg [x22,v23]),a0] h19 λv24 h25=>∃l26:List UInt8,∃x27:Int,v24=(.tuple [l26,x27])/\(x27≠0->Q (.tuple [(.str []),x27]) h25)/\(¬(x27≠0)->List.length l20+List.length l26<=4611686018427387904/\((Int.ofNat (List.length (l20++l26)))<=127->∃v28 h29,zF zA 71 1 [(0,(.int .u8 (zT .u8 ((Int.ofNat (List.length (l20++l26)))))))] h25=some (v28,h29)/\kh zA 71 9 h29 v28 λv30 h31=>wh zA .add 9 (t 62) (t 63) 9 v30 (.str (l20++l26)) λv32=>Q (.tuple [v32,(0:Int)]) h31)/\(¬((Int.ofNat (List.length (l20++l26)))<=127)->Q (.tuple [(.str []),(7:Int)]) h25))))))):=by kernel_rfl
noncomputable def Kk:Code:=zE Tryz.f171
def zD5:Code:=zi Kk [1,1,0,0,1,1,1]
def zHf:Code:=zi Kk [1,1,1,1,1]
def zD6:Code:=zi Kk [1,1,1]
theorem z0Q:(zA.fn.get 171).map zI=some ⟨47,[.tmp 4,.tmp 5],Kk⟩:=by kernel_rfl
def zBH:List Nat:=[4,5,20,7,1,9,6]
abbrev zBL(b:Bool):Code->St->(AX->St->Prop)->Prop:=wpS Tryz.prog zA zBH 4 b
theorem zTn{y20:Bool}:Vy (zBL false) 47 zBH zD5 [(20,y20),(7,y7),(1,y1)] d h Q (λE _ _ _ _=>ZT y20 λu=>match u with|true=>(E [(4,(0:Int)),(5,(31:Int))] .ret h)|false=>∃x0:Int,zq .shl .i64 1 (zT .u64 (y1))=some (x0:V)/\(x0<y7->E [(4,(0:Int)),(5,(2:Int))] .ret h)/\(¬(x0<y7)->E [] .normal h)):=λ_=>by kernel_rfl
theorem zJf{y9:Int}:Vy (zBL false) 47 zBH zHf [(1,y1),(9,y9)] d h Q (λE _ _ _ _=>(E [(4,(.int .i64 (min y1 y9))),(5,(0:Int))] .ret h)):=λ_=>by kernel_rfl
theorem zTo:Vy (zBL false) 47 zBH zD6 [(7,y7),(6,y6)] d h Q (λ_ F _ _ _=>RF Tryz.prog zA 145 [y7] h λv0 h1=>∃x2:Int,v0=x2/\((1:Int)<y6->RF Tryz.prog zA 216 [(zG (y6-1))] h1 λv3 h4=>∃x5:Int,v3=x5/\F [(9,(.int .i64 (max (max 5 x2) (zG (x5-2)))))] zHf h4)/\(¬((1:Int)<y6)->F [(9,(.int .i64 (max 5 x2)))] zHf h1)):=λ_=>by kernel_rfl
theorem z2Z{Q:V->H->Prop}:zBL false Kk ⟨47,zC [a0,a1] 0 (Tb.leaf zB),[],h⟩ (endW zA ⟨47,[.tmp 4,.tmp 5],Kk⟩ Q)=(RF Tryz.prog zA 236 [a0] h λv0 h1=>∃x2:Int,∃x3:Int,∃x4:Int,v0=(.tuple [x2,x3,x4])/\(x4≠0->Q (.tuple [(0:Int),x4]) h1)/\(¬(x4≠0)->(a1<5->Gz zBH (Tb.leaf zB) [(4,(0:Int)),(5,(0:Int)),(20,true),(7,x3),(1,a1),(6,x2)] λu=>zBL false zD5 ⟨47,u,[],h1⟩ λe s1=>(thenC (sealK zBH λs1=>zBL false zD6 s1 (endW zA ⟨47,[.tmp 4,.tmp 5],Kk⟩ Q)) (endW zA ⟨47,[.tmp 4,.tmp 5],Kk⟩ Q)) (ze 0 e) s1)/\(¬(a1<5)->((12:Int)<a1->Gz zBH (Tb.leaf zB) [(4,(0:Int)),(5,(0:Int)),(20,true),(7,x3),(1,a1),(6,x2)] λu=>zBL false zD5 ⟨47,u,[],h1⟩ λe s1=>(thenC (sealK zBH λs1=>zBL false zD6 s1 (endW zA ⟨47,[.tmp 4,.tmp 5],Kk⟩ Q)) (endW zA ⟨47,[.tmp 4,.tmp 5],Kk⟩ Q)) (ze 0 e) s1)/\(¬((12:Int)<a1)->Gz zBH (Tb.leaf zB) [(4,(0:Int)),(5,(0:Int)),(20,false),(7,x3),(1,a1),(6,x2)] λu=>zBL false zD5 ⟨47,u,[],h1⟩ λe s1=>(thenC (sealK zBH λs1=>zBL false zD6 s1 (endW zA ⟨47,[.tmp 4,.tmp 5],Kk⟩ Q)) (endW zA ⟨47,[.tmp 4,.tmp 5],Kk⟩ Q)) (ze 0 e) s1)))):=by kernel_rfl
noncomputable def zWk:Code:=zE Tryz.f176
theorem z0V:(zA.fn.get 176).map zI=some ⟨28,[.tmp 6],zWk⟩:=by kernel_rfl
def z48:List Nat:=[6]
abbrev z5a(b:Bool):Code->St->(AX->St->Prop)->Prop:=wpS Tryz.prog zA z48 4 b
theorem z24{a0_0:Int}{a0_1 a1:V}{Q:V->H->Prop}:z5a false zWk ⟨28,zC [(.agg [a0_0,a0_1]),a1,a2] 0 (Tb.leaf zB),[],h⟩ (endW zA ⟨28,[.tmp 6],zWk⟩ Q)=(ws (cond (zL (V.cells (.agg [a0_0,a0_1]))) (Cs.ofL (V.cells (.agg [a0_0,a0_1]))) none) λcs2=>h.nx<T.top/\∀p0 h1,p0=h.nx->h1=h.new (.cells cs2 ⟨0,60,0⟩ true false)->∃x3:Int,∃v4,zK zA 59 h1 (.ptr p0 0)=some (.agg [x3,v4])/\RF Tryz.prog zA 173 [(.agg [x3,v4])] h1 λv5 h6=>∃x7:Int,v5=x7/\(x7≠0->Q x7 h6)/\(¬(x7≠0)->∃x8:Int,zp zA 23 h6 a1=some (x8:V)/\((100000:Int)<x8->Q (4:Int) h6)/\(¬((100000:Int)<x8)->∃x9:Int,zp zA 23 h6 a1=some (x9:V)/\(x9<a2->Q (5:Int) h6)/\(¬(x9<a2)->∃x10:Int,∃v11,zK zA 59 h6 (.ptr p0 0)=some (.agg [x10,v11])/\RF Tryz.prog zA 247 [(.agg [x10,v11]),a1] h6 λv12 h13=>∃b14:Bool,v12=b14/\(b14=true->Q (0:Int) h13)/\(b14=false->Q (7:Int) h13))))):=by kernel_rfl
noncomputable def O7:Code:=zE Tryz.f178
def zMJ:Code:=zi O7 [1,1,1,1,1,0,1,0,0]
def zNJ:Code:=zi O7 [1,1,1,1,1,0,1,0,1]
def zYG:Code:=zi O7 [1,1,1,1,1,0,1,0]
def zN9:Code:=zi O7 [1,1,1,1,1,1,0,1,0,0]
def zOy:Code:=zi O7 [1,1,1,1,1,1,1]
def zHh:Code:=zi O7 [1,1,1,1,1,1]
theorem z0X:(zA.fn.get 178).map zI=some ⟨86,[.cell 6 220],O7⟩:=by kernel_rfl
def zGj:List Nat:=[6,27,28,12,5,11,7,10,13,9,19,3,26]
abbrev zCf(b:Bool):Code->St->(AX->St->Prop)->Prop:=wpS Tryz.prog zA zGj 4 b
theorem zSn{y27 y28:V}:Vy (zCf true) 86 zGj (jB zMJ) [(27,y27),(28,y28)] d h Q (λE _ _ _ _=>(E [(12,y27),(13,y28)] .normal h)):=λ_=>by kernel_rfl
theorem zSs{y12 y13:Int}{y11 y7 y10 y9:V}:Vy (zCf true) 86 zGj (jB zNJ) [(12,y12),(5,y5),(11,y11),(7,y7),(10,y10),(13,y13),(9,y9)] d h Q (λE _ _ _ _=>∃x0:Int,zK zA 3 h y5=some (x0:V)/\x0≠0/\∃p1 o2,z8 zA 64 y11 (.int .i64 (Int.tmod y12 x0))=some (.ptr p1 o2)/\∃b3:Bool,zK zA 4 h (.ptr p1 o2)=some (.bool b3)/\(b3=true->(h.nx<=T.top/\h.low<=T.top)/\∃x4:Int,∃v5,zK zA 216 h y7=some (.agg [x4,v5])/\∃p6 o7,z8 zA 126 y10 (.int .i64 (Int.tmod y12 x0))=some (.ptr p6 o7)/\∃x8:Int,zK zA 3 h (.ptr p6 o7)=some (x8:V)/\RF Tryz.prog zA 256 [(.agg [x4,v5]),x8,y13] (zM h) λv9 h10=>∃x11:Int,∃x12:Int,∃x13:Int,∃x14:Int,v9=(.tuple [x11,x12,x13,x14])/\h10.nx<=T.top/\∀h15,h15=yL h h10->∃l16:List UInt8,∃x17:Int,∃x18:Int,zK zA 220 h15 y9=some (.agg [l16,x17,x18])/\RF Tryz.prog zA 257 [(.agg [l16,x17,x18]),x12,(.int .u64 (zT .u64 (x13)))] h15 λv19 h20=>∃l21:List UInt8,∃x22:Int,∃x23:Int,∃x24:Int,v19=(.tuple [(.agg [l21,x22,x23]),x24])/\∃h25,zg zA 220 h20 y9 (.agg [l21,x22,x23])=some h25/\∃p26 o27,z8 zA 126 y10 (.int .i64 (Int.tmod y12 x0))=some (.ptr p26 o27)/\∃h28,zg zA 3 h25 (.ptr p26 o27) x11=some h28/\E [] .normal h28)/\(b3=false->∃x29:Int,∃v30,zK zA 216 h y7=some (.agg [x29,v30])/\RF Tryz.prog zA 255 [(.agg [x29,v30]),y13] h λv31 h32=>∃x33:Int,∃x34:Int,v31=(.tuple [x33,x34])/\∃p35 o36,z8 zA 126 y10 (.int .i64 (Int.tmod y12 x0))=some (.ptr p35 o36)/\∃h37,zg zA 3 h32 (.ptr p35 o36) x33=some h37/\∃p38 o39,z8 zA 64 y11 (.int .i64 (Int.tmod y12 x0))=some (.ptr p38 o39)/\∃h40,zg zA 4 h37 (.ptr p38 o39) true=some h40/\E [] .normal h40)):=λ_=>by kernel_rfl
theorem zTF{y19:Int}{y9 y10:V}:Vy (zCf false) 86 zGj zN9 [(19,y19),(9,y9),(3,y3),(10,y10)] d h Q (λE _ _ _ _=>(((0:Int)<=y19->(h.nx<=T.top/\h.low<=T.top)/\∃l0:List UInt8,∃x1:Int,∃x2:Int,zK zA 220 h y9=some (.agg [l0,x1,x2])/\zR zA 59 0 h y3 λv3 h4=>∃x5:Int,zK zA 3 h4 v3=some (x5:V)/\∃p6 o7,z8 zA 126 y10 y19=some (.ptr p6 o7)/\∃x8:Int,zK zA 3 h4 (.ptr p6 o7)=some (x8:V)/\RF Tryz.prog zA 257 [(.agg [l0,x1,x2]),x5,(.int .u64 (zT .u64 (x8)))] (zM h4) λv9 h10=>∃l11:List UInt8,∃x12:Int,∃x13:Int,∃x14:Int,v9=(.tuple [(.agg [l11,x12,x13]),x14])/\h10.nx<=T.top/\∀h15,h15=yL h4 h10->∃h16,zg zA 220 (zM h15) y9 (.agg [l11,x12,x13])=some h16/\h16.nx<=T.top/\∀h17,h17=yL h15 h16->E [(19,(zG (y19-1)))] .normal h17)/\(¬((0:Int)<=y19)->E [] (.exit 2) h))):=λ_=>by kernel_rfl
theorem zUC{y9 y6:V}:Vy (zCf false) 86 zGj zOy [(9,y9),(6,y6)] d h Q (λE _ _ _ _=>∃l0:List UInt8,∃x1:Int,∃x2:Int,zK zA 220 h y9=some (.agg [l0,x1,x2])/\∃h3,zg zA 220 h y6 (.agg [l0,x1,x2])=some h3/\E [] .ret h3):=λ_=>by kernel_rfl
theorem zUD:Vy (zCf false) 86 zGj zHh [(5,y5)] d h Q (λ_ _ M S _=>∃x0:Int,zK zA 3 h y5=some (x0:V)/\M [(19,(zG (x0-1)))] zN9 h (Kx (zCf false) zOy 2 S)):=λ_=>by kernel_rfl
theorem z26{a0_0:Int}{a0_1 a1:V}{Q:V->H->Prop}:zCf false O7 ⟨86,zC [(.agg [a0_0,a0_1]),a1,a2] 0 (Tb.leaf zB),[],h⟩ (endW zA ⟨86,[.cell 6 220],O7⟩ Q)=(ws (cond (zL (V.cells (.agg [a0_0,a0_1]))) (Cs.ofL (V.cells (.agg [a0_0,a0_1]))) none) λcs2=>h.nx<T.top/\∀p0 h1,p0=h.nx->h1=h.new (.cells cs2 ⟨0,60,0⟩ true false)->V.one a2=true/\h1.nx<T.top/\∀p3 h4,p3=h1.nx->h4=h1.new (.cells (.ls [a2]) ⟨0,4,0⟩ true false)->h4.nx<T.top/\∀p5 h6,p5=h4.nx->h6=h4.new (.cells (.ls [(.str []),(0:Int),(0:Int)]) ⟨0,221,0⟩ true false)->∃x7:Int,∃v8,zK zA 59 h6 (.ptr p0 0)=some (.agg [x7,v8])/\RF Tryz.prog zA 253 [(.agg [x7,v8])] h6 λv9 h10=>∃x11:Int,∃v12,∃x13:Int,v9=(.tuple [(.agg [x11,v12]),x13])/\h10.nx<T.top/\∀p14 h15,p14=h10.nx->h15=h10.new (.cells (.ls [(0:Int),.nilslice]) ⟨0,217,0⟩ true false)->∃h16,zg zA 216 h15 (.ptr p14 0) (.agg [x11,v12])=some h16/\h16.nx<T.top/\∀p17 h18,p17=h16.nx->h18=h16.new (.cells (.ls [(.str []),(0:Int),(0:Int)]) ⟨0,221,0⟩ true false)->h18.nx<T.top/\∀p19 h20,p19=h18.nx->h20=h18.new (.cells (.ls [(0:Int),(0:Int)]) ⟨0,127,0⟩ true false)->h20.nx<T.top/\∀p21 h22,p21=h20.nx->h22=h20.new (.cells (.ls [false,false]) ⟨0,65,0⟩ true false)->RF Tryz.prog zA 254 [a1] h22 λv23 h24=>∃v25,v23=v25/\Gz zGj (Tb.leaf zB) [(6,(.ptr p5 0)),(5,(.ptr p3 0)),(11,(.ptr p21 0)),(7,(.ptr p14 0)),(10,(.ptr p19 0)),(9,(.ptr p17 0)),(3,(.ptr p0 0)),(26,v25)] λu=>RC Tryz.prog false zYG ⟨86,u,[],h24⟩ (Kx (zCf false) zHh 0 (endW zA ⟨86,[.cell 6 220],O7⟩ Q))):=by kernel_rfl
noncomputable def zE7:Code:=zE Tryz.f234
def zPB:Code:=zi zE7 [1,0,1,0,0,1,1,0,0,1,1]
def zPC:Code:=zi zE7 [1,0,1,0,0,1,1,1]
def zNb:Code:=zi zE7 [1,0,1,0,0]
def zPD:Code:=zi zE7 [1,1]
theorem z09:(zA.fn.get 234).map zI=some ⟨29,[.tmp 2,.tmp 3],zE7⟩:=by kernel_rfl
def zGk:List Nat:=[2,3,5,8,7,6]
abbrev zEP(b:Bool):Code->St->(AX->St->Prop)->Prop:=wpS Tryz.prog zA zGk 4 b
theorem zUG{y5:Int}:Vy (zEP false) 29 zGk zPB [(2,y2),(5,y5)] d h Q (λE _ _ _ _=>(E [(2,(zG (y2+y5)))] .normal h)):=λ_=>by kernel_rfl
theorem zUH:Vy (zEP false) 29 zGk zPC [(8,y8)] d h Q (λE _ _ _ _=>(E [(8,(zG (y8+1)))] .normal h)):=λ_=>by kernel_rfl
theorem zTH{y6:V}:Vy (zEP false) 29 zGk zNb [(8,y8),(7,y7),(6,y6),(2,y2)] d h Q (λE _ _ S tm=>((y8<y7->∃p0 o1,z8 zA 23 y6 y8=some (.ptr p0 o1)/\∃x2:Int,zK zA 3 h (.ptr p0 o1)=some (x2:V)/\(x2<0->E [(2,(0:Int)),(3,false),(5,x2)] .ret h)/\(¬(x2<0)->((1099511627776:Int)<x2->E [(2,(0:Int)),(3,false),(5,x2)] .ret h)/\(¬((1099511627776:Int)<x2)->((1099511627776:Int)<(zG (y2+x2))->E [(2,(0:Int)),(3,false),(5,x2)] .ret h)/\(¬((1099511627776:Int)<(zG (y2+x2)))->Gz zGk tm [(5,x2)] λu=>zEP false zPB ⟨29,u,d,h⟩ (Kx (zEP false) zPC 1 S)))))/\(¬(y8<y7)->E [] (.exit 0) h))):=λ_=>by kernel_rfl
theorem zUI:Vy (zEP false) 29 zGk zPD [(2,y2)] d h Q (λE _ _ _ _=>(E [(3,true)] .ret h)):=λ_=>by kernel_rfl
theorem z2j{Q:V->H->Prop}:zEP false zE7 ⟨29,zC [a0] 0 (Tb.leaf zB),[],h⟩ (endW zA ⟨29,[.tmp 2,.tmp 3],zE7⟩ Q)=(∃x0:Int,zp zA 23 h a0=some (x0:V)/\Lz zGk 29 [(2,(0:Int)),(3,false),(8,(0:Int)),(7,x0),(6,a0)] zNb h (Kx (zEP false) zPD 0 (endW zA ⟨29,[.tmp 2,.tmp 3],zE7⟩ Q))):=by kernel_rfl
noncomputable def zCp:Code:=zE Tryz.f237
def zMK:Code:=zi zCp [1,1,1,0,1,0,0]
def zNK:Code:=zi zCp [1,1,1,0,1,0,1]
def zYH:Code:=zi zCp [1,1,1,0,1,0]
def zHi:Code:=zi zCp [1,1,1,1]
theorem z0c:(zA.fn.get 237).map zI=some ⟨20,[.tmp 2,.tmp 3],zCp⟩:=by kernel_rfl
def zMB:List Nat:=[2,3,14,6,5,13]
abbrev zJu(b:Bool):Code->St->(AX->St->Prop)->Prop:=wpS Tryz.prog zA zMB 4 b
theorem zSo{y14:V}:Vy (zJu true) 20 zMB (jB zMK) [(14,y14)] d h Q (λE _ _ _ _=>(E [(6,y14)] .normal h)):=λ_=>by kernel_rfl
theorem zSt:Vy (zJu true) 20 zMB (jB zNK) [(6,y6),(5,y5)] d h Q (λE _ _ _ _=>∃h0,zg zA 3 h y5 y6=some h0/\E [] .normal h0):=λ_=>by kernel_rfl
theorem zUJ:Vy (zJu false) 20 zMB zHi [(5,y5)] d h Q (λE _ _ _ _=>∃x0:Int,zK zA 3 h y5=some (x0:V)/\(x0<0->E [(2,(0:Int)),(3,(7:Int))] .ret h)/\(¬(x0<0)->∃x1:Int,zK zA 3 h y5=some (x1:V)/\E [(2,x1),(3,(0:Int))] .ret h)):=λ_=>by kernel_rfl
theorem z2m{Q:V->H->Prop}:zJu false zCp ⟨20,zC [a0] 0 (Tb.leaf zB),[],h⟩ (endW zA ⟨20,[.tmp 2,.tmp 3],zCp⟩ Q)=(RF Tryz.prog zA 169 [a0] h λv0 h1=>∃x2:Int,v0=x2/\(x2≠0->Q (.tuple [(0:Int),x2]) h1)/\(¬(x2≠0)->V.one (0:Int)=true/\h1.nx<T.top/\∀p3 h4,p3=h1.nx->h4=h1.new (.cells (.ls [(0:Int)]) ⟨0,4,0⟩ true false)->∃h5,zg zA 3 h4 (.ptr p3 0) (.int .i64 ((-1)))=some h5/\RF Tryz.prog zA 170 [a0] h5 λv6 h7=>∃v8,v6=v8/\Gz zMB (Tb.leaf zB) [(2,(0:Int)),(3,(0:Int)),(5,(.ptr p3 0)),(13,v8)] λu=>RC Tryz.prog false zYH ⟨20,u,[],h7⟩ (Kx (zJu false) zHi 0 (endW zA ⟨20,[.tmp 2,.tmp 3],zCp⟩ Q)))):=by kernel_rfl
noncomputable def zXC:Code:=zE Tryz.f247
theorem z0m:(zA.fn.get 247).map zI=some ⟨9,[.tmp 4],zXC⟩:=by kernel_rfl
def z4q:List Nat:=[4]
abbrev z5s(b:Bool):Code->St->(AX->St->Prop)->Prop:=wpS Tryz.prog zA z4q 4 b
theorem z2v{a0_0:Int}{a0_1 a1:V}{Q:V->H->Prop}:z5s false zXC ⟨9,zC [(.agg [a0_0,a0_1]),a1] 0 (Tb.leaf zB),[],h⟩ (endW zA ⟨9,[.tmp 4],zXC⟩ Q)=(ws (cond (zL (V.cells (.agg [a0_0,a0_1]))) (Cs.ofL (V.cells (.agg [a0_0,a0_1]))) none) λcs2=>h.nx<T.top/\∀p0 h1,p0=h.nx->h1=h.new (.cells cs2 ⟨0,60,0⟩ true false)->RF Tryz.prog zA 291 [a1,(.func (.func 292) [] [(.ptr p0 0)])] h1 λv3 h4=>∃b5:Bool,v3=b5/\(b5=true->Q false h4)/\(b5=false->Q true h4)):=by kernel_rfl
noncomputable def zXD:Code:=zE Tryz.f249
theorem z0o:(zA.fn.get 249).map zI=some ⟨33,[.tmp 2],zXD⟩:=by kernel_rfl
def z4r:List Nat:=[2]
abbrev z5t(b:Bool):Code->St->(AX->St->Prop)->Prop:=wpS Tryz.prog zA z4r 4 b
theorem z2x{a0_1 a0_2:Int}{a0_0:List UInt8}{Q:V->H->Prop}:z5t false zXD ⟨33,zC [(.agg [a0_0,a0_1,a0_2])] 0 (Tb.leaf zB),[],h⟩ (endW zA ⟨33,[.tmp 2],zXD⟩ Q)=((h.nx<T.top/\∀p0 h1,p0=h.nx->h1=h.new (.cells (.ls [a0_0,a0_1,a0_2]) ⟨0,221,0⟩ true false)->∃x2:Int,zK zA 3 h1 (.ptr p0 (0+2))=some (x2:V)/\(x2<0->RF Tryz.prog zA 250 [true,(10:Int)] h1 λv3 h4=>∃x5:Int,v3=x5/\Q x5 h4)/\(¬(x2<0)->∃x6:Int,zK zA 3 h1 (.ptr p0 (0+2))=some (x6:V)/\((7:Int)<x6->RF Tryz.prog zA 250 [true,(10:Int)] h1 λv7 h8=>∃x9:Int,v7=x9/\Q x9 h8)/\(¬((7:Int)<x6)->∃x10:Int,zK zA 3 h1 (.ptr p0 (0+1))=some (x10:V)/\(x10<0->RF Tryz.prog zA 250 [true,(10:Int)] h1 λv11 h12=>∃x13:Int,v11=x13/\Q x13 h12)/\(¬(x10<0)->∃x14:Int,zK zA 3 h1 (.ptr p0 (0+1))=some (x14:V)/\∃x15:Int,zK zA 3 h1 (.ptr p0 (0+2))=some (x15:V)/\∃x16:Int,zq .and .i64 x15 7=some (x16:V)/\∃x17:Int,zq .shl .i64 1 (zT .u64 (x16))=some (x17:V)/\(x17<=x14->RF Tryz.prog zA 250 [true,(10:Int)] h1 λv18 h19=>∃x20:Int,v18=x20/\Q x20 h19)/\(¬(x17<=x14)->∃l21:List UInt8,zK zA 9 h1 (.ptr p0 (0+0))=some (.str l21)/\((1048576:Int)<(Int.ofNat (List.length l21))->RF Tryz.prog zA 250 [true,(10:Int)] h1 λv22 h23=>∃x24:Int,v22=x24/\Q x24 h23)/\(¬((1048576:Int)<(Int.ofNat (List.length l21)))->RF Tryz.prog zA 250 [false,(10:Int)] h1 λv25 h26=>∃x27:Int,v25=x27/\Q x27 h26))))))):=by kernel_rfl
noncomputable def zXG:Code:=zE Tryz.f254
theorem z0t:(zA.fn.get 254).map zI=some ⟨4,[.tmp 2],zXG⟩:=by kernel_rfl
def z4u:List Nat:=[2]
abbrev z5w(b:Bool):Code->St->(AX->St->Prop)->Prop:=wpS Tryz.prog zA z4u 4 b
theorem z3C{Q:V->H->Prop}:z5w false zXG ⟨4,zC [a0] 0 (Tb.leaf zB),[],h⟩ (endW zA ⟨4,[.tmp 2],zXG⟩ Q)=((V.one a0=true/\h.nx<T.top/\∀p0 h1,p0=h.nx->h1=h.new (.cells (.ls [a0]) ⟨0,24,0⟩ true false)->Q (.func (.func 293) [] [(.ptr p0 0)]) h1)):=by kernel_rfl
noncomputable def O8:Code:=zE Tryz.f256
def zDd:Code:=zi O8 [1,1,1,0,0,1]
def zDe:Code:=zi O8 [1,1,1,1]
theorem z0v:(zA.fn.get 256).map zI=some ⟨47,[.tmp 6,.tmp 7,.tmp 8,.tmp 9],O8⟩:=by kernel_rfl
def zCb:List Nat:=[6,7,8,9,19,11,2,1]
abbrev zCg(b:Bool):Code->St->(AX->St->Prop)->Prop:=wpS Tryz.prog zA zCb 4 b
theorem zUR{y19:Bool}{y11:V}:Vy (zCg false) 47 zCb zDd [(19,y19),(11,y11),(2,y2)] d h Q (λE _ _ _ _=>ZT y19 λu=>match u with|true=>(E [(6,(0:Int)),(7,(0:Int)),(8,(0:Int)),(9,(2:Int))] .ret h)|false=>∃x0:Int,∃v1,zK zA 346 h y11=some (.agg [x0,v1])/\RF Tryz.prog zA 295 [(.agg [x0,v1]),y2] h λv2 h3=>∃v4,v2=v4/\∃x5:Int,zp zA 23 h3 v4=some (x5:V)/\(x5=0->E [(6,(0:Int)),(7,(0:Int)),(8,(0:Int)),(9,(7:Int))] .ret h3)/\(¬(x5=0)->E [] .normal h3)):=λ_=>by kernel_rfl
theorem zUS{y11:V}:Vy (zCg false) 47 zCb zDe [(11,y11),(1,y1),(2,y2)] d h Q (λE _ _ _ _=>∃x0:Int,∃v1,zK zA 346 h y11=some (.agg [x0,v1])/\RF Tryz.prog zA 296 [(.agg [x0,v1]),y1,y2] h λv2 h3=>∃x4:Int,∃x5:Int,∃x6:Int,v2=(.tuple [x4,x5,x6])/\E [(6,x4),(7,x5),(8,x6),(9,(0:Int))] .ret h3):=λ_=>by kernel_rfl
theorem z3E{a0_0:Int}{a0_1:V}{Q:V->H->Prop}:zCg false O8 ⟨47,zC [(.agg [a0_0,a0_1]),a1,a2] 0 (Tb.leaf zB),[],h⟩ (endW zA ⟨47,[.tmp 6,.tmp 7,.tmp 8,.tmp 9],O8⟩ Q)=(ws (cond (zL (V.cells (.agg [a0_0,a0_1]))) (Cs.ofL (V.cells (.agg [a0_0,a0_1]))) none) λcs2=>h.nx<T.top/\∀p0 h1,p0=h.nx->h1=h.new (.cells cs2 ⟨0,217,0⟩ true false)->∃x3:Int,∃v4,zK zA 216 h1 (.ptr p0 0)=some (.agg [x3,v4])/\RF Tryz.prog zA 294 [(.agg [x3,v4])] h1 λv5 h6=>∃x7:Int,v5=x7/\(x7≠0->Q (.tuple [(0:Int),(0:Int),(0:Int),x7]) h6)/\(¬(x7≠0)->∃x8:Int,∃v9,zK zA 216 h6 (.ptr p0 0)=some (.agg [x8,v9])/\h6.nx<T.top/\∀p10 h11,p10=h6.nx->h11=h6.new (.cells (.ls [(0:Int),.nilslice]) ⟨0,347,0⟩ true false)->∃h12,zg zA 346 h11 (.ptr p10 0) (.agg [x8,v9])=some h12/\(a1<0->Gz zCb (Tb.leaf zB) [(6,(0:Int)),(7,(0:Int)),(8,(0:Int)),(9,(0:Int)),(19,true),(11,(.ptr p10 0)),(2,a2),(1,a1)] λu=>zCg false zDd ⟨47,u,[],h12⟩ λe s1=>(thenC (sealK zCb λs1=>zCg false zDe s1 (endW zA ⟨47,[.tmp 6,.tmp 7,.tmp 8,.tmp 9],O8⟩ Q)) (endW zA ⟨47,[.tmp 6,.tmp 7,.tmp 8,.tmp 9],O8⟩ Q)) (ze 0 e) s1)/\(¬(a1<0)->∃x13:Int,zK zA 3 h12 (.ptr p0 (0+0))=some (x13:V)/\∃x14:Int,zq .shl .i64 1 (zT .u64 (x13))=some (x14:V)/\(x14<=a1->Gz zCb (Tb.leaf zB) [(6,(0:Int)),(7,(0:Int)),(8,(0:Int)),(9,(0:Int)),(19,true),(11,(.ptr p10 0)),(2,a2),(1,a1)] λu=>zCg false zDd ⟨47,u,[],h12⟩ λe s1=>(thenC (sealK zCb λs1=>zCg false zDe s1 (endW zA ⟨47,[.tmp 6,.tmp 7,.tmp 8,.tmp 9],O8⟩ Q)) (endW zA ⟨47,[.tmp 6,.tmp 7,.tmp 8,.tmp 9],O8⟩ Q)) (ze 0 e) s1)/\(¬(x14<=a1)->Gz zCb (Tb.leaf zB) [(6,(0:Int)),(7,(0:Int)),(8,(0:Int)),(9,(0:Int)),(19,false),(11,(.ptr p10 0)),(2,a2),(1,a1)] λu=>zCg false zDd ⟨47,u,[],h12⟩ λe s1=>(thenC (sealK zCb λs1=>zCg false zDe s1 (endW zA ⟨47,[.tmp 6,.tmp 7,.tmp 8,.tmp 9],O8⟩ Q)) (endW zA ⟨47,[.tmp 6,.tmp 7,.tmp 8,.tmp 9],O8⟩ Q)) (ze 0 e) s1)))):=by kernel_rfl
noncomputable def zKQ:Code:=zE Tryz.f289
def zNp:Code:=zi zKQ [1,1,0,1,0,0]
def zPU:Code:=zi zKQ [1,1,1]
theorem z1K:(zA.fn.get 289).map zI=some ⟨23,[.tmp 4],zKQ⟩:=by kernel_rfl
def zQg:List Nat:=[4,10,9,5,0]
abbrev zRB(b:Bool):Code->St->(AX->St->Prop)->Prop:=wpS Tryz.prog zA zQg 4 b
theorem zTU{y10 y9 y0:Int}:Vy (zRB false) 23 zQg zNp [(10,y10),(9,y9),(5,y5),(0,y0)] d h Q (λE _ _ _ _=>((y10<y9->∃x0:Int,zq .shr .i64 y0 (zT .u64 (y10))=some (x0:V)/\∃x1:Int,zq .and .i64 x0 1=some (x1:V)/\∃p2 o3,z8 zA 23 y5 y10=some (.ptr p2 o3)/\∃h4,zg zA 3 h (.ptr p2 o3) x1=some h4/\E [(10,(zG (y10+1)))] .normal h4)/\(¬(y10<y9)->E [] (.exit 0) h))):=λ_=>by kernel_rfl
theorem zU9:Vy (zRB false) 23 zQg zPU [(5,y5)] d h Q (λE _ _ _ _=>(E [(4,y5)] .ret h)):=λ_=>by kernel_rfl
theorem z3T{a0:Int}{Q:V->H->Prop}:zRB false zKQ ⟨23,zC [a0,a1] 0 (Tb.leaf zB),[],h⟩ (endW zA ⟨23,[.tmp 4],zKQ⟩ Q)=(∃v0 h1,jy zA 23 a1 a1 h=some (v0,h1)/\Lz zQg 23 [(4,.nilslice),(10,(0:Int)),(9,a1),(5,v0),(0,a0)] zNp h1 (Kx (zRB false) zPU 0 (endW zA ⟨23,[.tmp 4],zKQ⟩ Q))):=by kernel_rfl
noncomputable def zKR:Code:=zE Tryz.f293
def zNq:Code:=zi zKR [1,0,0]
theorem z1O:(zA.fn.get 293).map zI=some ⟨19,[],zKR⟩:=by kernel_rfl
def zWM:List Nat:=[3,0,1]
abbrev zZk(b:Bool):Code->St->(AX->St->Prop)->Prop:=wpS Tryz.prog zA zWM 4 b
theorem zTV{y3:Int}{y1:V}:Vy (zZk false) 19 zWM zNq [(3,y3),(0,y0),(1,y1)] d h Q (λE _ _ _ _=>(((0:Int)<=y3->∃v0,zK zA 23 h y1=some v0/\∃p1 o2,z8 zA 23 v0 y3=some (.ptr p1 o2)/\∃x3:Int,zK zA 3 h (.ptr p1 o2)=some (x3:V)/\yW zA Tryz.prog 4 h (λv4 h5=>zBC .not v4 λv6=>xM v6 λu=>match u with|true=>(E [] .ret h5)|false=>(E [(3,(zG (y3-1)))] .normal h5)) [y3,x3] y0)/\(¬((0:Int)<=y3)->E [] (.exit 0) h))):=λ_=>by kernel_rfl
theorem z3X{a1:V}{Q:V->H->Prop}:zZk false zKR ⟨19,zC [a0,a1] 0 (Tb.leaf zB),[],h⟩ (endW zA ⟨19,[],zKR⟩ Q)=(∃v0,zK zA 23 h a1=some v0/\∃x1:Int,zp zA 23 h v0=some (x1:V)/\Lz zWM 19 [(3,(zG (x1-1))),(0,a0),(1,a1)] zNq h λe s1=>(endW zA ⟨19,[],zKR⟩ Q) (ze 0 e) s1):=by kernel_rfl
noncomputable def zXS:Code:=zE Tryz.f310
theorem z1Z:(zA.fn.get 310).map zI=some ⟨61,[],zXS⟩:=by kernel_rfl
def z5G:List Nat:=[]
abbrev z6I(b:Bool):Code->St->(AX->St->Prop)->Prop:=wpS Tryz.prog zA z5G 4 b
theorem z38{Q:V->H->Prop}:z6I false zXS ⟨61,zC [a0,a1] 0 (Tb.leaf zB),[],h⟩ (endW zA ⟨61,[],zXS⟩ Q)=(((h.nx<=T.top/\h.low<=T.top)/\∃v0 h1,zh zA ⟨none,.nilCheck (t 0),0, "",#[],none⟩ (λ_=>some a0) (zM h)=some (.val v0 h1)/\(h.nx<=h1.low/\h1.nx<=T.top)/\∀h2,h2=yL h h1->zR zA 339 0 h2 v0 λv3 h4=>zR zA 209 1 h4 v3 λv5 h6=>∃x7:Int,zK zA 3 h6 v5=some (x7:V)/\∃v8 h9,zh zA ⟨none,.nilCheck (t 0),0, "",#[],none⟩ (λ_=>some a0) (zM h6)=some (.val v8 h9)/\(h6.nx<=h9.low/\h9.nx<=T.top)/\∀h10,h10=yL h6 h9->zR zA 339 0 h10 v8 λv11 h12=>zR zA 209 2 h12 v11 λv13 h14=>∃x15:Int,zK zA 3 h14 v13=some (x15:V)/\∃x16:Int,zq .shl .i64 a1 (zT .u64 (x15))=some (x16:V)/\∃x17:Int,zq .or .i64 x7 x16=some (x17:V)/\∃v18 h19,zh zA ⟨none,.nilCheck (t 0),0, "",#[],none⟩ (λ_=>some a0) h14=some (.val v18 h19)/\zR zA 339 0 h19 v18 λv20 h21=>zR zA 209 1 h21 v20 λv22 h23=>∃h24,zg zA 3 h23 v22 x17=some h24/\∃v25 h26,zh zA ⟨none,.nilCheck (t 0),0, "",#[],none⟩ (λ_=>some a0) h24=some (.val v25 h26)/\zR zA 339 0 h26 v25 λv27 h28=>zR zA 209 2 h28 v27 λv29 h30=>∃x31:Int,zK zA 3 h30 v29=some (x31:V)/\∃v32 h33,zh zA ⟨none,.nilCheck (t 0),0, "",#[],none⟩ (λ_=>some a0) h30=some (.val v32 h33)/\zR zA 339 0 h33 v32 λv34 h35=>zR zA 209 2 h35 v34 λv36 h37=>∃h38,zg zA 3 h37 v36 (zG (x31+1))=some h38/\∃v39 h40,zh zA ⟨none,.nilCheck (t 0),0, "",#[],none⟩ (λ_=>some a0) h38=some (.val v39 h40)/\zR zA 339 0 h40 v39 λv41 h42=>zR zA 209 2 h42 v41 λv43 h44=>∃x45:Int,zK zA 3 h44 v43=some (x45:V)/\(x45=8->(h44.nx<=T.top/\h44.low<=T.top)/\∃v46 h47,zh zA ⟨none,.nilCheck (t 0),0, "",#[],none⟩ (λ_=>some a0) (zM h44)=some (.val v46 h47)/\(h44.nx<=h47.low/\h47.nx<=T.top)/\∀h48,h48=yL h44 h47->zR zA 339 0 h48 v46 λv49 h50=>zR zA 209 0 h50 v49 λv51 h52=>∃l53:List UInt8,zK zA 9 h52 v51=some (.str l53)/\∃v54 h55,zh zA ⟨none,.nilCheck (t 0),0, "",#[],none⟩ (λ_=>some a0) (zM h52)=some (.val v54 h55)/\(h52.nx<=h55.low/\h55.nx<=T.top)/\∀h56,h56=yL h52 h55->zR zA 339 0 h56 v54 λv57 h58=>zR zA 209 1 h58 v57 λv59 h60=>∃x61:Int,zK zA 3 h60 v59=some (x61:V)/\∃v62 h63,zF zA 71 1 [(0,(.int .u8 (zT .u8 (x61))))] h60=some (v62,h63)/\kh zA 71 9 (zM h63) v62 λv64 h65=>((h63.nx<=h65.low/\h65.nx<=T.top)/\∀h66,h66=yL h63 h65->wh zA .add 9 (t 40) (t 48) 9 l53 v64 λv67=>∃v68 h69,zh zA ⟨none,.nilCheck (t 0),0, "",#[],none⟩ (λ_=>some a0) h66=some (.val v68 h69)/\zR zA 339 0 h69 v68 λv70 h71=>zR zA 209 0 h71 v70 λv72 h73=>∃h74,zg zA 9 h73 v72 v67=some h74/\∃v75 h76,zh zA ⟨none,.nilCheck (t 0),0, "",#[],none⟩ (λ_=>some a0) h74=some (.val v75 h76)/\zR zA 339 0 h76 v75 λv77 h78=>zR zA 209 1 h78 v77 λv79 h80=>∃h81,zg zA 3 h80 v79 (0:Int)=some h81/\∃v82 h83,zh zA ⟨none,.nilCheck (t 0),0, "",#[],none⟩ (λ_=>some a0) h81=some (.val v82 h83)/\zR zA 339 0 h83 v82 λv84 h85=>zR zA 209 2 h85 v84 λv86 h87=>∃h88,zg zA 3 h87 v86 (0:Int)=some h88/\Q (.tuple []) h88))/\(¬(x45=8)->Q (.tuple []) h44))):=by kernel_rfl
noncomputable def zEa:Code:=zE Tryz.f329
def zHn:Code:=zi zEa [1,1,1,1]
def zHo:Code:=zi zEa [1,1,1]
def zHp:Code:=zi zEa [1,1]
theorem z1a:(zA.fn.get 329).map zI=some ⟨25,[.tmp 2],zEa⟩:=by kernel_rfl
def zJs:List Nat:=[2,0]
abbrev zJz(b:Bool):Code->St->(AX->St->Prop)->Prop:=wpS Tryz.prog zA zJs 4 b
theorem zUq{y0:Int}:Vy (zJz false) 25 zJs zHn [(2,y2),(0,(.int .u64 y0))] d h Q (λE _ _ _ _=>∃x0:Int,xe zA 9 (.str [0,1,2,2,3,3,3,3,4,4,4,4,4,4,4,4,5,5,5,5,5,5,5,5,5,5,5,5,5,5,5,5,6,6,6,6,6,6,6,6,6,6,6,6,6,6,6,6,6,6,6,6,6,6,6,6,6,6,6,6,6,6,6,6,7,7,7,7,7,7,7,7,7,7,7,7,7,7,7,7,7,7,7,7,7,7,7,7,7,7,7,7,7,7,7,7,7,7,7,7,7,7,7,7,7,7,7,7,7,7,7,7,7,7,7,7,7,7,7,7,7,7,7,7,7,7,7,7,8,8,8,8,8,8,8,8,8,8,8,8,8,8,8,8,8,8,8,8,8,8,8,8,8,8,8,8,8,8,8,8,8,8,8,8,8,8,8,8,8,8,8,8,8,8,8,8,8,8,8,8,8,8,8,8,8,8,8,8,8,8,8,8,8,8,8,8,8,8,8,8,8,8,8,8,8,8,8,8,8,8,8,8,8,8,8,8,8,8,8,8,8,8,8,8,8,8,8,8,8,8,8,8,8,8,8,8,8,8,8,8,8,8,8,8,8,8,8,8,8,8,8,8,8,8,8,8]) (.int .u8 (zT .u8 (y0)))=some (.int .u8 x0)/\E [(2,(zG (y2+(zG (x0)))))] .ret h):=λ_=>by kernel_rfl
theorem zUr{y0:Int}:Vy (zJz false) 25 zJs zHo [(0,(.int .u64 y0)),(2,y2)] d h Q (λ_ F _ _ _=>(((256:Int)<=y0->∃x0:Int,zq .shr .u64 y0 8=some (.int .u64 x0)/\F [(2,(zG (y2+8))),(0,(.int .u64 x0))] zHn h)/\(¬((256:Int)<=y0)->F [] zHn h))):=λ_=>by kernel_rfl
theorem zUs{y0:Int}:Vy (zJz false) 25 zJs zHp [(0,(.int .u64 y0)),(2,y2)] d h Q (λ_ F _ _ _=>(((65536:Int)<=y0->∃x0:Int,zq .shr .u64 y0 16=some (.int .u64 x0)/\F [(2,(zG (y2+16))),(0,(.int .u64 x0))] zHo h)/\(¬((65536:Int)<=y0)->F [] zHo h))):=λ_=>by kernel_rfl
theorem z3j{a0:Int}{Q:V->H->Prop}:zJz false zEa ⟨25,zC [(.int .u64 a0)] 0 (Tb.leaf zB),[],h⟩ (endW zA ⟨25,[.tmp 2],zEa⟩ Q)=((((4294967296:Int)<=a0->∃x0:Int,zq .shr .u64 a0 32=some (.int .u64 x0)/\Gz zJs (Tb.leaf zB) [(2,(32:Int)),(0,(.int .u64 x0))] λu=>zJz false zHp ⟨25,u,[],h⟩ (endW zA ⟨25,[.tmp 2],zEa⟩ Q))/\(¬((4294967296:Int)<=a0)->Gz zJs (Tb.leaf zB) [(2,(0:Int)),(0,(.int .u64 a0))] λu=>zJz false zHp ⟨25,u,[],h⟩ (endW zA ⟨25,[.tmp 2],zEa⟩ Q)))):=by kernel_rfl
noncomputable def b16:Code:=zE Tryz.f16
theorem z6s:(zA.fn.get 16).map zI=some ⟨31,[.tmp 2,.tmp 3],b16⟩:=by kernel_rfl
def L16:List Nat:=[2,3]
abbrev W16(b:Bool):Code->St->(AX->St->Prop)->Prop:=wpS Tryz.prog zA L16 4 b
theorem z7c{Q:V->H->Prop}:W16 false b16 ⟨31,zC [a0] 0 (Tb.leaf zB),[],h⟩ (endW zA ⟨31,[.tmp 2,.tmp 3],b16⟩ Q)=(RF Tryz.prog zA 25 [a0] h λv0 h1=>∃v2,∃x3:Int,v0=(.tuple [v2,x3])/\(x3≠0->Q (.tuple [(.str []),x3]) h1)/\(¬(x3≠0)->RF Tryz.prog zA 48 [v2] h1 λv4 h5=>∃v6,∃b7:Bool,∃b8:Bool,v4=(.tuple [v6,(.agg [b7,b8])])/\h5.nx<T.top/\∀p9 h10,p9=h5.nx->h10=h5.new (.cells (.ls [false,false]) ⟨0,65,0⟩ true false)->∃h11,zg zA 64 h10 (.ptr p9 0) (.agg [b7,b8])=some h11/\RF Tryz.prog zA 49 [v6,(.func (.func 50) [] [])] h11 λv12 h13=>∃l14:List UInt8,∃b15:Bool,v12=(.tuple [l14,b15])/\(b15=true->Q (.tuple [l14,(0:Int)]) h13)/\(b15=false->Q (.tuple [(.str []),(7:Int)]) h13))):=by kernel_rfl
noncomputable def b48:Code:=zE Tryz.f48
def zVY:Code:=zi b48 [1,0,1,0,0]
def zVe:Code:=zi b48 [1,1]
theorem z7E:(zA.fn.get 48).map zI=some ⟨30,[.tmp 2,.cell 3 64],b48⟩:=by kernel_rfl
def L48:List Nat:=[2,3,9,8,0]
abbrev W48(b:Bool):Code->St->(AX->St->Prop)->Prop:=wpS Tryz.prog zA L48 4 b
theorem zY1{y9:Int}{y8_0 y8_1 y2:V}:Vy (W48 false) 30 L48 zVY [(9,y9),(8,(.agg [y8_0,y8_1])),(0,y0),(2,y2),(3,y3)] d h Q (λE _ _ _ _=>((y9<2->∃v0,xe zA 136 (.agg [y8_0,y8_1]) y9=some v0/\yW zA Tryz.prog 32 h (λv1 h2=>YH zA 0 9 v1 λv3=>YH zA 1 24 v1 λv4=>wh zA .eql 24 (t 19) (ci 0) 4 v4 (0:Int) λv5=>xM v5 λu=>match u with|true=>∃v6 h7,zF zA 63 1 [(0,v3)] h2=some (v6,h7)/\(True/\∃v8 h9,zc zA 63 h7 y2 v6=some (v8,h9)/\∃p10 o11,z8 zA 64 y3 y9=some (.ptr p10 o11)/\∃h12,zg zA 4 h9 (.ptr p10 o11) true=some h12/\E [(2,v8),(9,(zG (y9+1)))] .normal h12)|false=>(E [(9,(zG (y9+1)))] .normal h2)) [y0] v0)/\(¬(y9<2)->E [] (.exit 0) h))):=λ_=>by kernel_rfl
theorem zYk{y2:V}:Vy (W48 false) 30 L48 zVe [(2,y2),(3,y3)] d h Q (λE _ _ _ _=>((h.nx<=T.top/\h.low<=T.top)/\∃b0:Bool,∃b1:Bool,zK zA 64 h y3=some (.agg [b0,b1])/\∃h2,zg zA 64 h y3 (.agg [b0,b1])=some h2/\E [] .ret h2)):=λ_=>by kernel_rfl
theorem z7n{Q:V->H->Prop}:W48 false b48 ⟨30,zC [a0] 0 (Tb.leaf zB),[],h⟩ (endW zA ⟨30,[.tmp 2,.cell 3 64],b48⟩ Q)=((h.nx<T.top/\∀p0 h1,p0=h.nx->h1=h.new (.cells (.ls [false,false]) ⟨0,65,0⟩ true false)->RF Tryz.prog zA 93 [] h1 λv2 h3=>∃v4,∃v5,v2=(.agg [v4,v5])/\Lz L48 30 [(2,.nilslice),(3,(.ptr p0 0)),(9,(0:Int)),(8,(.agg [v4,v5])),(0,a0)] zVY h3 (Kx (W48 false) zVe 0 (endW zA ⟨30,[.tmp 2,.cell 3 64],b48⟩ Q)))):=by kernel_rfl
noncomputable def b50:Code:=zE Tryz.f50
theorem z7G:(zA.fn.get 50).map zI=some ⟨5,[.tmp 2],b50⟩:=by kernel_rfl
def L50:List Nat:=[2]
abbrev W50(b:Bool):Code->St->(AX->St->Prop)->Prop:=wpS Tryz.prog zA L50 4 b
theorem z7p{a0:List UInt8}{Q:V->H->Prop}:W50 false b50 ⟨5,zC [a0] 0 (Tb.leaf zB),[],h⟩ (endW zA ⟨5,[.tmp 2],b50⟩ Q)=(Q (.int .i64 (Int.ofNat (List.length a0))) h):=by kernel_rfl
noncomputable def zCn:Code:=zE Tryz.f100
def zOg:Code:=zi zCn [1,1,1,1,0,1,0,0,1,1,0,0,1,1]
def zOh:Code:=zi zCn [1,1,1,1,0,1,0,0,1,1,1]
def zNZ:Code:=zi zCn [1,1,1,1,0,1,0,0]
def zOi:Code:=zi zCn [1,1,1,1,1]
def zOj:Code:=zi zCn [1,1]
theorem zZz:(zA.fn.get 100).map zI=some ⟨42,[.tmp 4,.tmp 5],zCn⟩:=by kernel_rfl
def zEK:List Nat:=[4,5,8,6,20,19,18,1,0]
abbrev zBK(b:Bool):Code->St->(AX->St->Prop)->Prop:=wpS Tryz.prog zA zEK 4 b
theorem zT9{y6:V}:Vy (zBK false) 42 zEK zOg [(8,y8),(6,y6)] d h Q (λE _ _ _ _=>∃p0 o1,z8 zA 206 y6 y8=some (.ptr p0 o1)/\∃x2:Int,zK zA 3 h (.ptr p0 o1)=some (x2:V)/\∃p3 o4,z8 zA 206 y6 y8=some (.ptr p3 o4)/\∃h5,zg zA 3 h (.ptr p3 o4) (zG (x2+1))=some h5/\E [] .normal h5):=λ_=>by kernel_rfl
theorem zTa{y20:Int}:Vy (zBK false) 42 zEK zOh [(20,y20)] d h Q (λE _ _ _ _=>(E [(20,(zG (y20+1)))] .normal h)):=λ_=>by kernel_rfl
theorem zSv{y20 y19:Int}{y18:V}:Vy (zBK false) 42 zEK zNZ [(20,y20),(19,y19),(18,y18),(1,y1)] d h Q (λE _ _ S tm=>((y20<y19->∃p0 o1,z8 zA 23 y18 y20=some (.ptr p0 o1)/\∃x2:Int,zK zA 3 h (.ptr p0 o1)=some (x2:V)/\(x2<0->E [(4,.nilslice),(5,(2:Int)),(8,x2)] .ret h)/\(¬(x2<0)->(y1<x2->E [(4,.nilslice),(5,(2:Int)),(8,x2)] .ret h)/\(¬(y1<x2)->Gz zEK tm [(8,x2)] λu=>zBK false zOg ⟨42,u,d,h⟩ (Kx (zBK false) zOh 1 S))))/\(¬(y20<y19)->E [] (.exit 0) h))):=λ_=>by kernel_rfl
theorem zTb{y6:V}:Vy (zBK false) 42 zEK zOi [(1,y1),(6,y6)] d h Q (λE _ _ _ _=>∃v0,yB zA 206 h y6 none (some (.int .i64 (zG (y1+1)))) (some (.int .i64 (zG (y1+1))))=some v0/\E [(4,v0),(5,(0:Int))] .ret h):=λ_=>by kernel_rfl
theorem zTc:Vy (zBK false) 42 zEK zOj [(0,y0)] d h Q (λE _ M S _=>∃x0:Int,zp zA 23 h y0=some (x0:V)/\((1048576:Int)<x0->E [(4,.nilslice),(5,(4:Int))] .ret h)/\(¬((1048576:Int)<x0)->ws (cond (zL (V.cells (.agg (List.replicate 256 (0:Int))))) (Cs.ofL (V.cells (.agg (List.replicate 256 (0:Int))))) none) λcs3=>h.nx<T.top/\∀p1 h2,p1=h.nx->h2=h.new (.cells cs3 ⟨0,207,0⟩ true false)->∃x4:Int,zp zA 23 h2 y0=some (x4:V)/\M [(6,(.ptr p1 0)),(20,(0:Int)),(19,x4),(18,y0)] zNZ h2 (Kx (zBK false) zOi 0 S))):=λ_=>by kernel_rfl
theorem z2I{Q:V->H->Prop}:zBK false zCn ⟨42,zC [a0,a1] 0 (Tb.leaf zB),[],h⟩ (endW zA ⟨42,[.tmp 4,.tmp 5],zCn⟩ Q)=(((a1<0->Q (.tuple [.nilslice,(2:Int)]) h)/\(¬(a1<0)->((256:Int)<=a1->Q (.tuple [.nilslice,(2:Int)]) h)/\(¬((256:Int)<=a1)->Gz zEK (Tb.leaf zB) [(4,.nilslice),(5,(0:Int)),(1,a1),(0,a0)] λu=>zBK false zOj ⟨42,u,[],h⟩ (endW zA ⟨42,[.tmp 4,.tmp 5],zCn⟩ Q))))):=by kernel_rfl
noncomputable def zWj:Code:=zE Tryz.f174
theorem z0T:(zA.fn.get 174).map zI=some ⟨14,[.tmp 2,.tmp 3],zWj⟩:=by kernel_rfl
def z47:List Nat:=[2,3]
abbrev z59(b:Bool):Code->St->(AX->St->Prop)->Prop:=wpS Tryz.prog zA z47 4 b
theorem z22{a0_1 a0_2:Int}{a0_0:List UInt8}{Q:V->H->Prop}:z59 false zWj ⟨14,zC [(.agg [a0_0,a0_1,a0_2])] 0 (Tb.leaf zB),[],h⟩ (endW zA ⟨14,[.tmp 2,.tmp 3],zWj⟩ Q)=((h.nx<T.top/\∀p0 h1,p0=h.nx->h1=h.new (.cells (.ls [a0_0,a0_1,a0_2]) ⟨0,210,0⟩ true false)->∃l2:List UInt8,∃x3:Int,∃x4:Int,zK zA 209 h1 (.ptr p0 0)=some (.agg [l2,x3,x4])/\RF Tryz.prog zA 244 [(.agg [l2,x3,x4])] h1 λv5 h6=>∃l7:List UInt8,∃x8:Int,∃x9:Int,∃x10:Int,v5=(.tuple [(.agg [l7,x8,x9]),x10])/\h6.nx<T.top/\∀p11 h12,p11=h6.nx->h12=h6.new (.cells (.ls [(.str []),(0:Int),(0:Int)]) ⟨0,210,0⟩ true false)->∃h13,zg zA 209 h12 (.ptr p11 0) (.agg [l7,x8,x9])=some h13/\∃l14:List UInt8,zK zA 9 h13 (.ptr p11 (0+0))=some (.str l14)/\Q (.tuple [l14,x10]) h13)):=by kernel_rfl
noncomputable def Z3:Code:=zE Tryz.f175
def zOw:Code:=zi Z3 [1,0,1,1,1,1,1,0,1,0,0,1,0,0,1,1,1,1,1,0,0,0,1]
def zN6:Code:=zi Z3 [1,0,1,1,1,1,1,0,1,0,0,1,0,0,1,1,1,1,1,0,0,0]
def zN7:Code:=zi Z3 [1,0,1,1,1,1,1,0,1,0,0,1,0,0,1,1,1,1,1,1,0,0,0]
def zOx:Code:=zi Z3 [1,0,1,1,1,1,1,0,1,0,0,1,0,0,1,1,1,1,1,1,1]
def zDb:Code:=zi Z3 [1,0,1,1,1,1,1,0,1,0,0,1,0,0,1,1,1,1,1,1]
def Jm:Code:=zi Z3 [1,0,1,1,1,1,1,0,1,0,0,1,0,0,1,1,1]
def Zp:Code:=zi Z3 [1,0,1,1,1,1,1,0,1,0,0,1,1]
def zN8:Code:=zi Z3 [1,0,1,1,1,1,1,0,1,0,0]
def zDc:Code:=zi Z3 [1,0,1,1,1,1,1,1]
theorem z0U:(zA.fn.get 175).map zI=some ⟨100,[.cell 2 209],Z3⟩:=by kernel_rfl
def ZX:List Nat:=[2,11,6,1,4,7,5,3]
abbrev jE(b:Bool):Code->St->(AX->St->Prop)->Prop:=wpS Tryz.prog zA ZX 4 b
theorem zTw:Vy (jE false) 100 ZX zOw [(11,y11),(6,y6)] d h Q (λE _ _ _ _=>(E [(11,(zG (y11+1))),(6,(zG (y6+1)))] .normal h)):=λ_=>by kernel_rfl
theorem zTC{y1:V}:Vy (jE false) 100 ZX zN6 [(6,y6),(1,y1)] d h Q (λE F _ _ _=>zR zA 59 1 h y1 λv0 h1=>∃v2,zK zA 23 h1 v0=some v2/\∃x3:Int,zp zA 23 h1 v2=some (x3:V)/\((zG (y6+1))<x3->zR zA 59 1 h1 y1 λv4 h5=>∃v6,zK zA 23 h5 v4=some v6/\∃p7 o8,z8 zA 23 v6 (zG (y6+1))=some (.ptr p7 o8)/\∃x9:Int,zK zA 3 h5 (.ptr p7 o8)=some (x9:V)/\(x9=0->F [] zOw h5)/\(¬(x9=0)->E [] (.exit 3) h5))/\(¬((zG (y6+1))<x3)->E [] (.exit 3) h1)):=λ_=>by kernel_rfl
theorem zTD{y4:V}:Vy (jE false) 100 ZX zN7 [(11,y11),(4,y4)] d h Q (λE _ _ _ _=>(((3:Int)<=y11->yW zA Tryz.prog 0 h (λ_ h1=>(E [(11,(zG (y11-3)))] .normal h1)) [(2:Int),(3:Int)] y4)/\(¬((3:Int)<=y11)->E [] (.exit 5) h))):=λ_=>by kernel_rfl
theorem zTx{y4:V}:Vy (jE false) 100 ZX zOx [(4,y4),(11,y11)] d h Q (λE _ _ _ _=>yW zA Tryz.prog 0 h (λ_ h1=>(E [] .normal h1)) [(2:Int),y11] y4):=λ_=>by kernel_rfl
theorem zTy :Vy (jE false) 100 ZX zDb [] d h Q (λ_ _ M S _=>(M [] zN7 h (Kx (jE false) zOx 5 S))):=λ_=>by kernel_rfl
theorem zTz{y5:Int}:Vy (jE false) 100 ZX Jm [(7,y7),(5,y5)] d h Q (λE _ M S _=>((y7≠0->E [(5,(zG (y5-(max y7 1))))] (.exit 1) h)/\(¬(y7≠0)->M [(11,(0:Int))] zN6 h (Kx (jE false) zDb 3 S)))):=λ_=>by kernel_rfl
theorem zUA:Vy (jE false) 100 ZX Zp [(6,y6)] d h Q (λE _ _ _ _=>(E [(6,(zG (y6+1)))] .normal h)):=λ_=>by kernel_rfl
theorem zTE{y5:Int}{y1 y4:V}:Vy (jE false) 100 ZX zN8 [(6,y6),(1,y1),(5,y5),(4,y4)] d h Q (λE _ _ S tm=>zR zA 59 1 h y1 λv0 h1=>∃v2,zK zA 23 h1 v0=some v2/\∃x3:Int,zp zA 23 h1 v2=some (x3:V)/\(y6<x3->zR zA 59 1 h1 y1 λv4 h5=>∃v6,zK zA 23 h5 v4=some v6/\∃p7 o8,z8 zA 23 v6 y6=some (.ptr p7 o8)/\∃x9:Int,zK zA 3 h5 (.ptr p7 o8)=some (x9:V)/\RF Tryz.prog zA 209 [y5] h5 λv10 h11=>∃x12:Int,∃x13:Int,v10=(.tuple [x12,x13])/\((zG (x9+1))<x13->yW zA Tryz.prog 0 h11 (λ_ h15=>(Gz ZX tm [(7,x9)] λu=>jE false Jm ⟨100,u,d,h15⟩ (Kx (jE false) Zp 1 S))) [(zG (x12-1)),(zG (x9+1))] y4)/\(¬((zG (x9+1))<x13)->∃x16:Int,zq .shl .i64 1 (zG (x12-1))=some (x16:V)/\((zG (x9+1))<x16->yW zA Tryz.prog 0 h11 (λ_ h18=>(Gz ZX tm [(7,x9)] λu=>jE false Jm ⟨100,u,d,h18⟩ (Kx (jE false) Zp 1 S))) [x12,(zG (x9+1))] y4)/\(¬((zG (x9+1))<x16)->yW zA Tryz.prog 0 h11 (λ_ h20=>(Gz ZX tm [(7,x9)] λu=>jE false Jm ⟨100,u,d,h20⟩ (Kx (jE false) Zp 1 S))) [x12,(zG ((zG (x9+1))+x13))] y4)))/\(¬(y6<x3)->E [] (.exit 0) h1)):=λ_=>by kernel_rfl
theorem zUB{y2:V}:Vy (jE false) 100 ZX zDc [(3,y3),(2,y2)] d h Q (λE _ _ _ _=>∃l0:List UInt8,∃x1:Int,∃x2:Int,zK zA 209 h y3=some (.agg [l0,x1,x2])/\∃h3,zg zA 209 h y2 (.agg [l0,x1,x2])=some h3/\E [] .ret h3):=λ_=>by kernel_rfl
theorem z23{a0_0:Int}{a0_1:V}{Q:V->H->Prop}:jE false Z3 ⟨100,zC [(.agg [a0_0,a0_1])] 0 (Tb.leaf zB),[],h⟩ (endW zA ⟨100,[.cell 2 209],Z3⟩ Q)=(ws (cond (zL (V.cells (.agg [a0_0,a0_1]))) (Cs.ofL (V.cells (.agg [a0_0,a0_1]))) none) λcs2=>h.nx<T.top/\∀p0 h1,p0=h.nx->h1=h.new (.cells cs2 ⟨0,60,0⟩ true false)->h1.nx<T.top/\∀p3 h4,p3=h1.nx->h4=h1.new (.cells (.ls [(.str []),(0:Int),(0:Int)]) ⟨0,210,0⟩ true false)->h4.nx<T.top/\∀p5 h6,p5=h4.nx->h6=h4.new (.cells (.ls [(.str []),(0:Int),(0:Int)]) ⟨0,210,0⟩ true false)->∃x7:Int,zK zA 3 h6 (.ptr p0 (0+0))=some (x7:V)/\RF Tryz.prog zA 245 [(4:Int),(zG (x7-5)),(.ptr p5 0)] h6 λv8 h9=>v8=(.tuple [])/\∃x10:Int,zK zA 3 h9 (.ptr p0 (0+0))=some (x10:V)/\∃x11:Int,zq .shl .i64 1 x10=some (x11:V)/\Lz ZX 100 [(2,(.ptr p3 0)),(6,(0:Int)),(1,(.ptr p0 0)),(4,(.func (.func 245) [] [(.ptr p5 0)])),(5,x11),(3,(.ptr p5 0))] zN8 h9 (Kx (jE false) zDc 0 (endW zA ⟨100,[.cell 2 209],Z3⟩ Q))):=by kernel_rfl
noncomputable def zWw:Code:=zE Tryz.f236
theorem z0b:(zA.fn.get 236).map zI=some ⟨22,[.tmp 2,.tmp 3,.tmp 4],zWw⟩:=by kernel_rfl
def z4k:List Nat:=[2,3,4]
abbrev z5m(b:Bool):Code->St->(AX->St->Prop)->Prop:=wpS Tryz.prog zA z4k 4 b
theorem z2l{Q:V->H->Prop}:z5m false zWw ⟨22,zC [a0] 0 (Tb.leaf zB),[],h⟩ (endW zA ⟨22,[.tmp 2,.tmp 3,.tmp 4],zWw⟩ Q)=(RF Tryz.prog zA 284 [a0] h λv0 h1=>∃x2:Int,∃x3:Int,v0=(.tuple [x2,x3])/\(x3≠0->Q (.tuple [(0:Int),(0:Int),x3]) h1)/\(¬(x3≠0)->RF Tryz.prog zA 101 [a0] h1 λv4 h5=>∃x6:Int,∃x7:Int,v4=(.tuple [x6,x7])/\(x6=0->Q (.tuple [(0:Int),(0:Int),(7:Int)]) h5)/\(¬(x6=0)->Q (.tuple [x2,x6,(0:Int)]) h5))):=by kernel_rfl
noncomputable def zWz:Code:=zE Tryz.f241
theorem z0g:(zA.fn.get 241).map zI=some ⟨4,[.tmp 2],zWz⟩:=by kernel_rfl
def z4n:List Nat:=[2]
abbrev z5p(b:Bool):Code->St->(AX->St->Prop)->Prop:=wpS Tryz.prog zA z4n 4 b
theorem z2p{a0:Int}{Q:V->H->Prop}:z5p false zWz ⟨4,zC [a0] 0 (Tb.leaf zB),[],h⟩ (endW zA ⟨4,[.tmp 2],zWz⟩ Q)=(Q a0 h):=by kernel_rfl
noncomputable def zXB:Code:=zE Tryz.f245
theorem z0k:(zA.fn.get 245).map zI=some ⟨12,[],zXB⟩:=by kernel_rfl
def z4p:List Nat:=[]
abbrev z5r(b:Bool):Code->St->(AX->St->Prop)->Prop:=wpS Tryz.prog zA z4p 4 b
theorem z2t{a0:Int}{a2:V}{Q:V->H->Prop}:z5r false zXB ⟨12,zC [a0,a1,a2] 0 (Tb.leaf zB),[],h⟩ (endW zA ⟨12,[],zXB⟩ Q)=(∃l0:List UInt8,∃x1:Int,∃x2:Int,zK zA 209 h a2=some (.agg [l0,x1,x2])/\RF Tryz.prog zA 246 [(.agg [l0,x1,x2]),a0,a1] h λv3 h4=>∃l5:List UInt8,∃x6:Int,∃x7:Int,∃x8:Int,v3=(.tuple [(.agg [l5,x6,x7]),x8])/\∃h9,zg zA 209 h4 a2 (.agg [l5,x6,x7])=some h9/\Q (.tuple []) h9):=by kernel_rfl
noncomputable def zM3:Code:=zE Tryz.f246
def zPJ:Code:=zi zM3 [1,1,1]
theorem z0l:(zA.fn.get 246).map zI=some ⟨46,[.cell 6 209,.tmp 7],zM3⟩:=by kernel_rfl
def zWI:List Nat:=[6,7,3,2,1]
abbrev zWT(b:Bool):Code->St->(AX->St->Prop)->Prop:=wpS Tryz.prog zA zWI 4 b
theorem zUN{y6:V}:Vy (zWT false) 46 zWI zPJ [(3,y3),(2,y2),(1,y1),(6,y6)] d h Q (λE _ _ _ _=>∃l0:List UInt8,∃x1:Int,∃x2:Int,zK zA 209 h y3=some (.agg [l0,x1,x2])/\h.nx<T.top/\∀p3 h4,p3=h.nx->h4=h.new (.cells (.ls [l0,x1,x2]) ⟨0,340,0⟩ true false)->RF Tryz.prog zA 289 [y2,y1] h4 λv5 h6=>∃v7,v5=v7/\RF Tryz.prog zA 288 [(.ptr p3 0),v7] h6 λv8 h9=>v8=(.tuple [])/\RF Tryz.prog zA 290 [(.ptr p3 0)] h9 λv10 h11=>∃l12:List UInt8,∃x13:Int,∃x14:Int,∃x15:Int,v10=(.tuple [(.agg [l12,x13,x14]),x15])/\∃h16,zg zA 209 h11 y6 (.agg [l12,x13,x14])=some h16/\E [(7,x15)] .ret h16):=λ_=>by kernel_rfl
theorem z2u{a0_1 a0_2:Int}{a0_0:List UInt8}{Q:V->H->Prop}:zWT false zM3 ⟨46,zC [(.agg [a0_0,a0_1,a0_2]),a1,a2] 0 (Tb.leaf zB),[],h⟩ (endW zA ⟨46,[.cell 6 209,.tmp 7],zM3⟩ Q)=((h.nx<T.top/\∀p0 h1,p0=h.nx->h1=h.new (.cells (.ls [a0_0,a0_1,a0_2]) ⟨0,210,0⟩ true false)->h1.nx<T.top/\∀p2 h3,p2=h1.nx->h3=h1.new (.cells (.ls [(.str []),(0:Int),(0:Int)]) ⟨0,210,0⟩ true false)->∃l4:List UInt8,∃x5:Int,∃x6:Int,zK zA 209 h3 (.ptr p0 0)=some (.agg [l4,x5,x6])/\RF Tryz.prog zA 287 [(.agg [l4,x5,x6])] h3 λv7 h8=>∃x9:Int,v7=x9/\(x9≠0->∃h10,zg zA 209 h8 (.ptr p2 0) (.agg [(.str []),(0:Int),(0:Int)])=some h10/\endL zA h10 [(.cell 6 209,(.ptr p2 0)),(.tmp 7,x9)] Q)/\(¬(x9≠0)->(a1<0->∃h11,zg zA 209 h8 (.ptr p2 0) (.agg [(.str []),(0:Int),(0:Int)])=some h11/\endL zA h11 [(.cell 6 209,(.ptr p2 0)),(.tmp 7,(2:Int))] Q)/\(¬(a1<0)->((32:Int)<a1->∃h12,zg zA 209 h8 (.ptr p2 0) (.agg [(.str []),(0:Int),(0:Int)])=some h12/\endL zA h12 [(.cell 6 209,(.ptr p2 0)),(.tmp 7,(2:Int))] Q)/\(¬((32:Int)<a1)->(a2<0->∃h13,zg zA 209 h8 (.ptr p2 0) (.agg [(.str []),(0:Int),(0:Int)])=some h13/\endL zA h13 [(.cell 6 209,(.ptr p2 0)),(.tmp 7,(2:Int))] Q)/\(¬(a2<0)->∃x14:Int,zq .shr .i64 a2 (zT .u64 (a1))=some (x14:V)/\(x14≠0->∃h15,zg zA 209 h8 (.ptr p2 0) (.agg [(.str []),(0:Int),(0:Int)])=some h15/\endL zA h15 [(.cell 6 209,(.ptr p2 0)),(.tmp 7,(2:Int))] Q)/\(¬(x14≠0)->Gz zWI (Tb.leaf zB) [(6,(.ptr p2 0)),(7,(0:Int)),(3,(.ptr p0 0)),(2,a2),(1,a1)] λu=>zWT false zPJ ⟨46,u,[],h8⟩ (endW zA ⟨46,[.cell 6 209,.tmp 7],zM3⟩ Q)))))))):=by kernel_rfl
noncomputable def zXH:Code:=zE Tryz.f255
theorem z0u:(zA.fn.get 255).map zI=some ⟨23,[.tmp 4,.tmp 5],zXH⟩:=by kernel_rfl
def z4v:List Nat:=[4,5]
abbrev z5x(b:Bool):Code->St->(AX->St->Prop)->Prop:=wpS Tryz.prog zA z4v 4 b
theorem z3D{a0_0:Int}{a0_1:V}{Q:V->H->Prop}:z5x false zXH ⟨23,zC [(.agg [a0_0,a0_1]),a1] 0 (Tb.leaf zB),[],h⟩ (endW zA ⟨23,[.tmp 4,.tmp 5],zXH⟩ Q)=(ws (cond (zL (V.cells (.agg [a0_0,a0_1]))) (Cs.ofL (V.cells (.agg [a0_0,a0_1]))) none) λcs2=>h.nx<T.top/\∀p0 h1,p0=h.nx->h1=h.new (.cells cs2 ⟨0,217,0⟩ true false)->∃x3:Int,∃v4,zK zA 216 h1 (.ptr p0 0)=some (.agg [x3,v4])/\RF Tryz.prog zA 294 [(.agg [x3,v4])] h1 λv5 h6=>∃x7:Int,v5=x7/\(x7≠0->Q (.tuple [(0:Int),x7]) h6)/\(¬(x7≠0)->∃x8:Int,∃v9,zK zA 216 h6 (.ptr p0 0)=some (.agg [x8,v9])/\RF Tryz.prog zA 295 [(.agg [x8,v9]),a1] h6 λv10 h11=>∃v12,v10=v12/\∃x13:Int,zp zA 23 h11 v12=some (x13:V)/\(x13=0->Q (.tuple [(0:Int),(7:Int)]) h11)/\(¬(x13=0)->∃p14 o15,z8 zA 23 v12 (0:Int)=some (.ptr p14 o15)/\∃x16:Int,zK zA 3 h11 (.ptr p14 o15)=some (x16:V)/\Q (.tuple [x16,(0:Int)]) h11))):=by kernel_rfl
noncomputable def zBR:Code:=zE Tryz.f257
def z6h:Array Oper:=Yg (zi zBR [1,0,0])
def zPP:Code:=zi zBR [1,0,1]
def zHk:Code:=zi zBR [1,1]
theorem z0w:(zA.fn.get 257).map zI=some ⟨68,[.cell 6 220,.tmp 7],zBR⟩:=by kernel_rfl
def zJq:List Nat:=[6,7,8,3,1,2]
abbrev zJw(b:Bool):Code->St->(AX->St->Prop)->Prop:=wpS Tryz.prog zA zJq 4 b
theorem zUT{y6:V}:Vy (zJw false) 68 zJq zPP [(8,y8),(6,y6)] d h Q (λE _ _ _ _=>((y8≠0->∃h0,zg zA 220 h y6 (.agg [(.str []),(0:Int),(0:Int)])=some h0/\E [(7,y8)] .ret h0)/\(¬(y8≠0)->E [] .normal h))):=λ_=>by kernel_rfl
theorem zUU{y6:V}:Vy (zJw false) 68 zJq zHk [(3,y3),(1,y1),(2,(.int .u64 y2)),(6,y6)] d h Q (λE _ _ _ _=>∃l0:List UInt8,∃x1:Int,∃x2:Int,zK zA 220 h y3=some (.agg [l0,x1,x2])/\RF Tryz.prog zA 251 [(.agg [l0,x1,x2])] h λv3 h4=>∃v5,v3=v5/\∃v6 h7,zF zA 344 1 [(0,(.agg [(.int .u64 (zT .u64 (y1))),(.int .u64 y2)]))] h4=some (v6,h7)/\RF Tryz.prog zA 252 [v5,v6] h7 λv8 h9=>v8=(.tuple [])/\(h9.nx<=T.top/\h9.low<=T.top)/\∃v10 h11,zh zA ⟨none,.nilCheck (t 0),0, "",#[],none⟩ (λ_=>some v5) (zM h9)=some (.val v10 h11)/\(h9.nx<=h11.low/\h11.nx<=T.top)/\∀h12,h12=yL h9 h11->zR zA 300 0 h12 v10 λv13 h14=>zR zA 298 0 h14 v13 λv15 h16=>∃l17:List UInt8,zK zA 9 h16 v15=some (.str l17)/\∃v18 h19,zh zA ⟨none,.nilCheck (t 0),0, "",#[],none⟩ (λ_=>some v5) (zM h16)=some (.val v18 h19)/\(h16.nx<=h19.low/\h19.nx<=T.top)/\∀h20,h20=yL h16 h19->zR zA 300 1 h20 v18 λv21 h22=>∃x23:Int,zK zA 127 h22 v21=some (.int .u64 x23)/\∃v24 h25,zh zA ⟨none,.nilCheck (t 0),0, "",#[],none⟩ (λ_=>some v5) (zM h22)=some (.val v24 h25)/\(h22.nx<=h25.low/\h25.nx<=T.top)/\∀h26,h26=yL h22 h25->zR zA 300 2 h26 v24 λv27 h28=>∃x29:Int,zK zA 3 h28 v27=some (x29:V)/\∃h30,zg zA 220 h28 y6 (.agg [l17,(zG (x23)),x29])=some h30/\E [(7,(0:Int))] .ret h30):=λ_=>by kernel_rfl
theorem z3F{a0_1 a0_2:Int}{a0_0:List UInt8}{Q:V->H->Prop}:zJw false zBR ⟨68,zC [(.agg [a0_0,a0_1,a0_2]),a1,(.int .u64 a2)] 0 (Tb.leaf zB),[],h⟩ (endW zA ⟨68,[.cell 6 220,.tmp 7],zBR⟩ Q)=((h.nx<T.top/\∀p0 h1,p0=h.nx->h1=h.new (.cells (.ls [a0_0,a0_1,a0_2]) ⟨0,221,0⟩ true false)->h1.nx<T.top/\∀p2 h3,p2=h1.nx->h3=h1.new (.cells (.ls [(.str []),(0:Int),(0:Int)]) ⟨0,221,0⟩ true false)->wpDr Tryz.prog zA false z6h.toList ⟨68,(Tb.set (Tb.set (Tb.set (Tb.set (Tb.set (Tb.set (Tb.leaf zB) 0 (.agg [a0_0,a0_1,a0_2])) 1 a1) 2 (.int .u64 a2)) 3 (.ptr p0 0)) 6 (.ptr p2 0)) 7 (0:Int)),[],h3⟩ (thenC (sealK zJq λs1=>zJw false zPP s1 (thenC (sealK zJq λs1=>zJw false zHk s1 (endW zA ⟨68,[.cell 6 220,.tmp 7],zBR⟩ Q)) (endW zA ⟨68,[.cell 6 220,.tmp 7],zBR⟩ Q))) (thenC (sealK zJq λs1=>zJw false zHk s1 (endW zA ⟨68,[.cell 6 220,.tmp 7],zBR⟩ Q)) (endW zA ⟨68,[.cell 6 220,.tmp 7],zBR⟩ Q))))):=by kernel_rfl
noncomputable def zKO:Code:=zE Tryz.f285
def zNn:Code:=zi zKO [1,0,0]
theorem z1H:(zA.fn.get 285).map zI=some ⟨22,[],zKO⟩:=by kernel_rfl
def zWK:List Nat:=[7,6,5,0]
abbrev zZi(b:Bool):Code->St->(AX->St->Prop)->Prop:=wpS Tryz.prog zA zWK 4 b
theorem zTS:Vy (zZi false) 22 zWK zNn [(7,y7),(6,y6),(5,y5),(0,y0)] d h Q (λE _ _ _ _=>((y7<y6->∃p0 o1,z8 zA 23 y5 y7=some (.ptr p0 o1)/\∃x2:Int,zK zA 3 h (.ptr p0 o1)=some (x2:V)/\((0:Int)<x2->yW zA Tryz.prog 4 h (λv3 h4=>zBC .not v3 λv5=>xM v5 λu=>match u with|true=>(E [] .ret h4)|false=>(E [(7,(zG (y7+1)))] .normal h4)) [y7,x2] y0)/\(¬((0:Int)<x2)->E [(7,(zG (y7+1)))] .normal h))/\(¬(y7<y6)->E [] (.exit 0) h))):=λ_=>by kernel_rfl
theorem z3Q{a1:V}{Q:V->H->Prop}:zZi false zKO ⟨22,zC [a0,a1] 0 (Tb.leaf zB),[],h⟩ (endW zA ⟨22,[],zKO⟩ Q)=(∃v0,zK zA 23 h a1=some v0/\∃x1:Int,zp zA 23 h v0=some (x1:V)/\Lz zWK 22 [(7,(0:Int)),(6,x1),(5,v0),(0,a0)] zNn h λe s1=>(endW zA ⟨22,[],zKO⟩ Q) (ze 0 e) s1):=by kernel_rfl
noncomputable def zXN:Code:=zE Tryz.f291
theorem z1M:(zA.fn.get 291).map zI=some ⟨9,[.tmp 4],zXN⟩:=by kernel_rfl
def z5B:List Nat:=[4]
abbrev z6D(b:Bool):Code->St->(AX->St->Prop)->Prop:=wpS Tryz.prog zA z5B 4 b
theorem z3V{a1:V}{Q:V->H->Prop}:z6D false zXN ⟨9,zC [a0,a1] 0 (Tb.leaf zB),[],h⟩ (endW zA ⟨9,[.tmp 4],zXN⟩ Q)=(RF Tryz.prog zA 311 [a0,a1] h λv0 h1=>∃x2:Int,v0=x2/\((0:Int)<=x2->Q true h1)/\(¬((0:Int)<=x2)->Q false h1)):=by kernel_rfl
noncomputable def zXO:Code:=zE Tryz.f292
theorem z1N:(zA.fn.get 292).map zI=some ⟨21,[.tmp 3],zXO⟩:=by kernel_rfl
def z5C:List Nat:=[3]
abbrev z6E(b:Bool):Code->St->(AX->St->Prop)->Prop:=wpS Tryz.prog zA z5C 4 b
theorem z3W{a0:Int}{a1:V}{Q:V->H->Prop}:z6E false zXO ⟨21,zC [a0,a1] 0 (Tb.leaf zB),[],h⟩ (endW zA ⟨21,[.tmp 3],zXO⟩ Q)=(((a0<0->Q true h)/\(¬(a0<0)->zR zA 59 1 h a1 λv0 h1=>∃v2,zK zA 23 h1 v0=some v2/\∃x3:Int,zp zA 23 h1 v2=some (x3:V)/\(x3<=a0->Q true h1)/\(¬(x3<=a0)->zR zA 59 1 h1 a1 λv4 h5=>∃v6,zK zA 23 h5 v4=some v6/\∃p7 o8,z8 zA 23 v6 a0=some (.ptr p7 o8)/\∃x9:Int,zK zA 3 h5 (.ptr p7 o8)=some (x9:V)/\(x9=0->Q true h5)/\(¬(x9=0)->Q false h5))))):=by kernel_rfl
noncomputable def zGy:Code:=zE Tryz.f296
def zDl:Code:=zi zGy [1,1,1,1,1]
theorem z1R:(zA.fn.get 296).map zI=some ⟨57,[.tmp 6,.tmp 7,.tmp 8],zGy⟩:=by kernel_rfl
def zQh:List Nat:=[6,7,8,9,10,11]
abbrev zMH(b:Bool):Code->St->(AX->St->Prop)->Prop:=wpS Tryz.prog zA zQh 4 b
theorem zUe{y10:Int}{y9:V}:Vy (zMH false) 57 zQh zDl [(9,y9),(10,(.int .u64 y10)),(7,y7),(11,(.int .u64 y11))] d h Q (λE _ _ _ _=>∃x0:Int,zq .shr .u64 y10 (zT .u64 (y7))=some (.int .u64 x0)/\∃p1 o2,z8 zA 23 y9 (zG ((zT .u64 (x0-y11))))=some (.ptr p1 o2)/\∃x3:Int,zK zA 3 h (.ptr p1 o2)=some (x3:V)/\∃x4:Int,zq .shl .u64 1 (zT .u64 (y7))=some (.int .u64 x4)/\∃x5:Int,zq .and .u64 y10 (zT .u64 (x4-1))=some (.int .u64 x5)/\E [(6,x3),(8,(zG (x5)))] .ret h):=λ_=>by kernel_rfl
theorem z30{a0_0:Int}{a0_1:V}{Q:V->H->Prop}:zMH false zGy ⟨57,zC [(.agg [a0_0,a0_1]),a1,a2] 0 (Tb.leaf zB),[],h⟩ (endW zA ⟨57,[.tmp 6,.tmp 7,.tmp 8],zGy⟩ Q)=(ws (cond (zL (V.cells (.agg [a0_0,a0_1]))) (Cs.ofL (V.cells (.agg [a0_0,a0_1]))) none) λcs2=>h.nx<T.top/\∀p0 h1,p0=h.nx->h1=h.new (.cells cs2 ⟨0,347,0⟩ true false)->∃x3:Int,∃v4,zK zA 346 h1 (.ptr p0 0)=some (.agg [x3,v4])/\RF Tryz.prog zA 295 [(.agg [x3,v4]),a2] h1 λv5 h6=>∃v7,v5=v7/\∃x8:Int,zK zA 3 h6 (.ptr p0 ((0+0)+0))=some (x8:V)/\∃x9:Int,zq .shl .u64 1 (zT .u64 (x8))=some (.int .u64 x9)/\∃x10:Int,zp zA 23 h6 v7=some (x10:V)/\RF Tryz.prog zA 316 [(.int .u64 (zT .u64 ((zT .u64 (a1))+x9)))] h6 λv11 h12=>∃x13:Int,v11=x13/\RF Tryz.prog zA 316 [(.int .u64 (zT .u64 (x10)))] h12 λv14 h15=>∃x16:Int,v14=x16/\∃x17:Int,zq .shr .u64 (zT .u64 ((zT .u64 (a1))+x9)) (zT .u64 ((zG (x13-x16))))=some (.int .u64 x17)/\(x17<(zT .u64 (x10))->Gz zQh (Tb.leaf zB) [(6,(0:Int)),(7,(zG ((zG (x13-x16))-1))),(8,(0:Int)),(9,v7),(10,(.int .u64 (zT .u64 ((zT .u64 (a1))+x9)))),(11,(.int .u64 (zT .u64 (x10))))] λu=>zMH false zDl ⟨57,u,[],h15⟩ (endW zA ⟨57,[.tmp 6,.tmp 7,.tmp 8],zGy⟩ Q))/\(¬(x17<(zT .u64 (x10)))->Gz zQh (Tb.leaf zB) [(6,(0:Int)),(7,(zG (x13-x16))),(8,(0:Int)),(9,v7),(10,(.int .u64 (zT .u64 ((zT .u64 (a1))+x9)))),(11,(.int .u64 (zT .u64 (x10))))] λu=>zMH false zDl ⟨57,u,[],h15⟩ (endW zA ⟨57,[.tmp 6,.tmp 7,.tmp 8],zGy⟩ Q))):=by kernel_rfl
noncomputable def zKW:Code:=zE Tryz.f313
def zNx:Code:=zi zKW [1,1,0,1,0,0]
def zP5:Code:=zi zKW [1,1,1]
theorem z12:(zA.fn.get 313).map zI=some ⟨17,[.tmp 2],zKW⟩:=by kernel_rfl
def zQm:List Nat:=[2,8,7,6,3]
abbrev zRG(b:Bool):Code->St->(AX->St->Prop)->Prop:=wpS Tryz.prog zA zQm 4 b
theorem zT2{y6:V}:Vy (zRG false) 17 zQm zNx [(8,y8),(7,y7),(6,y6),(3,y3)] d h Q (λE _ _ _ _=>((y8<y7->∃p0 o1,z8 zA 214 y6 y8=some (.ptr p0 o1)/\∃v2,zK zA 23 h (.ptr p0 o1)=some v2/\True/\∃v3 h4,zc zA 23 h y3 v2=some (v3,h4)/\E [(8,(zG (y8+1))),(3,v3)] .normal h4)/\(¬(y8<y7)->E [] (.exit 0) h))):=λ_=>by kernel_rfl
theorem zUl:Vy (zRG false) 17 zQm zP5 [(3,y3)] d h Q (λE _ _ _ _=>(E [(2,y3)] .ret h)):=λ_=>by kernel_rfl
theorem z3b{Q:V->H->Prop}:zRG false zKW ⟨17,zC [a0] 0 (Tb.leaf zB),[],h⟩ (endW zA ⟨17,[.tmp 2],zKW⟩ Q)=(∃x0:Int,zp zA 214 h a0=some (x0:V)/\Lz zQm 17 [(2,.nilslice),(8,(0:Int)),(7,x0),(6,a0),(3,.nilslice)] zNx h (Kx (zRG false) zP5 0 (endW zA ⟨17,[.tmp 2],zKW⟩ Q))):=by kernel_rfl
noncomputable def zXT:Code:=zE Tryz.f316
theorem z14:(zA.fn.get 316).map zI=some ⟨8,[.tmp 2],zXT⟩:=by kernel_rfl
def z5H:List Nat:=[2]
abbrev z6J(b:Bool):Code->St->(AX->St->Prop)->Prop:=wpS Tryz.prog zA z5H 4 b
theorem z3d{a0:Int}{Q:V->H->Prop}:z6J false zXT ⟨8,zC [(.int .u64 a0)] 0 (Tb.leaf zB),[],h⟩ (endW zA ⟨8,[.tmp 2],zXT⟩ Q)=(RF Tryz.prog zA 329 [(.int .u64 a0)] h λv0 h1=>∃x2:Int,v0=x2/\Q x2 h1):=by kernel_rfl
noncomputable def b25:Code:=zE Tryz.f25
theorem z6v:(zA.fn.get 25).map zI=some ⟨22,[.tmp 2,.tmp 3],b25⟩:=by kernel_rfl
def L25:List Nat:=[2,3]
abbrev W25(b:Bool):Code->St->(AX->St->Prop)->Prop:=wpS Tryz.prog zA L25 4 b
theorem z7f{Q:V->H->Prop}:W25 false b25 ⟨22,zC [a0] 0 (Tb.leaf zB),[],h⟩ (endW zA ⟨22,[.tmp 2,.tmp 3],b25⟩ Q)=(RF Tryz.prog zA 56 [a0] h λv0 h1=>∃v2,∃x3:Int,v0=(.tuple [v2,x3])/\(x3≠0->Q (.tuple [.nilslice,x3]) h1)/\(¬(x3≠0)->∃x4:Int,zp zA 23 h1 v2=some (x4:V)/\∃x5:Int,zp zA 23 h1 v2=some (x5:V)/\∃v6,yB zA 23 h1 v2 none (some (.int .i64 (zG (x4-1)))) (some (.int .i64 (zG (x5-1))))=some v6/\Q (.tuple [v6,(0:Int)]) h1)):=by kernel_rfl
noncomputable def b26:Code:=zE Tryz.f26
def zVW:Code:=zi b26 [1,0,1,1,1,1,0,1,0,0]
def zVc:Code:=zi b26 [1,0,1,1,1,1,1]
theorem z6w:(zA.fn.get 26).map zI=some ⟨50,[.tmp 2,.tmp 3],b26⟩:=by kernel_rfl
def L26:List Nat:=[2,3,23,22,21,5]
abbrev W26(b:Bool):Code->St->(AX->St->Prop)->Prop:=wpS Tryz.prog zA L26 4 b
theorem zYZ{y23 y22:Int}{y21:V}:Vy (W26 false) 50 L26 zVW [(23,y23),(22,y22),(21,y21),(5,y5)] d h Q (λE _ _ _ _=>((y23<y22->∃p0 o1,z8 zA 23 y21 y23=some (.ptr p0 o1)/\∃x2:Int,zK zA 3 h (.ptr p0 o1)=some (x2:V)/\(2:Int)≠0/\((Int.tmod y23 2)=0->∃x3:Int,zq .shl .u8 (zT .u8 (x2)) 4=some (.int .u8 x3)/\∃v4 h5,zF zA 71 1 [(0,(.int .u8 x3))] h=some (v4,h5)/\True/\∃v6 h7,zc zA 71 h5 y5 v4=some (v6,h7)/\E [(23,(zG (y23+1))),(5,v6)] .normal h7)/\(¬((Int.tmod y23 2)=0)->∃x8:Int,zp zA 71 h y5=some (x8:V)/\∃p9 o10,z8 zA 71 y5 (zG (x8-1))=some (.ptr p9 o10)/\∃x11:Int,zK zA 5 h (.ptr p9 o10)=some (.int .u8 x11)/\∃x12:Int,zq .or .u8 x11 (zT .u8 (x2))=some (.int .u8 x12)/\∃p13 o14,z8 zA 71 y5 (zG (x8-1))=some (.ptr p13 o14)/\∃h15,zg zA 5 h (.ptr p13 o14) (.int .u8 x12)=some h15/\E [(23,(zG (y23+1)))] .normal h15))/\(¬(y23<y22)->E [] (.exit 0) h))):=λ_=>by kernel_rfl
theorem zYg:Vy (W26 false) 50 L26 zVc [(5,y5)] d h Q (λE _ _ _ _=>kh zA 71 9 h y5 λv0 h1=>(E [(2,v0),(3,(0:Int))] .ret h1)):=λ_=>by kernel_rfl
theorem z7g{Q:V->H->Prop}:W26 false b26 ⟨50,zC [a0] 0 (Tb.leaf zB),[],h⟩ (endW zA ⟨50,[.tmp 2,.tmp 3],b26⟩ Q)=(RF Tryz.prog zA 41 [a0] h λv0 h1=>∃x2:Int,v0=x2/\(x2≠0->Q (.tuple [(.str []),x2]) h1)/\(¬(x2≠0)->∃x3:Int,zp zA 23 h1 a0=some (x3:V)/\((128:Int)<x3->Q (.tuple [(.str []),(4:Int)]) h1)/\(¬((128:Int)<x3)->∃x4:Int,zp zA 23 h1 a0=some (x4:V)/\∃v5 h6,zF zA 71 1 [(0,(.int .u8 (zT .u8 ((zG (x4+127))))))] h1=some (v5,h6)/\∃x7:Int,zp zA 23 h6 a0=some (x7:V)/\Lz L26 50 [(2,(.str [])),(3,(0:Int)),(23,(0:Int)),(22,x7),(21,a0),(5,v5)] zVW h6 (Kx (W26 false) zVc 0 (endW zA ⟨50,[.tmp 2,.tmp 3],b26⟩ Q))))):=by kernel_rfl
noncomputable def b56:Code:=zE Tryz.f56
theorem z7J:(zA.fn.get 56).map zI=some ⟨14,[.tmp 2,.tmp 3],b56⟩:=by kernel_rfl
def L56:List Nat:=[2,3]
abbrev W56(b:Bool):Code->St->(AX->St->Prop)->Prop:=wpS Tryz.prog zA L56 4 b
theorem z7s{Q:V->H->Prop}:W56 false b56 ⟨14,zC [a0] 0 (Tb.leaf zB),[],h⟩ (endW zA ⟨14,[.tmp 2,.tmp 3],b56⟩ Q)=(RF Tryz.prog zA 107 [a0] h λv0 h1=>∃x2:Int,v0=x2/\(x2≠0->Q (.tuple [.nilslice,x2]) h1)/\(¬(x2≠0)->RF Tryz.prog zA 108 [a0] h1 λv3 h4=>∃x5:Int,v3=x5/\RF Tryz.prog zA 91 [a0,x5] h4 λv6 h7=>∃v8,v6=v8/\Q (.tuple [v8,(0:Int)]) h7)):=by kernel_rfl
noncomputable def b93:Code:=zE Tryz.f93
theorem z7R:(zA.fn.get 93).map zI=some ⟨2,[.cell 0 136],b93⟩:=by kernel_rfl
def L93:List Nat:=[0]
abbrev W93(b:Bool):Code->St->(AX->St->Prop)->Prop:=wpS Tryz.prog zA L93 4 b
theorem z8A{Q:V->H->Prop}:W93 false b93 ⟨2,zC [] 0 (Tb.leaf zB),[],h⟩ (endW zA ⟨2,[.cell 0 136],b93⟩ Q)=((h.nx<T.top/\∀p0 h1,p0=h.nx->h1=h.new (.cells (.ls [.nilFunc,.nilFunc]) ⟨0,137,0⟩ true false)->∃h2,zg zA 136 h1 (.ptr p0 0) (.agg [(.func (.func 26) [] []),(.func (.func 54) [] [])])=some h2/\endL zA h2 [(.cell 0 136,(.ptr p0 0))] Q)):=by kernel_rfl
noncomputable def zCo:Code:=zE Tryz.f101
def zMI:Code:=zi zCo [1,1,1,0,1,0,0]
def zNI:Code:=zi zCo [1,1,1,0,1,0,1]
def zYE:Code:=zi zCo [1,1,1,0,1,0]
def zHe:Code:=zi zCo [1,1,1,1]
theorem z0A:(zA.fn.get 101).map zI=some ⟨18,[.tmp 2,.tmp 3],zCo⟩:=by kernel_rfl
def zMA:List Nat:=[2,3,5,12]
abbrev zJt(b:Bool):Code->St->(AX->St->Prop)->Prop:=wpS Tryz.prog zA zMA 4 b
theorem zSl :Vy (zJt true) 18 zMA (jB zMI) [] d h Q (λE _ _ _ _=>(E [] .normal h)):=λ_=>by kernel_rfl
theorem zSq:Vy (zJt true) 18 zMA (jB zNI) [(5,y5)] d h Q (λE _ _ _ _=>∃x0:Int,zK zA 3 h y5=some (x0:V)/\∃h1,zg zA 3 h y5 (zG (x0+1))=some h1/\E [] .normal h1):=λ_=>by kernel_rfl
theorem zTd:Vy (zJt false) 18 zMA zHe [(5,y5)] d h Q (λE _ _ _ _=>∃x0:Int,zK zA 3 h y5=some (x0:V)/\E [(2,x0),(3,(0:Int))] .ret h):=λ_=>by kernel_rfl
theorem z2J{Q:V->H->Prop}:zJt false zCo ⟨18,zC [a0] 0 (Tb.leaf zB),[],h⟩ (endW zA ⟨18,[.tmp 2,.tmp 3],zCo⟩ Q)=(RF Tryz.prog zA 169 [a0] h λv0 h1=>∃x2:Int,v0=x2/\(x2≠0->Q (.tuple [(0:Int),x2]) h1)/\(¬(x2≠0)->V.one (0:Int)=true/\h1.nx<T.top/\∀p3 h4,p3=h1.nx->h4=h1.new (.cells (.ls [(0:Int)]) ⟨0,4,0⟩ true false)->∃h5,zg zA 3 h4 (.ptr p3 0) (0:Int)=some h5/\RF Tryz.prog zA 170 [a0] h5 λv6 h7=>∃v8,v6=v8/\Gz zMA (Tb.leaf zB) [(2,(0:Int)),(3,(0:Int)),(5,(.ptr p3 0)),(12,v8)] λu=>RC Tryz.prog false zYE ⟨18,u,[],h7⟩ (Kx (zJt false) zHe 0 (endW zA ⟨18,[.tmp 2,.tmp 3],zCo⟩ Q)))):=by kernel_rfl
noncomputable def zW9:Code:=zE Tryz.f104
theorem z0D:(zA.fn.get 104).map zI=some ⟨19,[.tmp 4,.tmp 5],zW9⟩:=by kernel_rfl
def z4X:List Nat:=[4,5]
abbrev z5Y(b:Bool):Code->St->(AX->St->Prop)->Prop:=wpS Tryz.prog zA z4X 4 b
theorem z2M{a0_0:Int}{a0_1 a1:V}{Q:V->H->Prop}:z5Y false zW9 ⟨19,zC [(.agg [a0_0,a0_1]),a1] 0 (Tb.leaf zB),[],h⟩ (endW zA ⟨19,[.tmp 4,.tmp 5],zW9⟩ Q)=(ws (cond (zL (V.cells (.agg [a0_0,a0_1]))) (Cs.ofL (V.cells (.agg [a0_0,a0_1]))) none) λcs2=>h.nx<T.top/\∀p0 h1,p0=h.nx->h1=h.new (.cells cs2 ⟨0,60,0⟩ true false)->∃x3:Int,∃v4,zK zA 59 h1 (.ptr p0 0)=some (.agg [x3,v4])/\RF Tryz.prog zA 176 [(.agg [x3,v4]),a1,(2:Int)] h1 λv5 h6=>∃x7:Int,v5=x7/\(x7≠0->Q (.tuple [(.str []),x7]) h6)/\(¬(x7≠0)->∃x8:Int,∃v9,zK zA 59 h6 (.ptr p0 0)=some (.agg [x8,v9])/\RF Tryz.prog zA 178 [(.agg [x8,v9]),a1,(2:Int)] h6 λv10 h11=>∃l12:List UInt8,∃x13:Int,∃x14:Int,v10=(.agg [l12,x13,x14])/\RF Tryz.prog zA 177 [(.agg [l12,x13,x14])] h11 λv15 h16=>∃l17:List UInt8,∃x18:Int,v15=(.tuple [l17,x18])/\Q (.tuple [l17,x18]) h16)):=by kernel_rfl
noncomputable def zKH:Code:=zE Tryz.f108
def zN2:Code:=zi zKH [1,1,0,1,0,0]
def zOo:Code:=zi zKH [1,1,1]
theorem z0H:(zA.fn.get 108).map zI=some ⟨17,[.tmp 2],zKH⟩:=by kernel_rfl
def zQa:List Nat:=[2,8,7,6,3]
abbrev zQs(b:Bool):Code->St->(AX->St->Prop)->Prop:=wpS Tryz.prog zA zQa 4 b
theorem zSy{y3:Int}{y6:V}:Vy (zQs false) 17 zQa zN2 [(8,y8),(7,y7),(6,y6),(3,y3)] d h Q (λE _ _ _ _=>((y8<y7->∃p0 o1,z8 zA 23 y6 y8=some (.ptr p0 o1)/\∃x2:Int,zK zA 3 h (.ptr p0 o1)=some (x2:V)/\E [(8,(zG (y8+1))),(3,(.int .i64 (max y3 x2)))] .normal h)/\(¬(y8<y7)->E [] (.exit 0) h))):=λ_=>by kernel_rfl
theorem zTi{y3:Int}:Vy (zQs false) 17 zQa zOo [(3,y3)] d h Q (λE _ _ _ _=>(E [(2,y3)] .ret h)):=λ_=>by kernel_rfl
theorem z2Q{Q:V->H->Prop}:zQs false zKH ⟨17,zC [a0] 0 (Tb.leaf zB),[],h⟩ (endW zA ⟨17,[.tmp 2],zKH⟩ Q)=(∃x0:Int,zp zA 23 h a0=some (x0:V)/\Lz zQa 17 [(2,(0:Int)),(8,(0:Int)),(7,x0),(6,a0),(3,(0:Int))] zN2 h (Kx (zQs false) zOo 0 (endW zA ⟨17,[.tmp 2],zKH⟩ Q))):=by kernel_rfl
noncomputable def zM1:Code:=zE Tryz.f173
def zOv:Code:=zi zM1 [1,1]
theorem z0S:(zA.fn.get 173).map zI=some ⟨44,[.tmp 2],zM1⟩:=by kernel_rfl
def zWE:List Nat:=[2,1]
abbrev zWR(b:Bool):Code->St->(AX->St->Prop)->Prop:=wpS Tryz.prog zA zWE 4 b
theorem zTv{y1:V}:Vy (zWR false) 44 zWE zOv [(1,y1)] d h Q (λE _ _ _ _=>zR zA 59 1 h y1 λv0 h1=>∃v2,zK zA 23 h1 v0=some v2/\∃x3:Int,zp zA 23 h1 v2=some (x3:V)/\(h1.nx<=T.top/\h1.low<=T.top)/\(x3<1->E [(2,(23:Int))] .ret h1)/\(¬(x3<1)->((256:Int)<x3->E [(2,(23:Int))] .ret h1)/\(¬((256:Int)<x3)->zR zA 59 1 h1 y1 λv4 h5=>∃v6,zK zA 23 h5 v4=some v6/\∃p7 o8,z8 zA 23 v6 (zG (x3-1))=some (.ptr p7 o8)/\∃x9:Int,zK zA 3 h5 (.ptr p7 o8)=some (x9:V)/\(x9=0->E [(2,(23:Int))] .ret h5)/\(¬(x9=0)->zR zA 59 1 h5 y1 λv10 h11=>∃v12,zK zA 23 h11 v10=some v12/\RF Tryz.prog zA 242 [v12] (zM h11) λv13 h14=>∃x15:Int,v13=x15/\h14.nx<=T.top/\∀h16,h16=yL h11 h14->(x15<(-1)->E [(2,(23:Int))] .ret h16)/\(¬(x15<(-1))->∃x17:Int,∃v18,zK zA 59 h16 y1=some (.agg [x17,v18])/\RF Tryz.prog zA 243 [(.agg [x17,v18])] (zM h16) λv19 h20=>∃x21:Int,v19=x21/\(h16.nx<=h20.low/\h20.nx<=T.top)/\∀h22,h22=yL h16 h20->zR zA 59 0 h22 y1 λv23 h24=>∃x25:Int,zK zA 3 h24 v23=some (x25:V)/\∃x26:Int,zq .shl .i64 1 x25=some (x26:V)/\(x21≠x26->E [(2,(23:Int))] .ret h24)/\(¬(x21≠x26)->E [(2,(0:Int))] .ret h24)))))):=λ_=>by kernel_rfl
theorem z21{a0_0:Int}{a0_1:V}{Q:V->H->Prop}:zWR false zM1 ⟨44,zC [(.agg [a0_0,a0_1])] 0 (Tb.leaf zB),[],h⟩ (endW zA ⟨44,[.tmp 2],zM1⟩ Q)=(ws (cond (zL (V.cells (.agg [a0_0,a0_1]))) (Cs.ofL (V.cells (.agg [a0_0,a0_1]))) none) λcs2=>h.nx<T.top/\∀p0 h1,p0=h.nx->h1=h.new (.cells cs2 ⟨0,60,0⟩ true false)->∃x3:Int,zK zA 3 h1 (.ptr p0 (0+0))=some (x3:V)/\(x3<5->Q (31:Int) h1)/\(¬(x3<5)->∃x4:Int,zK zA 3 h1 (.ptr p0 (0+0))=some (x4:V)/\((12:Int)<x4->Q (31:Int) h1)/\(¬((12:Int)<x4)->Gz zWE (Tb.leaf zB) [(2,(0:Int)),(1,(.ptr p0 0))] λu=>zWR false zOv ⟨44,u,[],h1⟩ (endW zA ⟨44,[.tmp 2],zM1⟩ Q)))):=by kernel_rfl
noncomputable def zWl:Code:=zE Tryz.f177
theorem z0W:(zA.fn.get 177).map zI=some ⟨34,[.tmp 2,.tmp 3],zWl⟩:=by kernel_rfl
def z49:List Nat:=[2,3]
abbrev z5b(b:Bool):Code->St->(AX->St->Prop)->Prop:=wpS Tryz.prog zA z49 4 b
theorem z25{a0_1 a0_2:Int}{a0_0:List UInt8}{Q:V->H->Prop}:z5b false zWl ⟨34,zC [(.agg [a0_0,a0_1,a0_2])] 0 (Tb.leaf zB),[],h⟩ (endW zA ⟨34,[.tmp 2,.tmp 3],zWl⟩ Q)=((h.nx<T.top/\∀p0 h1,p0=h.nx->h1=h.new (.cells (.ls [a0_0,a0_1,a0_2]) ⟨0,221,0⟩ true false)->(h1.nx<=T.top/\h1.low<=T.top)/\∃l2:List UInt8,∃x3:Int,∃x4:Int,zK zA 220 h1 (.ptr p0 0)=some (.agg [l2,x3,x4])/\RF Tryz.prog zA 249 [(.agg [l2,x3,x4])] (zM h1) λv5 h6=>∃x7:Int,v5=x7/\(h1.nx<=h6.low/\h6.nx<=T.top)/\∀h8,h8=yL h1 h6->∃l9:List UInt8,zK zA 9 h8 (.ptr p0 (0+0))=some (.str l9)/\((1048576:Int)<(zG ((Int.ofNat (List.length l9))+1))->RF Tryz.prog zA 250 [true,(4:Int)] h8 λv10 h11=>∃x12:Int,v10=x12/\∃v13 h14,zF zA 343 2 [(0,x7),(1,x12)] h11=some (v13,h14)/\RF Tryz.prog zA 248 [v13] h14 λv15 h16=>∃x17:Int,v15=x17/\(x17≠0->Q (.tuple [(.str []),x17]) h16)/\(¬(x17≠0)->∃l18:List UInt8,∃x19:Int,∃x20:Int,zK zA 220 h16 (.ptr p0 0)=some (.agg [l18,x19,x20])/\RF Tryz.prog zA 251 [(.agg [l18,x19,x20])] h16 λv21 h22=>∃v23,v21=v23/\∃x24:Int,zK zA 3 h22 (.ptr p0 (0+2))=some (x24:V)/\∃v25 h26,zF zA 344 1 [(0,(.agg [(.int .u64 (zT .u64 ((zG (8-x24))))),(.int .u64 1)]))] h22=some (v25,h26)/\RF Tryz.prog zA 252 [v23,v25] h26 λv27 h28=>v27=(.tuple [])/\∃v29 h30,zh zA ⟨none,.nilCheck (t 0),0, "",#[],none⟩ (λ_=>some v23) h28=some (.val v29 h30)/\zR zA 300 0 h30 v29 λv31 h32=>zR zA 298 0 h32 v31 λv33 h34=>∃l35:List UInt8,zK zA 9 h34 v33=some (.str l35)/\Q (.tuple [l35,(0:Int)]) h34))/\(¬((1048576:Int)<(zG ((Int.ofNat (List.length l9))+1)))->RF Tryz.prog zA 250 [false,(4:Int)] h8 λv36 h37=>∃x38:Int,v36=x38/\∃v39 h40,zF zA 343 2 [(0,x7),(1,x38)] h37=some (v39,h40)/\RF Tryz.prog zA 248 [v39] h40 λv41 h42=>∃x43:Int,v41=x43/\(x43≠0->Q (.tuple [(.str []),x43]) h42)/\(¬(x43≠0)->∃l44:List UInt8,∃x45:Int,∃x46:Int,zK zA 220 h42 (.ptr p0 0)=some (.agg [l44,x45,x46])/\RF Tryz.prog zA 251 [(.agg [l44,x45,x46])] h42 λv47 h48=>∃v49,v47=v49/\∃x50:Int,zK zA 3 h48 (.ptr p0 (0+2))=some (x50:V)/\∃v51 h52,zF zA 344 1 [(0,(.agg [(.int .u64 (zT .u64 ((zG (8-x50))))),(.int .u64 1)]))] h48=some (v51,h52)/\RF Tryz.prog zA 252 [v49,v51] h52 λv53 h54=>v53=(.tuple [])/\∃v55 h56,zh zA ⟨none,.nilCheck (t 0),0, "",#[],none⟩ (λ_=>some v49) h54=some (.val v55 h56)/\zR zA 300 0 h56 v55 λv57 h58=>zR zA 298 0 h58 v57 λv59 h60=>∃l61:List UInt8,zK zA 9 h60 v59=some (.str l61)/\Q (.tuple [l61,(0:Int)]) h60)))):=by kernel_rfl
noncomputable def zWp:Code:=zE Tryz.f183
theorem z01:(zA.fn.get 183).map zI=some ⟨9,[.tmp 3],zWp⟩:=by kernel_rfl
def z4d:List Nat:=[3]
abbrev z5f(b:Bool):Code->St->(AX->St->Prop)->Prop:=wpS Tryz.prog zA z4d 4 b
theorem z2b{a0:Int}{a1:V}{Q:V->H->Prop}:z5f false zWp ⟨9,zC [a0,a1] 0 (Tb.leaf zB),[],h⟩ (endW zA ⟨9,[.tmp 3],zWp⟩ Q)=(∃x0:Int,zK zA 3 h a1=some (x0:V)/\∃x1:Int,zq .shl .i64 1 (zT .u64 ((zG (x0-a0))))=some (x1:V)/\Q x1 h):=by kernel_rfl
noncomputable def zKK:Code:=zE Tryz.f235
def zNc:Code:=zi zKK [1,0,0]
theorem z0a:(zA.fn.get 235).map zI=some ⟨22,[],zKK⟩:=by kernel_rfl
def zWG:List Nat:=[7,6,5,0]
abbrev zZh(b:Bool):Code->St->(AX->St->Prop)->Prop:=wpS Tryz.prog zA zWG 4 b
theorem zTI:Vy (zZh false) 22 zWG zNc [(7,y7),(6,y6),(5,y5),(0,y0)] d h Q (λE _ _ _ _=>((y7<y6->∃p0 o1,z8 zA 23 y5 y7=some (.ptr p0 o1)/\∃x2:Int,zK zA 3 h (.ptr p0 o1)=some (x2:V)/\((0:Int)<x2->yW zA Tryz.prog 4 h (λv3 h4=>zBC .not v3 λv5=>xM v5 λu=>match u with|true=>(E [] .ret h4)|false=>(E [(7,(zG (y7+1)))] .normal h4)) [y7,x2] y0)/\(¬((0:Int)<x2)->E [(7,(zG (y7+1)))] .normal h))/\(¬(y7<y6)->E [] (.exit 0) h))):=λ_=>by kernel_rfl
theorem z2k{a1:V}{Q:V->H->Prop}:zZh false zKK ⟨22,zC [a0,a1] 0 (Tb.leaf zB),[],h⟩ (endW zA ⟨22,[],zKK⟩ Q)=(∃v0,zK zA 23 h a1=some v0/\∃x1:Int,zp zA 23 h v0=some (x1:V)/\Lz zWG 22 [(7,(0:Int)),(6,x1),(5,v0),(0,a0)] zNc h λe s1=>(endW zA ⟨22,[],zKK⟩ Q) (ze 0 e) s1):=by kernel_rfl
noncomputable def zWx:Code:=zE Tryz.f238
theorem z0d:(zA.fn.get 238).map zI=some ⟨4,[.tmp 2],zWx⟩:=by kernel_rfl
def z4l:List Nat:=[2]
abbrev z5n(b:Bool):Code->St->(AX->St->Prop)->Prop:=wpS Tryz.prog zA z4l 4 b
theorem z2n{Q:V->H->Prop}:z5n false zWx ⟨4,zC [a0] 0 (Tb.leaf zB),[],h⟩ (endW zA ⟨4,[.tmp 2],zWx⟩ Q)=((V.one a0=true/\h.nx<T.top/\∀p0 h1,p0=h.nx->h1=h.new (.cells (.ls [a0]) ⟨0,24,0⟩ true false)->Q (.func (.func 285) [] [(.ptr p0 0)]) h1)):=by kernel_rfl
noncomputable def zCq:Code:=zE Tryz.f240
def z6g:Array Oper:=Yg (zi zCq [1,1,0,1,0,0,1,1,0,0,1,0])
def zPE:Code:=zi zCq [1,1,0,1,0,0,1,1,0,0,1,1]
def zHj:Code:=zi zCq [1,1,0,1,0,0,1,1,1]
def zNd:Code:=zi zCq [1,1,0,1,0,0]
def zPF:Code:=zi zCq [1,1,1]
theorem z0f:(zA.fn.get 240).map zI=some ⟨28,[.tmp 4],zCq⟩:=by kernel_rfl
noncomputable def zE8:Code:=zE Tryz.f252
def zNh:Code:=zi zE8 [0,1,0,0]
def zNi:Code:=zi zE8 [1,1,0,0,0]
def zPM:Code:=zi zE8 [1,1,1]
def zPN:Code:=zi zE8 [1]
theorem z0r:(zA.fn.get 252).map zI=some ⟨78,[],zE8⟩:=by kernel_rfl
def zJp:List Nat:=[9,8,7,0,6]
abbrev zGm(b:Bool):Code->St->(AX->St->Prop)->Prop:=wpS Tryz.prog zA zJp 4 b
theorem zTM{y9:Int}{y7:V}:Vy (zGm false) 78 zJp zNh [(9,y9),(8,y8),(7,y7),(0,y0)] d h Q (λE _ _ _ _=>((y9<y8->∃p0 o1,z8 zA 344 y7 y9=some (.ptr p0 o1)/\∃x2:Int,∃x3:Int,zK zA 296 h (.ptr p0 o1)=some (.agg [(.int .u64 x2),(.int .u64 x3)])/\h.nx<T.top/\∀p4 h5,p4=h.nx->h5=h.new (.cells (.ls [(.int .u64 0),(.int .u64 0)]) ⟨0,297,0⟩ true false)->∃h6,zg zA 296 h5 (.ptr p4 0) (.agg [(.int .u64 x2),(.int .u64 x3)])=some h6/\(h6.nx<=T.top/\h6.low<=T.top)/\∃v7 h8,zh zA ⟨none,.nilCheck (t 0),0, "",#[],none⟩ (λ_=>some y0) (zM h6)=some (.val v7 h8)/\(h6.nx<=h8.low/\h8.nx<=T.top)/\∀h9,h9=yL h6 h8->zR zA 300 1 h9 v7 λv10 h11=>∃x12:Int,zK zA 127 h11 v10=some (.int .u64 x12)/\∃p13 o14,z8 zA 296 (.ptr p4 0) (1:Int)=some (.ptr p13 o14)/\∃x15:Int,zK zA 127 h11 (.ptr p13 o14)=some (.int .u64 x15)/\∃v16 h17,zh zA ⟨none,.nilCheck (t 0),0, "",#[],none⟩ (λ_=>some y0) (zM h11)=some (.val v16 h17)/\(h11.nx<=h17.low/\h17.nx<=T.top)/\∀h18,h18=yL h11 h17->zR zA 300 2 h18 v16 λv19 h20=>∃x21:Int,zK zA 3 h20 v19=some (x21:V)/\∃x22:Int,zq .shl .u64 x15 (zT .u64 (x21))=some (.int .u64 x22)/\∃x23:Int,zq .or .u64 x12 x22=some (.int .u64 x23)/\∃v24 h25,zh zA ⟨none,.nilCheck (t 0),0, "",#[],none⟩ (λ_=>some y0) h20=some (.val v24 h25)/\zR zA 300 1 h25 v24 λv26 h27=>∃h28,zg zA 127 h27 v26 (.int .u64 x23)=some h28/\(h28.nx<=T.top/\h28.low<=T.top)/\∃v29 h30,zh zA ⟨none,.nilCheck (t 0),0, "",#[],none⟩ (λ_=>some y0) (zM h28)=some (.val v29 h30)/\(h28.nx<=h30.low/\h30.nx<=T.top)/\∀h31,h31=yL h28 h30->zR zA 300 2 h31 v29 λv32 h33=>∃x34:Int,zK zA 3 h33 v32=some (x34:V)/\∃p35 o36,z8 zA 296 (.ptr p4 0) (0:Int)=some (.ptr p35 o36)/\∃x37:Int,zK zA 127 h33 (.ptr p35 o36)=some (.int .u64 x37)/\∃v38 h39,zh zA ⟨none,.nilCheck (t 0),0, "",#[],none⟩ (λ_=>some y0) h33=some (.val v38 h39)/\zR zA 300 2 h39 v38 λv40 h41=>∃h42,zg zA 3 h41 v40 (zG (x34+(zG (x37))))=some h42/\E [(9,(zG (y9+1)))] .normal h42)/\(¬(y9<y8)->E [] (.exit 0) h))):=λ_=>by kernel_rfl
theorem zTN{y6:V}:Vy (zGm false) 78 zJp zNi [(0,y0),(6,y6)] d h Q (λE _ _ _ _=>∃v0 h1,zh zA ⟨none,.nilCheck (t 0),0, "",#[],none⟩ (λ_=>some y0) h=some (.val v0 h1)/\zR zA 300 2 h1 v0 λv2 h3=>∃x4:Int,zK zA 3 h3 v2=some (x4:V)/\((8:Int)<=x4->∃v5 h6,zh zA ⟨none,.nilCheck (t 0),0, "",#[],none⟩ (λ_=>some y0) h3=some (.val v5 h6)/\zR zA 300 1 h6 v5 λv7 h8=>∃x9:Int,zK zA 127 h8 v7=some (.int .u64 x9)/\∃v10 h11,zF zA 71 1 [(0,(.int .u8 (zT .u8 (x9))))] h8=some (v10,h11)/\True/\∃v12 h13,zc zA 71 h11 y6 v10=some (v12,h13)/\∃v14 h15,zh zA ⟨none,.nilCheck (t 0),0, "",#[],none⟩ (λ_=>some y0) h13=some (.val v14 h15)/\zR zA 300 1 h15 v14 λv16 h17=>∃x18:Int,zK zA 127 h17 v16=some (.int .u64 x18)/\∃x19:Int,zq .shr .u64 x18 8=some (.int .u64 x19)/\∃v20 h21,zh zA ⟨none,.nilCheck (t 0),0, "",#[],none⟩ (λ_=>some y0) h17=some (.val v20 h21)/\zR zA 300 1 h21 v20 λv22 h23=>∃h24,zg zA 127 h23 v22 (.int .u64 x19)=some h24/\∃v25 h26,zh zA ⟨none,.nilCheck (t 0),0, "",#[],none⟩ (λ_=>some y0) h24=some (.val v25 h26)/\zR zA 300 2 h26 v25 λv27 h28=>∃x29:Int,zK zA 3 h28 v27=some (x29:V)/\∃v30 h31,zh zA ⟨none,.nilCheck (t 0),0, "",#[],none⟩ (λ_=>some y0) h28=some (.val v30 h31)/\zR zA 300 2 h31 v30 λv32 h33=>∃h34,zg zA 3 h33 v32 (zG (x29-8))=some h34/\E [(6,v12)] .normal h34)/\(¬((8:Int)<=x4)->E [] (.exit 2) h3)):=λ_=>by kernel_rfl
theorem zUO{y6:V}:Vy (zGm false) 78 zJp zPM [(0,y0),(6,y6)] d h Q (λE _ _ _ _=>kh zA 71 9 h y6 λv0 h1=>∃v2 h3,zh zA ⟨none,.nilCheck (t 0),0, "",#[],none⟩ (λ_=>some y0) h1=some (.val v2 h3)/\zR zA 300 0 h3 v2 λv4 h5=>zR zA 298 0 h5 v4 λv6 h7=>∃h8,zg zA 9 h7 v6 v0=some h8/\E [] .normal h8):=λ_=>by kernel_rfl
theorem zUP:Vy (zGm false) 78 zJp zPN [(0,y0)] d h Q (λ_ _ M S _=>∃v0 h1,zh zA ⟨none,.nilCheck (t 0),0, "",#[],none⟩ (λ_=>some y0) h=some (.val v0 h1)/\zR zA 300 0 h1 v0 λv2 h3=>zR zA 298 0 h3 v2 λv4 h5=>∃l6:List UInt8,zK zA 9 h5 v4=some (.str l6)/\∃v8 h7,xN zA 9 71 h5 l6=some (v8,h7)/\M [(6,v8)] zNi h7 (Kx (zGm false) zPM 2 S)):=λ_=>by kernel_rfl
theorem z3A{a1:V}{Q:V->H->Prop}:zGm false zE8 ⟨78,zC [a0,a1] 0 (Tb.leaf zB),[],h⟩ (endW zA ⟨78,[],zE8⟩ Q)=(∃x0:Int,zp zA 344 h a1=some (x0:V)/\Lz zJp 78 [(9,(0:Int)),(8,x0),(7,a1),(0,a0)] zNh h (Kx (zGm false) zPN 0 (endW zA ⟨78,[],zE8⟩ Q))):=by kernel_rfl
noncomputable def zBT:Code:=zE Tryz.f287
def Jp:Code:=zi zBT [1,0,0,1]
def Jq:Code:=zi zBT [1,1]
theorem z1I:(zA.fn.get 287).map zI=some ⟨31,[.tmp 2],zBT⟩:=by kernel_rfl
def zEL:List Nat:=[2,3,1]
abbrev JX(b:Bool):Code->St->(AX->St->Prop)->Prop:=wpS Tryz.prog zA zEL 4 b
theorem zU7{y3:Bool}{y1:V}:Vy (JX false) 31 zEL Jp [(3,y3),(1,y1)] d h Q (λE _ _ _ _=>ZT y3 λu=>match u with|true=>(E [(2,(2:Int))] .ret h)|false=>zR zA 209 0 h y1 λv0 h1=>∃l2:List UInt8,zK zA 9 h1 v0=some (.str l2)/\((1048576:Int)<(Int.ofNat (List.length l2))->E [(2,(4:Int))] .ret h1)/\(¬((1048576:Int)<(Int.ofNat (List.length l2)))->E [] .normal h1)):=λ_=>by kernel_rfl
theorem zU8 :Vy (JX false) 31 zEL Jq [] d h Q (λE _ _ _ _=>(E [(2,(0:Int))] .ret h)):=λ_=>by kernel_rfl
theorem z3R{a0_1 a0_2:Int}{a0_0:List UInt8}{Q:V->H->Prop}:JX false zBT ⟨31,zC [(.agg [a0_0,a0_1,a0_2])] 0 (Tb.leaf zB),[],h⟩ (endW zA ⟨31,[.tmp 2],zBT⟩ Q)=((h.nx<T.top/\∀p0 h1,p0=h.nx->h1=h.new (.cells (.ls [a0_0,a0_1,a0_2]) ⟨0,210,0⟩ true false)->∃x2:Int,zK zA 3 h1 (.ptr p0 (0+2))=some (x2:V)/\(x2<0->Gz zEL (Tb.leaf zB) [(2,(0:Int)),(3,true),(1,(.ptr p0 0))] λu=>JX false Jp ⟨31,u,[],h1⟩ (Kx (JX false) Jq 0 (endW zA ⟨31,[.tmp 2],zBT⟩ Q)))/\(¬(x2<0)->∃x3:Int,zK zA 3 h1 (.ptr p0 (0+2))=some (x3:V)/\((7:Int)<x3->Gz zEL (Tb.leaf zB) [(2,(0:Int)),(3,true),(1,(.ptr p0 0))] λu=>JX false Jp ⟨31,u,[],h1⟩ (Kx (JX false) Jq 0 (endW zA ⟨31,[.tmp 2],zBT⟩ Q)))/\(¬((7:Int)<x3)->∃x4:Int,zK zA 3 h1 (.ptr p0 (0+1))=some (x4:V)/\(x4<0->Gz zEL (Tb.leaf zB) [(2,(0:Int)),(3,true),(1,(.ptr p0 0))] λu=>JX false Jp ⟨31,u,[],h1⟩ (Kx (JX false) Jq 0 (endW zA ⟨31,[.tmp 2],zBT⟩ Q)))/\(¬(x4<0)->∃x5:Int,zK zA 3 h1 (.ptr p0 (0+1))=some (x5:V)/\∃x6:Int,zK zA 3 h1 (.ptr p0 (0+2))=some (x6:V)/\∃x7:Int,zq .shr .i64 x5 (zT .u64 (x6))=some (x7:V)/\(x7≠0->Gz zEL (Tb.leaf zB) [(2,(0:Int)),(3,true),(1,(.ptr p0 0))] λu=>JX false Jp ⟨31,u,[],h1⟩ (Kx (JX false) Jq 0 (endW zA ⟨31,[.tmp 2],zBT⟩ Q)))/\(¬(x7≠0)->Gz zEL (Tb.leaf zB) [(2,(0:Int)),(3,false),(1,(.ptr p0 0))] λu=>JX false Jp ⟨31,u,[],h1⟩ (Kx (JX false) Jq 0 (endW zA ⟨31,[.tmp 2],zBT⟩ Q)))))))):=by kernel_rfl
noncomputable def zM4:Code:=zE Tryz.f295
def zPY:Code:=zi zM4 [1,1]
theorem z1Q:(zA.fn.get 295).map zI=some ⟨21,[.tmp 4],zM4⟩:=by kernel_rfl
def zWN:List Nat:=[4,2,1]
abbrev zWU(b:Bool):Code->St->(AX->St->Prop)->Prop:=wpS Tryz.prog zA zWN 4 b
theorem zUd{y2:V}:Vy (zWU false) 21 zWN zPY [(2,y2),(1,y1)] d h Q (λE _ _ _ _=>zR zA 346 0 h y2 λv0 h1=>zR zA 216 1 h1 v0 λv2 h3=>∃v4,zK zA 214 h3 v2=some v4/\∃p5 o6,z8 zA 214 v4 y1=some (.ptr p5 o6)/\∃v7,zK zA 23 h3 (.ptr p5 o6)=some v7/\E [(4,v7)] .ret h3):=λ_=>by kernel_rfl
theorem z3Z{a0_0:Int}{a0_1:V}{Q:V->H->Prop}:zWU false zM4 ⟨21,zC [(.agg [a0_0,a0_1]),a1] 0 (Tb.leaf zB),[],h⟩ (endW zA ⟨21,[.tmp 4],zM4⟩ Q)=(ws (cond (zL (V.cells (.agg [a0_0,a0_1]))) (Cs.ofL (V.cells (.agg [a0_0,a0_1]))) none) λcs2=>h.nx<T.top/\∀p0 h1,p0=h.nx->h1=h.new (.cells cs2 ⟨0,347,0⟩ true false)->(a1<0->Q .nilslice h1)/\(¬(a1<0)->∃v3,zK zA 214 h1 (.ptr p0 ((0+0)+1))=some v3/\∃x4:Int,zp zA 214 h1 v3=some (x4:V)/\(x4<=a1->Q .nilslice h1)/\(¬(x4<=a1)->Gz zWN (Tb.leaf zB) [(4,.nilslice),(2,(.ptr p0 0)),(1,a1)] λu=>zWU false zPY ⟨21,u,[],h1⟩ (endW zA ⟨21,[.tmp 4],zM4⟩ Q)))):=by kernel_rfl
noncomputable def zKU:Code:=zE Tryz.f311
def zNv:Code:=zi zKU [1,0,1,0,0]
def zP3:Code:=zi zKU [1,1]
theorem z10:(zA.fn.get 311).map zI=some ⟨19,[.tmp 4],zKU⟩:=by kernel_rfl
def zQk:List Nat:=[4,8,7,1,0]
abbrev zRE(b:Bool):Code->St->(AX->St->Prop)->Prop:=wpS Tryz.prog zA zQk 4 b
theorem zT0{y1:V}:Vy (zRE false) 19 zQk zNv [(8,y8),(7,y7),(1,y1),(0,y0)] d h Q (λE _ _ _ _=>((y8<y7->∃p0 o1,z8 zA 23 y0 y8=some (.ptr p0 o1)/\∃x2:Int,zK zA 3 h (.ptr p0 o1)=some (x2:V)/\yW zA Tryz.prog 4 h (λv3 h4=>xM v3 λu=>match u with|true=>(E [(4,y8)] .ret h4)|false=>(E [(8,(zG (y8+1)))] .normal h4)) [x2] y1)/\(¬(y8<y7)->E [] (.exit 0) h))):=λ_=>by kernel_rfl
theorem zUj :Vy (zRE false) 19 zQk zP3 [] d h Q (λE _ _ _ _=>(E [(4,(.int .i64 ((-1))))] .ret h)):=λ_=>by kernel_rfl
theorem z39{a1:V}{Q:V->H->Prop}:zRE false zKU ⟨19,zC [a0,a1] 0 (Tb.leaf zB),[],h⟩ (endW zA ⟨19,[.tmp 4],zKU⟩ Q)=(∃x0:Int,zp zA 23 h a0=some (x0:V)/\Lz zQk 19 [(4,(0:Int)),(8,(0:Int)),(7,x0),(1,a1),(0,a0)] zNv h (Kx (zRE false) zP3 0 (endW zA ⟨19,[.tmp 4],zKU⟩ Q))):=by kernel_rfl
noncomputable def zKV:Code:=zE Tryz.f312
def zNw:Code:=zi zKV [1,0,1,0,0]
def zP4:Code:=zi zKV [1,1]
theorem z11:(zA.fn.get 312).map zI=some ⟨21,[.tmp 2],zKV⟩:=by kernel_rfl
def zQl:List Nat:=[2,3,0]
abbrev zRF(b:Bool):Code->St->(AX->St->Prop)->Prop:=wpS Tryz.prog zA zQl 4 b
theorem zT1{y3:Int}:Vy (zRF false) 21 zQl zNw [(3,y3),(0,y0)] d h Q (λE _ _ _ _=>(((0:Int)<y3->(h.nx<=T.top/\h.low<=T.top)/\∃p0 o1,z8 zA 23 y0 y3=some (.ptr p0 o1)/\∃x2:Int,zK zA 3 h (.ptr p0 o1)=some (x2:V)/\∃p3 o4,z8 zA 23 y0 (zG (y3-1))=some (.ptr p3 o4)/\∃x5:Int,zK zA 3 h (.ptr p3 o4)=some (x5:V)/\RF Tryz.prog zA 326 [x2,x5] h λv6 h7=>∃b8:Bool,v6=b8/\(b8=true->E [(2,false)] .ret h7)/\(b8=false->E [(3,(zG (y3-1)))] .normal h7))/\(¬((0:Int)<y3)->E [] (.exit 0) h))):=λ_=>by kernel_rfl
theorem zUk :Vy (zRF false) 21 zQl zP4 [] d h Q (λE _ _ _ _=>(E [(2,true)] .ret h)):=λ_=>by kernel_rfl
theorem z3a{Q:V->H->Prop}:zRF false zKV ⟨21,zC [a0] 0 (Tb.leaf zB),[],h⟩ (endW zA ⟨21,[.tmp 2],zKV⟩ Q)=(∃x0:Int,zp zA 23 h a0=some (x0:V)/\Lz zQl 21 [(2,false),(3,(zG (x0-1))),(0,a0)] zNw h (Kx (zRF false) zP4 0 (endW zA ⟨21,[.tmp 2],zKV⟩ Q))):=by kernel_rfl
noncomputable def zXX:Code:=zE Tryz.f326
theorem z19:(zA.fn.get 326).map zI=some ⟨17,[.tmp 4],zXX⟩:=by kernel_rfl
def z5L:List Nat:=[4]
abbrev z6N(b:Bool):Code->St->(AX->St->Prop)->Prop:=wpS Tryz.prog zA z5L 4 b
theorem z3i{a0:Int}{Q:V->H->Prop}:z6N false zXX ⟨17,zC [a0,a1] 0 (Tb.leaf zB),[],h⟩ (endW zA ⟨17,[.tmp 4],zXX⟩ Q)=(RF Tryz.prog zA 338 [a0] h λv0 h1=>∃b2:Bool,v0=b2/\(b2=true->RF Tryz.prog zA 338 [a1] h1 λv3 h4=>∃b5:Bool,v3=b5/\(b5=true->(a0<a1->Q true h4)/\(¬(a0<a1)->Q false h4))/\(b5=false->Q true h4))/\(b2=false->(a0<a1->Q true h1)/\(¬(a0<a1)->Q false h1))):=by kernel_rfl
noncomputable def zXZ:Code:=zE Tryz.f338
theorem z1d:(zA.fn.get 338).map zI=some ⟨6,[.tmp 2],zXZ⟩:=by kernel_rfl
def z5N:List Nat:=[2]
abbrev z6P(b:Bool):Code->St->(AX->St->Prop)->Prop:=wpS Tryz.prog zA z5N 4 b
theorem z3m{a0:Int}{Q:V->H->Prop}:z6P false zXZ ⟨6,zC [a0] 0 (Tb.leaf zB),[],h⟩ (endW zA ⟨6,[.tmp 2],zXZ⟩ Q)=(((a0≠a0->Q true h)/\(¬(a0≠a0)->Q false h))):=by kernel_rfl
end Go.Proofs.YtnpeieeomokomaaGreat

