/- CF. No condition. -/
import Derived.Test.YtnpeieeomokomaaGreatZCtx
import Derived.Test.YtnpeieeomokomaaGreatZS
import Derived.Test.YtnpeieeomokomaaGreatZW
import Derived.Test.YtnpeieeomokomaaGreatZCD
import Derived.Test.YtnpeieeomokomaaGreatZCT
noncomputable section
namespace Go.Proofs.YtnpeieeomokomaaGreat
open Go.Sim
theorem zCO:zA.ty.get 220=some ⟨220,(.struct #[⟨ "S",9,0,false, "", "",0⟩,⟨ "Part",3,1,false, "", "",16⟩,⟨ "N",3,2,false, "", "",24⟩]),3,32,some (.agg [(sb []),(ip 0),(ip 0)]),true,false,false,[]⟩:=by kernel_rfl
theorem jw:zA.ty.get 233=some ⟨233,(.slice 235),1,24,some .nilslice,false,false,false,[⟨ "Len",106,#[],some (180,false)⟩,⟨ "Less",288,#[],some (384,false)⟩,⟨ "Swap",290,#[],some (387,false)⟩]⟩:=by kernel_rfl
theorem qd:zA.ty.get 235=some ⟨235,(.pointer 237),1,8,some .nilptr,true,false,false,[⟨ "cheesepress/length.key",427,#[],some (389,true)⟩]⟩:=by kernel_rfl
theorem zJQ:zA.ty.get 239=some ⟨239,(.func #[235,3] #[] false),1,8,some .nilFunc,false,false,false,[]⟩:=by kernel_rfl
theorem zP7:zA.ty.get 296=some ⟨296,(.array 2 127),2,16,some (.agg [(.int .u64 (.ofNat 0)),(.int .u64 (.ofNat 0))]),true,false,false,[]⟩:=by kernel_rfl
theorem zP8:zA.ty.get 344=some ⟨344,(.slice 296),1,24,some .nilslice,false,false,false,[]⟩:=by kernel_rfl
theorem zJS:zA.ty.get 346=some ⟨346,(.struct #[⟨ "EncodeTable",216,0,true, "", "",0⟩]),2,32,some (.agg [(ip 0),.nilslice]),false,false,false,[⟨ "cheesepress/encode.cells",347,#[],some (295,false)⟩,⟨ "cheesepress/encode.put",349,#[],some (296,false)⟩]⟩:=by kernel_rfl
noncomputable def zVx:Code:=zE Tryz.f102
theorem zZY:(zA.fn.get 102).map zI=some ⟨23,[.cell 4 59,.tmp 5],zVx⟩:=by kernel_rfl
def z3e:List Nat:=[4,5]
abbrev z4f (b:Bool):Code->St->(AX->St->Prop)->Prop:=wpS Tryz.prog zA z3e 4 b
variable {tm:Tm}{d:List AD}{h:H}{Q:AX->St->Prop}
theorem z15  {a1:Int}{a0:V}{Q:V->H->Prop}:z4f false zVx ⟨23,zC [a0,a1] 0 (Tb.leaf zB),[],h⟩ (endW zA ⟨23,[.cell 4 59,.tmp 5],zVx⟩ Q)=((h.nx<T.top/\∀p0 h1,p0=h.nx->h1=h.new (.cells (.ls [(0:Int),.nilslice]) ⟨0,60,0⟩ true false)->RF Tryz.prog zA 171 [a0,a1] h1 λv2 h3=>∃x4:Int,∃x5:Int,v2=(.tuple [x4,x5])/\(x5≠0->∃h6,zf zA 59 h3 (.ptr p0 0) (.agg [(0:Int),.nilslice])=some h6/\endL zA h6 [(.cell 4 59,(.ptr p0 0)),(.tmp 5,x5)] Q)/\(¬(x5≠0)->RF Tryz.prog zA 172 [a0,x4] h3 λv7 h8=>∃x9:Int,∃v10,∃x11:Int,v7=(.tuple [(.agg [x9,v10]),x11])/\∃h12,zf zA 59 h8 (.ptr p0 0) (.agg [x9,v10])=some h12/\endL zA h12 [(.cell 4 59,(.ptr p0 0)),(.tmp 5,x11)] Q))):=by kernel_rfl
noncomputable def zVy:Code:=zE Tryz.f103
theorem zZZ:(zA.fn.get 103).map zI=some ⟨15,[.tmp 2,.tmp 3],zVy⟩:=by kernel_rfl
def z3f:List Nat:=[2,3]
abbrev z4g (b:Bool):Code->St->(AX->St->Prop)->Prop:=wpS Tryz.prog zA z3f 4 b
theorem z16  {a0_0:Int}{a0_1:V}{Q:V->H->Prop}:z4g false zVy ⟨15,zC [(.agg [a0_0,a0_1])] 0 (Tb.leaf zB),[],h⟩ (endW zA ⟨15,[.tmp 2,.tmp 3],zVy⟩ Q)=(wh (cond (zL (V.cells (.agg [a0_0,a0_1]))) (Cs.ofL (V.cells (.agg [a0_0,a0_1]))) none) λcs2=>h.nx<T.top/\∀p0 h1,p0=h.nx->h1=h.new (.cells cs2 ⟨0,60,0⟩ true false)->∃x3:Int,∃v4,zK zA 59 h1 (.ptr p0 0)=some (.agg [x3,v4])/\RF Tryz.prog zA 173 [(.agg [x3,v4])] h1 λv5 h6=>∃x7:Int,v5=x7/\(x7≠0->Q (.tuple [(.str []),x7]) h6)/\(¬(x7≠0)->∃x8:Int,∃v9,zK zA 59 h6 (.ptr p0 0)=some (.agg [x8,v9])/\RF Tryz.prog zA 175 [(.agg [x8,v9])] h6 λv10 h11=>∃l12:List UInt8,∃x13:Int,∃x14:Int,v10=(.agg [l12,x13,x14])/\RF Tryz.prog zA 174 [(.agg [l12,x13,x14])] h11 λv15 h16=>∃l17:List UInt8,∃x18:Int,v15=(.tuple [l17,x18])/\Q (.tuple [l17,x18]) h16)):=by kernel_rfl
noncomputable def zMA:Code:=zE Tryz.f107
def zOO:Code:=zg zMA [1,1]
theorem zZ3:(zA.fn.get 107).map zI=some ⟨43,[.tmp 2],zMA⟩:=by kernel_rfl
def zV3:List Nat:=[2,0]
abbrev zVg (b:Bool):Code->St->(AX->St->Prop)->Prop:=wpS Tryz.prog zA zV3 4 b
theorem zSz {y0:V}:Vy (zVg false) 43 zV3 zOO [(0,y0)] d h Q (λE _ _ _ _=>RF Tryz.prog zA 142 [y0] h λv0 h1=>∃x2:Int,∃b3:Bool,v0=(.tuple [x2,b3])/\(b3=true->RF Tryz.prog zA 108 [y0] h1 λv4 h5=>∃x6:Int,v4=x6/\V.one (0:Int)=true/\h5.nx<T.top/\∀p7 h8,p7=h5.nx->h8=h5.new (.cells (.ls [(0:Int)]) ⟨0,4,0⟩ true false)->∃h9,zf zA 3 h8 (.ptr p7 0) x6=some h9/\(h9.nx<=T.top/\h9.low<=T.top)/\∃x10:Int,zm zA 23 h9 y0=some (x10:V)/\∃p11 o12,z7 zA 23 y0 (zH (x10-1))=some (.ptr p11 o12)/\∃x13:Int,zK zA 3 h9 (.ptr p11 o12)=some (x13:V)/\(x13=0->E [(2,(21:Int))] .ret h9)/\(¬(x13=0)->(x2<2->E [(2,(21:Int))] .ret h9)/\(¬(x2<2)->RF Tryz.prog zA 143 [y0,(.func (.func 183) [] [(.ptr p7 0)])] (zM h9) λv14 h15=>∃x16:Int,v14=x16/\(h9.nx<=h15.low/\h15.nx<=T.top)/\∀h17,h17=yG h9 h15->∃x18:Int,zK zA 3 h17 (.ptr p7 0)=some (x18:V)/\∃x19:Int,zn .shl .i64 1 (zT .u64 (x18))=some (x19:V)/\(x16≠x19->E [(2,(21:Int))] .ret h17)/\(¬(x16≠x19)->E [(2,(0:Int))] .ret h17))))/\(b3=false->E [(2,(2:Int))] .ret h1)):=λ_=>by kernel_rfl
theorem z1a  {a0:V}{Q:V->H->Prop}:zVg false zMA ⟨43,zC [a0] 0 (Tb.leaf zB),[],h⟩ (endW zA ⟨43,[.tmp 2],zMA⟩ Q)=(∃x0:Int,zm zA 23 h a0=some (x0:V)/\(x0<2->Q (4:Int) h)/\(¬(x0<2)->∃x1:Int,zm zA 23 h a0=some (x1:V)/\((256:Int)<x1->Q (4:Int) h)/\(¬((256:Int)<x1)->Gz zV3 (Tb.leaf zB) [(2,(0:Int)),(0,a0)] λu=>zVg false zOO ⟨43,u,[],h⟩ (endW zA ⟨43,[.tmp 2],zMA⟩ Q)))):=by kernel_rfl
noncomputable def zWG:Code:=zE Tryz.f169
theorem zZc:(zA.fn.get 169).map zI=some ⟨15,[.tmp 2],zWG⟩:=by kernel_rfl
def z3n:List Nat:=[2]
abbrev z4o (b:Bool):Code->St->(AX->St->Prop)->Prop:=wpS Tryz.prog zA z3n 4 b
theorem z1j  {a0:V}{Q:V->H->Prop}:z4o false zWG ⟨15,zC [a0] 0 (Tb.leaf zB),[],h⟩ (endW zA ⟨15,[.tmp 2],zWG⟩ Q)=(∃x0:Int,zm zA 23 h a0=some (x0:V)/\((256:Int)<x0->Q (6:Int) h)/\(¬((256:Int)<x0)->RF Tryz.prog zA 234 [a0] h λv1 h2=>∃x3:Int,∃b4:Bool,v1=(.tuple [x3,b4])/\(b4=true->Q (0:Int) h2)/\(b4=false->Q (2:Int) h2))):=by kernel_rfl
noncomputable def zWH:Code:=zE Tryz.f170
theorem zUb:(zA.fn.get 170).map zI=some ⟨4,[.tmp 2],zWH⟩:=by kernel_rfl
def z3o:List Nat:=[2]
abbrev z4p (b:Bool):Code->St->(AX->St->Prop)->Prop:=wpS Tryz.prog zA z3o 4 b
theorem zVV  {a0:V}{Q:V->H->Prop}:z4p false zWH ⟨4,zC [a0] 0 (Tb.leaf zB),[],h⟩ (endW zA ⟨4,[.tmp 2],zWH⟩ Q)=((V.one a0=true/\h.nx<T.top/\∀p0 h1,p0=h.nx->h1=h.new (.cells (.ls [a0]) ⟨0,24,0⟩ true false)->Q (.func (.func 235) [] [(.ptr p0 0)]) h1)):=by kernel_rfl
noncomputable def kq:Code:=zE Tryz.f172
def zDY:Code:=zg kq [1,0,1,0,0,1,1,1]
def zDZ:Code:=zg kq [1,0,1,1,1,1,1,0,1,0,1,0,1,1]
def OS:Code:=zg kq [1,0,1,1,1,1,1,0,1,0,0]
def Oy:Code:=zg kq [1,0,1,1,1,1,1,0,1,0,1]
def zX4:Code:=zg kq [1,0,1,1,1,1,1,0,1,0]
def zNA:Code:=zg kq [1,0,1,1,1,1,1,1,1,1,0,0,0]
def zOV:Code:=zg kq [1,0,1,1,1,1,1,1,1,1,1]
def zD0:Code:=zg kq [1,0,1,1,1,1,1,1,1]
def zH4:Code:=zg kq [1,0,1,1,1,1,1,1]
def zD1:Code:=zg kq [1,0,1,1]
theorem zZe:(zA.fn.get 172).map zI=some ⟨105,[.cell 4 59,.tmp 5],kq⟩:=by kernel_rfl
def km:List Nat:=[4,5,28,7,3,11,13,15,12,56,57,14,6,0,55]
abbrev kG (b:Bool):Code->St->(AX->St->Prop)->Prop:=wpS Tryz.prog zA km 4 b
theorem zTH {y7:Int}{y28:Bool}{y4 y3:V}:Vy (kG false) 105 km zDY [(28,y28),(4,y4),(7,y7),(3,y3)] d h Q (λE _ _ _ _=>ZM y28 λu=>match u with|true=>∃h0,zf zA 59 h y4 (.agg [(0:Int),.nilslice])=some h0/\(E [(5,(31:Int))] .ret h0)|false=>∃x1:Int,zK zA 3 h y3=some (x1:V)/\∃x2:Int,zn .shl .i64 1 (zT .u64 (x1))=some (x2:V)/\(x2<y7->∃h3,zf zA 59 h y4 (.agg [(0:Int),.nilslice])=some h3/\E [(5,(2:Int))] .ret h3)/\(¬(x2<y7)->E [] .normal h)):=λ_=>by kernel_rfl
theorem zTI {y13 y15:Int}{y11 y12:V}:Vy (kG true) 105 km (wq zDZ) [(11,y11),(13,y13),(15,y15),(12,y12)] d h Q (λE _ _ _ _=>∃v0,zK zA 23 h y11=some v0/\∃p1 o2,z7 zA 23 v0 y13=some (.ptr p1 o2)/\∃h3,zf zA 3 h (.ptr p1 o2) y15=some h3/\(h3.nx<=T.top/\h3.low<=T.top)/\∃x4:Int,zK zA 3 h3 y12=some (x4:V)/\RF Tryz.prog zA 239 [y15] (zM h3) λv5 h6=>∃x7:Int,v5=x7/\(h3.nx<=h6.low/\h6.nx<=T.top)/\∀h8,h8=yG h3 h6->∃h9,zf zA 3 h8 y12 (zH (x4-x7))=some h9/\E [] .normal h9):=λ_=>by kernel_rfl
theorem zSE {y56 y57:V}:Vy (kG true) 105 km (wq OS) [(56,y56),(57,y57)] d h Q (λE _ _ _ _=>(E [(13,y56),(14,y57)] .normal h)):=λ_=>by kernel_rfl
theorem zSJ {y14:Int}{y3 y6:V}:Vy (kG true) 105 km (wq Oy) [(14,y14),(3,y3),(6,y6)] d h Q (λ_ _ _ S tm=>∃x0:Int,zK zA 3 h y3=some (x0:V)/\∃x1:Int,zn .shl .u64 (zT .u64 (y14)) (zT .u64 (x0))=some (.int .u64 x1)/\∃x2:Int,zK zA 3 h y6=some (x2:V)/\(zT .u64 (x2))≠0/\((zH ((zT .u64 (Int.tdiv x1 (zT .u64 (x2))))))=0->Gz km tm [(15,(.int .i64 ((-1))))] λu=>kG true (wq zDZ) ⟨105,u,d,h⟩ λe s1=>S (zc 2 e) s1)/\(¬((zH ((zT .u64 (Int.tdiv x1 (zT .u64 (x2))))))=0)->Gz km tm [(15,(zH ((zT .u64 (Int.tdiv x1 (zT .u64 (x2)))))))] λu=>kG true (wq zDZ) ⟨105,u,d,h⟩ λe s1=>S (zc 2 e) s1)):=λ_=>by kernel_rfl
theorem zST {y12 y11:V}:Vy (kG false) 105 km zNA [(12,y12),(11,y11)] d h Q (λE _ _ _ _=>∃x0:Int,zK zA 3 h y12=some (x0:V)/\(x0=0->E [] (.exit 3) h)/\(¬(x0=0)->(h.nx<=T.top/\h.low<=T.top)/\∃v1,zK zA 23 h y11=some v1/\∃v2,zK zA 23 h y11=some v2/\RF Tryz.prog zA 240 [v2,(.func (.func 241) [] [])] (zM h) λv3 h4=>∃x5:Int,v3=x5/\(h.nx<=h4.low/\h4.nx<=T.top)/\∀h6,h6=yG h h4->∃p7 o8,z7 zA 23 v1 x5=some (.ptr p7 o8)/\∃x9:Int,zK zA 3 h6 (.ptr p7 o8)=some (x9:V)/\∃p10 o11,z7 zA 23 v1 x5=some (.ptr p10 o11)/\∃h12,zf zA 3 h6 (.ptr p10 o11) (zH (x9-1))=some h12/\∃x13:Int,zK zA 3 h12 y12=some (x13:V)/\∃h14,zf zA 3 h12 y12 (zH (x13+1))=some h14/\E [] .normal h14)):=λ_=>by kernel_rfl
theorem zTJ {y3 y11 y4:V}:Vy (kG false) 105 km zOV [(3,y3),(11,y11),(4,y4)] d h Q (λE _ _ _ _=>∃x0:Int,zK zA 3 h y3=some (x0:V)/\∃v1,zK zA 23 h y11=some v1/\xk zA 59 (yx zA 59 [(0,x0),(1,v1)]) λv2=>∃h3,zf zA 59 h y4 v2=some h3/\E [(5,(0:Int))] .ret h3):=λ_=>by kernel_rfl
theorem zTK :Vy (kG false) 105 km zD0 [] d h Q (λ_ _ M S _=>(M [] zNA h (Kx (kG false) zOV 3 S))):=λ_=>by kernel_rfl
theorem zTL {y12 y0 y11:V}:Vy (kG false) 105 km zH4 [(12,y12),(0,y0),(11,y11)] d h Q (λ_ F _ _ _=>∃x0:Int,zK zA 3 h y12=some (x0:V)/\((0:Int)<x0->RF Tryz.prog zA 240 [y0,(.func (.func 241) [] [])] h λv1 h2=>∃x3:Int,v1=x3/\(h2.nx<=T.top/\h2.low<=T.top)/\∃v4,zK zA 23 h2 y11=some v4/\∃v5,zK zA 23 h2 y11=some v5/\∃p6 o7,z7 zA 23 v5 x3=some (.ptr p6 o7)/\∃x8:Int,zK zA 3 h2 (.ptr p6 o7)=some (x8:V)/\RF Tryz.prog zA 239 [x8] (zM h2) λv9 h10=>∃x11:Int,v9=x11/\(h2.nx<=h10.low/\h10.nx<=T.top)/\∀h12,h12=yG h2 h10->∃x13:Int,zK zA 3 h12 y12=some (x13:V)/\∃p14 o15,z7 zA 23 v4 x3=some (.ptr p14 o15)/\∃h16,zf zA 3 h12 (.ptr p14 o15) (zH (x11+x13))=some h16/\∃h17,zf zA 3 h16 y12 (0:Int)=some h17/\F [] zD0 h17)/\(¬((0:Int)<x0)->F [] zD0 h)):=λ_=>by kernel_rfl
theorem zTM {y0 y3:V}:Vy (kG false) 105 km zD1 [(0,y0),(3,y3)] d h Q (λ_ _ _ S tm=>RF Tryz.prog zA 237 [y0] h λv0 h1=>∃x2:Int,∃x3:Int,v0=(.tuple [x2,x3])/\∃v4 h5,js zA 23 (zH (x2+1)) (zH (x2+1)) h1=some (v4,h5)/\V.one .nilslice=true/\h5.nx<T.top/\∀p6 h7,p6=h5.nx->h7=h5.new (.cells (.ls [.nilslice]) ⟨0,24,0⟩ true false)->∃h8,zf zA 23 h7 (.ptr p6 0) v4=some h8/\∃x9:Int,zK zA 3 h8 y3=some (x9:V)/\∃x10:Int,zn .shl .i64 1 (zT .u64 (x9))=some (x10:V)/\V.one (0:Int)=true/\h8.nx<T.top/\∀p11 h12,p11=h8.nx->h12=h8.new (.cells (.ls [(0:Int)]) ⟨0,4,0⟩ true false)->∃h13,zf zA 3 h12 (.ptr p11 0) x10=some h13/\RF Tryz.prog zA 238 [y0] h13 λv14 h15=>∃v16,v14=v16/\Gz km tm [(11,(.ptr p6 0)),(12,(.ptr p11 0)),(55,v16)] λu=>RC Tryz.prog false zX4 ⟨105,u,d,h15⟩ (Kx (kG false) zH4 1 S)):=λ_=>by kernel_rfl
theorem z1l  {a1:Int}{a0:V}{Q:V->H->Prop}:kG false kq ⟨105,zC [a0,a1] 0 (Tb.leaf zB),[],h⟩ (endW zA ⟨105,[.cell 4 59,.tmp 5],kq⟩ Q)=((V.one a1=true/\h.nx<T.top/\∀p0 h1,p0=h.nx->h1=h.new (.cells (.ls [a1]) ⟨0,4,0⟩ true false)->h1.nx<T.top/\∀p2 h3,p2=h1.nx->h3=h1.new (.cells (.ls [(0:Int),.nilslice]) ⟨0,60,0⟩ true false)->RF Tryz.prog zA 236 [a0] h3 λv4 h5=>∃x6:Int,∃x7:Int,∃x8:Int,v4=(.tuple [x6,x7,x8])/\V.one (0:Int)=true/\h5.nx<T.top/\∀p9 h10,p9=h5.nx->h10=h5.new (.cells (.ls [(0:Int)]) ⟨0,4,0⟩ true false)->∃h11,zf zA 3 h10 (.ptr p9 0) x6=some h11/\(x8≠0->∃h12,zf zA 59 h11 (.ptr p2 0) (.agg [(0:Int),.nilslice])=some h12/\endL zA h12 [(.cell 4 59,(.ptr p2 0)),(.tmp 5,x8)] Q)/\(¬(x8≠0)->∃x13:Int,zK zA 3 h11 (.ptr p0 0)=some (x13:V)/\(x13<5->Gz km (Tb.leaf zB) [(4,(.ptr p2 0)),(5,(0:Int)),(28,true),(7,x7),(3,(.ptr p0 0)),(6,(.ptr p9 0)),(0,a0)] λu=>kG false zDY ⟨105,u,[],h11⟩ λe s1=>(thenC (sealK km λs1=>kG false zD1 s1 (endW zA ⟨105,[.cell 4 59,.tmp 5],kq⟩ Q)) (endW zA ⟨105,[.cell 4 59,.tmp 5],kq⟩ Q)) (zc 0 e) s1)/\(¬(x13<5)->∃x14:Int,zK zA 3 h11 (.ptr p0 0)=some (x14:V)/\((12:Int)<x14->Gz km (Tb.leaf zB) [(4,(.ptr p2 0)),(5,(0:Int)),(28,true),(7,x7),(3,(.ptr p0 0)),(6,(.ptr p9 0)),(0,a0)] λu=>kG false zDY ⟨105,u,[],h11⟩ λe s1=>(thenC (sealK km λs1=>kG false zD1 s1 (endW zA ⟨105,[.cell 4 59,.tmp 5],kq⟩ Q)) (endW zA ⟨105,[.cell 4 59,.tmp 5],kq⟩ Q)) (zc 0 e) s1)/\(¬((12:Int)<x14)->Gz km (Tb.leaf zB) [(4,(.ptr p2 0)),(5,(0:Int)),(28,false),(7,x7),(3,(.ptr p0 0)),(6,(.ptr p9 0)),(0,a0)] λu=>kG false zDY ⟨105,u,[],h11⟩ λe s1=>(thenC (sealK km λs1=>kG false zD1 s1 (endW zA ⟨105,[.cell 4 59,.tmp 5],kq⟩ Q)) (endW zA ⟨105,[.cell 4 59,.tmp 5],kq⟩ Q)) (zc 0 e) s1))))):=by kernel_rfl
noncomputable def zWX:Code:=zE Tryz.f239
theorem z0B:(zA.fn.get 239).map zI=some ⟨6,[.tmp 2],zWX⟩:=by kernel_rfl
def z4E:List Nat:=[2]
abbrev z5F (b:Bool):Code->St->(AX->St->Prop)->Prop:=wpS Tryz.prog zA z4E 4 b
theorem z2I  {a0:Int}{Q:V->H->Prop}:z5F false zWX ⟨6,zC [a0] 0 (Tb.leaf zB),[],h⟩ (endW zA ⟨6,[.tmp 2],zWX⟩ Q)=(((a0<0->Q (1:Int) h)/\(¬(a0<0)->Q a0 h))):=by kernel_rfl
noncomputable def zWZ:Code:=zE Tryz.f244
theorem z0G:(zA.fn.get 244).map zI=some ⟨29,[.cell 2 209,.tmp 3],zWZ⟩:=by kernel_rfl
def z4G:List Nat:=[2,3]
abbrev z5H (b:Bool):Code->St->(AX->St->Prop)->Prop:=wpS Tryz.prog zA z4G 4 b
theorem z2M  {a0_1 a0_2:Int}{a0_0:List UInt8}{Q:V->H->Prop}:z5H false zWZ ⟨29,zC [(.agg [a0_0,a0_1,a0_2])] 0 (Tb.leaf zB),[],h⟩ (endW zA ⟨29,[.cell 2 209,.tmp 3],zWZ⟩ Q)=((h.nx<T.top/\∀p0 h1,p0=h.nx->h1=h.new (.cells (.ls [a0_0,a0_1,a0_2]) ⟨0,210,0⟩ true false)->h1.nx<T.top/\∀p2 h3,p2=h1.nx->h3=h1.new (.cells (.ls [(.str []),(0:Int),(0:Int)]) ⟨0,210,0⟩ true false)->∃l4:List UInt8,∃x5:Int,∃x6:Int,zK zA 209 h3 (.ptr p0 0)=some (.agg [l4,x5,x6])/\RF Tryz.prog zA 287 [(.agg [l4,x5,x6])] h3 λv7 h8=>∃x9:Int,v7=x9/\(x9≠0->∃h10,zf zA 209 h8 (.ptr p2 0) (.agg [(.str []),(0:Int),(0:Int)])=some h10/\endL zA h10 [(.cell 2 209,(.ptr p2 0)),(.tmp 3,x9)] Q)/\(¬(x9≠0)->∃l11:List UInt8,∃x12:Int,∃x13:Int,zK zA 209 h8 (.ptr p0 0)=some (.agg [l11,x12,x13])/\h8.nx<T.top/\∀p14 h15,p14=h8.nx->h15=h8.new (.cells (.ls [l11,x12,x13]) ⟨0,340,0⟩ true false)->∃v16 h17,zh zA ⟨none,.nilCheck (t 0),0, "",#[],none⟩ (λ_=>some (.ptr p14 0)) h15=some (.val v16 h17)/\zS zA 339 0 h17 v16 λv18 h19=>zS zA 209 2 h19 v18 λv20 h21=>∃x22:Int,zK zA 3 h21 v20=some (x22:V)/\(8:Int)≠0/\RF Tryz.prog zA 289 [(0:Int),(.int .i64 (Int.tmod (zH (8-x22)) 8))] h21 λv23 h24=>∃v25,v23=v25/\RF Tryz.prog zA 288 [(.ptr p14 0),v25] h24 λv26 h27=>v26=(.tuple [])/\RF Tryz.prog zA 290 [(.ptr p14 0)] h27 λv28 h29=>∃l30:List UInt8,∃x31:Int,∃x32:Int,∃x33:Int,v28=(.tuple [(.agg [l30,x31,x32]),x33])/\∃h34,zf zA 209 h29 (.ptr p2 0) (.agg [l30,x31,x32])=some h34/\endL zA h34 [(.cell 2 209,(.ptr p2 0)),(.tmp 3,x33)] Q))):=by kernel_rfl
noncomputable def zW4:Code:=zE Tryz.f251
theorem z0N:(zA.fn.get 251).map zI=some ⟨13,[.tmp 2],zW4⟩:=by kernel_rfl
def z4L:List Nat:=[2]
abbrev z5M (b:Bool):Code->St->(AX->St->Prop)->Prop:=wpS Tryz.prog zA z4L 4 b
theorem z2T  {a0_1 a0_2:Int}{a0_0:List UInt8}{Q:V->H->Prop}:z5M false zW4 ⟨13,zC [(.agg [a0_0,a0_1,a0_2])] 0 (Tb.leaf zB),[],h⟩ (endW zA ⟨13,[.tmp 2],zW4⟩ Q)=((h.nx<T.top/\∀p0 h1,p0=h.nx->h1=h.new (.cells (.ls [a0_0,a0_1,a0_2]) ⟨0,221,0⟩ true false)->∃l2:List UInt8,zK zA 9 h1 (.ptr p0 (0+0))=some (.str l2)/\∃x3:Int,zK zA 3 h1 (.ptr p0 (0+1))=some (x3:V)/\∃x4:Int,zK zA 3 h1 (.ptr p0 (0+2))=some (x4:V)/\h1.nx<T.top/\∀p5 h6,p5=h1.nx->h6=h1.new (.cells (.ls [l2,(.int .u64 (zT .u64 (x3))),x4]) ⟨0,301,0⟩ true false)->Q (.ptr p5 0) h6)):=by kernel_rfl
noncomputable def zJx:Code:=zE Tryz.f253
def zNO:Code:=zg zJx [1,1,1,1,1,0,1,0,0]
def zOf:Code:=zg zJx [1,1,1,1,1,1]
theorem z0P:(zA.fn.get 253).map zI=some ⟨60,[.cell 2 216,.tmp 3],zJx⟩:=by kernel_rfl
def zQC:List Nat:=[2,3,35,34,33,7]
abbrev zQW (b:Bool):Code->St->(AX->St->Prop)->Prop:=wpS Tryz.prog zA zQC 4 b
theorem zS6 {y35 y34:Int}{y33 y7:V}:Vy (zQW false) 60 zQC zNO [(35,y35),(34,y34),(33,y33),(7,y7)] d h Q (λE _ _ _ _=>((y35<y34->∃p0 o1,z7 zA 23 y33 y35=some (.ptr p0 o1)/\∃x2:Int,zK zA 3 h (.ptr p0 o1)=some (x2:V)/\zS zA 216 1 h y7 λv3 h4=>∃v5,zK zA 214 h4 v3=some v5/\∃p6 o7,z7 zA 214 v5 x2=some (.ptr p6 o7)/\∃v8,zK zA 23 h4 (.ptr p6 o7)=some v8/\(h4.nx<=T.top/\h4.low<=T.top)/\zS zA 216 1 h4 y7 λv9 h10=>∃v11,zK zA 214 h10 v9=some v11/\∃x12:Int,zm zA 23 h10 v8=some (x12:V)/\∃x13:Int,zm zA 23 h10 v8=some (x13:V)/\∃v14,zq zA 23 h10 v8 none (some (x12:V)) (some (x13:V))=some v14/\∃v15 h16,zF zA 23 1 [(0,y35)] h10=some (v15,h16)/\True/\∃v17 h18,za zA 23 (zM h16) v14 v15=some (v17,h18)/\(h16.nx<=h18.low/\h18.nx<=T.top)/\∀h19,h19=yG h16 h18->∃p20 o21,z7 zA 214 v11 x2=some (.ptr p20 o21)/\∃h22,zf zA 23 h19 (.ptr p20 o21) v17=some h22/\E [(35,(zH (y35+1)))] .normal h22)/\(¬(y35<y34)->E [] (.exit 0) h))):=λ_=>by kernel_rfl
theorem zT8 {y7 y2:V}:Vy (zQW false) 60 zQC zOf [(7,y7),(2,y2)] d h Q (λE _ _ _ _=>∃x0:Int,∃v1,zK zA 216 h y7=some (.agg [x0,v1])/\∃h2,zf zA 216 h y2 (.agg [x0,v1])=some h2/\E [(3,(0:Int))] .ret h2):=λ_=>by kernel_rfl
theorem z2V  {a0_0:Int}{a0_1:V}{Q:V->H->Prop}:zQW false zJx ⟨60,zC [(.agg [a0_0,a0_1])] 0 (Tb.leaf zB),[],h⟩ (endW zA ⟨60,[.cell 2 216,.tmp 3],zJx⟩ Q)=(wh (cond (zL (V.cells (.agg [a0_0,a0_1]))) (Cs.ofL (V.cells (.agg [a0_0,a0_1]))) none) λcs2=>h.nx<T.top/\∀p0 h1,p0=h.nx->h1=h.new (.cells cs2 ⟨0,60,0⟩ true false)->h1.nx<T.top/\∀p3 h4,p3=h1.nx->h4=h1.new (.cells (.ls [(0:Int),.nilslice]) ⟨0,217,0⟩ true false)->∃x5:Int,∃v6,zK zA 59 h4 (.ptr p0 0)=some (.agg [x5,v6])/\RF Tryz.prog zA 173 [(.agg [x5,v6])] h4 λv7 h8=>∃x9:Int,v7=x9/\(x9≠0->∃h10,zf zA 216 h8 (.ptr p3 0) (.agg [(0:Int),.nilslice])=some h10/\endL zA h10 [(.cell 2 216,(.ptr p3 0)),(.tmp 3,x9)] Q)/\(¬(x9≠0)->∃x11:Int,∃v12,zK zA 59 h8 (.ptr p0 0)=some (.agg [x11,v12])/\RF Tryz.prog zA 274 [(.agg [x11,v12])] h8 λv13 h14=>∃v15,∃x16:Int,v13=(.tuple [v15,x16])/\(x16≠0->∃h17,zf zA 216 h14 (.ptr p3 0) (.agg [(0:Int),.nilslice])=some h17/\endL zA h17 [(.cell 2 216,(.ptr p3 0)),(.tmp 3,x16)] Q)/\(¬(x16≠0)->(h14.nx<=T.top/\h14.low<=T.top)/\∃x18:Int,zK zA 3 h14 (.ptr p0 (0+0))=some (x18:V)/\∃v19,zK zA 23 h14 (.ptr p0 (0+1))=some v19/\∃x20:Int,zm zA 23 h14 v19=some (x20:V)/\∃v21 h22,js zA 214 x20 x20 h14=some (v21,h22)/\xk zA 216 (yx zA 216 [(0,x18),(1,v21)]) λv23=>(h22.nx<T.top/\∀p24 h25,p24=h22.nx->h25=h22.new (.cells (.ls [(0:Int),.nilslice]) ⟨0,217,0⟩ true false)->∃h26,zf zA 216 h25 (.ptr p24 0) v23=some h26/\∃x27:Int,zm zA 23 h26 v15=some (x27:V)/\Lz zQC 60 [(2,(.ptr p3 0)),(3,(0:Int)),(35,(0:Int)),(34,x27),(33,v15),(7,(.ptr p24 0))] zNO h26 (Kx (zQW false) zOf 0 (endW zA ⟨60,[.cell 2 216,.tmp 3],zJx⟩ Q)))))):=by kernel_rfl
noncomputable def zW9:Code:=zE Tryz.f284
theorem z03:(zA.fn.get 284).map zI=some ⟨18,[.tmp 2,.tmp 3],zW9⟩:=by kernel_rfl
def z4Q:List Nat:=[2,3]
abbrev z5R (b:Bool):Code->St->(AX->St->Prop)->Prop:=wpS Tryz.prog zA z4Q 4 b
theorem z2a  {a0:V}{Q:V->H->Prop}:z5R false zW9 ⟨18,zC [a0] 0 (Tb.leaf zB),[],h⟩ (endW zA ⟨18,[.tmp 2,.tmp 3],zW9⟩ Q)=(RF Tryz.prog zA 169 [a0] h λv0 h1=>∃x2:Int,v0=x2/\(x2≠0->Q (.tuple [(0:Int),x2]) h1)/\(¬(x2≠0)->RF Tryz.prog zA 234 [a0] h1 λv3 h4=>∃x5:Int,∃b6:Bool,v3=(.tuple [x5,b6])/\(b6=true->Q (.tuple [x5,(0:Int)]) h4)/\(b6=false->Q (.tuple [x5,(0:Int)]) h4))):=by kernel_rfl
noncomputable def zJz:Code:=zE Tryz.f288
def zNT:Code:=zg zJz [1,0,0]
theorem z06:(zA.fn.get 288).map zI=some ⟨16,[],zJz⟩:=by kernel_rfl
def zVb:List Nat:=[8,7,6,0]
abbrev zZG (b:Bool):Code->St->(AX->St->Prop)->Prop:=wpS Tryz.prog zA zVb 4 b
theorem zSb {y8 y7:Int}{y6 y0:V}:Vy (zZG false) 16 zVb zNT [(8,y8),(7,y7),(6,y6),(0,y0)] d h Q (λE _ _ _ _=>((y8<y7->∃p0 o1,z7 zA 23 y6 y8=some (.ptr p0 o1)/\∃x2:Int,zK zA 3 h (.ptr p0 o1)=some (x2:V)/\RF Tryz.prog zA 310 [y0,x2] h λv3 h4=>v3=(.tuple [])/\E [(8,(zH (y8+1)))] .normal h4)/\(¬(y8<y7)->E [] (.exit 0) h))):=λ_=>by kernel_rfl
theorem z2d  {a0 a1:V}{Q:V->H->Prop}:zZG false zJz ⟨16,zC [a0,a1] 0 (Tb.leaf zB),[],h⟩ (endW zA ⟨16,[],zJz⟩ Q)=(∃x0:Int,zm zA 23 h a1=some (x0:V)/\Lz zVb 16 [(8,(0:Int)),(7,x0),(6,a1),(0,a0)] zNT h λe s1=>(endW zA ⟨16,[],zJz⟩ Q) (zc 0 e) s1):=by kernel_rfl
noncomputable def zWb:Code:=zE Tryz.f290
theorem z08:(zA.fn.get 290).map zI=some ⟨16,[.cell 2 209,.tmp 3],zWb⟩:=by kernel_rfl
def z4S:List Nat:=[2,3]
abbrev z5T (b:Bool):Code->St->(AX->St->Prop)->Prop:=wpS Tryz.prog zA z4S 4 b
theorem z2f  {a0:V}{Q:V->H->Prop}:z5T false zWb ⟨16,zC [a0] 0 (Tb.leaf zB),[],h⟩ (endW zA ⟨16,[.cell 2 209,.tmp 3],zWb⟩ Q)=((h.nx<T.top/\∀p0 h1,p0=h.nx->h1=h.new (.cells (.ls [(.str []),(0:Int),(0:Int)]) ⟨0,210,0⟩ true false)->∃v2 h3,zh zA ⟨none,.nilCheck (t 0),0, "",#[],none⟩ (λ_=>some a0) h1=some (.val v2 h3)/\zS zA 339 0 h3 v2 λv4 h5=>zS zA 209 0 h5 v4 λv6 h7=>∃l8:List UInt8,zK zA 9 h7 v6=some (.str l8)/\((1048576:Int)<(Int.ofNat (List.length l8))->∃h9,zf zA 209 h7 (.ptr p0 0) (.agg [(.str []),(0:Int),(0:Int)])=some h9/\endL zA h9 [(.cell 2 209,(.ptr p0 0)),(.tmp 3,(4:Int))] Q)/\(¬((1048576:Int)<(Int.ofNat (List.length l8)))->∃v10 h11,zh zA ⟨none,.nilCheck (t 0),0, "",#[],none⟩ (λ_=>some a0) h7=some (.val v10 h11)/\zS zA 339 0 h11 v10 λv12 h13=>∃l14:List UInt8,∃x15:Int,∃x16:Int,zK zA 209 h13 v12=some (.agg [l14,x15,x16])/\∃h17,zf zA 209 h13 (.ptr p0 0) (.agg [l14,x15,x16])=some h17/\endL zA h17 [(.cell 2 209,(.ptr p0 0)),(.tmp 3,(0:Int))] Q))):=by kernel_rfl
noncomputable def zCk:Code:=zE Tryz.f294
def zNW:Code:=zg zCk [1,1,0,1,0,0]
def zNX:Code:=zg zCk [1,1,1,1,1,1,0,1,0,0]
def zOm:Code:=zg zCk [1,1,1,1,1,1,1]
def zOn:Code:=zg zCk [1,1,1]
def zOo:Code:=zg zCk [1,1]
theorem z0c:(zA.fn.get 294).map zI=some ⟨57,[.tmp 2],zCk⟩:=by kernel_rfl
def zG6:List Nat:=[2,25,24,23,48,47,46,1]
abbrev zC8 (b:Bool):Code->St->(AX->St->Prop)->Prop:=wpS Tryz.prog zA zG6 4 b
theorem zSe {y25 y24:Int}{y23:V}:Vy (zC8 false) 57 zG6 zNW [(25,y25),(24,y24),(23,y23)] d h Q (λE _ _ _ _=>((y25<y24->∃p0 o1,z7 zA 214 y23 y25=some (.ptr p0 o1)/\∃v2,zK zA 23 h (.ptr p0 o1)=some v2/\RF Tryz.prog zA 312 [v2] h λv3 h4=>∃b5:Bool,v3=b5/\(b5=true->E [(25,(zH (y25+1)))] .normal h4)/\(b5=false->E [(2,(3:Int))] .ret h4))/\(¬(y25<y24)->E [] (.exit 0) h))):=λ_=>by kernel_rfl
theorem zSf {y48 y47:Int}{y46:V}:Vy (zC8 false) 57 zG6 zNX [(48,y48),(47,y47),(46,y46)] d h Q (λE _ _ _ _=>((y48<y47->∃p0 o1,z7 zA 23 y46 y48=some (.ptr p0 o1)/\∃x2:Int,zK zA 3 h (.ptr p0 o1)=some (x2:V)/\(y48≠x2->E [(2,(3:Int))] .ret h)/\(¬(y48≠x2)->E [(48,(zH (y48+1)))] .normal h))/\(¬(y48<y47)->E [] (.exit 2) h))):=λ_=>by kernel_rfl
theorem zTs :Vy (zC8 false) 57 zG6 zOm [] d h Q (λE _ _ _ _=>(E [(2,(0:Int))] .ret h)):=λ_=>by kernel_rfl
theorem zTt {y1:V}:Vy (zC8 false) 57 zG6 zOn [(1,y1)] d h Q (λE _ M S _=>zS zA 216 1 h y1 λv0 h1=>∃v2,zK zA 214 h1 v0=some v2/\RF Tryz.prog zA 314 [v2] h1 λv3 h4=>∃v5,v3=v5/\RF Tryz.prog zA 313 [v5] h4 λv6 h7=>∃v8,v6=v8/\RF Tryz.prog zA 315 [v8] h7 λv9 h10=>v9=(.tuple [])/\∃x11:Int,zm zA 23 h10 v8=some (x11:V)/\zS zA 216 0 h10 y1 λv12 h13=>∃x14:Int,zK zA 3 h13 v12=some (x14:V)/\∃x15:Int,zn .shl .i64 1 (zT .u64 (x14))=some (x15:V)/\(x11≠x15->E [(2,(3:Int))] .ret h13)/\(¬(x11≠x15)->∃x16:Int,zm zA 23 h13 v8=some (x16:V)/\M [(48,(0:Int)),(47,x16),(46,v8)] zNX h13 (Kx (zC8 false) zOm 2 S))):=λ_=>by kernel_rfl
theorem zTu {y1:V}:Vy (zC8 false) 57 zG6 zOo [(1,y1)] d h Q (λ_ _ M S _=>zS zA 216 1 h y1 λv0 h1=>∃v2,zK zA 214 h1 v0=some v2/\∃x3:Int,zm zA 214 h1 v2=some (x3:V)/\M [(25,(0:Int)),(24,x3),(23,v2)] zNW h1 (Kx (zC8 false) zOn 0 S)):=λ_=>by kernel_rfl
theorem z2j  {a0_0:Int}{a0_1:V}{Q:V->H->Prop}:zC8 false zCk ⟨57,zC [(.agg [a0_0,a0_1])] 0 (Tb.leaf zB),[],h⟩ (endW zA ⟨57,[.tmp 2],zCk⟩ Q)=(wh (cond (zL (V.cells (.agg [a0_0,a0_1]))) (Cs.ofL (V.cells (.agg [a0_0,a0_1]))) none) λcs2=>h.nx<T.top/\∀p0 h1,p0=h.nx->h1=h.new (.cells cs2 ⟨0,217,0⟩ true false)->∃x3:Int,zK zA 3 h1 (.ptr p0 (0+0))=some (x3:V)/\(x3<0->Q (2:Int) h1)/\(¬(x3<0)->∃x4:Int,zK zA 3 h1 (.ptr p0 (0+0))=some (x4:V)/\((12:Int)<x4->Q (2:Int) h1)/\(¬((12:Int)<x4)->∃v5,zK zA 214 h1 (.ptr p0 (0+1))=some v5/\∃x6:Int,zm zA 214 h1 v5=some (x6:V)/\((256:Int)<x6->Q (2:Int) h1)/\(¬((256:Int)<x6)->Gz zG6 (Tb.leaf zB) [(2,(0:Int)),(1,(.ptr p0 0))] λu=>zC8 false zOo ⟨57,u,[],h1⟩ (endW zA ⟨57,[.tmp 2],zCk⟩ Q))))):=by kernel_rfl
noncomputable def zKH:Code:=zE Tryz.f314
def zN3:Code:=zg zKH [1,1,0,1,0,0]
def zOx:Code:=zg zKH [1,1,1]
theorem z0q:(zA.fn.get 314).map zI=some ⟨25,[.tmp 2],zKH⟩:=by kernel_rfl
def zQK:List Nat:=[2,11,10,9,3]
abbrev zQ4 (b:Bool):Code->St->(AX->St->Prop)->Prop:=wpS Tryz.prog zA zQK 4 b
theorem zSl {y11 y10:Int}{y9 y3:V}:Vy (zQ4 false) 25 zQK zN3 [(11,y11),(10,y10),(9,y9),(3,y3)] d h Q (λE _ _ _ _=>((y11<y10->∃p0 o1,z7 zA 214 y9 y11=some (.ptr p0 o1)/\∃v2,zK zA 23 h (.ptr p0 o1)=some v2/\∃v3,zq zA 23 h v2 none (some (.int .i64 0)) (some (.int .i64 0))=some v3/\True/\∃v4 h5,za zA 23 h v3 v2=some (v4,h5)/\∃p6 o7,z7 zA 214 y3 y11=some (.ptr p6 o7)/\∃h8,zf zA 23 h5 (.ptr p6 o7) v4=some h8/\E [(11,(zH (y11+1)))] .normal h8)/\(¬(y11<y10)->E [] (.exit 0) h))):=λ_=>by kernel_rfl
theorem zUE {y3:V}:Vy (zQ4 false) 25 zQK zOx [(3,y3)] d h Q (λE _ _ _ _=>(E [(2,y3)] .ret h)):=λ_=>by kernel_rfl
theorem z2x  {a0:V}{Q:V->H->Prop}:zQ4 false zKH ⟨25,zC [a0] 0 (Tb.leaf zB),[],h⟩ (endW zA ⟨25,[.tmp 2],zKH⟩ Q)=(∃x0:Int,zm zA 214 h a0=some (x0:V)/\∃v1 h2,js zA 214 x0 x0 h=some (v1,h2)/\∃x3:Int,zm zA 214 h2 a0=some (x3:V)/\Lz zQK 25 [(2,.nilslice),(11,(0:Int)),(10,x3),(9,a0),(3,v1)] zN3 h2 (Kx (zQ4 false) zOx 0 (endW zA ⟨25,[.tmp 2],zKH⟩ Q))):=by kernel_rfl
noncomputable def OZ:Code:=zE Tryz.f18
theorem z6J:(zA.fn.get 18).map zI=some ⟨24,[.tmp 2,.tmp 3],OZ⟩:=by kernel_rfl
def L18:List Nat:=[2,3]
abbrev W18 (b:Bool):Code->St->(AX->St->Prop)->Prop:=wpS Tryz.prog zA L18 4 b
theorem z6u  {a0:V}{Q:V->H->Prop}:W18 false OZ ⟨24,zC [a0] 0 (Tb.leaf zB),[],h⟩ (endW zA ⟨24,[.tmp 2,.tmp 3],OZ⟩ Q)=(RF Tryz.prog zA 41 [a0] h λv0 h1=>∃x2:Int,v0=x2/\(x2≠0->Q (.tuple [(.str []),x2]) h1)/\(¬(x2≠0)->RF Tryz.prog zA 48 [a0] h1 λv3 h4=>∃v5,∃b6:Bool,∃b7:Bool,v3=(.tuple [v5,(.agg [b6,b7])])/\h4.nx<T.top/\∀p8 h9,p8=h4.nx->h9=h4.new (.cells (.ls [false,false]) ⟨0,65,0⟩ true false)->∃h10,zf zA 64 h9 (.ptr p8 0) (.agg [b6,b7])=some h10/\∃p11 o12,z7 zA 64 (.ptr p8 0) (1:Int)=some (.ptr p11 o12)/\∃JV:Bool,zK zA 4 h10 (.ptr p11 o12)=some (.bool JV)/\(JV=true->RF Tryz.prog zA 54 [a0] h10 λv14 h15=>∃l16:List UInt8,∃x17:Int,v14=(.tuple [l16,x17])/\Q (.tuple [l16,x17]) h15)/\(JV=false->Q (.tuple [(.str []),(7:Int)]) h10))):=by kernel_rfl
noncomputable def b49:Code:=zE Tryz.f49
def zUn:Code:=zg b49 [1,1,0,1,0,0]
def zVD:Code:=zg b49 [1,1,1]
theorem z6W:(zA.fn.get 49).map zI=some ⟨33,[.tmp 4,.tmp 5],b49⟩:=by kernel_rfl
def L49:List Nat:=[4,5,11,10,9,1,6,0]
abbrev W49 (b:Bool):Code->St->(AX->St->Prop)->Prop:=wpS Tryz.prog zA L49 4 b
theorem zXq {y11 y10:Int}{y6:List UInt8}{y9 y1:V}:Vy (W49 false) 33 L49 zUn [(11,y11),(10,y10),(9,y9),(1,y1),(6,y6)] d h Q (λE _ _ _ _=>((y11<y10->∃p0 o1,z7 zA 63 y9 y11=some (.ptr p0 o1)/\∃l2:List UInt8,zK zA 9 h (.ptr p0 o1)=some (.str l2)/\(y11=0->E [(11,(zH (y11+1))),(6,l2)] .normal h)/\(¬(y11=0)->yT zA Tryz.prog 3 h (λv3 h4=>yT zA Tryz.prog 3 h4 (λv5 h6=>wY zA .lss 3 (t 21) (t 24) 4 v3 v5 λv7=>xJ v7 λu=>match u with|true=>(E [(11,(zH (y11+1))),(6,l2)] .normal h6)|false=>(E [(11,(zH (y11+1)))] .normal h6)) [y6] y1) [l2] y1))/\(¬(y11<y10)->E [] (.exit 0) h))):=λ_=>by kernel_rfl
theorem zYJ {y6:List UInt8}{y0:V}:Vy (W49 false) 33 L49 zVD [(6,y6),(0,y0)] d h Q (λE _ _ _ _=>∃x0:Int,zm zA 63 h y0=some (x0:V)/\((0:Int)<x0->E [(4,y6),(5,true)] .ret h)/\(¬((0:Int)<x0)->E [(4,y6),(5,false)] .ret h)):=λ_=>by kernel_rfl
theorem z7G  {a0 a1:V}{Q:V->H->Prop}:W49 false b49 ⟨33,zC [a0,a1] 0 (Tb.leaf zB),[],h⟩ (endW zA ⟨33,[.tmp 4,.tmp 5],b49⟩ Q)=(∃x0:Int,zm zA 63 h a0=some (x0:V)/\Lz L49 33 [(4,(.str [])),(5,false),(11,(0:Int)),(10,x0),(9,a0),(1,a1),(6,(.str [])),(0,a0)] zUn h (Kx (W49 false) zVD 0 (endW zA ⟨33,[.tmp 4,.tmp 5],b49⟩ Q))):=by kernel_rfl
noncomputable def b54:Code:=zE Tryz.f54
theorem z6Y:(zA.fn.get 54).map zI=some ⟨65,[.tmp 2,.tmp 3],b54⟩:=by kernel_rfl
def L54:List Nat:=[2,3]
abbrev W54 (b:Bool):Code->St->(AX->St->Prop)->Prop:=wpS Tryz.prog zA L54 4 b
theorem z7I  {a0:V}{Q:V->H->Prop}:W54 false b54 ⟨65,zC [a0] 0 (Tb.leaf zB),[],h⟩ (endW zA ⟨65,[.tmp 2,.tmp 3],b54⟩ Q)=(RF Tryz.prog zA 100 [a0,(11:Int)] h λv0 h1=>∃v2,∃x3:Int,v0=(.tuple [v2,x3])/\(x3≠0->Q (.tuple [(.str []),x3]) h1)/\(¬(x3≠0)->RF Tryz.prog zA 101 [v2] h1 λv4 h5=>∃x6:Int,∃x7:Int,v4=(.tuple [x6,x7])/\(x6<2->Q (.tuple [(.str []),(7:Int)]) h5)/\(¬(x6<2)->RF Tryz.prog zA 102 [v2,(6:Int)] h5 λv8 h9=>∃x10:Int,∃v11,∃x12:Int,v8=(.tuple [(.agg [x10,v11]),x12])/\h9.nx<T.top/\∀p13 h14,p13=h9.nx->h14=h9.new (.cells (.ls [(0:Int),.nilslice]) ⟨0,60,0⟩ true false)->∃h15,zf zA 59 h14 (.ptr p13 0) (.agg [x10,v11])=some h15/\(x12≠0->Q (.tuple [(.str []),x12]) h15)/\(¬(x12≠0)->∃x16:Int,∃v17,zK zA 59 h15 (.ptr p13 0)=some (.agg [x16,v17])/\RF Tryz.prog zA 103 [(.agg [x16,v17])] h15 λv18 h19=>∃l20:List UInt8,∃x21:Int,v18=(.tuple [l20,x21])/\(x21≠0->Q (.tuple [(.str []),x21]) h19)/\(¬(x21≠0)->∃x22:Int,∃v23,zK zA 59 h19 (.ptr p13 0)=some (.agg [x22,v23])/\RF Tryz.prog zA 104 [(.agg [x22,v23]),a0] h19 λv24 h25=>∃l26:List UInt8,∃x27:Int,v24=(.tuple [l26,x27])/\(x27≠0->Q (.tuple [(.str []),x27]) h25)/\(¬(x27≠0)->List.length l20+List.length l26<=4611686018427387904/\((Int.ofNat (List.length (l20++l26)))<=127->∃v28 h29,zF zA 71 1 [(0,(.int .u8 (zT .u8 ((Int.ofNat (List.length (l20++l26)))))))] h25=some (v28,h29)/\kV zA 71 9 h29 v28 λv30 h31=>wY zA .add 9 (t 62) (t 63) 9 v30 (.str (l20++l26)) λv32=>Q (.tuple [v32,(0:Int)]) h31)/\(¬((Int.ofNat (List.length (l20++l26)))<=127)->Q (.tuple [(.str []),(7:Int)]) h25))))))):=by kernel_rfl
noncomputable def Kh:Code:=zE Tryz.f171
def zDW:Code:=zg Kh [1,1,0,0,1,1,1]
def zH3:Code:=zg Kh [1,1,1,1,1]
def zDX:Code:=zg Kh [1,1,1]
theorem zZd:(zA.fn.get 171).map zI=some ⟨47,[.tmp 4,.tmp 5],Kh⟩:=by kernel_rfl
def zBA:List Nat:=[4,5,20,7,1,9,6]
abbrev zBE (b:Bool):Code->St->(AX->St->Prop)->Prop:=wpS Tryz.prog zA zBA 4 b
theorem zTF {y7 y1:Int}{y20:Bool}:Vy (zBE false) 47 zBA zDW [(20,y20),(7,y7),(1,y1)] d h Q (λE _ _ _ _=>ZM y20 λu=>match u with|true=>(E [(4,(0:Int)),(5,(31:Int))] .ret h)|false=>∃x0:Int,zn .shl .i64 1 (zT .u64 (y1))=some (x0:V)/\(x0<y7->E [(4,(0:Int)),(5,(2:Int))] .ret h)/\(¬(x0<y7)->E [] .normal h)):=λ_=>by kernel_rfl
theorem zJZ {y1 y9:Int}:Vy (zBE false) 47 zBA zH3 [(1,y1),(9,y9)] d h Q (λE _ _ _ _=>(E [(4,(.int .i64 (min y1 y9))),(5,(0:Int))] .ret h)):=λ_=>by kernel_rfl
theorem zTG {y7 y6:Int}:Vy (zBE false) 47 zBA zDX [(7,y7),(6,y6)] d h Q (λ_ F _ _ _=>RF Tryz.prog zA 145 [y7] h λv0 h1=>∃x2:Int,v0=x2/\((1:Int)<y6->RF Tryz.prog zA 216 [(zH (y6-1))] h1 λv3 h4=>∃x5:Int,v3=x5/\F [(9,(.int .i64 (max (max 5 x2) (zH (x5-2)))))] zH3 h4)/\(¬((1:Int)<y6)->F [(9,(.int .i64 (max 5 x2)))] zH3 h1)):=λ_=>by kernel_rfl
theorem z1k  {a1:Int}{a0:V}{Q:V->H->Prop}:zBE false Kh ⟨47,zC [a0,a1] 0 (Tb.leaf zB),[],h⟩ (endW zA ⟨47,[.tmp 4,.tmp 5],Kh⟩ Q)=(RF Tryz.prog zA 236 [a0] h λv0 h1=>∃x2:Int,∃x3:Int,∃x4:Int,v0=(.tuple [x2,x3,x4])/\(x4≠0->Q (.tuple [(0:Int),x4]) h1)/\(¬(x4≠0)->(a1<5->Gz zBA (Tb.leaf zB) [(4,(0:Int)),(5,(0:Int)),(20,true),(7,x3),(1,a1),(6,x2)] λu=>zBE false zDW ⟨47,u,[],h1⟩ λe s1=>(thenC (sealK zBA λs1=>zBE false zDX s1 (endW zA ⟨47,[.tmp 4,.tmp 5],Kh⟩ Q)) (endW zA ⟨47,[.tmp 4,.tmp 5],Kh⟩ Q)) (zc 0 e) s1)/\(¬(a1<5)->((12:Int)<a1->Gz zBA (Tb.leaf zB) [(4,(0:Int)),(5,(0:Int)),(20,true),(7,x3),(1,a1),(6,x2)] λu=>zBE false zDW ⟨47,u,[],h1⟩ λe s1=>(thenC (sealK zBA λs1=>zBE false zDX s1 (endW zA ⟨47,[.tmp 4,.tmp 5],Kh⟩ Q)) (endW zA ⟨47,[.tmp 4,.tmp 5],Kh⟩ Q)) (zc 0 e) s1)/\(¬((12:Int)<a1)->Gz zBA (Tb.leaf zB) [(4,(0:Int)),(5,(0:Int)),(20,false),(7,x3),(1,a1),(6,x2)] λu=>zBE false zDW ⟨47,u,[],h1⟩ λe s1=>(thenC (sealK zBA λs1=>zBE false zDX s1 (endW zA ⟨47,[.tmp 4,.tmp 5],Kh⟩ Q)) (endW zA ⟨47,[.tmp 4,.tmp 5],Kh⟩ Q)) (zc 0 e) s1)))):=by kernel_rfl
noncomputable def zWJ:Code:=zE Tryz.f176
theorem zZi:(zA.fn.get 176).map zI=some ⟨28,[.tmp 6],zWJ⟩:=by kernel_rfl
def z3q:List Nat:=[6]
abbrev z4r (b:Bool):Code->St->(AX->St->Prop)->Prop:=wpS Tryz.prog zA z3q 4 b
theorem z1p  {a0_0 a2:Int}{a0_1 a1:V}{Q:V->H->Prop}:z4r false zWJ ⟨28,zC [(.agg [a0_0,a0_1]),a1,a2] 0 (Tb.leaf zB),[],h⟩ (endW zA ⟨28,[.tmp 6],zWJ⟩ Q)=(wh (cond (zL (V.cells (.agg [a0_0,a0_1]))) (Cs.ofL (V.cells (.agg [a0_0,a0_1]))) none) λcs2=>h.nx<T.top/\∀p0 h1,p0=h.nx->h1=h.new (.cells cs2 ⟨0,60,0⟩ true false)->∃x3:Int,∃v4,zK zA 59 h1 (.ptr p0 0)=some (.agg [x3,v4])/\RF Tryz.prog zA 173 [(.agg [x3,v4])] h1 λv5 h6=>∃x7:Int,v5=x7/\(x7≠0->Q x7 h6)/\(¬(x7≠0)->∃x8:Int,zm zA 23 h6 a1=some (x8:V)/\((100000:Int)<x8->Q (4:Int) h6)/\(¬((100000:Int)<x8)->∃x9:Int,zm zA 23 h6 a1=some (x9:V)/\(x9<a2->Q (5:Int) h6)/\(¬(x9<a2)->∃x10:Int,∃v11,zK zA 59 h6 (.ptr p0 0)=some (.agg [x10,v11])/\RF Tryz.prog zA 247 [(.agg [x10,v11]),a1] h6 λv12 h13=>∃b14:Bool,v12=b14/\(b14=true->Q (0:Int) h13)/\(b14=false->Q (7:Int) h13))))):=by kernel_rfl
noncomputable def OY:Code:=zE Tryz.f178
def zLp:Code:=zg OY [1,1,1,1,1,0,1,0,0]
def zMe:Code:=zg OY [1,1,1,1,1,0,1,0,1]
def zX5:Code:=zg OY [1,1,1,1,1,0,1,0]
def zNE:Code:=zg OY [1,1,1,1,1,1,0,1,0,0]
def zOZ:Code:=zg OY [1,1,1,1,1,1,1]
def zH5:Code:=zg OY [1,1,1,1,1,1]
theorem zZk:(zA.fn.get 178).map zI=some ⟨86,[.cell 6 220],OY⟩:=by kernel_rfl
def zG4:List Nat:=[6,27,28,12,5,11,7,10,13,9,19,3,26]
abbrev zC5 (b:Bool):Code->St->(AX->St->Prop)->Prop:=wpS Tryz.prog zA zG4 4 b
theorem zSF {y27 y28:V}:Vy (zC5 true) 86 zG4 (wq zLp) [(27,y27),(28,y28)] d h Q (λE _ _ _ _=>(E [(12,y27),(13,y28)] .normal h)):=λ_=>by kernel_rfl
theorem zSK {y12 y13:Int}{y5 y11 y7 y10 y9:V}:Vy (zC5 true) 86 zG4 (wq zMe) [(12,y12),(5,y5),(11,y11),(7,y7),(10,y10),(13,y13),(9,y9)] d h Q (λE _ _ _ _=>∃x0:Int,zK zA 3 h y5=some (x0:V)/\x0≠0/\∃p1 o2,z7 zA 64 y11 (.int .i64 (Int.tmod y12 x0))=some (.ptr p1 o2)/\∃b3:Bool,zK zA 4 h (.ptr p1 o2)=some (.bool b3)/\(b3=true->(h.nx<=T.top/\h.low<=T.top)/\∃x4:Int,∃v5,zK zA 216 h y7=some (.agg [x4,v5])/\∃p6 o7,z7 zA 126 y10 (.int .i64 (Int.tmod y12 x0))=some (.ptr p6 o7)/\∃x8:Int,zK zA 3 h (.ptr p6 o7)=some (x8:V)/\RF Tryz.prog zA 256 [(.agg [x4,v5]),x8,y13] (zM h) λv9 h10=>∃x11:Int,∃x12:Int,∃x13:Int,∃x14:Int,v9=(.tuple [x11,x12,x13,x14])/\h10.nx<=T.top/\∀h15,h15=yG h h10->∃l16:List UInt8,∃x17:Int,∃x18:Int,zK zA 220 h15 y9=some (.agg [l16,x17,x18])/\RF Tryz.prog zA 257 [(.agg [l16,x17,x18]),x12,(.int .u64 (zT .u64 (x13)))] h15 λv19 h20=>∃l21:List UInt8,∃x22:Int,∃x23:Int,∃x24:Int,v19=(.tuple [(.agg [l21,x22,x23]),x24])/\∃h25,zf zA 220 h20 y9 (.agg [l21,x22,x23])=some h25/\∃p26 o27,z7 zA 126 y10 (.int .i64 (Int.tmod y12 x0))=some (.ptr p26 o27)/\∃h28,zf zA 3 h25 (.ptr p26 o27) x11=some h28/\E [] .normal h28)/\(b3=false->∃x29:Int,∃v30,zK zA 216 h y7=some (.agg [x29,v30])/\RF Tryz.prog zA 255 [(.agg [x29,v30]),y13] h λv31 h32=>∃x33:Int,∃x34:Int,v31=(.tuple [x33,x34])/\∃p35 o36,z7 zA 126 y10 (.int .i64 (Int.tmod y12 x0))=some (.ptr p35 o36)/\∃h37,zf zA 3 h32 (.ptr p35 o36) x33=some h37/\∃p38 o39,z7 zA 64 y11 (.int .i64 (Int.tmod y12 x0))=some (.ptr p38 o39)/\∃h40,zf zA 4 h37 (.ptr p38 o39) true=some h40/\E [] .normal h40)):=λ_=>by kernel_rfl
theorem zSX {y19:Int}{y9 y3 y10:V}:Vy (zC5 false) 86 zG4 zNE [(19,y19),(9,y9),(3,y3),(10,y10)] d h Q (λE _ _ _ _=>(((0:Int)<=y19->(h.nx<=T.top/\h.low<=T.top)/\∃l0:List UInt8,∃x1:Int,∃x2:Int,zK zA 220 h y9=some (.agg [l0,x1,x2])/\zS zA 59 0 h y3 λv3 h4=>∃x5:Int,zK zA 3 h4 v3=some (x5:V)/\∃p6 o7,z7 zA 126 y10 y19=some (.ptr p6 o7)/\∃x8:Int,zK zA 3 h4 (.ptr p6 o7)=some (x8:V)/\RF Tryz.prog zA 257 [(.agg [l0,x1,x2]),x5,(.int .u64 (zT .u64 (x8)))] (zM h4) λv9 h10=>∃l11:List UInt8,∃x12:Int,∃x13:Int,∃x14:Int,v9=(.tuple [(.agg [l11,x12,x13]),x14])/\h10.nx<=T.top/\∀h15,h15=yG h4 h10->∃h16,zf zA 220 (zM h15) y9 (.agg [l11,x12,x13])=some h16/\h16.nx<=T.top/\∀h17,h17=yG h15 h16->E [(19,(zH (y19-1)))] .normal h17)/\(¬((0:Int)<=y19)->E [] (.exit 2) h))):=λ_=>by kernel_rfl
theorem zTU {y9 y6:V}:Vy (zC5 false) 86 zG4 zOZ [(9,y9),(6,y6)] d h Q (λE _ _ _ _=>∃l0:List UInt8,∃x1:Int,∃x2:Int,zK zA 220 h y9=some (.agg [l0,x1,x2])/\∃h3,zf zA 220 h y6 (.agg [l0,x1,x2])=some h3/\E [] .ret h3):=λ_=>by kernel_rfl
theorem zTV {y5:V}:Vy (zC5 false) 86 zG4 zH5 [(5,y5)] d h Q (λ_ _ M S _=>∃x0:Int,zK zA 3 h y5=some (x0:V)/\M [(19,(zH (x0-1)))] zNE h (Kx (zC5 false) zOZ 2 S)):=λ_=>by kernel_rfl
theorem z1r  {a0_0 a2:Int}{a0_1 a1:V}{Q:V->H->Prop}:zC5 false OY ⟨86,zC [(.agg [a0_0,a0_1]),a1,a2] 0 (Tb.leaf zB),[],h⟩ (endW zA ⟨86,[.cell 6 220],OY⟩ Q)=(wh (cond (zL (V.cells (.agg [a0_0,a0_1]))) (Cs.ofL (V.cells (.agg [a0_0,a0_1]))) none) λcs2=>h.nx<T.top/\∀p0 h1,p0=h.nx->h1=h.new (.cells cs2 ⟨0,60,0⟩ true false)->V.one a2=true/\h1.nx<T.top/\∀p3 h4,p3=h1.nx->h4=h1.new (.cells (.ls [a2]) ⟨0,4,0⟩ true false)->h4.nx<T.top/\∀p5 h6,p5=h4.nx->h6=h4.new (.cells (.ls [(.str []),(0:Int),(0:Int)]) ⟨0,221,0⟩ true false)->∃x7:Int,∃v8,zK zA 59 h6 (.ptr p0 0)=some (.agg [x7,v8])/\RF Tryz.prog zA 253 [(.agg [x7,v8])] h6 λv9 h10=>∃x11:Int,∃v12,∃x13:Int,v9=(.tuple [(.agg [x11,v12]),x13])/\h10.nx<T.top/\∀p14 h15,p14=h10.nx->h15=h10.new (.cells (.ls [(0:Int),.nilslice]) ⟨0,217,0⟩ true false)->∃h16,zf zA 216 h15 (.ptr p14 0) (.agg [x11,v12])=some h16/\h16.nx<T.top/\∀p17 h18,p17=h16.nx->h18=h16.new (.cells (.ls [(.str []),(0:Int),(0:Int)]) ⟨0,221,0⟩ true false)->h18.nx<T.top/\∀p19 h20,p19=h18.nx->h20=h18.new (.cells (.ls [(0:Int),(0:Int)]) ⟨0,127,0⟩ true false)->h20.nx<T.top/\∀p21 h22,p21=h20.nx->h22=h20.new (.cells (.ls [false,false]) ⟨0,65,0⟩ true false)->RF Tryz.prog zA 254 [a1] h22 λv23 h24=>∃v25,v23=v25/\Gz zG4 (Tb.leaf zB) [(6,(.ptr p5 0)),(5,(.ptr p3 0)),(11,(.ptr p21 0)),(7,(.ptr p14 0)),(10,(.ptr p19 0)),(9,(.ptr p17 0)),(3,(.ptr p0 0)),(26,v25)] λu=>RC Tryz.prog false zX5 ⟨86,u,[],h24⟩ (Kx (zC5 false) zH5 0 (endW zA ⟨86,[.cell 6 220],OY⟩ Q))):=by kernel_rfl
noncomputable def zEY:Code:=zE Tryz.f234
def zO2:Code:=zg zEY [1,0,1,0,0,1,1,0,0,1,1]
def zO3:Code:=zg zEY [1,0,1,0,0,1,1,1]
def zNG:Code:=zg zEY [1,0,1,0,0]
def zO4:Code:=zg zEY [1,1]
theorem zZw:(zA.fn.get 234).map zI=some ⟨29,[.tmp 2,.tmp 3],zEY⟩:=by kernel_rfl
def zG5:List Nat:=[2,3,5,8,7,6]
abbrev zEF (b:Bool):Code->St->(AX->St->Prop)->Prop:=wpS Tryz.prog zA zG5 4 b
theorem zTY {y2 y5:Int}:Vy (zEF false) 29 zG5 zO2 [(2,y2),(5,y5)] d h Q (λE _ _ _ _=>(E [(2,(zH (y2+y5)))] .normal h)):=λ_=>by kernel_rfl
theorem zTZ {y8:Int}:Vy (zEF false) 29 zG5 zO3 [(8,y8)] d h Q (λE _ _ _ _=>(E [(8,(zH (y8+1)))] .normal h)):=λ_=>by kernel_rfl
theorem zSZ {y8 y7 y2:Int}{y6:V}:Vy (zEF false) 29 zG5 zNG [(8,y8),(7,y7),(6,y6),(2,y2)] d h Q (λE _ _ S tm=>((y8<y7->∃p0 o1,z7 zA 23 y6 y8=some (.ptr p0 o1)/\∃x2:Int,zK zA 3 h (.ptr p0 o1)=some (x2:V)/\(x2<0->E [(2,(0:Int)),(3,false),(5,x2)] .ret h)/\(¬(x2<0)->((1099511627776:Int)<x2->E [(2,(0:Int)),(3,false),(5,x2)] .ret h)/\(¬((1099511627776:Int)<x2)->((1099511627776:Int)<(zH (y2+x2))->E [(2,(0:Int)),(3,false),(5,x2)] .ret h)/\(¬((1099511627776:Int)<(zH (y2+x2)))->Gz zG5 tm [(5,x2)] λu=>zEF false zO2 ⟨29,u,d,h⟩ (Kx (zEF false) zO3 1 S)))))/\(¬(y8<y7)->E [] (.exit 0) h))):=λ_=>by kernel_rfl
theorem zT0 {y2:Int}:Vy (zEF false) 29 zG5 zO4 [(2,y2)] d h Q (λE _ _ _ _=>(E [(3,true)] .ret h)):=λ_=>by kernel_rfl
theorem z2D  {a0:V}{Q:V->H->Prop}:zEF false zEY ⟨29,zC [a0] 0 (Tb.leaf zB),[],h⟩ (endW zA ⟨29,[.tmp 2,.tmp 3],zEY⟩ Q)=(∃x0:Int,zm zA 23 h a0=some (x0:V)/\Lz zG5 29 [(2,(0:Int)),(3,false),(8,(0:Int)),(7,x0),(6,a0)] zNG h (Kx (zEF false) zO4 0 (endW zA ⟨29,[.tmp 2,.tmp 3],zEY⟩ Q))):=by kernel_rfl
noncomputable def zCg:Code:=zE Tryz.f237
def zLq:Code:=zg zCg [1,1,1,0,1,0,0]
def zMf:Code:=zg zCg [1,1,1,0,1,0,1]
def zX6:Code:=zg zCg [1,1,1,0,1,0]
def zH6:Code:=zg zCg [1,1,1,1]
theorem zZz:(zA.fn.get 237).map zI=some ⟨20,[.tmp 2,.tmp 3],zCg⟩:=by kernel_rfl
def zLh:List Nat:=[2,3,14,6,5,13]
abbrev zJf (b:Bool):Code->St->(AX->St->Prop)->Prop:=wpS Tryz.prog zA zLh 4 b
theorem zSG {y14:V}:Vy (zJf true) 20 zLh (wq zLq) [(14,y14)] d h Q (λE _ _ _ _=>(E [(6,y14)] .normal h)):=λ_=>by kernel_rfl
theorem zSL {y6:Int}{y5:V}:Vy (zJf true) 20 zLh (wq zMf) [(6,y6),(5,y5)] d h Q (λE _ _ _ _=>∃h0,zf zA 3 h y5 y6=some h0/\E [] .normal h0):=λ_=>by kernel_rfl
theorem zT1 {y5:V}:Vy (zJf false) 20 zLh zH6 [(5,y5)] d h Q (λE _ _ _ _=>∃x0:Int,zK zA 3 h y5=some (x0:V)/\(x0<0->E [(2,(0:Int)),(3,(7:Int))] .ret h)/\(¬(x0<0)->∃x1:Int,zK zA 3 h y5=some (x1:V)/\E [(2,x1),(3,(0:Int))] .ret h)):=λ_=>by kernel_rfl
theorem z2G  {a0:V}{Q:V->H->Prop}:zJf false zCg ⟨20,zC [a0] 0 (Tb.leaf zB),[],h⟩ (endW zA ⟨20,[.tmp 2,.tmp 3],zCg⟩ Q)=(RF Tryz.prog zA 169 [a0] h λv0 h1=>∃x2:Int,v0=x2/\(x2≠0->Q (.tuple [(0:Int),x2]) h1)/\(¬(x2≠0)->V.one (0:Int)=true/\h1.nx<T.top/\∀p3 h4,p3=h1.nx->h4=h1.new (.cells (.ls [(0:Int)]) ⟨0,4,0⟩ true false)->∃h5,zf zA 3 h4 (.ptr p3 0) (.int .i64 ((-1)))=some h5/\RF Tryz.prog zA 170 [a0] h5 λv6 h7=>∃v8,v6=v8/\Gz zLh (Tb.leaf zB) [(2,(0:Int)),(3,(0:Int)),(5,(.ptr p3 0)),(13,v8)] λu=>RC Tryz.prog false zX6 ⟨20,u,[],h7⟩ (Kx (zJf false) zH6 0 (endW zA ⟨20,[.tmp 2,.tmp 3],zCg⟩ Q)))):=by kernel_rfl
noncomputable def zW1:Code:=zE Tryz.f247
theorem z0J:(zA.fn.get 247).map zI=some ⟨9,[.tmp 4],zW1⟩:=by kernel_rfl
def z4I:List Nat:=[4]
abbrev z5J (b:Bool):Code->St->(AX->St->Prop)->Prop:=wpS Tryz.prog zA z4I 4 b
theorem z2P  {a0_0:Int}{a0_1 a1:V}{Q:V->H->Prop}:z5J false zW1 ⟨9,zC [(.agg [a0_0,a0_1]),a1] 0 (Tb.leaf zB),[],h⟩ (endW zA ⟨9,[.tmp 4],zW1⟩ Q)=(wh (cond (zL (V.cells (.agg [a0_0,a0_1]))) (Cs.ofL (V.cells (.agg [a0_0,a0_1]))) none) λcs2=>h.nx<T.top/\∀p0 h1,p0=h.nx->h1=h.new (.cells cs2 ⟨0,60,0⟩ true false)->RF Tryz.prog zA 291 [a1,(.func (.func 292) [] [(.ptr p0 0)])] h1 λv3 h4=>∃b5:Bool,v3=b5/\(b5=true->Q false h4)/\(b5=false->Q true h4)):=by kernel_rfl
noncomputable def zW2:Code:=zE Tryz.f249
theorem z0L:(zA.fn.get 249).map zI=some ⟨33,[.tmp 2],zW2⟩:=by kernel_rfl
def z4J:List Nat:=[2]
abbrev z5K (b:Bool):Code->St->(AX->St->Prop)->Prop:=wpS Tryz.prog zA z4J 4 b
theorem z2R  {a0_1 a0_2:Int}{a0_0:List UInt8}{Q:V->H->Prop}:z5K false zW2 ⟨33,zC [(.agg [a0_0,a0_1,a0_2])] 0 (Tb.leaf zB),[],h⟩ (endW zA ⟨33,[.tmp 2],zW2⟩ Q)=((h.nx<T.top/\∀p0 h1,p0=h.nx->h1=h.new (.cells (.ls [a0_0,a0_1,a0_2]) ⟨0,221,0⟩ true false)->∃x2:Int,zK zA 3 h1 (.ptr p0 (0+2))=some (x2:V)/\(x2<0->RF Tryz.prog zA 250 [true,(10:Int)] h1 λv3 h4=>∃x5:Int,v3=x5/\Q x5 h4)/\(¬(x2<0)->∃x6:Int,zK zA 3 h1 (.ptr p0 (0+2))=some (x6:V)/\((7:Int)<x6->RF Tryz.prog zA 250 [true,(10:Int)] h1 λv7 h8=>∃x9:Int,v7=x9/\Q x9 h8)/\(¬((7:Int)<x6)->∃x10:Int,zK zA 3 h1 (.ptr p0 (0+1))=some (x10:V)/\(x10<0->RF Tryz.prog zA 250 [true,(10:Int)] h1 λv11 h12=>∃x13:Int,v11=x13/\Q x13 h12)/\(¬(x10<0)->∃x14:Int,zK zA 3 h1 (.ptr p0 (0+1))=some (x14:V)/\∃x15:Int,zK zA 3 h1 (.ptr p0 (0+2))=some (x15:V)/\∃x16:Int,zn .and .i64 x15 7=some (x16:V)/\∃x17:Int,zn .shl .i64 1 (zT .u64 (x16))=some (x17:V)/\(x17<=x14->RF Tryz.prog zA 250 [true,(10:Int)] h1 λv18 h19=>∃x20:Int,v18=x20/\Q x20 h19)/\(¬(x17<=x14)->∃l21:List UInt8,zK zA 9 h1 (.ptr p0 (0+0))=some (.str l21)/\((1048576:Int)<(Int.ofNat (List.length l21))->RF Tryz.prog zA 250 [true,(10:Int)] h1 λv22 h23=>∃x24:Int,v22=x24/\Q x24 h23)/\(¬((1048576:Int)<(Int.ofNat (List.length l21)))->RF Tryz.prog zA 250 [false,(10:Int)] h1 λv25 h26=>∃x27:Int,v25=x27/\Q x27 h26))))))):=by kernel_rfl
noncomputable def zW5:Code:=zE Tryz.f254
theorem z0Q:(zA.fn.get 254).map zI=some ⟨4,[.tmp 2],zW5⟩:=by kernel_rfl
def z4M:List Nat:=[2]
abbrev z5N (b:Bool):Code->St->(AX->St->Prop)->Prop:=wpS Tryz.prog zA z4M 4 b
theorem z2W  {a0:V}{Q:V->H->Prop}:z5N false zW5 ⟨4,zC [a0] 0 (Tb.leaf zB),[],h⟩ (endW zA ⟨4,[.tmp 2],zW5⟩ Q)=((V.one a0=true/\h.nx<T.top/\∀p0 h1,p0=h.nx->h1=h.new (.cells (.ls [a0]) ⟨0,24,0⟩ true false)->Q (.func (.func 293) [] [(.ptr p0 0)]) h1)):=by kernel_rfl
noncomputable def O0:Code:=zE Tryz.f256
def zD4:Code:=zg O0 [1,1,1,0,0,1]
def zD5:Code:=zg O0 [1,1,1,1]
theorem z0S:(zA.fn.get 256).map zI=some ⟨47,[.tmp 6,.tmp 7,.tmp 8,.tmp 9],O0⟩:=by kernel_rfl
def zC1:List Nat:=[6,7,8,9,19,11,2,1]
abbrev zC6 (b:Bool):Code->St->(AX->St->Prop)->Prop:=wpS Tryz.prog zA zC1 4 b
theorem zT9 {y2:Int}{y19:Bool}{y11:V}:Vy (zC6 false) 47 zC1 zD4 [(19,y19),(11,y11),(2,y2)] d h Q (λE _ _ _ _=>ZM y19 λu=>match u with|true=>(E [(6,(0:Int)),(7,(0:Int)),(8,(0:Int)),(9,(2:Int))] .ret h)|false=>∃x0:Int,∃v1,zK zA 346 h y11=some (.agg [x0,v1])/\RF Tryz.prog zA 295 [(.agg [x0,v1]),y2] h λv2 h3=>∃v4,v2=v4/\∃x5:Int,zm zA 23 h3 v4=some (x5:V)/\(x5=0->E [(6,(0:Int)),(7,(0:Int)),(8,(0:Int)),(9,(7:Int))] .ret h3)/\(¬(x5=0)->E [] .normal h3)):=λ_=>by kernel_rfl
theorem zTa {y1 y2:Int}{y11:V}:Vy (zC6 false) 47 zC1 zD5 [(11,y11),(1,y1),(2,y2)] d h Q (λE _ _ _ _=>∃x0:Int,∃v1,zK zA 346 h y11=some (.agg [x0,v1])/\RF Tryz.prog zA 296 [(.agg [x0,v1]),y1,y2] h λv2 h3=>∃x4:Int,∃x5:Int,∃x6:Int,v2=(.tuple [x4,x5,x6])/\E [(6,x4),(7,x5),(8,x6),(9,(0:Int))] .ret h3):=λ_=>by kernel_rfl
theorem z2Y  {a0_0 a1 a2:Int}{a0_1:V}{Q:V->H->Prop}:zC6 false O0 ⟨47,zC [(.agg [a0_0,a0_1]),a1,a2] 0 (Tb.leaf zB),[],h⟩ (endW zA ⟨47,[.tmp 6,.tmp 7,.tmp 8,.tmp 9],O0⟩ Q)=(wh (cond (zL (V.cells (.agg [a0_0,a0_1]))) (Cs.ofL (V.cells (.agg [a0_0,a0_1]))) none) λcs2=>h.nx<T.top/\∀p0 h1,p0=h.nx->h1=h.new (.cells cs2 ⟨0,217,0⟩ true false)->∃x3:Int,∃v4,zK zA 216 h1 (.ptr p0 0)=some (.agg [x3,v4])/\RF Tryz.prog zA 294 [(.agg [x3,v4])] h1 λv5 h6=>∃x7:Int,v5=x7/\(x7≠0->Q (.tuple [(0:Int),(0:Int),(0:Int),x7]) h6)/\(¬(x7≠0)->∃x8:Int,∃v9,zK zA 216 h6 (.ptr p0 0)=some (.agg [x8,v9])/\h6.nx<T.top/\∀p10 h11,p10=h6.nx->h11=h6.new (.cells (.ls [(0:Int),.nilslice]) ⟨0,347,0⟩ true false)->∃h12,zf zA 346 h11 (.ptr p10 0) (.agg [x8,v9])=some h12/\(a1<0->Gz zC1 (Tb.leaf zB) [(6,(0:Int)),(7,(0:Int)),(8,(0:Int)),(9,(0:Int)),(19,true),(11,(.ptr p10 0)),(2,a2),(1,a1)] λu=>zC6 false zD4 ⟨47,u,[],h12⟩ λe s1=>(thenC (sealK zC1 λs1=>zC6 false zD5 s1 (endW zA ⟨47,[.tmp 6,.tmp 7,.tmp 8,.tmp 9],O0⟩ Q)) (endW zA ⟨47,[.tmp 6,.tmp 7,.tmp 8,.tmp 9],O0⟩ Q)) (zc 0 e) s1)/\(¬(a1<0)->∃x13:Int,zK zA 3 h12 (.ptr p0 (0+0))=some (x13:V)/\∃x14:Int,zn .shl .i64 1 (zT .u64 (x13))=some (x14:V)/\(x14<=a1->Gz zC1 (Tb.leaf zB) [(6,(0:Int)),(7,(0:Int)),(8,(0:Int)),(9,(0:Int)),(19,true),(11,(.ptr p10 0)),(2,a2),(1,a1)] λu=>zC6 false zD4 ⟨47,u,[],h12⟩ λe s1=>(thenC (sealK zC1 λs1=>zC6 false zD5 s1 (endW zA ⟨47,[.tmp 6,.tmp 7,.tmp 8,.tmp 9],O0⟩ Q)) (endW zA ⟨47,[.tmp 6,.tmp 7,.tmp 8,.tmp 9],O0⟩ Q)) (zc 0 e) s1)/\(¬(x14<=a1)->Gz zC1 (Tb.leaf zB) [(6,(0:Int)),(7,(0:Int)),(8,(0:Int)),(9,(0:Int)),(19,false),(11,(.ptr p10 0)),(2,a2),(1,a1)] λu=>zC6 false zD4 ⟨47,u,[],h12⟩ λe s1=>(thenC (sealK zC1 λs1=>zC6 false zD5 s1 (endW zA ⟨47,[.tmp 6,.tmp 7,.tmp 8,.tmp 9],O0⟩ Q)) (endW zA ⟨47,[.tmp 6,.tmp 7,.tmp 8,.tmp 9],O0⟩ Q)) (zc 0 e) s1)))):=by kernel_rfl
noncomputable def zKA:Code:=zE Tryz.f289
def zNU:Code:=zg zKA [1,1,0,1,0,0]
def zOl:Code:=zg zKA [1,1,1]
theorem z07:(zA.fn.get 289).map zI=some ⟨23,[.tmp 4],zKA⟩:=by kernel_rfl
def zQD:List Nat:=[4,10,9,5,0]
abbrev zQY (b:Bool):Code->St->(AX->St->Prop)->Prop:=wpS Tryz.prog zA zQD 4 b
theorem zSc {y10 y9 y0:Int}{y5:V}:Vy (zQY false) 23 zQD zNU [(10,y10),(9,y9),(5,y5),(0,y0)] d h Q (λE _ _ _ _=>((y10<y9->∃x0:Int,zn .shr .i64 y0 (zT .u64 (y10))=some (x0:V)/\∃x1:Int,zn .and .i64 x0 1=some (x1:V)/\∃p2 o3,z7 zA 23 y5 y10=some (.ptr p2 o3)/\∃h4,zf zA 3 h (.ptr p2 o3) x1=some h4/\E [(10,(zH (y10+1)))] .normal h4)/\(¬(y10<y9)->E [] (.exit 0) h))):=λ_=>by kernel_rfl
theorem zTr {y5:V}:Vy (zQY false) 23 zQD zOl [(5,y5)] d h Q (λE _ _ _ _=>(E [(4,y5)] .ret h)):=λ_=>by kernel_rfl
theorem z2e  {a0 a1:Int}{Q:V->H->Prop}:zQY false zKA ⟨23,zC [a0,a1] 0 (Tb.leaf zB),[],h⟩ (endW zA ⟨23,[.tmp 4],zKA⟩ Q)=(∃v0 h1,js zA 23 a1 a1 h=some (v0,h1)/\Lz zQD 23 [(4,.nilslice),(10,(0:Int)),(9,a1),(5,v0),(0,a0)] zNU h1 (Kx (zQY false) zOl 0 (endW zA ⟨23,[.tmp 4],zKA⟩ Q))):=by kernel_rfl
noncomputable def zKB:Code:=zE Tryz.f293
def zNV:Code:=zg zKB [1,0,0]
theorem z0b:(zA.fn.get 293).map zI=some ⟨19,[],zKB⟩:=by kernel_rfl
def zVc:List Nat:=[3,0,1]
abbrev zZH (b:Bool):Code->St->(AX->St->Prop)->Prop:=wpS Tryz.prog zA zVc 4 b
theorem zSd {y3:Int}{y0 y1:V}:Vy (zZH false) 19 zVc zNV [(3,y3),(0,y0),(1,y1)] d h Q (λE _ _ _ _=>(((0:Int)<=y3->∃v0,zK zA 23 h y1=some v0/\∃p1 o2,z7 zA 23 v0 y3=some (.ptr p1 o2)/\∃x3:Int,zK zA 3 h (.ptr p1 o2)=some (x3:V)/\yT zA Tryz.prog 4 h (λv4 h5=>zAv .not v4 λv6=>xJ v6 λu=>match u with|true=>(E [] .ret h5)|false=>(E [(3,(zH (y3-1)))] .normal h5)) [y3,x3] y0)/\(¬((0:Int)<=y3)->E [] (.exit 0) h))):=λ_=>by kernel_rfl
theorem z2i  {a0 a1:V}{Q:V->H->Prop}:zZH false zKB ⟨19,zC [a0,a1] 0 (Tb.leaf zB),[],h⟩ (endW zA ⟨19,[],zKB⟩ Q)=(∃v0,zK zA 23 h a1=some v0/\∃x1:Int,zm zA 23 h v0=some (x1:V)/\Lz zVc 19 [(3,(zH (x1-1))),(0,a0),(1,a1)] zNV h λe s1=>(endW zA ⟨19,[],zKB⟩ Q) (zc 0 e) s1):=by kernel_rfl
noncomputable def zWh:Code:=zE Tryz.f310
theorem z0m:(zA.fn.get 310).map zI=some ⟨61,[],zWh⟩:=by kernel_rfl
def z4Y:List Nat:=[]
abbrev z5Z (b:Bool):Code->St->(AX->St->Prop)->Prop:=wpS Tryz.prog zA z4Y 4 b
theorem z2t  {a1:Int}{a0:V}{Q:V->H->Prop}:z5Z false zWh ⟨61,zC [a0,a1] 0 (Tb.leaf zB),[],h⟩ (endW zA ⟨61,[],zWh⟩ Q)=(((h.nx<=T.top/\h.low<=T.top)/\∃v0 h1,zh zA ⟨none,.nilCheck (t 0),0, "",#[],none⟩ (λ_=>some a0) (zM h)=some (.val v0 h1)/\(h.nx<=h1.low/\h1.nx<=T.top)/\∀h2,h2=yG h h1->zS zA 339 0 h2 v0 λv3 h4=>zS zA 209 1 h4 v3 λv5 h6=>∃x7:Int,zK zA 3 h6 v5=some (x7:V)/\∃v8 h9,zh zA ⟨none,.nilCheck (t 0),0, "",#[],none⟩ (λ_=>some a0) (zM h6)=some (.val v8 h9)/\(h6.nx<=h9.low/\h9.nx<=T.top)/\∀h10,h10=yG h6 h9->zS zA 339 0 h10 v8 λv11 h12=>zS zA 209 2 h12 v11 λv13 h14=>∃x15:Int,zK zA 3 h14 v13=some (x15:V)/\∃x16:Int,zn .shl .i64 a1 (zT .u64 (x15))=some (x16:V)/\∃x17:Int,zn .or .i64 x7 x16=some (x17:V)/\∃v18 h19,zh zA ⟨none,.nilCheck (t 0),0, "",#[],none⟩ (λ_=>some a0) h14=some (.val v18 h19)/\zS zA 339 0 h19 v18 λv20 h21=>zS zA 209 1 h21 v20 λv22 h23=>∃h24,zf zA 3 h23 v22 x17=some h24/\∃v25 h26,zh zA ⟨none,.nilCheck (t 0),0, "",#[],none⟩ (λ_=>some a0) h24=some (.val v25 h26)/\zS zA 339 0 h26 v25 λv27 h28=>zS zA 209 2 h28 v27 λv29 h30=>∃x31:Int,zK zA 3 h30 v29=some (x31:V)/\∃v32 h33,zh zA ⟨none,.nilCheck (t 0),0, "",#[],none⟩ (λ_=>some a0) h30=some (.val v32 h33)/\zS zA 339 0 h33 v32 λv34 h35=>zS zA 209 2 h35 v34 λv36 h37=>∃h38,zf zA 3 h37 v36 (zH (x31+1))=some h38/\∃v39 h40,zh zA ⟨none,.nilCheck (t 0),0, "",#[],none⟩ (λ_=>some a0) h38=some (.val v39 h40)/\zS zA 339 0 h40 v39 λv41 h42=>zS zA 209 2 h42 v41 λv43 h44=>∃x45:Int,zK zA 3 h44 v43=some (x45:V)/\(x45=8->(h44.nx<=T.top/\h44.low<=T.top)/\∃v46 h47,zh zA ⟨none,.nilCheck (t 0),0, "",#[],none⟩ (λ_=>some a0) (zM h44)=some (.val v46 h47)/\(h44.nx<=h47.low/\h47.nx<=T.top)/\∀h48,h48=yG h44 h47->zS zA 339 0 h48 v46 λv49 h50=>zS zA 209 0 h50 v49 λv51 h52=>∃l53:List UInt8,zK zA 9 h52 v51=some (.str l53)/\∃v54 h55,zh zA ⟨none,.nilCheck (t 0),0, "",#[],none⟩ (λ_=>some a0) (zM h52)=some (.val v54 h55)/\(h52.nx<=h55.low/\h55.nx<=T.top)/\∀h56,h56=yG h52 h55->zS zA 339 0 h56 v54 λv57 h58=>zS zA 209 1 h58 v57 λv59 h60=>∃x61:Int,zK zA 3 h60 v59=some (x61:V)/\∃v62 h63,zF zA 71 1 [(0,(.int .u8 (zT .u8 (x61))))] h60=some (v62,h63)/\kV zA 71 9 (zM h63) v62 λv64 h65=>((h63.nx<=h65.low/\h65.nx<=T.top)/\∀h66,h66=yG h63 h65->wY zA .add 9 (t 40) (t 48) 9 l53 v64 λv67=>∃v68 h69,zh zA ⟨none,.nilCheck (t 0),0, "",#[],none⟩ (λ_=>some a0) h66=some (.val v68 h69)/\zS zA 339 0 h69 v68 λv70 h71=>zS zA 209 0 h71 v70 λv72 h73=>∃h74,zf zA 9 h73 v72 v67=some h74/\∃v75 h76,zh zA ⟨none,.nilCheck (t 0),0, "",#[],none⟩ (λ_=>some a0) h74=some (.val v75 h76)/\zS zA 339 0 h76 v75 λv77 h78=>zS zA 209 1 h78 v77 λv79 h80=>∃h81,zf zA 3 h80 v79 (0:Int)=some h81/\∃v82 h83,zh zA ⟨none,.nilCheck (t 0),0, "",#[],none⟩ (λ_=>some a0) h81=some (.val v82 h83)/\zS zA 339 0 h83 v82 λv84 h85=>zS zA 209 2 h85 v84 λv86 h87=>∃h88,zf zA 3 h87 v86 (0:Int)=some h88/\Q (.tuple []) h88))/\(¬(x45=8)->Q (.tuple []) h44))):=by kernel_rfl
noncomputable def zE1:Code:=zE Tryz.f329
def zHb:Code:=zg zE1 [1,1,1,1]
def zHc:Code:=zg zE1 [1,1,1]
def zHd:Code:=zg zE1 [1,1]
theorem z0x:(zA.fn.get 329).map zI=some ⟨25,[.tmp 2],zE1⟩:=by kernel_rfl
def zJd:List Nat:=[2,0]
abbrev zJk (b:Bool):Code->St->(AX->St->Prop)->Prop:=wpS Tryz.prog zA zJd 4 b
theorem zUI {y2 y0:Int}:Vy (zJk false) 25 zJd zHb [(2,y2),(0,(.int .u64 y0))] d h Q (λE _ _ _ _=>∃x0:Int,xl zA 9 (.str [0,1,2,2,3,3,3,3,4,4,4,4,4,4,4,4,5,5,5,5,5,5,5,5,5,5,5,5,5,5,5,5,6,6,6,6,6,6,6,6,6,6,6,6,6,6,6,6,6,6,6,6,6,6,6,6,6,6,6,6,6,6,6,6,7,7,7,7,7,7,7,7,7,7,7,7,7,7,7,7,7,7,7,7,7,7,7,7,7,7,7,7,7,7,7,7,7,7,7,7,7,7,7,7,7,7,7,7,7,7,7,7,7,7,7,7,7,7,7,7,7,7,7,7,7,7,7,7,8,8,8,8,8,8,8,8,8,8,8,8,8,8,8,8,8,8,8,8,8,8,8,8,8,8,8,8,8,8,8,8,8,8,8,8,8,8,8,8,8,8,8,8,8,8,8,8,8,8,8,8,8,8,8,8,8,8,8,8,8,8,8,8,8,8,8,8,8,8,8,8,8,8,8,8,8,8,8,8,8,8,8,8,8,8,8,8,8,8,8,8,8,8,8,8,8,8,8,8,8,8,8,8,8,8,8,8,8,8,8,8,8,8,8,8,8,8,8,8,8,8,8,8,8,8,8,8]) (.int .u8 (zT .u8 (y0)))=some (.int .u8 x0)/\E [(2,(zH (y2+(zH (x0)))))] .ret h):=λ_=>by kernel_rfl
theorem zUJ {y0 y2:Int}:Vy (zJk false) 25 zJd zHc [(0,(.int .u64 y0)),(2,y2)] d h Q (λ_ F _ _ _=>(((256:Int)<=y0->∃x0:Int,zn .shr .u64 y0 8=some (.int .u64 x0)/\F [(2,(zH (y2+8))),(0,(.int .u64 x0))] zHb h)/\(¬((256:Int)<=y0)->F [] zHb h))):=λ_=>by kernel_rfl
theorem zUK {y0 y2:Int}:Vy (zJk false) 25 zJd zHd [(0,(.int .u64 y0)),(2,y2)] d h Q (λ_ F _ _ _=>(((65536:Int)<=y0->∃x0:Int,zn .shr .u64 y0 16=some (.int .u64 x0)/\F [(2,(zH (y2+16))),(0,(.int .u64 x0))] zHc h)/\(¬((65536:Int)<=y0)->F [] zHc h))):=λ_=>by kernel_rfl
theorem z3E  {a0:Int}{Q:V->H->Prop}:zJk false zE1 ⟨25,zC [(.int .u64 a0)] 0 (Tb.leaf zB),[],h⟩ (endW zA ⟨25,[.tmp 2],zE1⟩ Q)=((((4294967296:Int)<=a0->∃x0:Int,zn .shr .u64 a0 32=some (.int .u64 x0)/\Gz zJd (Tb.leaf zB) [(2,(32:Int)),(0,(.int .u64 x0))] λu=>zJk false zHd ⟨25,u,[],h⟩ (endW zA ⟨25,[.tmp 2],zE1⟩ Q))/\(¬((4294967296:Int)<=a0)->Gz zJd (Tb.leaf zB) [(2,(0:Int)),(0,(.int .u64 a0))] λu=>zJk false zHd ⟨25,u,[],h⟩ (endW zA ⟨25,[.tmp 2],zE1⟩ Q)))):=by kernel_rfl
noncomputable def OX:Code:=zE Tryz.f16
theorem z6I:(zA.fn.get 16).map zI=some ⟨31,[.tmp 2,.tmp 3],OX⟩:=by kernel_rfl
def L16:List Nat:=[2,3]
abbrev W16 (b:Bool):Code->St->(AX->St->Prop)->Prop:=wpS Tryz.prog zA L16 4 b
theorem z6t  {a0:V}{Q:V->H->Prop}:W16 false OX ⟨31,zC [a0] 0 (Tb.leaf zB),[],h⟩ (endW zA ⟨31,[.tmp 2,.tmp 3],OX⟩ Q)=(RF Tryz.prog zA 25 [a0] h λv0 h1=>∃v2,∃x3:Int,v0=(.tuple [v2,x3])/\(x3≠0->Q (.tuple [(.str []),x3]) h1)/\(¬(x3≠0)->RF Tryz.prog zA 48 [v2] h1 λv4 h5=>∃v6,∃b7:Bool,∃b8:Bool,v4=(.tuple [v6,(.agg [b7,b8])])/\h5.nx<T.top/\∀p9 h10,p9=h5.nx->h10=h5.new (.cells (.ls [false,false]) ⟨0,65,0⟩ true false)->∃h11,zf zA 64 h10 (.ptr p9 0) (.agg [b7,b8])=some h11/\RF Tryz.prog zA 49 [v6,(.func (.func 50) [] [])] h11 λv12 h13=>∃l14:List UInt8,∃b15:Bool,v12=(.tuple [l14,b15])/\(b15=true->Q (.tuple [l14,(0:Int)]) h13)/\(b15=false->Q (.tuple [(.str []),(7:Int)]) h13))):=by kernel_rfl
noncomputable def b22:Code:=zE Tryz.f22
theorem z6K:(zA.fn.get 22).map zI=some ⟨26,[.tmp 2,.tmp 3,.tmp 4],b22⟩:=by kernel_rfl
def L22:List Nat:=[2,3,4]
abbrev W22 (b:Bool):Code->St->(AX->St->Prop)->Prop:=wpS Tryz.prog zA L22 4 b
theorem z6v  {a0:V}{Q:V->H->Prop}:W22 false b22 ⟨26,zC [a0] 0 (Tb.leaf zB),[],h⟩ (endW zA ⟨26,[.tmp 2,.tmp 3,.tmp 4],b22⟩ Q)=(RF Tryz.prog zA 25 [a0] h λv0 h1=>∃v2,∃x3:Int,v0=(.tuple [v2,x3])/\(x3≠0->Q (.tuple [false,false,x3]) h1)/\(¬(x3≠0)->RF Tryz.prog zA 48 [v2] h1 λv4 h5=>∃v6,∃b7:Bool,∃b8:Bool,v4=(.tuple [v6,(.agg [b7,b8])])/\h5.nx<T.top/\∀p9 h10,p9=h5.nx->h10=h5.new (.cells (.ls [false,false]) ⟨0,65,0⟩ true false)->∃h11,zf zA 64 h10 (.ptr p9 0) (.agg [b7,b8])=some h11/\(h11.nx<=T.top/\h11.low<=T.top)/\∃p12 o13,z7 zA 64 (.ptr p9 0) (0:Int)=some (.ptr p12 o13)/\∃b14:Bool,zK zA 4 h11 (.ptr p12 o13)=some (.bool b14)/\(b14=true->∃p15 o16,z7 zA 64 (.ptr p9 0) (1:Int)=some (.ptr p15 o16)/\∃b17:Bool,zK zA 4 h11 (.ptr p15 o16)=some (.bool b17)/\(b17=true->Q (.tuple [true,true,(0:Int)]) h11)/\(b17=false->Q (.tuple [true,false,(0:Int)]) h11))/\(b14=false->∃p18 o19,z7 zA 64 (.ptr p9 0) (1:Int)=some (.ptr p18 o19)/\∃b20:Bool,zK zA 4 h11 (.ptr p18 o19)=some (.bool b20)/\(b20=true->Q (.tuple [false,true,(0:Int)]) h11)/\(b20=false->Q (.tuple [false,false,(0:Int)]) h11)))):=by kernel_rfl
noncomputable def b48:Code:=zE Tryz.f48
def zUm:Code:=zg b48 [1,0,1,0,0]
def zVC:Code:=zg b48 [1,1]
theorem z6V:(zA.fn.get 48).map zI=some ⟨30,[.tmp 2,.cell 3 64],b48⟩:=by kernel_rfl
def L48:List Nat:=[2,3,9,8,0]
abbrev W48 (b:Bool):Code->St->(AX->St->Prop)->Prop:=wpS Tryz.prog zA L48 4 b
theorem zXp {y9:Int}{y8_0 y8_1 y0 y2 y3:V}:Vy (W48 false) 30 L48 zUm [(9,y9),(8,(.agg [y8_0,y8_1])),(0,y0),(2,y2),(3,y3)] d h Q (λE _ _ _ _=>((y9<2->∃v0,xl zA 136 (.agg [y8_0,y8_1]) y9=some v0/\yT zA Tryz.prog 32 h (λv1 h2=>Zz zA 0 9 v1 λv3=>Zz zA 1 24 v1 λv4=>wY zA .eql 24 (t 19) (ci 0) 4 v4 (0:Int) λv5=>xJ v5 λu=>match u with|true=>∃v6 h7,zF zA 63 1 [(0,v3)] h2=some (v6,h7)/\(True/\∃v8 h9,za zA 63 h7 y2 v6=some (v8,h9)/\∃p10 o11,z7 zA 64 y3 y9=some (.ptr p10 o11)/\∃h12,zf zA 4 h9 (.ptr p10 o11) true=some h12/\E [(2,v8),(9,(zH (y9+1)))] .normal h12)|false=>(E [(9,(zH (y9+1)))] .normal h2)) [y0] v0)/\(¬(y9<2)->E [] (.exit 0) h))):=λ_=>by kernel_rfl
theorem zYI {y2 y3:V}:Vy (W48 false) 30 L48 zVC [(2,y2),(3,y3)] d h Q (λE _ _ _ _=>((h.nx<=T.top/\h.low<=T.top)/\∃b0:Bool,∃b1:Bool,zK zA 64 h y3=some (.agg [b0,b1])/\∃h2,zf zA 64 h y3 (.agg [b0,b1])=some h2/\E [] .ret h2)):=λ_=>by kernel_rfl
theorem z7F  {a0:V}{Q:V->H->Prop}:W48 false b48 ⟨30,zC [a0] 0 (Tb.leaf zB),[],h⟩ (endW zA ⟨30,[.tmp 2,.cell 3 64],b48⟩ Q)=((h.nx<T.top/\∀p0 h1,p0=h.nx->h1=h.new (.cells (.ls [false,false]) ⟨0,65,0⟩ true false)->RF Tryz.prog zA 93 [] h1 λv2 h3=>∃v4,∃v5,v2=(.agg [v4,v5])/\Lz L48 30 [(2,.nilslice),(3,(.ptr p0 0)),(9,(0:Int)),(8,(.agg [v4,v5])),(0,a0)] zUm h3 (Kx (W48 false) zVC 0 (endW zA ⟨30,[.tmp 2,.cell 3 64],b48⟩ Q)))):=by kernel_rfl
noncomputable def b50:Code:=zE Tryz.f50
theorem z6X:(zA.fn.get 50).map zI=some ⟨5,[.tmp 2],b50⟩:=by kernel_rfl
def L50:List Nat:=[2]
abbrev W50 (b:Bool):Code->St->(AX->St->Prop)->Prop:=wpS Tryz.prog zA L50 4 b
theorem z7H  {a0:List UInt8}{Q:V->H->Prop}:W50 false b50 ⟨5,zC [a0] 0 (Tb.leaf zB),[],h⟩ (endW zA ⟨5,[.tmp 2],b50⟩ Q)=(Q (.int .i64 (Int.ofNat (List.length a0))) h):=by kernel_rfl
noncomputable def zCd:Code:=zE Tryz.f100
def zOH:Code:=zg zCd [1,1,1,1,0,1,0,0,1,1,0,0,1,1]
def zOI:Code:=zg zCd [1,1,1,1,0,1,0,0,1,1,1]
def zMu:Code:=zg zCd [1,1,1,1,0,1,0,0]
def zOJ:Code:=zg zCd [1,1,1,1,1]
def zOK:Code:=zg zCd [1,1]
theorem zZW:(zA.fn.get 100).map zI=some ⟨42,[.tmp 4,.tmp 5],zCd⟩:=by kernel_rfl
def zEA:List Nat:=[4,5,8,6,20,19,18,1,0]
abbrev zBD (b:Bool):Code->St->(AX->St->Prop)->Prop:=wpS Tryz.prog zA zEA 4 b
theorem zSr {y8:Int}{y6:V}:Vy (zBD false) 42 zEA zOH [(8,y8),(6,y6)] d h Q (λE _ _ _ _=>∃p0 o1,z7 zA 206 y6 y8=some (.ptr p0 o1)/\∃x2:Int,zK zA 3 h (.ptr p0 o1)=some (x2:V)/\∃p3 o4,z7 zA 206 y6 y8=some (.ptr p3 o4)/\∃h5,zf zA 3 h (.ptr p3 o4) (zH (x2+1))=some h5/\E [] .normal h5):=λ_=>by kernel_rfl
theorem zSs {y20:Int}:Vy (zBD false) 42 zEA zOI [(20,y20)] d h Q (λE _ _ _ _=>(E [(20,(zH (y20+1)))] .normal h)):=λ_=>by kernel_rfl
theorem zSN {y20 y19 y1:Int}{y18:V}:Vy (zBD false) 42 zEA zMu [(20,y20),(19,y19),(18,y18),(1,y1)] d h Q (λE _ _ S tm=>((y20<y19->∃p0 o1,z7 zA 23 y18 y20=some (.ptr p0 o1)/\∃x2:Int,zK zA 3 h (.ptr p0 o1)=some (x2:V)/\(x2<0->E [(4,.nilslice),(5,(2:Int)),(8,x2)] .ret h)/\(¬(x2<0)->(y1<x2->E [(4,.nilslice),(5,(2:Int)),(8,x2)] .ret h)/\(¬(y1<x2)->Gz zEA tm [(8,x2)] λu=>zBD false zOH ⟨42,u,d,h⟩ (Kx (zBD false) zOI 1 S))))/\(¬(y20<y19)->E [] (.exit 0) h))):=λ_=>by kernel_rfl
theorem zSt {y1:Int}{y6:V}:Vy (zBD false) 42 zEA zOJ [(1,y1),(6,y6)] d h Q (λE _ _ _ _=>∃v0,zq zA 206 h y6 none (some (.int .i64 (zH (y1+1)))) (some (.int .i64 (zH (y1+1))))=some v0/\E [(4,v0),(5,(0:Int))] .ret h):=λ_=>by kernel_rfl
theorem zSu {y0:V}:Vy (zBD false) 42 zEA zOK [(0,y0)] d h Q (λE _ M S _=>∃x0:Int,zm zA 23 h y0=some (x0:V)/\((1048576:Int)<x0->E [(4,.nilslice),(5,(4:Int))] .ret h)/\(¬((1048576:Int)<x0)->wh (cond (zL (V.cells (.agg (List.replicate 256 (0:Int))))) (Cs.ofL (V.cells (.agg (List.replicate 256 (0:Int))))) none) λcs3=>h.nx<T.top/\∀p1 h2,p1=h.nx->h2=h.new (.cells cs3 ⟨0,207,0⟩ true false)->∃x4:Int,zm zA 23 h2 y0=some (x4:V)/\M [(6,(.ptr p1 0)),(20,(0:Int)),(19,x4),(18,y0)] zMu h2 (Kx (zBD false) zOJ 0 S))):=λ_=>by kernel_rfl
theorem z13  {a1:Int}{a0:V}{Q:V->H->Prop}:zBD false zCd ⟨42,zC [a0,a1] 0 (Tb.leaf zB),[],h⟩ (endW zA ⟨42,[.tmp 4,.tmp 5],zCd⟩ Q)=(((a1<0->Q (.tuple [.nilslice,(2:Int)]) h)/\(¬(a1<0)->((256:Int)<=a1->Q (.tuple [.nilslice,(2:Int)]) h)/\(¬((256:Int)<=a1)->Gz zEA (Tb.leaf zB) [(4,.nilslice),(5,(0:Int)),(1,a1),(0,a0)] λu=>zBD false zOK ⟨42,u,[],h⟩ (endW zA ⟨42,[.tmp 4,.tmp 5],zCd⟩ Q))))):=by kernel_rfl
noncomputable def zWI:Code:=zE Tryz.f174
theorem zZg:(zA.fn.get 174).map zI=some ⟨14,[.tmp 2,.tmp 3],zWI⟩:=by kernel_rfl
def z3p:List Nat:=[2,3]
abbrev z4q (b:Bool):Code->St->(AX->St->Prop)->Prop:=wpS Tryz.prog zA z3p 4 b
theorem z1n  {a0_1 a0_2:Int}{a0_0:List UInt8}{Q:V->H->Prop}:z4q false zWI ⟨14,zC [(.agg [a0_0,a0_1,a0_2])] 0 (Tb.leaf zB),[],h⟩ (endW zA ⟨14,[.tmp 2,.tmp 3],zWI⟩ Q)=((h.nx<T.top/\∀p0 h1,p0=h.nx->h1=h.new (.cells (.ls [a0_0,a0_1,a0_2]) ⟨0,210,0⟩ true false)->∃l2:List UInt8,∃x3:Int,∃x4:Int,zK zA 209 h1 (.ptr p0 0)=some (.agg [l2,x3,x4])/\RF Tryz.prog zA 244 [(.agg [l2,x3,x4])] h1 λv5 h6=>∃l7:List UInt8,∃x8:Int,∃x9:Int,∃x10:Int,v5=(.tuple [(.agg [l7,x8,x9]),x10])/\h6.nx<T.top/\∀p11 h12,p11=h6.nx->h12=h6.new (.cells (.ls [(.str []),(0:Int),(0:Int)]) ⟨0,210,0⟩ true false)->∃h13,zf zA 209 h12 (.ptr p11 0) (.agg [l7,x8,x9])=some h13/\∃l14:List UInt8,zK zA 9 h13 (.ptr p11 (0+0))=some (.str l14)/\Q (.tuple [l14,x10]) h13)):=by kernel_rfl
noncomputable def ZW:Code:=zE Tryz.f175
def zOX:Code:=zg ZW [1,0,1,1,1,1,1,0,1,0,0,1,0,0,1,1,1,1,1,0,0,0,1]
def zNB:Code:=zg ZW [1,0,1,1,1,1,1,0,1,0,0,1,0,0,1,1,1,1,1,0,0,0]
def zNC:Code:=zg ZW [1,0,1,1,1,1,1,0,1,0,0,1,0,0,1,1,1,1,1,1,0,0,0]
def zOY:Code:=zg ZW [1,0,1,1,1,1,1,0,1,0,0,1,0,0,1,1,1,1,1,1,1]
def zD2:Code:=zg ZW [1,0,1,1,1,1,1,0,1,0,0,1,0,0,1,1,1,1,1,1]
def Jj:Code:=zg ZW [1,0,1,1,1,1,1,0,1,0,0,1,0,0,1,1,1]
def Zh:Code:=zg ZW [1,0,1,1,1,1,1,0,1,0,0,1,1]
def zND:Code:=zg ZW [1,0,1,1,1,1,1,0,1,0,0]
def zD3:Code:=zg ZW [1,0,1,1,1,1,1,1]
theorem zZh:(zA.fn.get 175).map zI=some ⟨100,[.cell 2 209],ZW⟩:=by kernel_rfl
def ZQ:List Nat:=[2,11,6,1,4,7,5,3]
abbrev wv (b:Bool):Code->St->(AX->St->Prop)->Prop:=wpS Tryz.prog zA ZQ 4 b
theorem zTO {y11 y6:Int}:Vy (wv false) 100 ZQ zOX [(11,y11),(6,y6)] d h Q (λE _ _ _ _=>(E [(11,(zH (y11+1))),(6,(zH (y6+1)))] .normal h)):=λ_=>by kernel_rfl
theorem zSU {y6:Int}{y1:V}:Vy (wv false) 100 ZQ zNB [(6,y6),(1,y1)] d h Q (λE F _ _ _=>zS zA 59 1 h y1 λv0 h1=>∃v2,zK zA 23 h1 v0=some v2/\∃x3:Int,zm zA 23 h1 v2=some (x3:V)/\((zH (y6+1))<x3->zS zA 59 1 h1 y1 λv4 h5=>∃v6,zK zA 23 h5 v4=some v6/\∃p7 o8,z7 zA 23 v6 (zH (y6+1))=some (.ptr p7 o8)/\∃x9:Int,zK zA 3 h5 (.ptr p7 o8)=some (x9:V)/\(x9=0->F [] zOX h5)/\(¬(x9=0)->E [] (.exit 3) h5))/\(¬((zH (y6+1))<x3)->E [] (.exit 3) h1)):=λ_=>by kernel_rfl
theorem zSV {y11:Int}{y4:V}:Vy (wv false) 100 ZQ zNC [(11,y11),(4,y4)] d h Q (λE _ _ _ _=>(((3:Int)<=y11->yT zA Tryz.prog 0 h (λ_ h1=>(E [(11,(zH (y11-3)))] .normal h1)) [(2:Int),(3:Int)] y4)/\(¬((3:Int)<=y11)->E [] (.exit 5) h))):=λ_=>by kernel_rfl
theorem zTP {y11:Int}{y4:V}:Vy (wv false) 100 ZQ zOY [(4,y4),(11,y11)] d h Q (λE _ _ _ _=>yT zA Tryz.prog 0 h (λ_ h1=>(E [] .normal h1)) [(2:Int),y11] y4):=λ_=>by kernel_rfl
theorem zTQ :Vy (wv false) 100 ZQ zD2 [] d h Q (λ_ _ M S _=>(M [] zNC h (Kx (wv false) zOY 5 S))):=λ_=>by kernel_rfl
theorem zTR {y7 y5:Int}:Vy (wv false) 100 ZQ Jj [(7,y7),(5,y5)] d h Q (λE _ M S _=>((y7≠0->E [(5,(zH (y5-(max y7 1))))] (.exit 1) h)/\(¬(y7≠0)->M [(11,(0:Int))] zNB h (Kx (wv false) zD2 3 S)))):=λ_=>by kernel_rfl
theorem zTS {y6:Int}:Vy (wv false) 100 ZQ Zh [(6,y6)] d h Q (λE _ _ _ _=>(E [(6,(zH (y6+1)))] .normal h)):=λ_=>by kernel_rfl
theorem zSW {y6 y5:Int}{y1 y4:V}:Vy (wv false) 100 ZQ zND [(6,y6),(1,y1),(5,y5),(4,y4)] d h Q (λE _ _ S tm=>zS zA 59 1 h y1 λv0 h1=>∃v2,zK zA 23 h1 v0=some v2/\∃x3:Int,zm zA 23 h1 v2=some (x3:V)/\(y6<x3->zS zA 59 1 h1 y1 λv4 h5=>∃v6,zK zA 23 h5 v4=some v6/\∃p7 o8,z7 zA 23 v6 y6=some (.ptr p7 o8)/\∃x9:Int,zK zA 3 h5 (.ptr p7 o8)=some (x9:V)/\RF Tryz.prog zA 209 [y5] h5 λv10 h11=>∃x12:Int,∃x13:Int,v10=(.tuple [x12,x13])/\((zH (x9+1))<x13->yT zA Tryz.prog 0 h11 (λ_ h15=>(Gz ZQ tm [(7,x9)] λu=>wv false Jj ⟨100,u,d,h15⟩ (Kx (wv false) Zh 1 S))) [(zH (x12-1)),(zH (x9+1))] y4)/\(¬((zH (x9+1))<x13)->∃x16:Int,zn .shl .i64 1 (zH (x12-1))=some (x16:V)/\((zH (x9+1))<x16->yT zA Tryz.prog 0 h11 (λ_ h18=>(Gz ZQ tm [(7,x9)] λu=>wv false Jj ⟨100,u,d,h18⟩ (Kx (wv false) Zh 1 S))) [x12,(zH (x9+1))] y4)/\(¬((zH (x9+1))<x16)->yT zA Tryz.prog 0 h11 (λ_ h20=>(Gz ZQ tm [(7,x9)] λu=>wv false Jj ⟨100,u,d,h20⟩ (Kx (wv false) Zh 1 S))) [x12,(zH ((zH (x9+1))+x13))] y4)))/\(¬(y6<x3)->E [] (.exit 0) h1)):=λ_=>by kernel_rfl
theorem zTT {y3 y2:V}:Vy (wv false) 100 ZQ zD3 [(3,y3),(2,y2)] d h Q (λE _ _ _ _=>∃l0:List UInt8,∃x1:Int,∃x2:Int,zK zA 209 h y3=some (.agg [l0,x1,x2])/\∃h3,zf zA 209 h y2 (.agg [l0,x1,x2])=some h3/\E [] .ret h3):=λ_=>by kernel_rfl
theorem z1o  {a0_0:Int}{a0_1:V}{Q:V->H->Prop}:wv false ZW ⟨100,zC [(.agg [a0_0,a0_1])] 0 (Tb.leaf zB),[],h⟩ (endW zA ⟨100,[.cell 2 209],ZW⟩ Q)=(wh (cond (zL (V.cells (.agg [a0_0,a0_1]))) (Cs.ofL (V.cells (.agg [a0_0,a0_1]))) none) λcs2=>h.nx<T.top/\∀p0 h1,p0=h.nx->h1=h.new (.cells cs2 ⟨0,60,0⟩ true false)->h1.nx<T.top/\∀p3 h4,p3=h1.nx->h4=h1.new (.cells (.ls [(.str []),(0:Int),(0:Int)]) ⟨0,210,0⟩ true false)->h4.nx<T.top/\∀p5 h6,p5=h4.nx->h6=h4.new (.cells (.ls [(.str []),(0:Int),(0:Int)]) ⟨0,210,0⟩ true false)->∃x7:Int,zK zA 3 h6 (.ptr p0 (0+0))=some (x7:V)/\RF Tryz.prog zA 245 [(4:Int),(zH (x7-5)),(.ptr p5 0)] h6 λv8 h9=>v8=(.tuple [])/\∃x10:Int,zK zA 3 h9 (.ptr p0 (0+0))=some (x10:V)/\∃x11:Int,zn .shl .i64 1 x10=some (x11:V)/\Lz ZQ 100 [(2,(.ptr p3 0)),(6,(0:Int)),(1,(.ptr p0 0)),(4,(.func (.func 245) [] [(.ptr p5 0)])),(5,x11),(3,(.ptr p5 0))] zND h9 (Kx (wv false) zD3 0 (endW zA ⟨100,[.cell 2 209],ZW⟩ Q))):=by kernel_rfl
noncomputable def zWV:Code:=zE Tryz.f236
theorem zZy:(zA.fn.get 236).map zI=some ⟨22,[.tmp 2,.tmp 3,.tmp 4],zWV⟩:=by kernel_rfl
def z4C:List Nat:=[2,3,4]
abbrev z5D (b:Bool):Code->St->(AX->St->Prop)->Prop:=wpS Tryz.prog zA z4C 4 b
theorem z2F  {a0:V}{Q:V->H->Prop}:z5D false zWV ⟨22,zC [a0] 0 (Tb.leaf zB),[],h⟩ (endW zA ⟨22,[.tmp 2,.tmp 3,.tmp 4],zWV⟩ Q)=(RF Tryz.prog zA 284 [a0] h λv0 h1=>∃x2:Int,∃x3:Int,v0=(.tuple [x2,x3])/\(x3≠0->Q (.tuple [(0:Int),(0:Int),x3]) h1)/\(¬(x3≠0)->RF Tryz.prog zA 101 [a0] h1 λv4 h5=>∃x6:Int,∃x7:Int,v4=(.tuple [x6,x7])/\(x6=0->Q (.tuple [(0:Int),(0:Int),(7:Int)]) h5)/\(¬(x6=0)->Q (.tuple [x2,x6,(0:Int)]) h5))):=by kernel_rfl
noncomputable def zWY:Code:=zE Tryz.f241
theorem z0D:(zA.fn.get 241).map zI=some ⟨4,[.tmp 2],zWY⟩:=by kernel_rfl
def z4F:List Nat:=[2]
abbrev z5G (b:Bool):Code->St->(AX->St->Prop)->Prop:=wpS Tryz.prog zA z4F 4 b
theorem z2J  {a0:Int}{Q:V->H->Prop}:z5G false zWY ⟨4,zC [a0] 0 (Tb.leaf zB),[],h⟩ (endW zA ⟨4,[.tmp 2],zWY⟩ Q)=(Q a0 h):=by kernel_rfl
noncomputable def zW0:Code:=zE Tryz.f245
theorem z0H:(zA.fn.get 245).map zI=some ⟨12,[],zW0⟩:=by kernel_rfl
def z4H:List Nat:=[]
abbrev z5I (b:Bool):Code->St->(AX->St->Prop)->Prop:=wpS Tryz.prog zA z4H 4 b
theorem z2N  {a0 a1:Int}{a2:V}{Q:V->H->Prop}:z5I false zW0 ⟨12,zC [a0,a1,a2] 0 (Tb.leaf zB),[],h⟩ (endW zA ⟨12,[],zW0⟩ Q)=(∃l0:List UInt8,∃x1:Int,∃x2:Int,zK zA 209 h a2=some (.agg [l0,x1,x2])/\RF Tryz.prog zA 246 [(.agg [l0,x1,x2]),a0,a1] h λv3 h4=>∃l5:List UInt8,∃x6:Int,∃x7:Int,∃x8:Int,v3=(.tuple [(.agg [l5,x6,x7]),x8])/\∃h9,zf zA 209 h4 a2 (.agg [l5,x6,x7])=some h9/\Q (.tuple []) h9):=by kernel_rfl
noncomputable def zMC:Code:=zE Tryz.f246
def zOa:Code:=zg zMC [1,1,1]
theorem z0I:(zA.fn.get 246).map zI=some ⟨46,[.cell 6 209,.tmp 7],zMC⟩:=by kernel_rfl
def zV8:List Nat:=[6,7,3,2,1]
abbrev zVj (b:Bool):Code->St->(AX->St->Prop)->Prop:=wpS Tryz.prog zA zV8 4 b
theorem zT5 {y2 y1:Int}{y3 y6:V}:Vy (zVj false) 46 zV8 zOa [(3,y3),(2,y2),(1,y1),(6,y6)] d h Q (λE _ _ _ _=>∃l0:List UInt8,∃x1:Int,∃x2:Int,zK zA 209 h y3=some (.agg [l0,x1,x2])/\h.nx<T.top/\∀p3 h4,p3=h.nx->h4=h.new (.cells (.ls [l0,x1,x2]) ⟨0,340,0⟩ true false)->RF Tryz.prog zA 289 [y2,y1] h4 λv5 h6=>∃v7,v5=v7/\RF Tryz.prog zA 288 [(.ptr p3 0),v7] h6 λv8 h9=>v8=(.tuple [])/\RF Tryz.prog zA 290 [(.ptr p3 0)] h9 λv10 h11=>∃l12:List UInt8,∃x13:Int,∃x14:Int,∃x15:Int,v10=(.tuple [(.agg [l12,x13,x14]),x15])/\∃h16,zf zA 209 h11 y6 (.agg [l12,x13,x14])=some h16/\E [(7,x15)] .ret h16):=λ_=>by kernel_rfl
theorem z2O  {a0_1 a0_2 a1 a2:Int}{a0_0:List UInt8}{Q:V->H->Prop}:zVj false zMC ⟨46,zC [(.agg [a0_0,a0_1,a0_2]),a1,a2] 0 (Tb.leaf zB),[],h⟩ (endW zA ⟨46,[.cell 6 209,.tmp 7],zMC⟩ Q)=((h.nx<T.top/\∀p0 h1,p0=h.nx->h1=h.new (.cells (.ls [a0_0,a0_1,a0_2]) ⟨0,210,0⟩ true false)->h1.nx<T.top/\∀p2 h3,p2=h1.nx->h3=h1.new (.cells (.ls [(.str []),(0:Int),(0:Int)]) ⟨0,210,0⟩ true false)->∃l4:List UInt8,∃x5:Int,∃x6:Int,zK zA 209 h3 (.ptr p0 0)=some (.agg [l4,x5,x6])/\RF Tryz.prog zA 287 [(.agg [l4,x5,x6])] h3 λv7 h8=>∃x9:Int,v7=x9/\(x9≠0->∃h10,zf zA 209 h8 (.ptr p2 0) (.agg [(.str []),(0:Int),(0:Int)])=some h10/\endL zA h10 [(.cell 6 209,(.ptr p2 0)),(.tmp 7,x9)] Q)/\(¬(x9≠0)->(a1<0->∃h11,zf zA 209 h8 (.ptr p2 0) (.agg [(.str []),(0:Int),(0:Int)])=some h11/\endL zA h11 [(.cell 6 209,(.ptr p2 0)),(.tmp 7,(2:Int))] Q)/\(¬(a1<0)->((32:Int)<a1->∃h12,zf zA 209 h8 (.ptr p2 0) (.agg [(.str []),(0:Int),(0:Int)])=some h12/\endL zA h12 [(.cell 6 209,(.ptr p2 0)),(.tmp 7,(2:Int))] Q)/\(¬((32:Int)<a1)->(a2<0->∃h13,zf zA 209 h8 (.ptr p2 0) (.agg [(.str []),(0:Int),(0:Int)])=some h13/\endL zA h13 [(.cell 6 209,(.ptr p2 0)),(.tmp 7,(2:Int))] Q)/\(¬(a2<0)->∃x14:Int,zn .shr .i64 a2 (zT .u64 (a1))=some (x14:V)/\(x14≠0->∃h15,zf zA 209 h8 (.ptr p2 0) (.agg [(.str []),(0:Int),(0:Int)])=some h15/\endL zA h15 [(.cell 6 209,(.ptr p2 0)),(.tmp 7,(2:Int))] Q)/\(¬(x14≠0)->Gz zV8 (Tb.leaf zB) [(6,(.ptr p2 0)),(7,(0:Int)),(3,(.ptr p0 0)),(2,a2),(1,a1)] λu=>zVj false zOa ⟨46,u,[],h8⟩ (endW zA ⟨46,[.cell 6 209,.tmp 7],zMC⟩ Q)))))))):=by kernel_rfl
noncomputable def zW6:Code:=zE Tryz.f255
theorem z0R:(zA.fn.get 255).map zI=some ⟨23,[.tmp 4,.tmp 5],zW6⟩:=by kernel_rfl
def z4N:List Nat:=[4,5]
abbrev z5O (b:Bool):Code->St->(AX->St->Prop)->Prop:=wpS Tryz.prog zA z4N 4 b
theorem z2X  {a0_0 a1:Int}{a0_1:V}{Q:V->H->Prop}:z5O false zW6 ⟨23,zC [(.agg [a0_0,a0_1]),a1] 0 (Tb.leaf zB),[],h⟩ (endW zA ⟨23,[.tmp 4,.tmp 5],zW6⟩ Q)=(wh (cond (zL (V.cells (.agg [a0_0,a0_1]))) (Cs.ofL (V.cells (.agg [a0_0,a0_1]))) none) λcs2=>h.nx<T.top/\∀p0 h1,p0=h.nx->h1=h.new (.cells cs2 ⟨0,217,0⟩ true false)->∃x3:Int,∃v4,zK zA 216 h1 (.ptr p0 0)=some (.agg [x3,v4])/\RF Tryz.prog zA 294 [(.agg [x3,v4])] h1 λv5 h6=>∃x7:Int,v5=x7/\(x7≠0->Q (.tuple [(0:Int),x7]) h6)/\(¬(x7≠0)->∃x8:Int,∃v9,zK zA 216 h6 (.ptr p0 0)=some (.agg [x8,v9])/\RF Tryz.prog zA 295 [(.agg [x8,v9]),a1] h6 λv10 h11=>∃v12,v10=v12/\∃x13:Int,zm zA 23 h11 v12=some (x13:V)/\(x13=0->Q (.tuple [(0:Int),(7:Int)]) h11)/\(¬(x13=0)->∃p14 o15,z7 zA 23 v12 (0:Int)=some (.ptr p14 o15)/\∃x16:Int,zK zA 3 h11 (.ptr p14 o15)=some (x16:V)/\Q (.tuple [x16,(0:Int)]) h11))):=by kernel_rfl
noncomputable def zBK:Code:=zE Tryz.f257
def z5x:Array Oper:=Y9 (zg zBK [1,0,0])
def zOg:Code:=zg zBK [1,0,1]
def zH8:Code:=zg zBK [1,1]
theorem z0T:(zA.fn.get 257).map zI=some ⟨68,[.cell 6 220,.tmp 7],zBK⟩:=by kernel_rfl
def zJb:List Nat:=[6,7,8,3,1,2]
abbrev zJh (b:Bool):Code->St->(AX->St->Prop)->Prop:=wpS Tryz.prog zA zJb 4 b
theorem zTb {y8:Int}{y6:V}:Vy (zJh false) 68 zJb zOg [(8,y8),(6,y6)] d h Q (λE _ _ _ _=>((y8≠0->∃h0,zf zA 220 h y6 (.agg [(.str []),(0:Int),(0:Int)])=some h0/\E [(7,y8)] .ret h0)/\(¬(y8≠0)->E [] .normal h))):=λ_=>by kernel_rfl
theorem zTc {y1 y2:Int}{y3 y6:V}:Vy (zJh false) 68 zJb zH8 [(3,y3),(1,y1),(2,(.int .u64 y2)),(6,y6)] d h Q (λE _ _ _ _=>∃l0:List UInt8,∃x1:Int,∃x2:Int,zK zA 220 h y3=some (.agg [l0,x1,x2])/\RF Tryz.prog zA 251 [(.agg [l0,x1,x2])] h λv3 h4=>∃v5,v3=v5/\∃v6 h7,zF zA 344 1 [(0,(.agg [(.int .u64 (zT .u64 (y1))),(.int .u64 y2)]))] h4=some (v6,h7)/\RF Tryz.prog zA 252 [v5,v6] h7 λv8 h9=>v8=(.tuple [])/\(h9.nx<=T.top/\h9.low<=T.top)/\∃v10 h11,zh zA ⟨none,.nilCheck (t 0),0, "",#[],none⟩ (λ_=>some v5) (zM h9)=some (.val v10 h11)/\(h9.nx<=h11.low/\h11.nx<=T.top)/\∀h12,h12=yG h9 h11->zS zA 300 0 h12 v10 λv13 h14=>zS zA 298 0 h14 v13 λv15 h16=>∃l17:List UInt8,zK zA 9 h16 v15=some (.str l17)/\∃v18 h19,zh zA ⟨none,.nilCheck (t 0),0, "",#[],none⟩ (λ_=>some v5) (zM h16)=some (.val v18 h19)/\(h16.nx<=h19.low/\h19.nx<=T.top)/\∀h20,h20=yG h16 h19->zS zA 300 1 h20 v18 λv21 h22=>∃x23:Int,zK zA 127 h22 v21=some (.int .u64 x23)/\∃v24 h25,zh zA ⟨none,.nilCheck (t 0),0, "",#[],none⟩ (λ_=>some v5) (zM h22)=some (.val v24 h25)/\(h22.nx<=h25.low/\h25.nx<=T.top)/\∀h26,h26=yG h22 h25->zS zA 300 2 h26 v24 λv27 h28=>∃x29:Int,zK zA 3 h28 v27=some (x29:V)/\∃h30,zf zA 220 h28 y6 (.agg [l17,(zH (x23)),x29])=some h30/\E [(7,(0:Int))] .ret h30):=λ_=>by kernel_rfl
theorem z2Z  {a0_1 a0_2 a1 a2:Int}{a0_0:List UInt8}{Q:V->H->Prop}:zJh false zBK ⟨68,zC [(.agg [a0_0,a0_1,a0_2]),a1,(.int .u64 a2)] 0 (Tb.leaf zB),[],h⟩ (endW zA ⟨68,[.cell 6 220,.tmp 7],zBK⟩ Q)=((h.nx<T.top/\∀p0 h1,p0=h.nx->h1=h.new (.cells (.ls [a0_0,a0_1,a0_2]) ⟨0,221,0⟩ true false)->h1.nx<T.top/\∀p2 h3,p2=h1.nx->h3=h1.new (.cells (.ls [(.str []),(0:Int),(0:Int)]) ⟨0,221,0⟩ true false)->wpDr Tryz.prog zA false z5x.toList ⟨68,(Tb.set (Tb.set (Tb.set (Tb.set (Tb.set (Tb.set (Tb.leaf zB) 0 (.agg [a0_0,a0_1,a0_2])) 1 a1) 2 (.int .u64 a2)) 3 (.ptr p0 0)) 6 (.ptr p2 0)) 7 (0:Int)),[],h3⟩ (thenC (sealK zJb λs1=>zJh false zOg s1 (thenC (sealK zJb λs1=>zJh false zH8 s1 (endW zA ⟨68,[.cell 6 220,.tmp 7],zBK⟩ Q)) (endW zA ⟨68,[.cell 6 220,.tmp 7],zBK⟩ Q))) (thenC (sealK zJb λs1=>zJh false zH8 s1 (endW zA ⟨68,[.cell 6 220,.tmp 7],zBK⟩ Q)) (endW zA ⟨68,[.cell 6 220,.tmp 7],zBK⟩ Q))))):=by kernel_rfl
noncomputable def zJy:Code:=zE Tryz.f285
def zNS:Code:=zg zJy [1,0,0]
theorem z04:(zA.fn.get 285).map zI=some ⟨22,[],zJy⟩:=by kernel_rfl
def zVa:List Nat:=[7,6,5,0]
abbrev zZF (b:Bool):Code->St->(AX->St->Prop)->Prop:=wpS Tryz.prog zA zVa 4 b
theorem zSa {y7 y6:Int}{y5 y0:V}:Vy (zZF false) 22 zVa zNS [(7,y7),(6,y6),(5,y5),(0,y0)] d h Q (λE _ _ _ _=>((y7<y6->∃p0 o1,z7 zA 23 y5 y7=some (.ptr p0 o1)/\∃x2:Int,zK zA 3 h (.ptr p0 o1)=some (x2:V)/\((0:Int)<x2->yT zA Tryz.prog 4 h (λv3 h4=>zAv .not v3 λv5=>xJ v5 λu=>match u with|true=>(E [] .ret h4)|false=>(E [(7,(zH (y7+1)))] .normal h4)) [y7,x2] y0)/\(¬((0:Int)<x2)->E [(7,(zH (y7+1)))] .normal h))/\(¬(y7<y6)->E [] (.exit 0) h))):=λ_=>by kernel_rfl
theorem z2b  {a0 a1:V}{Q:V->H->Prop}:zZF false zJy ⟨22,zC [a0,a1] 0 (Tb.leaf zB),[],h⟩ (endW zA ⟨22,[],zJy⟩ Q)=(∃v0,zK zA 23 h a1=some v0/\∃x1:Int,zm zA 23 h v0=some (x1:V)/\Lz zVa 22 [(7,(0:Int)),(6,x1),(5,v0),(0,a0)] zNS h λe s1=>(endW zA ⟨22,[],zJy⟩ Q) (zc 0 e) s1):=by kernel_rfl
noncomputable def zWc:Code:=zE Tryz.f291
theorem z09:(zA.fn.get 291).map zI=some ⟨9,[.tmp 4],zWc⟩:=by kernel_rfl
def z4T:List Nat:=[4]
abbrev z5U (b:Bool):Code->St->(AX->St->Prop)->Prop:=wpS Tryz.prog zA z4T 4 b
theorem z2g  {a0 a1:V}{Q:V->H->Prop}:z5U false zWc ⟨9,zC [a0,a1] 0 (Tb.leaf zB),[],h⟩ (endW zA ⟨9,[.tmp 4],zWc⟩ Q)=(RF Tryz.prog zA 311 [a0,a1] h λv0 h1=>∃x2:Int,v0=x2/\((0:Int)<=x2->Q true h1)/\(¬((0:Int)<=x2)->Q false h1)):=by kernel_rfl
noncomputable def zWd:Code:=zE Tryz.f292
theorem z0a:(zA.fn.get 292).map zI=some ⟨21,[.tmp 3],zWd⟩:=by kernel_rfl
def z4U:List Nat:=[3]
abbrev z5V (b:Bool):Code->St->(AX->St->Prop)->Prop:=wpS Tryz.prog zA z4U 4 b
theorem z2h  {a0:Int}{a1:V}{Q:V->H->Prop}:z5V false zWd ⟨21,zC [a0,a1] 0 (Tb.leaf zB),[],h⟩ (endW zA ⟨21,[.tmp 3],zWd⟩ Q)=(((a0<0->Q true h)/\(¬(a0<0)->zS zA 59 1 h a1 λv0 h1=>∃v2,zK zA 23 h1 v0=some v2/\∃x3:Int,zm zA 23 h1 v2=some (x3:V)/\(x3<=a0->Q true h1)/\(¬(x3<=a0)->zS zA 59 1 h1 a1 λv4 h5=>∃v6,zK zA 23 h5 v4=some v6/\∃p7 o8,z7 zA 23 v6 a0=some (.ptr p7 o8)/\∃x9:Int,zK zA 3 h5 (.ptr p7 o8)=some (x9:V)/\(x9=0->Q true h5)/\(¬(x9=0)->Q false h5))))):=by kernel_rfl
noncomputable def zGj:Code:=zE Tryz.f296
def zDc:Code:=zg zGj [1,1,1,1,1]
theorem z0e:(zA.fn.get 296).map zI=some ⟨57,[.tmp 6,.tmp 7,.tmp 8],zGj⟩:=by kernel_rfl
def zQE:List Nat:=[6,7,8,9,10,11]
abbrev zLn (b:Bool):Code->St->(AX->St->Prop)->Prop:=wpS Tryz.prog zA zQE 4 b
theorem zTw {y10 y7 y11:Int}{y9:V}:Vy (zLn false) 57 zQE zDc [(9,y9),(10,(.int .u64 y10)),(7,y7),(11,(.int .u64 y11))] d h Q (λE _ _ _ _=>∃x0:Int,zn .shr .u64 y10 (zT .u64 (y7))=some (.int .u64 x0)/\∃p1 o2,z7 zA 23 y9 (zH ((zT .u64 (x0-y11))))=some (.ptr p1 o2)/\∃x3:Int,zK zA 3 h (.ptr p1 o2)=some (x3:V)/\∃x4:Int,zn .shl .u64 1 (zT .u64 (y7))=some (.int .u64 x4)/\∃x5:Int,zn .and .u64 y10 (zT .u64 (x4-1))=some (.int .u64 x5)/\E [(6,x3),(8,(zH (x5)))] .ret h):=λ_=>by kernel_rfl
theorem z2l  {a0_0 a1 a2:Int}{a0_1:V}{Q:V->H->Prop}:zLn false zGj ⟨57,zC [(.agg [a0_0,a0_1]),a1,a2] 0 (Tb.leaf zB),[],h⟩ (endW zA ⟨57,[.tmp 6,.tmp 7,.tmp 8],zGj⟩ Q)=(wh (cond (zL (V.cells (.agg [a0_0,a0_1]))) (Cs.ofL (V.cells (.agg [a0_0,a0_1]))) none) λcs2=>h.nx<T.top/\∀p0 h1,p0=h.nx->h1=h.new (.cells cs2 ⟨0,347,0⟩ true false)->∃x3:Int,∃v4,zK zA 346 h1 (.ptr p0 0)=some (.agg [x3,v4])/\RF Tryz.prog zA 295 [(.agg [x3,v4]),a2] h1 λv5 h6=>∃v7,v5=v7/\∃x8:Int,zK zA 3 h6 (.ptr p0 ((0+0)+0))=some (x8:V)/\∃x9:Int,zn .shl .u64 1 (zT .u64 (x8))=some (.int .u64 x9)/\∃x10:Int,zm zA 23 h6 v7=some (x10:V)/\RF Tryz.prog zA 316 [(.int .u64 (zT .u64 ((zT .u64 (a1))+x9)))] h6 λv11 h12=>∃x13:Int,v11=x13/\RF Tryz.prog zA 316 [(.int .u64 (zT .u64 (x10)))] h12 λv14 h15=>∃x16:Int,v14=x16/\∃x17:Int,zn .shr .u64 (zT .u64 ((zT .u64 (a1))+x9)) (zT .u64 ((zH (x13-x16))))=some (.int .u64 x17)/\(x17<(zT .u64 (x10))->Gz zQE (Tb.leaf zB) [(6,(0:Int)),(7,(zH ((zH (x13-x16))-1))),(8,(0:Int)),(9,v7),(10,(.int .u64 (zT .u64 ((zT .u64 (a1))+x9)))),(11,(.int .u64 (zT .u64 (x10))))] λu=>zLn false zDc ⟨57,u,[],h15⟩ (endW zA ⟨57,[.tmp 6,.tmp 7,.tmp 8],zGj⟩ Q))/\(¬(x17<(zT .u64 (x10)))->Gz zQE (Tb.leaf zB) [(6,(0:Int)),(7,(zH (x13-x16))),(8,(0:Int)),(9,v7),(10,(.int .u64 (zT .u64 ((zT .u64 (a1))+x9)))),(11,(.int .u64 (zT .u64 (x10))))] λu=>zLn false zDc ⟨57,u,[],h15⟩ (endW zA ⟨57,[.tmp 6,.tmp 7,.tmp 8],zGj⟩ Q))):=by kernel_rfl
noncomputable def zKG:Code:=zE Tryz.f313
def zN2:Code:=zg zKG [1,1,0,1,0,0]
def zOw:Code:=zg zKG [1,1,1]
theorem z0p:(zA.fn.get 313).map zI=some ⟨17,[.tmp 2],zKG⟩:=by kernel_rfl
def zQJ:List Nat:=[2,8,7,6,3]
abbrev zQ3 (b:Bool):Code->St->(AX->St->Prop)->Prop:=wpS Tryz.prog zA zQJ 4 b
theorem zSk {y8 y7:Int}{y6 y3:V}:Vy (zQ3 false) 17 zQJ zN2 [(8,y8),(7,y7),(6,y6),(3,y3)] d h Q (λE _ _ _ _=>((y8<y7->∃p0 o1,z7 zA 214 y6 y8=some (.ptr p0 o1)/\∃v2,zK zA 23 h (.ptr p0 o1)=some v2/\True/\∃v3 h4,za zA 23 h y3 v2=some (v3,h4)/\E [(8,(zH (y8+1))),(3,v3)] .normal h4)/\(¬(y8<y7)->E [] (.exit 0) h))):=λ_=>by kernel_rfl
theorem zUD {y3:V}:Vy (zQ3 false) 17 zQJ zOw [(3,y3)] d h Q (λE _ _ _ _=>(E [(2,y3)] .ret h)):=λ_=>by kernel_rfl
theorem z2w  {a0:V}{Q:V->H->Prop}:zQ3 false zKG ⟨17,zC [a0] 0 (Tb.leaf zB),[],h⟩ (endW zA ⟨17,[.tmp 2],zKG⟩ Q)=(∃x0:Int,zm zA 214 h a0=some (x0:V)/\Lz zQJ 17 [(2,.nilslice),(8,(0:Int)),(7,x0),(6,a0),(3,.nilslice)] zN2 h (Kx (zQ3 false) zOw 0 (endW zA ⟨17,[.tmp 2],zKG⟩ Q))):=by kernel_rfl
noncomputable def zWi:Code:=zE Tryz.f316
theorem z0r:(zA.fn.get 316).map zI=some ⟨8,[.tmp 2],zWi⟩:=by kernel_rfl
def z4Z:List Nat:=[2]
abbrev z50 (b:Bool):Code->St->(AX->St->Prop)->Prop:=wpS Tryz.prog zA z4Z 4 b
theorem z2y  {a0:Int}{Q:V->H->Prop}:z50 false zWi ⟨8,zC [(.int .u64 a0)] 0 (Tb.leaf zB),[],h⟩ (endW zA ⟨8,[.tmp 2],zWi⟩ Q)=(RF Tryz.prog zA 329 [(.int .u64 a0)] h λv0 h1=>∃x2:Int,v0=x2/\Q x2 h1):=by kernel_rfl
noncomputable def b25:Code:=zE Tryz.f25
theorem z6M:(zA.fn.get 25).map zI=some ⟨22,[.tmp 2,.tmp 3],b25⟩:=by kernel_rfl
def L25:List Nat:=[2,3]
abbrev W25 (b:Bool):Code->St->(AX->St->Prop)->Prop:=wpS Tryz.prog zA L25 4 b
theorem z6x  {a0:V}{Q:V->H->Prop}:W25 false b25 ⟨22,zC [a0] 0 (Tb.leaf zB),[],h⟩ (endW zA ⟨22,[.tmp 2,.tmp 3],b25⟩ Q)=(RF Tryz.prog zA 56 [a0] h λv0 h1=>∃v2,∃x3:Int,v0=(.tuple [v2,x3])/\(x3≠0->Q (.tuple [.nilslice,x3]) h1)/\(¬(x3≠0)->∃x4:Int,zm zA 23 h1 v2=some (x4:V)/\∃x5:Int,zm zA 23 h1 v2=some (x5:V)/\∃v6,zq zA 23 h1 v2 none (some (.int .i64 (zH (x4-1)))) (some (.int .i64 (zH (x5-1))))=some v6/\Q (.tuple [v6,(0:Int)]) h1)):=by kernel_rfl
noncomputable def b26:Code:=zE Tryz.f26
def zUk:Code:=zg b26 [1,0,1,1,1,1,0,1,0,0]
def zVA:Code:=zg b26 [1,0,1,1,1,1,1]
theorem z6N:(zA.fn.get 26).map zI=some ⟨50,[.tmp 2,.tmp 3],b26⟩:=by kernel_rfl
def L26:List Nat:=[2,3,23,22,21,5]
abbrev W26 (b:Bool):Code->St->(AX->St->Prop)->Prop:=wpS Tryz.prog zA L26 4 b
theorem zXn {y23 y22:Int}{y21 y5:V}:Vy (W26 false) 50 L26 zUk [(23,y23),(22,y22),(21,y21),(5,y5)] d h Q (λE _ _ _ _=>((y23<y22->∃p0 o1,z7 zA 23 y21 y23=some (.ptr p0 o1)/\∃x2:Int,zK zA 3 h (.ptr p0 o1)=some (x2:V)/\(2:Int)≠0/\((Int.tmod y23 2)=0->∃x3:Int,zn .shl .u8 (zT .u8 (x2)) 4=some (.int .u8 x3)/\∃v4 h5,zF zA 71 1 [(0,(.int .u8 x3))] h=some (v4,h5)/\True/\∃v6 h7,za zA 71 h5 y5 v4=some (v6,h7)/\E [(23,(zH (y23+1))),(5,v6)] .normal h7)/\(¬((Int.tmod y23 2)=0)->∃x8:Int,zm zA 71 h y5=some (x8:V)/\∃p9 o10,z7 zA 71 y5 (zH (x8-1))=some (.ptr p9 o10)/\∃x11:Int,zK zA 5 h (.ptr p9 o10)=some (.int .u8 x11)/\∃x12:Int,zn .or .u8 x11 (zT .u8 (x2))=some (.int .u8 x12)/\∃p13 o14,z7 zA 71 y5 (zH (x8-1))=some (.ptr p13 o14)/\∃h15,zf zA 5 h (.ptr p13 o14) (.int .u8 x12)=some h15/\E [(23,(zH (y23+1)))] .normal h15))/\(¬(y23<y22)->E [] (.exit 0) h))):=λ_=>by kernel_rfl
theorem zYE {y5:V}:Vy (W26 false) 50 L26 zVA [(5,y5)] d h Q (λE _ _ _ _=>kV zA 71 9 h y5 λv0 h1=>(E [(2,v0),(3,(0:Int))] .ret h1)):=λ_=>by kernel_rfl
theorem z6y  {a0:V}{Q:V->H->Prop}:W26 false b26 ⟨50,zC [a0] 0 (Tb.leaf zB),[],h⟩ (endW zA ⟨50,[.tmp 2,.tmp 3],b26⟩ Q)=(RF Tryz.prog zA 41 [a0] h λv0 h1=>∃x2:Int,v0=x2/\(x2≠0->Q (.tuple [(.str []),x2]) h1)/\(¬(x2≠0)->∃x3:Int,zm zA 23 h1 a0=some (x3:V)/\((128:Int)<x3->Q (.tuple [(.str []),(4:Int)]) h1)/\(¬((128:Int)<x3)->∃x4:Int,zm zA 23 h1 a0=some (x4:V)/\∃v5 h6,zF zA 71 1 [(0,(.int .u8 (zT .u8 ((zH (x4+127))))))] h1=some (v5,h6)/\∃x7:Int,zm zA 23 h6 a0=some (x7:V)/\Lz L26 50 [(2,(.str [])),(3,(0:Int)),(23,(0:Int)),(22,x7),(21,a0),(5,v5)] zUk h6 (Kx (W26 false) zVA 0 (endW zA ⟨50,[.tmp 2,.tmp 3],b26⟩ Q))))):=by kernel_rfl
noncomputable def b56:Code:=zE Tryz.f56
theorem z60:(zA.fn.get 56).map zI=some ⟨14,[.tmp 2,.tmp 3],b56⟩:=by kernel_rfl
def L56:List Nat:=[2,3]
abbrev W56 (b:Bool):Code->St->(AX->St->Prop)->Prop:=wpS Tryz.prog zA L56 4 b
theorem z7K  {a0:V}{Q:V->H->Prop}:W56 false b56 ⟨14,zC [a0] 0 (Tb.leaf zB),[],h⟩ (endW zA ⟨14,[.tmp 2,.tmp 3],b56⟩ Q)=(RF Tryz.prog zA 107 [a0] h λv0 h1=>∃x2:Int,v0=x2/\(x2≠0->Q (.tuple [.nilslice,x2]) h1)/\(¬(x2≠0)->RF Tryz.prog zA 108 [a0] h1 λv3 h4=>∃x5:Int,v3=x5/\RF Tryz.prog zA 91 [a0,x5] h4 λv6 h7=>∃v8,v6=v8/\Q (.tuple [v8,(0:Int)]) h7)):=by kernel_rfl
noncomputable def b93:Code:=zE Tryz.f93
theorem z68:(zA.fn.get 93).map zI=some ⟨2,[.cell 0 136],b93⟩:=by kernel_rfl
def L93:List Nat:=[0]
abbrev W93 (b:Bool):Code->St->(AX->St->Prop)->Prop:=wpS Tryz.prog zA L93 4 b
theorem z7S  {Q:V->H->Prop}:W93 false b93 ⟨2,zC [] 0 (Tb.leaf zB),[],h⟩ (endW zA ⟨2,[.cell 0 136],b93⟩ Q)=((h.nx<T.top/\∀p0 h1,p0=h.nx->h1=h.new (.cells (.ls [.nilFunc,.nilFunc]) ⟨0,137,0⟩ true false)->∃h2,zf zA 136 h1 (.ptr p0 0) (.agg [(.func (.func 26) [] []),(.func (.func 54) [] [])])=some h2/\endL zA h2 [(.cell 0 136,(.ptr p0 0))] Q)):=by kernel_rfl
noncomputable def zCe:Code:=zE Tryz.f101
def zLo:Code:=zg zCe [1,1,1,0,1,0,0]
def zMd:Code:=zg zCe [1,1,1,0,1,0,1]
def zX3:Code:=zg zCe [1,1,1,0,1,0]
def zH2:Code:=zg zCe [1,1,1,1]
theorem zZX:(zA.fn.get 101).map zI=some ⟨18,[.tmp 2,.tmp 3],zCe⟩:=by kernel_rfl
def zLg:List Nat:=[2,3,5,12]
abbrev zJe (b:Bool):Code->St->(AX->St->Prop)->Prop:=wpS Tryz.prog zA zLg 4 b
theorem zSD :Vy (zJe true) 18 zLg (wq zLo) [] d h Q (λE _ _ _ _=>(E [] .normal h)):=λ_=>by kernel_rfl
theorem zSI {y5:V}:Vy (zJe true) 18 zLg (wq zMd) [(5,y5)] d h Q (λE _ _ _ _=>∃x0:Int,zK zA 3 h y5=some (x0:V)/\∃h1,zf zA 3 h y5 (zH (x0+1))=some h1/\E [] .normal h1):=λ_=>by kernel_rfl
theorem zSv {y5:V}:Vy (zJe false) 18 zLg zH2 [(5,y5)] d h Q (λE _ _ _ _=>∃x0:Int,zK zA 3 h y5=some (x0:V)/\E [(2,x0),(3,(0:Int))] .ret h):=λ_=>by kernel_rfl
theorem z14  {a0:V}{Q:V->H->Prop}:zJe false zCe ⟨18,zC [a0] 0 (Tb.leaf zB),[],h⟩ (endW zA ⟨18,[.tmp 2,.tmp 3],zCe⟩ Q)=(RF Tryz.prog zA 169 [a0] h λv0 h1=>∃x2:Int,v0=x2/\(x2≠0->Q (.tuple [(0:Int),x2]) h1)/\(¬(x2≠0)->V.one (0:Int)=true/\h1.nx<T.top/\∀p3 h4,p3=h1.nx->h4=h1.new (.cells (.ls [(0:Int)]) ⟨0,4,0⟩ true false)->∃h5,zf zA 3 h4 (.ptr p3 0) (0:Int)=some h5/\RF Tryz.prog zA 170 [a0] h5 λv6 h7=>∃v8,v6=v8/\Gz zLg (Tb.leaf zB) [(2,(0:Int)),(3,(0:Int)),(5,(.ptr p3 0)),(12,v8)] λu=>RC Tryz.prog false zX3 ⟨18,u,[],h7⟩ (Kx (zJe false) zH2 0 (endW zA ⟨18,[.tmp 2,.tmp 3],zCe⟩ Q)))):=by kernel_rfl
noncomputable def zVz:Code:=zE Tryz.f104
theorem zZ0:(zA.fn.get 104).map zI=some ⟨19,[.tmp 4,.tmp 5],zVz⟩:=by kernel_rfl
def z3g:List Nat:=[4,5]
abbrev z4h (b:Bool):Code->St->(AX->St->Prop)->Prop:=wpS Tryz.prog zA z3g 4 b
theorem z17  {a0_0:Int}{a0_1 a1:V}{Q:V->H->Prop}:z4h false zVz ⟨19,zC [(.agg [a0_0,a0_1]),a1] 0 (Tb.leaf zB),[],h⟩ (endW zA ⟨19,[.tmp 4,.tmp 5],zVz⟩ Q)=(wh (cond (zL (V.cells (.agg [a0_0,a0_1]))) (Cs.ofL (V.cells (.agg [a0_0,a0_1]))) none) λcs2=>h.nx<T.top/\∀p0 h1,p0=h.nx->h1=h.new (.cells cs2 ⟨0,60,0⟩ true false)->∃x3:Int,∃v4,zK zA 59 h1 (.ptr p0 0)=some (.agg [x3,v4])/\RF Tryz.prog zA 176 [(.agg [x3,v4]),a1,(2:Int)] h1 λv5 h6=>∃x7:Int,v5=x7/\(x7≠0->Q (.tuple [(.str []),x7]) h6)/\(¬(x7≠0)->∃x8:Int,∃v9,zK zA 59 h6 (.ptr p0 0)=some (.agg [x8,v9])/\RF Tryz.prog zA 178 [(.agg [x8,v9]),a1,(2:Int)] h6 λv10 h11=>∃l12:List UInt8,∃x13:Int,∃x14:Int,v10=(.agg [l12,x13,x14])/\RF Tryz.prog zA 177 [(.agg [l12,x13,x14])] h11 λv15 h16=>∃l17:List UInt8,∃x18:Int,v15=(.tuple [l17,x18])/\Q (.tuple [l17,x18]) h16)):=by kernel_rfl
noncomputable def zJr:Code:=zE Tryz.f108
def zMx:Code:=zg zJr [1,1,0,1,0,0]
def zOP:Code:=zg zJr [1,1,1]
theorem zZ4:(zA.fn.get 108).map zI=some ⟨17,[.tmp 2],zJr⟩:=by kernel_rfl
def zPx:List Nat:=[2,8,7,6,3]
abbrev zQP (b:Bool):Code->St->(AX->St->Prop)->Prop:=wpS Tryz.prog zA zPx 4 b
theorem zSQ {y8 y7 y3:Int}{y6:V}:Vy (zQP false) 17 zPx zMx [(8,y8),(7,y7),(6,y6),(3,y3)] d h Q (λE _ _ _ _=>((y8<y7->∃p0 o1,z7 zA 23 y6 y8=some (.ptr p0 o1)/\∃x2:Int,zK zA 3 h (.ptr p0 o1)=some (x2:V)/\E [(8,(zH (y8+1))),(3,(.int .i64 (max y3 x2)))] .normal h)/\(¬(y8<y7)->E [] (.exit 0) h))):=λ_=>by kernel_rfl
theorem zTA {y3:Int}:Vy (zQP false) 17 zPx zOP [(3,y3)] d h Q (λE _ _ _ _=>(E [(2,y3)] .ret h)):=λ_=>by kernel_rfl
theorem z1b  {a0:V}{Q:V->H->Prop}:zQP false zJr ⟨17,zC [a0] 0 (Tb.leaf zB),[],h⟩ (endW zA ⟨17,[.tmp 2],zJr⟩ Q)=(∃x0:Int,zm zA 23 h a0=some (x0:V)/\Lz zPx 17 [(2,(0:Int)),(8,(0:Int)),(7,x0),(6,a0),(3,(0:Int))] zMx h (Kx (zQP false) zOP 0 (endW zA ⟨17,[.tmp 2],zJr⟩ Q))):=by kernel_rfl
noncomputable def zMB:Code:=zE Tryz.f173
def zOW:Code:=zg zMB [1,1]
theorem zZf:(zA.fn.get 173).map zI=some ⟨44,[.tmp 2],zMB⟩:=by kernel_rfl
def zV4:List Nat:=[2,1]
abbrev zVh (b:Bool):Code->St->(AX->St->Prop)->Prop:=wpS Tryz.prog zA zV4 4 b
theorem zTN {y1:V}:Vy (zVh false) 44 zV4 zOW [(1,y1)] d h Q (λE _ _ _ _=>zS zA 59 1 h y1 λv0 h1=>∃v2,zK zA 23 h1 v0=some v2/\∃x3:Int,zm zA 23 h1 v2=some (x3:V)/\(h1.nx<=T.top/\h1.low<=T.top)/\(x3<1->E [(2,(23:Int))] .ret h1)/\(¬(x3<1)->((256:Int)<x3->E [(2,(23:Int))] .ret h1)/\(¬((256:Int)<x3)->zS zA 59 1 h1 y1 λv4 h5=>∃v6,zK zA 23 h5 v4=some v6/\∃p7 o8,z7 zA 23 v6 (zH (x3-1))=some (.ptr p7 o8)/\∃x9:Int,zK zA 3 h5 (.ptr p7 o8)=some (x9:V)/\(x9=0->E [(2,(23:Int))] .ret h5)/\(¬(x9=0)->zS zA 59 1 h5 y1 λv10 h11=>∃v12,zK zA 23 h11 v10=some v12/\RF Tryz.prog zA 242 [v12] (zM h11) λv13 h14=>∃x15:Int,v13=x15/\h14.nx<=T.top/\∀h16,h16=yG h11 h14->(x15<(-1)->E [(2,(23:Int))] .ret h16)/\(¬(x15<(-1))->∃x17:Int,∃v18,zK zA 59 h16 y1=some (.agg [x17,v18])/\RF Tryz.prog zA 243 [(.agg [x17,v18])] (zM h16) λv19 h20=>∃x21:Int,v19=x21/\(h16.nx<=h20.low/\h20.nx<=T.top)/\∀h22,h22=yG h16 h20->zS zA 59 0 h22 y1 λv23 h24=>∃x25:Int,zK zA 3 h24 v23=some (x25:V)/\∃x26:Int,zn .shl .i64 1 x25=some (x26:V)/\(x21≠x26->E [(2,(23:Int))] .ret h24)/\(¬(x21≠x26)->E [(2,(0:Int))] .ret h24)))))):=λ_=>by kernel_rfl
theorem z1m  {a0_0:Int}{a0_1:V}{Q:V->H->Prop}:zVh false zMB ⟨44,zC [(.agg [a0_0,a0_1])] 0 (Tb.leaf zB),[],h⟩ (endW zA ⟨44,[.tmp 2],zMB⟩ Q)=(wh (cond (zL (V.cells (.agg [a0_0,a0_1]))) (Cs.ofL (V.cells (.agg [a0_0,a0_1]))) none) λcs2=>h.nx<T.top/\∀p0 h1,p0=h.nx->h1=h.new (.cells cs2 ⟨0,60,0⟩ true false)->∃x3:Int,zK zA 3 h1 (.ptr p0 (0+0))=some (x3:V)/\(x3<5->Q (31:Int) h1)/\(¬(x3<5)->∃x4:Int,zK zA 3 h1 (.ptr p0 (0+0))=some (x4:V)/\((12:Int)<x4->Q (31:Int) h1)/\(¬((12:Int)<x4)->Gz zV4 (Tb.leaf zB) [(2,(0:Int)),(1,(.ptr p0 0))] λu=>zVh false zOW ⟨44,u,[],h1⟩ (endW zA ⟨44,[.tmp 2],zMB⟩ Q)))):=by kernel_rfl
noncomputable def zWK:Code:=zE Tryz.f177
theorem zZj:(zA.fn.get 177).map zI=some ⟨34,[.tmp 2,.tmp 3],zWK⟩:=by kernel_rfl
def z3r:List Nat:=[2,3]
abbrev z4s (b:Bool):Code->St->(AX->St->Prop)->Prop:=wpS Tryz.prog zA z3r 4 b
theorem z1q  {a0_1 a0_2:Int}{a0_0:List UInt8}{Q:V->H->Prop}:z4s false zWK ⟨34,zC [(.agg [a0_0,a0_1,a0_2])] 0 (Tb.leaf zB),[],h⟩ (endW zA ⟨34,[.tmp 2,.tmp 3],zWK⟩ Q)=((h.nx<T.top/\∀p0 h1,p0=h.nx->h1=h.new (.cells (.ls [a0_0,a0_1,a0_2]) ⟨0,221,0⟩ true false)->(h1.nx<=T.top/\h1.low<=T.top)/\∃l2:List UInt8,∃x3:Int,∃x4:Int,zK zA 220 h1 (.ptr p0 0)=some (.agg [l2,x3,x4])/\RF Tryz.prog zA 249 [(.agg [l2,x3,x4])] (zM h1) λv5 h6=>∃x7:Int,v5=x7/\(h1.nx<=h6.low/\h6.nx<=T.top)/\∀h8,h8=yG h1 h6->∃l9:List UInt8,zK zA 9 h8 (.ptr p0 (0+0))=some (.str l9)/\((1048576:Int)<(zH ((Int.ofNat (List.length l9))+1))->RF Tryz.prog zA 250 [true,(4:Int)] h8 λv10 h11=>∃x12:Int,v10=x12/\∃v13 h14,zF zA 343 2 [(0,x7),(1,x12)] h11=some (v13,h14)/\RF Tryz.prog zA 248 [v13] h14 λv15 h16=>∃x17:Int,v15=x17/\(x17≠0->Q (.tuple [(.str []),x17]) h16)/\(¬(x17≠0)->∃l18:List UInt8,∃x19:Int,∃x20:Int,zK zA 220 h16 (.ptr p0 0)=some (.agg [l18,x19,x20])/\RF Tryz.prog zA 251 [(.agg [l18,x19,x20])] h16 λv21 h22=>∃v23,v21=v23/\∃x24:Int,zK zA 3 h22 (.ptr p0 (0+2))=some (x24:V)/\∃v25 h26,zF zA 344 1 [(0,(.agg [(.int .u64 (zT .u64 ((zH (8-x24))))),(.int .u64 1)]))] h22=some (v25,h26)/\RF Tryz.prog zA 252 [v23,v25] h26 λv27 h28=>v27=(.tuple [])/\∃v29 h30,zh zA ⟨none,.nilCheck (t 0),0, "",#[],none⟩ (λ_=>some v23) h28=some (.val v29 h30)/\zS zA 300 0 h30 v29 λv31 h32=>zS zA 298 0 h32 v31 λv33 h34=>∃l35:List UInt8,zK zA 9 h34 v33=some (.str l35)/\Q (.tuple [l35,(0:Int)]) h34))/\(¬((1048576:Int)<(zH ((Int.ofNat (List.length l9))+1)))->RF Tryz.prog zA 250 [false,(4:Int)] h8 λv36 h37=>∃x38:Int,v36=x38/\∃v39 h40,zF zA 343 2 [(0,x7),(1,x38)] h37=some (v39,h40)/\RF Tryz.prog zA 248 [v39] h40 λv41 h42=>∃x43:Int,v41=x43/\(x43≠0->Q (.tuple [(.str []),x43]) h42)/\(¬(x43≠0)->∃l44:List UInt8,∃x45:Int,∃x46:Int,zK zA 220 h42 (.ptr p0 0)=some (.agg [l44,x45,x46])/\RF Tryz.prog zA 251 [(.agg [l44,x45,x46])] h42 λv47 h48=>∃v49,v47=v49/\∃x50:Int,zK zA 3 h48 (.ptr p0 (0+2))=some (x50:V)/\∃v51 h52,zF zA 344 1 [(0,(.agg [(.int .u64 (zT .u64 ((zH (8-x50))))),(.int .u64 1)]))] h48=some (v51,h52)/\RF Tryz.prog zA 252 [v49,v51] h52 λv53 h54=>v53=(.tuple [])/\∃v55 h56,zh zA ⟨none,.nilCheck (t 0),0, "",#[],none⟩ (λ_=>some v49) h54=some (.val v55 h56)/\zS zA 300 0 h56 v55 λv57 h58=>zS zA 298 0 h58 v57 λv59 h60=>∃l61:List UInt8,zK zA 9 h60 v59=some (.str l61)/\Q (.tuple [l61,(0:Int)]) h60)))):=by kernel_rfl
noncomputable def zWO:Code:=zE Tryz.f183
theorem zZo:(zA.fn.get 183).map zI=some ⟨9,[.tmp 3],zWO⟩:=by kernel_rfl
def z3v:List Nat:=[3]
abbrev z4w (b:Bool):Code->St->(AX->St->Prop)->Prop:=wpS Tryz.prog zA z3v 4 b
theorem z1v  {a0:Int}{a1:V}{Q:V->H->Prop}:z4w false zWO ⟨9,zC [a0,a1] 0 (Tb.leaf zB),[],h⟩ (endW zA ⟨9,[.tmp 3],zWO⟩ Q)=(∃x0:Int,zK zA 3 h a1=some (x0:V)/\∃x1:Int,zn .shl .i64 1 (zT .u64 ((zH (x0-a0))))=some (x1:V)/\Q x1 h):=by kernel_rfl
noncomputable def zJu:Code:=zE Tryz.f235
def zNH:Code:=zg zJu [1,0,0]
theorem zZx:(zA.fn.get 235).map zI=some ⟨22,[],zJu⟩:=by kernel_rfl
def zV6:List Nat:=[7,6,5,0]
abbrev zZE (b:Bool):Code->St->(AX->St->Prop)->Prop:=wpS Tryz.prog zA zV6 4 b
theorem zS0 {y7 y6:Int}{y5 y0:V}:Vy (zZE false) 22 zV6 zNH [(7,y7),(6,y6),(5,y5),(0,y0)] d h Q (λE _ _ _ _=>((y7<y6->∃p0 o1,z7 zA 23 y5 y7=some (.ptr p0 o1)/\∃x2:Int,zK zA 3 h (.ptr p0 o1)=some (x2:V)/\((0:Int)<x2->yT zA Tryz.prog 4 h (λv3 h4=>zAv .not v3 λv5=>xJ v5 λu=>match u with|true=>(E [] .ret h4)|false=>(E [(7,(zH (y7+1)))] .normal h4)) [y7,x2] y0)/\(¬((0:Int)<x2)->E [(7,(zH (y7+1)))] .normal h))/\(¬(y7<y6)->E [] (.exit 0) h))):=λ_=>by kernel_rfl
theorem z2E  {a0 a1:V}{Q:V->H->Prop}:zZE false zJu ⟨22,zC [a0,a1] 0 (Tb.leaf zB),[],h⟩ (endW zA ⟨22,[],zJu⟩ Q)=(∃v0,zK zA 23 h a1=some v0/\∃x1:Int,zm zA 23 h v0=some (x1:V)/\Lz zV6 22 [(7,(0:Int)),(6,x1),(5,v0),(0,a0)] zNH h λe s1=>(endW zA ⟨22,[],zJu⟩ Q) (zc 0 e) s1):=by kernel_rfl
noncomputable def zWW:Code:=zE Tryz.f238
theorem z0A:(zA.fn.get 238).map zI=some ⟨4,[.tmp 2],zWW⟩:=by kernel_rfl
def z4D:List Nat:=[2]
abbrev z5E (b:Bool):Code->St->(AX->St->Prop)->Prop:=wpS Tryz.prog zA z4D 4 b
theorem z2H  {a0:V}{Q:V->H->Prop}:z5E false zWW ⟨4,zC [a0] 0 (Tb.leaf zB),[],h⟩ (endW zA ⟨4,[.tmp 2],zWW⟩ Q)=((V.one a0=true/\h.nx<T.top/\∀p0 h1,p0=h.nx->h1=h.new (.cells (.ls [a0]) ⟨0,24,0⟩ true false)->Q (.func (.func 285) [] [(.ptr p0 0)]) h1)):=by kernel_rfl
noncomputable def zCh:Code:=zE Tryz.f240
def z5w:Array Oper:=Y9 (zg zCh [1,1,0,1,0,0,1,1,0,0,1,0])
def zO5:Code:=zg zCh [1,1,0,1,0,0,1,1,0,0,1,1]
def zH7:Code:=zg zCh [1,1,0,1,0,0,1,1,1]
def zNI:Code:=zg zCh [1,1,0,1,0,0]
def zO6:Code:=zg zCh [1,1,1]
theorem z0C:(zA.fn.get 240).map zI=some ⟨28,[.tmp 4],zCh⟩:=by kernel_rfl
noncomputable def zEZ:Code:=zE Tryz.f252
def zNM:Code:=zg zEZ [0,1,0,0]
def zNN:Code:=zg zEZ [1,1,0,0,0]
def zOd:Code:=zg zEZ [1,1,1]
def zOe:Code:=zg zEZ [1]
theorem z0O:(zA.fn.get 252).map zI=some ⟨78,[],zEZ⟩:=by kernel_rfl
def zJa:List Nat:=[9,8,7,0,6]
abbrev zG7 (b:Bool):Code->St->(AX->St->Prop)->Prop:=wpS Tryz.prog zA zJa 4 b
theorem zS4 {y9 y8:Int}{y7 y0:V}:Vy (zG7 false) 78 zJa zNM [(9,y9),(8,y8),(7,y7),(0,y0)] d h Q (λE _ _ _ _=>((y9<y8->∃p0 o1,z7 zA 344 y7 y9=some (.ptr p0 o1)/\∃x2:Int,∃x3:Int,zK zA 296 h (.ptr p0 o1)=some (.agg [(.int .u64 x2),(.int .u64 x3)])/\h.nx<T.top/\∀p4 h5,p4=h.nx->h5=h.new (.cells (.ls [(.int .u64 0),(.int .u64 0)]) ⟨0,297,0⟩ true false)->∃h6,zf zA 296 h5 (.ptr p4 0) (.agg [(.int .u64 x2),(.int .u64 x3)])=some h6/\(h6.nx<=T.top/\h6.low<=T.top)/\∃v7 h8,zh zA ⟨none,.nilCheck (t 0),0, "",#[],none⟩ (λ_=>some y0) (zM h6)=some (.val v7 h8)/\(h6.nx<=h8.low/\h8.nx<=T.top)/\∀h9,h9=yG h6 h8->zS zA 300 1 h9 v7 λv10 h11=>∃x12:Int,zK zA 127 h11 v10=some (.int .u64 x12)/\∃p13 o14,z7 zA 296 (.ptr p4 0) (1:Int)=some (.ptr p13 o14)/\∃x15:Int,zK zA 127 h11 (.ptr p13 o14)=some (.int .u64 x15)/\∃v16 h17,zh zA ⟨none,.nilCheck (t 0),0, "",#[],none⟩ (λ_=>some y0) (zM h11)=some (.val v16 h17)/\(h11.nx<=h17.low/\h17.nx<=T.top)/\∀h18,h18=yG h11 h17->zS zA 300 2 h18 v16 λv19 h20=>∃x21:Int,zK zA 3 h20 v19=some (x21:V)/\∃x22:Int,zn .shl .u64 x15 (zT .u64 (x21))=some (.int .u64 x22)/\∃x23:Int,zn .or .u64 x12 x22=some (.int .u64 x23)/\∃v24 h25,zh zA ⟨none,.nilCheck (t 0),0, "",#[],none⟩ (λ_=>some y0) h20=some (.val v24 h25)/\zS zA 300 1 h25 v24 λv26 h27=>∃h28,zf zA 127 h27 v26 (.int .u64 x23)=some h28/\(h28.nx<=T.top/\h28.low<=T.top)/\∃v29 h30,zh zA ⟨none,.nilCheck (t 0),0, "",#[],none⟩ (λ_=>some y0) (zM h28)=some (.val v29 h30)/\(h28.nx<=h30.low/\h30.nx<=T.top)/\∀h31,h31=yG h28 h30->zS zA 300 2 h31 v29 λv32 h33=>∃x34:Int,zK zA 3 h33 v32=some (x34:V)/\∃p35 o36,z7 zA 296 (.ptr p4 0) (0:Int)=some (.ptr p35 o36)/\∃x37:Int,zK zA 127 h33 (.ptr p35 o36)=some (.int .u64 x37)/\∃v38 h39,zh zA ⟨none,.nilCheck (t 0),0, "",#[],none⟩ (λ_=>some y0) h33=some (.val v38 h39)/\zS zA 300 2 h39 v38 λv40 h41=>∃h42,zf zA 3 h41 v40 (zH (x34+(zH (x37))))=some h42/\E [(9,(zH (y9+1)))] .normal h42)/\(¬(y9<y8)->E [] (.exit 0) h))):=λ_=>by kernel_rfl
theorem zS5 {y0 y6:V}:Vy (zG7 false) 78 zJa zNN [(0,y0),(6,y6)] d h Q (λE _ _ _ _=>∃v0 h1,zh zA ⟨none,.nilCheck (t 0),0, "",#[],none⟩ (λ_=>some y0) h=some (.val v0 h1)/\zS zA 300 2 h1 v0 λv2 h3=>∃x4:Int,zK zA 3 h3 v2=some (x4:V)/\((8:Int)<=x4->∃v5 h6,zh zA ⟨none,.nilCheck (t 0),0, "",#[],none⟩ (λ_=>some y0) h3=some (.val v5 h6)/\zS zA 300 1 h6 v5 λv7 h8=>∃x9:Int,zK zA 127 h8 v7=some (.int .u64 x9)/\∃v10 h11,zF zA 71 1 [(0,(.int .u8 (zT .u8 (x9))))] h8=some (v10,h11)/\True/\∃v12 h13,za zA 71 h11 y6 v10=some (v12,h13)/\∃v14 h15,zh zA ⟨none,.nilCheck (t 0),0, "",#[],none⟩ (λ_=>some y0) h13=some (.val v14 h15)/\zS zA 300 1 h15 v14 λv16 h17=>∃x18:Int,zK zA 127 h17 v16=some (.int .u64 x18)/\∃x19:Int,zn .shr .u64 x18 8=some (.int .u64 x19)/\∃v20 h21,zh zA ⟨none,.nilCheck (t 0),0, "",#[],none⟩ (λ_=>some y0) h17=some (.val v20 h21)/\zS zA 300 1 h21 v20 λv22 h23=>∃h24,zf zA 127 h23 v22 (.int .u64 x19)=some h24/\∃v25 h26,zh zA ⟨none,.nilCheck (t 0),0, "",#[],none⟩ (λ_=>some y0) h24=some (.val v25 h26)/\zS zA 300 2 h26 v25 λv27 h28=>∃x29:Int,zK zA 3 h28 v27=some (x29:V)/\∃v30 h31,zh zA ⟨none,.nilCheck (t 0),0, "",#[],none⟩ (λ_=>some y0) h28=some (.val v30 h31)/\zS zA 300 2 h31 v30 λv32 h33=>∃h34,zf zA 3 h33 v32 (zH (x29-8))=some h34/\E [(6,v12)] .normal h34)/\(¬((8:Int)<=x4)->E [] (.exit 2) h3)):=λ_=>by kernel_rfl
theorem zT6 {y0 y6:V}:Vy (zG7 false) 78 zJa zOd [(0,y0),(6,y6)] d h Q (λE _ _ _ _=>kV zA 71 9 h y6 λv0 h1=>∃v2 h3,zh zA ⟨none,.nilCheck (t 0),0, "",#[],none⟩ (λ_=>some y0) h1=some (.val v2 h3)/\zS zA 300 0 h3 v2 λv4 h5=>zS zA 298 0 h5 v4 λv6 h7=>∃h8,zf zA 9 h7 v6 v0=some h8/\E [] .normal h8):=λ_=>by kernel_rfl
theorem zT7 {y0:V}:Vy (zG7 false) 78 zJa zOe [(0,y0)] d h Q (λ_ _ M S _=>∃v0 h1,zh zA ⟨none,.nilCheck (t 0),0, "",#[],none⟩ (λ_=>some y0) h=some (.val v0 h1)/\zS zA 300 0 h1 v0 λv2 h3=>zS zA 298 0 h3 v2 λv4 h5=>∃l6:List UInt8,zK zA 9 h5 v4=some (.str l6)/\∃v8 h7,xK zA 9 71 h5 l6=some (v8,h7)/\M [(6,v8)] zNN h7 (Kx (zG7 false) zOd 2 S)):=λ_=>by kernel_rfl
theorem z2U  {a0 a1:V}{Q:V->H->Prop}:zG7 false zEZ ⟨78,zC [a0,a1] 0 (Tb.leaf zB),[],h⟩ (endW zA ⟨78,[],zEZ⟩ Q)=(∃x0:Int,zm zA 344 h a1=some (x0:V)/\Lz zJa 78 [(9,(0:Int)),(8,x0),(7,a1),(0,a0)] zNM h (Kx (zG7 false) zOe 0 (endW zA ⟨78,[],zEZ⟩ Q))):=by kernel_rfl
noncomputable def zBM:Code:=zE Tryz.f287
def Jl:Code:=zg zBM [1,0,0,1]
def Jm:Code:=zg zBM [1,1]
theorem z05:(zA.fn.get 287).map zI=some ⟨31,[.tmp 2],zBM⟩:=by kernel_rfl
def zEB:List Nat:=[2,3,1]
abbrev JO (b:Bool):Code->St->(AX->St->Prop)->Prop:=wpS Tryz.prog zA zEB 4 b
theorem zTp {y3:Bool}{y1:V}:Vy (JO false) 31 zEB Jl [(3,y3),(1,y1)] d h Q (λE _ _ _ _=>ZM y3 λu=>match u with|true=>(E [(2,(2:Int))] .ret h)|false=>zS zA 209 0 h y1 λv0 h1=>∃l2:List UInt8,zK zA 9 h1 v0=some (.str l2)/\((1048576:Int)<(Int.ofNat (List.length l2))->E [(2,(4:Int))] .ret h1)/\(¬((1048576:Int)<(Int.ofNat (List.length l2)))->E [] .normal h1)):=λ_=>by kernel_rfl
theorem zTq :Vy (JO false) 31 zEB Jm [] d h Q (λE _ _ _ _=>(E [(2,(0:Int))] .ret h)):=λ_=>by kernel_rfl
theorem z2c  {a0_1 a0_2:Int}{a0_0:List UInt8}{Q:V->H->Prop}:JO false zBM ⟨31,zC [(.agg [a0_0,a0_1,a0_2])] 0 (Tb.leaf zB),[],h⟩ (endW zA ⟨31,[.tmp 2],zBM⟩ Q)=((h.nx<T.top/\∀p0 h1,p0=h.nx->h1=h.new (.cells (.ls [a0_0,a0_1,a0_2]) ⟨0,210,0⟩ true false)->∃x2:Int,zK zA 3 h1 (.ptr p0 (0+2))=some (x2:V)/\(x2<0->Gz zEB (Tb.leaf zB) [(2,(0:Int)),(3,true),(1,(.ptr p0 0))] λu=>JO false Jl ⟨31,u,[],h1⟩ (Kx (JO false) Jm 0 (endW zA ⟨31,[.tmp 2],zBM⟩ Q)))/\(¬(x2<0)->∃x3:Int,zK zA 3 h1 (.ptr p0 (0+2))=some (x3:V)/\((7:Int)<x3->Gz zEB (Tb.leaf zB) [(2,(0:Int)),(3,true),(1,(.ptr p0 0))] λu=>JO false Jl ⟨31,u,[],h1⟩ (Kx (JO false) Jm 0 (endW zA ⟨31,[.tmp 2],zBM⟩ Q)))/\(¬((7:Int)<x3)->∃x4:Int,zK zA 3 h1 (.ptr p0 (0+1))=some (x4:V)/\(x4<0->Gz zEB (Tb.leaf zB) [(2,(0:Int)),(3,true),(1,(.ptr p0 0))] λu=>JO false Jl ⟨31,u,[],h1⟩ (Kx (JO false) Jm 0 (endW zA ⟨31,[.tmp 2],zBM⟩ Q)))/\(¬(x4<0)->∃x5:Int,zK zA 3 h1 (.ptr p0 (0+1))=some (x5:V)/\∃x6:Int,zK zA 3 h1 (.ptr p0 (0+2))=some (x6:V)/\∃x7:Int,zn .shr .i64 x5 (zT .u64 (x6))=some (x7:V)/\(x7≠0->Gz zEB (Tb.leaf zB) [(2,(0:Int)),(3,true),(1,(.ptr p0 0))] λu=>JO false Jl ⟨31,u,[],h1⟩ (Kx (JO false) Jm 0 (endW zA ⟨31,[.tmp 2],zBM⟩ Q)))/\(¬(x7≠0)->Gz zEB (Tb.leaf zB) [(2,(0:Int)),(3,false),(1,(.ptr p0 0))] λu=>JO false Jl ⟨31,u,[],h1⟩ (Kx (JO false) Jm 0 (endW zA ⟨31,[.tmp 2],zBM⟩ Q)))))))):=by kernel_rfl
noncomputable def zMD:Code:=zE Tryz.f295
def zOp:Code:=zg zMD [1,1]
theorem z0d:(zA.fn.get 295).map zI=some ⟨21,[.tmp 4],zMD⟩:=by kernel_rfl
def zVd:List Nat:=[4,2,1]
abbrev zVk (b:Bool):Code->St->(AX->St->Prop)->Prop:=wpS Tryz.prog zA zVd 4 b
theorem zTv {y1:Int}{y2:V}:Vy (zVk false) 21 zVd zOp [(2,y2),(1,y1)] d h Q (λE _ _ _ _=>zS zA 346 0 h y2 λv0 h1=>zS zA 216 1 h1 v0 λv2 h3=>∃v4,zK zA 214 h3 v2=some v4/\∃p5 o6,z7 zA 214 v4 y1=some (.ptr p5 o6)/\∃v7,zK zA 23 h3 (.ptr p5 o6)=some v7/\E [(4,v7)] .ret h3):=λ_=>by kernel_rfl
theorem z2k  {a0_0 a1:Int}{a0_1:V}{Q:V->H->Prop}:zVk false zMD ⟨21,zC [(.agg [a0_0,a0_1]),a1] 0 (Tb.leaf zB),[],h⟩ (endW zA ⟨21,[.tmp 4],zMD⟩ Q)=(wh (cond (zL (V.cells (.agg [a0_0,a0_1]))) (Cs.ofL (V.cells (.agg [a0_0,a0_1]))) none) λcs2=>h.nx<T.top/\∀p0 h1,p0=h.nx->h1=h.new (.cells cs2 ⟨0,347,0⟩ true false)->(a1<0->Q .nilslice h1)/\(¬(a1<0)->∃v3,zK zA 214 h1 (.ptr p0 ((0+0)+1))=some v3/\∃x4:Int,zm zA 214 h1 v3=some (x4:V)/\(x4<=a1->Q .nilslice h1)/\(¬(x4<=a1)->Gz zVd (Tb.leaf zB) [(4,.nilslice),(2,(.ptr p0 0)),(1,a1)] λu=>zVk false zOp ⟨21,u,[],h1⟩ (endW zA ⟨21,[.tmp 4],zMD⟩ Q)))):=by kernel_rfl
noncomputable def zKE:Code:=zE Tryz.f311
def zN0:Code:=zg zKE [1,0,1,0,0]
def zOu:Code:=zg zKE [1,1]
theorem z0n:(zA.fn.get 311).map zI=some ⟨19,[.tmp 4],zKE⟩:=by kernel_rfl
def zQH:List Nat:=[4,8,7,1,0]
abbrev zQ1 (b:Bool):Code->St->(AX->St->Prop)->Prop:=wpS Tryz.prog zA zQH 4 b
theorem zSi {y8 y7:Int}{y1 y0:V}:Vy (zQ1 false) 19 zQH zN0 [(8,y8),(7,y7),(1,y1),(0,y0)] d h Q (λE _ _ _ _=>((y8<y7->∃p0 o1,z7 zA 23 y0 y8=some (.ptr p0 o1)/\∃x2:Int,zK zA 3 h (.ptr p0 o1)=some (x2:V)/\yT zA Tryz.prog 4 h (λv3 h4=>xJ v3 λu=>match u with|true=>(E [(4,y8)] .ret h4)|false=>(E [(8,(zH (y8+1)))] .normal h4)) [x2] y1)/\(¬(y8<y7)->E [] (.exit 0) h))):=λ_=>by kernel_rfl
theorem zUB :Vy (zQ1 false) 19 zQH zOu [] d h Q (λE _ _ _ _=>(E [(4,(.int .i64 ((-1))))] .ret h)):=λ_=>by kernel_rfl
theorem z2u  {a0 a1:V}{Q:V->H->Prop}:zQ1 false zKE ⟨19,zC [a0,a1] 0 (Tb.leaf zB),[],h⟩ (endW zA ⟨19,[.tmp 4],zKE⟩ Q)=(∃x0:Int,zm zA 23 h a0=some (x0:V)/\Lz zQH 19 [(4,(0:Int)),(8,(0:Int)),(7,x0),(1,a1),(0,a0)] zN0 h (Kx (zQ1 false) zOu 0 (endW zA ⟨19,[.tmp 4],zKE⟩ Q))):=by kernel_rfl
noncomputable def zKF:Code:=zE Tryz.f312
def zN1:Code:=zg zKF [1,0,1,0,0]
def zOv:Code:=zg zKF [1,1]
theorem z0o:(zA.fn.get 312).map zI=some ⟨21,[.tmp 2],zKF⟩:=by kernel_rfl
def zQI:List Nat:=[2,3,0]
abbrev zQ2 (b:Bool):Code->St->(AX->St->Prop)->Prop:=wpS Tryz.prog zA zQI 4 b
theorem zSj {y3:Int}{y0:V}:Vy (zQ2 false) 21 zQI zN1 [(3,y3),(0,y0)] d h Q (λE _ _ _ _=>(((0:Int)<y3->(h.nx<=T.top/\h.low<=T.top)/\∃p0 o1,z7 zA 23 y0 y3=some (.ptr p0 o1)/\∃x2:Int,zK zA 3 h (.ptr p0 o1)=some (x2:V)/\∃p3 o4,z7 zA 23 y0 (zH (y3-1))=some (.ptr p3 o4)/\∃x5:Int,zK zA 3 h (.ptr p3 o4)=some (x5:V)/\RF Tryz.prog zA 326 [x2,x5] h λv6 h7=>∃b8:Bool,v6=b8/\(b8=true->E [(2,false)] .ret h7)/\(b8=false->E [(3,(zH (y3-1)))] .normal h7))/\(¬((0:Int)<y3)->E [] (.exit 0) h))):=λ_=>by kernel_rfl
theorem zUC :Vy (zQ2 false) 21 zQI zOv [] d h Q (λE _ _ _ _=>(E [(2,true)] .ret h)):=λ_=>by kernel_rfl
theorem z2v  {a0:V}{Q:V->H->Prop}:zQ2 false zKF ⟨21,zC [a0] 0 (Tb.leaf zB),[],h⟩ (endW zA ⟨21,[.tmp 2],zKF⟩ Q)=(∃x0:Int,zm zA 23 h a0=some (x0:V)/\Lz zQI 21 [(2,false),(3,(zH (x0-1))),(0,a0)] zN1 h (Kx (zQ2 false) zOv 0 (endW zA ⟨21,[.tmp 2],zKF⟩ Q))):=by kernel_rfl
noncomputable def zWm:Code:=zE Tryz.f326
theorem z0w:(zA.fn.get 326).map zI=some ⟨17,[.tmp 4],zWm⟩:=by kernel_rfl
def z43:List Nat:=[4]
abbrev z56 (b:Bool):Code->St->(AX->St->Prop)->Prop:=wpS Tryz.prog zA z43 4 b
theorem z3D  {a0 a1:Int}{Q:V->H->Prop}:z56 false zWm ⟨17,zC [a0,a1] 0 (Tb.leaf zB),[],h⟩ (endW zA ⟨17,[.tmp 4],zWm⟩ Q)=(RF Tryz.prog zA 338 [a0] h λv0 h1=>∃b2:Bool,v0=b2/\(b2=true->RF Tryz.prog zA 338 [a1] h1 λv3 h4=>∃b5:Bool,v3=b5/\(b5=true->(a0<a1->Q true h4)/\(¬(a0<a1)->Q false h4))/\(b5=false->Q true h4))/\(b2=false->(a0<a1->Q true h1)/\(¬(a0<a1)->Q false h1))):=by kernel_rfl
noncomputable def zWo:Code:=zE Tryz.f338
theorem z1A:(zA.fn.get 338).map zI=some ⟨6,[.tmp 2],zWo⟩:=by kernel_rfl
def z45:List Nat:=[2]
abbrev z58 (b:Bool):Code->St->(AX->St->Prop)->Prop:=wpS Tryz.prog zA z45 4 b
theorem z3H  {a0:Int}{Q:V->H->Prop}:z58 false zWo ⟨6,zC [a0] 0 (Tb.leaf zB),[],h⟩ (endW zA ⟨6,[.tmp 2],zWo⟩ Q)=(((a0≠a0->Q true h)/\(¬(a0≠a0)->Q false h))):=by kernel_rfl
end Go.Proofs.YtnpeieeomokomaaGreat

