/- CT. No condition. -/
import Derived.Test.YtnpeieeomokomaaGreatZCtx
import Derived.Test.YtnpeieeomokomaaGreatZS
import Derived.Test.YtnpeieeomokomaaGreatZW
noncomputable section
namespace Go.Proofs.YtnpeieeomokomaaGreat
open Go.Sim
instance:Coe Int V:=⟨.int .i64⟩
instance:Coe Ua V:=⟨.str⟩
instance:Coe Bool V:=⟨.bool⟩
abbrev Wf(L:Uf):Code->St->Ud->Prop:=wpS Tryz.prog zB L 4 false
abbrev Wt(L:Uf):Code->St->Ud->Prop:=wpS Tryz.prog zB L 4 true
abbrev Ln(t:Nat)(h:H)(a:V)(k:Int->Prop):Prop:=∃x:Int,Yg zB t h a=some (.int .i64 x)/\k x
theorem zX:zB.ty.get 3=some ⟨3,(.int .i64),1,8,some (ip 0),true,false,false,[]⟩:=de
theorem ty4:zB.ty.get 4=some ⟨4,.bool,1,1,some (.bool false),true,false,false,[]⟩:=de
theorem EC:zB.ty.get 5=some ⟨5,(.int .u8),1,1,some (.int .u8 (.ofNat 0)),true,false,false,[]⟩:=de
theorem xk:zB.ty.get 9=some ⟨9,.string,1,16,some (sb []),true,false,false,[]⟩:=de
theorem zM:zB.ty.get 23=some ⟨23,(.slice 3),1,24,some .nilslice,false,false,false,[]⟩:=de
theorem kK:zB.ty.get 24=some ⟨24,(.int .i64),1,8,some (ip 0),true,false,false,[⟨ "Error",166,#[],some (382,false)⟩]⟩:=de
theorem zp:zB.ty.get 26=some ⟨26,(.struct #[⟨ "Err",24,0,false, "", "",0⟩,⟨ "At",3,1,false, "", "",8⟩]),2,16,some (.agg [(ip 0),(ip 0)]),true,false,false,[]⟩:=de
theorem xE:zB.ty.get 59=some ⟨59,(.struct #[⟨ "Log",3,0,false, "", "",0⟩,⟨ "Probs",23,1,false, "", "",8⟩]),2,32,some (.agg [(ip 0),.nilslice]),false,false,false,[]⟩:=de
theorem rv:zB.ty.get 63=some ⟨63,(.slice 9),1,24,some .nilslice,false,false,false,[]⟩:=de
theorem BJ:zB.ty.get 64=some ⟨64,(.array 2 4),2,2,some (.agg [(.bool false),(.bool false)]),true,false,false,[]⟩:=de
theorem Je:zB.ty.get 71=some ⟨71,(.slice 5),1,24,some .nilslice,false,false,false,[]⟩:=de
theorem wQ:zB.ty.get 80=some ⟨80,(.struct #[⟨ "S",9,0,false, "", "",0⟩,⟨ "At",3,1,false, "", "",16⟩,⟨ "Fault",26,2,false, "", "",24⟩]),4,40,some (.agg [(sb []),(ip 0),(ip 0),(ip 0)]),true,false,false,[]⟩:=de
theorem zGh:zB.ty.get 84=some ⟨84,(.int .i64),1,8,some (ip 0),true,false,false,[⟨ "cheesepress/lits.formats",149,#[],some (110,false)⟩]⟩:=de
theorem ED:zB.ty.get 98=some ⟨98,(.struct #[⟨ "section",9,0,false, "", "cheesepress/lits",0⟩,⟨ "lengths",23,1,false, "", "cheesepress/lits",16⟩]),2,40,some (.agg [(sb []),.nilslice]),false,false,false,[]⟩:=de
theorem qH:zB.ty.get 112=some ⟨112,(.struct #[⟨ "S",9,0,false, "", "",0⟩,⟨ "Bit",3,1,false, "", "",16⟩]),2,24,some (.agg [(sb []),(ip 0)]),true,false,false,[]⟩:=de
theorem wK:zB.ty.get 120=some ⟨120,(.struct #[⟨ "S",9,0,false, "", "",0⟩,⟨ "Left",3,1,false, "", "",16⟩]),2,24,some (.agg [(sb []),(ip 0)]),true,false,false,[]⟩:=de
theorem T0:zB.ty.get 123=some ⟨123,(.slice 131),1,24,some .nilslice,false,false,false,[]⟩:=de
theorem nD:zB.ty.get 127=some ⟨127,(.int .u64),1,8,some (.int .u64 (.ofNat 0)),true,false,false,[]⟩:=de
theorem PZ:zB.ty.get 131=some ⟨131,(.struct #[⟨ "Symbol",3,0,false, "", "",0⟩,⟨ "Bits",3,1,false, "", "",8⟩,⟨ "Base",3,2,false, "", "",16⟩]),3,24,some (.agg [(ip 0),(ip 0),(ip 0)]),true,false,false,[]⟩:=de
theorem AV:zB.ty.get 136=some ⟨136,(.array 2 135),2,16,some (.agg [.nilFunc,.nilFunc]),false,false,false,[]⟩:=de
theorem AW:zB.ty.get 147=some ⟨147,(.struct #[⟨ "bytes",3,0,false, "", "cheesepress/lits",0⟩,⟨ "from",3,1,false, "", "cheesepress/lits",8⟩,⟨ "n",3,2,false, "", "cheesepress/lits",16⟩,⟨ "m",3,3,false, "", "cheesepress/lits",24⟩,⟨ "streams",3,4,false, "", "cheesepress/lits",32⟩]),5,40,some (.agg [(ip 0),(ip 0),(ip 0),(ip 0),(ip 0)]),true,false,false,[]⟩:=de
theorem Ko:zB.ty.get 152=some ⟨152,(.pointer 155),1,8,some .nilptr,true,false,false,[⟨ "cheesepress/cursor.bad",22,#[],some (116,true)⟩,⟨ "cheesepress/cursor.bytes",156,#[],some (115,true)⟩,⟨ "cheesepress/cursor.done",240,#[],some (184,true)⟩,⟨ "cheesepress/cursor.left",106,#[],some (188,true)⟩]⟩:=de
theorem Fz:zB.ty.get 206=some ⟨206,(.array 256 3),256,2048,some (.agg (List.replicate 256 (ip 0))),true,false,false,[]⟩:=de
theorem XQ:zB.ty.get 209=some ⟨209,(.struct #[⟨ "S",9,0,false, "", "",0⟩,⟨ "Part",3,1,false, "", "",16⟩,⟨ "N",3,2,false, "", "",24⟩]),3,32,some (.agg [(sb []),(ip 0),(ip 0)]),true,false,false,[]⟩:=de
theorem jM:zB.ty.get 214=some ⟨214,(.slice 23),1,24,some .nilslice,false,false,false,[]⟩:=de
theorem XR:zB.ty.get 216=some ⟨216,(.struct #[⟨ "Log",3,0,false, "", "",0⟩,⟨ "States",214,1,false, "", "",8⟩]),2,32,some (.agg [(ip 0),.nilslice]),false,false,false,[]⟩:=de
theorem Kp:zB.ty.get 298=some ⟨298,(.struct #[⟨ "s",9,0,false, "", "cheesepress/back",0⟩]),1,16,some (.agg [(sb [])]),true,false,false,[⟨ "cheesepress/back.bit",361,#[],some (325,false)⟩,⟨ "cheesepress/back.long",22,#[],some (305,false)⟩,⟨ "cheesepress/back.size",106,#[],some (306,false)⟩]⟩:=de
theorem AZ:zB.ty.get 343=some ⟨343,(.slice 24),1,24,some .nilslice,false,false,false,[]⟩:=de
theorem P2:zB.ty.get 357=some ⟨357,(.map 3 3),1,8,some .nilmap,false,false,false,[]⟩:=de
theorem A0:zB.ty.get 377=some ⟨377,(.map 3 4),1,8,some .nilmap,false,false,false,[]⟩:=de
def zAC(f:Go.Func):Go.Code:=match FI.of f with|some fi=>jm fi.body|none=>.skip
def kid:Go.Code->Nat->Go.Code
 | .seq a b,i=>cond (Nat.beq i 0) a b
 | .cond _ a b,i=>cond (Nat.beq i 0) a b
 | .block _ a,_=>a
 | .loop a,_=>a
 | .scope a,_=>a
 | .rangeFunc _ _ a b,i=>cond (Nat.beq i 0) a b
 | c,_=>c
def pth(c:Go.Code):Uf->Go.Code
 | []=>c
 | i::p=>pth (kid c i) p
noncomputable def bf(k:Nat):Code:=match Tryz.prog.funcs[k]? with|some f=>zAC f|none=>.skip
def btl:Nat->Nat->Uf->Uf
 | 0,_,l=>l
 | f+1,n,l=>cond (Nat.ble n 1) l (btl f (n/2) (n%2::l))
def pQ(k n:Nat):Code:=pth (bf k) (btl 99 n [])
end Go.Proofs.YtnpeieeomokomaaGreat
