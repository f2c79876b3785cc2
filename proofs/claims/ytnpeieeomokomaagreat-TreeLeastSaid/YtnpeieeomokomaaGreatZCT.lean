/- CT. No condition. -/
import Derived.Test.YtnpeieeomokomaaGreatZCtx
import Derived.Test.YtnpeieeomokomaaGreatZS
import Derived.Test.YtnpeieeomokomaaGreatZW
namespace Go.Proofs.YtnpeieeomokomaaGreat
open Go.Sim
instance:Coe Int V:=⟨.int .i64⟩
instance:Coe (List UInt8) V:=⟨.str⟩
instance:Coe Bool V:=⟨.bool⟩
abbrev Vy:=Vz Tryz.prog zA
abbrev Lz (L:List Nat) (n:Nat) (c:Kn) (r:Code) (h:H) (X:AX->St->Prop):Prop:=∀u,wl (Tb.leaf zB) u (kz L c) (wpC Tryz.prog zA false (.loop r) ⟨n,u,[],h⟩ X)
theorem zb:zA.ty.get 3=some ⟨3,(.int .i64),1,8,some (ip 0),true,false,false,[]⟩:=by kernel_rfl
theorem ty4:zA.ty.get 4=some ⟨4,.bool,1,1,some (.bool false),true,false,false,[]⟩:=by kernel_rfl
theorem ty5:zA.ty.get 5=some ⟨5,(.int .u8),1,1,some (.int .u8 (.ofNat 0)),true,false,false,[]⟩:=by kernel_rfl
theorem qh:zA.ty.get 9=some ⟨9,.string,1,16,some (sb []),true,false,false,[]⟩:=by kernel_rfl
theorem zO:zA.ty.get 23=some ⟨23,(.slice 3),1,24,some .nilslice,false,false,false,[]⟩:=by kernel_rfl
theorem zLX:zA.ty.get 24=some ⟨24,(.int .i64),1,8,some (ip 0),true,false,false,[⟨ "Error",166,#[],some (382,false)⟩]⟩:=by kernel_rfl
theorem xU:zA.ty.get 26=some ⟨26,(.struct #[⟨ "Err",24,0,false, "", "",0⟩,⟨ "At",3,1,false, "", "",8⟩]),2,16,some (.agg [(ip 0),(ip 0)]),true,false,false,[]⟩:=by kernel_rfl
theorem yr:zA.ty.get 59=some ⟨59,(.struct #[⟨ "Log",3,0,false, "", "",0⟩,⟨ "Probs",23,1,false, "", "",8⟩]),2,32,some (.agg [(ip 0),.nilslice]),false,false,false,[]⟩:=by kernel_rfl
theorem zP9:zA.ty.get 63=some ⟨63,(.slice 9),1,24,some .nilslice,false,false,false,[]⟩:=by kernel_rfl
theorem zLY:zA.ty.get 64=some ⟨64,(.array 2 4),2,2,some (.agg [(.bool false),(.bool false)]),true,false,false,[]⟩:=by kernel_rfl
theorem zGN:zA.ty.get 71=some ⟨71,(.slice 5),1,24,some .nilslice,false,false,false,[]⟩:=by kernel_rfl
theorem jv:zA.ty.get 112=some ⟨112,(.struct #[⟨ "S",9,0,false, "", "",0⟩,⟨ "Bit",3,1,false, "", "",16⟩]),2,24,some (.agg [(sb []),(ip 0)]),true,false,false,[]⟩:=by kernel_rfl
theorem jI:zA.ty.get 120=some ⟨120,(.struct #[⟨ "S",9,0,false, "", "",0⟩,⟨ "Left",3,1,false, "", "",16⟩]),2,24,some (.agg [(sb []),(ip 0)]),true,false,false,[]⟩:=by kernel_rfl
theorem zGM:zA.ty.get 123=some ⟨123,(.slice 131),1,24,some .nilslice,false,false,false,[]⟩:=by kernel_rfl
theorem K9:zA.ty.get 127=some ⟨127,(.int .u64),1,8,some (.int .u64 (.ofNat 0)),true,false,false,[]⟩:=by kernel_rfl
theorem zJP:zA.ty.get 131=some ⟨131,(.struct #[⟨ "Symbol",3,0,false, "", "",0⟩,⟨ "Bits",3,1,false, "", "",8⟩,⟨ "Base",3,2,false, "", "",16⟩]),3,24,some (.agg [(ip 0),(ip 0),(ip 0)]),true,false,false,[]⟩:=by kernel_rfl
theorem zVO:zA.ty.get 136=some ⟨136,(.array 2 135),2,16,some (.agg [.nilFunc,.nilFunc]),false,false,false,[]⟩:=by kernel_rfl
theorem zVP:zA.ty.get 206=some ⟨206,(.array 256 3),256,2048,some (.agg (List.replicate 256 (ip 0))),true,false,false,[]⟩:=by kernel_rfl
theorem Zv:zA.ty.get 209=some ⟨209,(.struct #[⟨ "S",9,0,false, "", "",0⟩,⟨ "Part",3,1,false, "", "",16⟩,⟨ "N",3,2,false, "", "",24⟩]),3,32,some (.agg [(sb []),(ip 0),(ip 0)]),true,false,false,[]⟩:=by kernel_rfl
theorem wM:zA.ty.get 214=some ⟨214,(.slice 23),1,24,some .nilslice,false,false,false,[]⟩:=by kernel_rfl
theorem Zw:zA.ty.get 216=some ⟨216,(.struct #[⟨ "Log",3,0,false, "", "",0⟩,⟨ "States",214,1,false, "", "",8⟩]),2,32,some (.agg [(ip 0),.nilslice]),false,false,false,[]⟩:=by kernel_rfl
theorem zJR:zA.ty.get 298=some ⟨298,(.struct #[⟨ "s",9,0,false, "", "cheesepress/back",0⟩]),1,16,some (.agg [(sb [])]),true,false,false,[⟨ "cheesepress/back.bit",361,#[],some (325,false)⟩,⟨ "cheesepress/back.long",22,#[],some (305,false)⟩,⟨ "cheesepress/back.size",106,#[],some (306,false)⟩]⟩:=by kernel_rfl
theorem zVQ:zA.ty.get 343=some ⟨343,(.slice 24),1,24,some .nilslice,false,false,false,[]⟩:=by kernel_rfl
theorem zJT:zA.ty.get 357=some ⟨357,(.map 3 3),1,8,some .nilmap,false,false,false,[]⟩:=by kernel_rfl
theorem zVR:zA.ty.get 377=some ⟨377,(.map 3 4),1,8,some .nilmap,false,false,false,[]⟩:=by kernel_rfl
def zE (f : Go.Func) : Go.Code := match FI.of f with|some fi => wq fi.body|none => .skip
def kid : Go.Code -> Nat -> Go.Code
  | .seq a b, i => cond (Nat.beq i 0) a b
  | .cond _ a b, i => cond (Nat.beq i 0) a b
  | .block _ a, _ => a
  | .loop a, _ => a
  | .scope a, _ => a
  | .rangeFunc _ _ a b, i => cond (Nat.beq i 0) a b
  | c, _ => c
def zg (c : Go.Code) : List Nat -> Go.Code
  | [] => c
  | i::p => zg (kid c i) p
def Y9 : Go.Code -> Array Go.Oper
  | .region _ o _ => o
  | _ => #[]
end Go.Proofs.YtnpeieeomokomaaGreat
