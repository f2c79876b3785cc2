/- CT. No condition. -/
import Derived.Test.YtnpeieeomokomaaGreatZCtx
import Derived.Test.YtnpeieeomokomaaGreatZV
import Derived.Test.YtnpeieeomokomaaGreatZY
namespace Go.Proofs.YtnpeieeomokomaaGreat
open Go.Sim
theorem ty3:ctx.ty.get 3=some ⟨3,(.int .i64),1,8,some (ip 0),true,false,false,[]⟩:=by kernel_rfl
theorem ty4:ctx.ty.get 4=some ⟨4,.bool,1,1,some (.bool false),true,false,false,[]⟩:=by kernel_rfl
theorem ty9:ctx.ty.get 9=some ⟨9,.string,1,16,some (sb []),true,false,false,[]⟩:=by kernel_rfl
theorem ty23:ctx.ty.get 23=some ⟨23,(.slice 3),1,24,some .nilslice,false,false,false,[]⟩:=by kernel_rfl
theorem ty24:ctx.ty.get 24=some ⟨24,(.int .i64),1,8,some (ip 0),true,false,false,[⟨"Error",166,#[],some (382,false)⟩]⟩:=by kernel_rfl
theorem ty26:ctx.ty.get 26=some ⟨26,(.struct #[⟨"Err",24,0,false, "", "",0⟩,⟨"At",3,1,false, "", "",8⟩]),2,16,some (.agg [(ip 0),(ip 0)]),true,false,false,[]⟩:=by kernel_rfl
theorem ty59:ctx.ty.get 59=some ⟨59,(.struct #[⟨"Log",3,0,false, "", "",0⟩,⟨"Probs",23,1,false, "", "",8⟩]),2,32,some (.agg [(ip 0),.nilslice]),false,false,false,[]⟩:=by kernel_rfl
theorem ty112:ctx.ty.get 112=some ⟨112,(.struct #[⟨"S",9,0,false, "", "",0⟩,⟨"Bit",3,1,false, "", "",16⟩]),2,24,some (.agg [(sb []),(ip 0)]),true,false,false,[]⟩:=by kernel_rfl
theorem ty120:ctx.ty.get 120=some ⟨120,(.struct #[⟨"S",9,0,false, "", "",0⟩,⟨"Left",3,1,false, "", "",16⟩]),2,24,some (.agg [(sb []),(ip 0)]),true,false,false,[]⟩:=by kernel_rfl
theorem ty123:ctx.ty.get 123=some ⟨123,(.slice 131),1,24,some .nilslice,false,false,false,[]⟩:=by kernel_rfl
theorem ty131:ctx.ty.get 131=some ⟨131,(.struct #[⟨"Symbol",3,0,false, "", "",0⟩,⟨"Bits",3,1,false, "", "",8⟩,⟨"Base",3,2,false, "", "",16⟩]),3,24,some (.agg [(ip 0),(ip 0),(ip 0)]),true,false,false,[]⟩:=by kernel_rfl
theorem ty206:ctx.ty.get 206=some ⟨206,(.array 256 3),256,2048,some (.agg (List.replicate 256 (ip 0))),true,false,false,[]⟩:=by kernel_rfl
theorem ty277:ctx.ty.get 277=some ⟨277,(.slice 4),1,24,some .nilslice,false,false,false,[]⟩:=by kernel_rfl
theorem ty298:ctx.ty.get 298=some ⟨298,(.struct #[⟨"s",9,0,false, "", "cheesepress/back",0⟩]),1,16,some (.agg [(sb [])]),true,false,false,[⟨"cheesepress/back.bit",361,#[],some (325,false)⟩,⟨"cheesepress/back.long",22,#[],some (305,false)⟩,⟨"cheesepress/back.size",106,#[],some (306,false)⟩]⟩:=by kernel_rfl
theorem ty343:ctx.ty.get 343=some ⟨343,(.slice 24),1,24,some .nilslice,false,false,false,[]⟩:=by kernel_rfl
theorem ty357:ctx.ty.get 357=some ⟨357,(.map 3 3),1,8,some .nilmap,false,false,false,[]⟩:=by kernel_rfl
theorem ty377:ctx.ty.get 377=some ⟨377,(.map 3 4),1,8,some .nilmap,false,false,false,[]⟩:=by kernel_rfl
def bodyOf (f : Go.Func) : Go.Code := match FI.of f with | some fi => slim fi.body | none => .skip
def kid : Go.Code → Nat → Go.Code
  | .seq a b, i => cond (Nat.beq i 0) a b
  | .cond _ a b, i => cond (Nat.beq i 0) a b
  | .block _ a, _ => a
  | .loop a, _ => a
  | .scope a, _ => a
  | .rangeFunc _ _ a b, i => cond (Nat.beq i 0) a b
  | c, _ => c
def pth (c : Go.Code) : List Nat → Go.Code
  | [] => c
  | i :: p => pth (kid c i) p
def opsOf : Go.Code → Array Go.Oper
  | .region _ o _ => o
  | _ => #[]
end Go.Proofs.YtnpeieeomokomaaGreat
