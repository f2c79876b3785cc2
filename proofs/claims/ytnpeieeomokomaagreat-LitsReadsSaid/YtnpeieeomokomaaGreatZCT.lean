/- CT. No condition. -/
import Derived.Test.YtnpeieeomokomaaGreatZCtx
import Derived.Test.YtnpeieeomokomaaGreatZS
import Derived.Test.YtnpeieeomokomaaGreatZW
noncomputable section
namespace Go.Proofs.YtnpeieeomokomaaGreat
open Go.Sim
instance:Coe Int V:=⟨.int .i64⟩
instance:Coe Ua V:=⟨.str⟩
instance:Coe Bool V:=⟨.bool⟩
abbrev Wf(L:Uf):Code->St->Ud->Prop:=wpS Tryz.prog zB L 4 false
abbrev Wt(L:Uf):Code->St->Ud->Prop:=wpS Tryz.prog zB L 4 true
abbrev Vy:=Vz Tryz.prog zB 4 false
abbrev Vt:=Vz Tryz.prog zB 4 true
abbrev Nw(h:H)(l:Ug)(t:Nat)(k:Nat->H->Prop):Prop:=h.nx<T.top/\∀p h1,p=h.nx->h1=h.new (.cells (.ls l) ⟨0,t,0⟩ true false)->k p h1
abbrev Rq(s t:Nat)(h:H)(a i:V)(k:Int->Prop):Prop:=∃p o,yo zB s a i=some (.ptr p o)/\∃x:Int,zo zB t h (.ptr p o)=some (.int .i64 x)/\k x
abbrev Rv(s t:Nat)(h:H)(a i:V)(k:V->Prop):Prop:=∃p o,yo zB s a i=some (.ptr p o)/\∃x:V,zo zB t h (.ptr p o)=some x/\k x
abbrev Li(h:H)(p:V)(k:Int->Prop):Prop:=∃x:Int,zo zB 3 h p=some (.int .i64 x)/\k x
abbrev Ls(h:H)(p:V)(k:Ua->Prop):Prop:=∃x:Ua,zo zB 9 h p=some (.str x)/\k x
abbrev Lv(t:Nat)(h:H)(p:V)(k:V->Prop):Prop:=∃x:V,zo zB t h p=some x/\k x
abbrev Ln(t:Nat)(h:H)(a:V)(k:Int->Prop):Prop:=∃x:Int,Yf zB t h a=some (.int .i64 x)/\k x
abbrev Nc(h:H)(v:V)(k:Uc):Prop:=∃w g,yD zB ⟨none,.nilCheck (t 0),0, "",#[],none⟩ (λ_=>some v) h=some (.val w g)/\k w g
abbrev Rf(f:Nat)(l:Ug)(h:H)(k:Uc):Prop:=RF Tryz.prog zB f l h k
abbrev Ri(f:Nat)(l:Ug)(h:H)(k:Int->H->Prop):Prop:=RF Tryz.prog zB f l h (λv g=>∃x:Int,v=.int .i64 x/\k x g)
abbrev Br(c A B:Prop):Prop:=(c->A)/\(¬c->B)
abbrev Bb(b:Bool)(A B:Prop):Prop:=(b=true->A)/\(b=false->B)
abbrev Lz(L:Uf)(n:Nat)(c:Kn)(r:Code)(h:H)(X:Ud):Prop:=∀u,kB (Tb.leaf zC) u (kz L c) (wpC Tryz.prog zB false (.loop r) ⟨n,u,[],h⟩ X)
theorem zm:zB.ty.get 3=some ⟨3,(.int .i64),1,8,some (ip 0),true,false,false,[]⟩:=da
theorem ty4:zB.ty.get 4=some ⟨4,.bool,1,1,some (.bool false),true,false,false,[]⟩:=da
theorem ty5:zB.ty.get 5=some ⟨5,(.int .u8),1,1,some (.int .u8 (.ofNat 0)),true,false,false,[]⟩:=da
theorem kO:zB.ty.get 9=some ⟨9,.string,1,16,some (sb []),true,false,false,[]⟩:=da
theorem z7:zB.ty.get 23=some ⟨23,(.slice 3),1,24,some .nilslice,false,false,false,[]⟩:=da
theorem yh:zB.ty.get 24=some ⟨24,(.int .i64),1,8,some (ip 0),true,false,false,[⟨ "Error",166,#[],some (382,false)⟩]⟩:=da
theorem zd:zB.ty.get 26=some ⟨26,(.struct #[⟨ "Err",24,0,false, "", "",0⟩,⟨ "At",3,1,false, "", "",8⟩]),2,16,some (.agg [(ip 0),(ip 0)]),true,false,false,[]⟩:=da
theorem xO:zB.ty.get 59=some ⟨59,(.struct #[⟨ "Log",3,0,false, "", "",0⟩,⟨ "Probs",23,1,false, "", "",8⟩]),2,32,some (.agg [(ip 0),.nilslice]),false,false,false,[]⟩:=da
theorem zBa:zB.ty.get 71=some ⟨71,(.slice 5),1,24,some .nilslice,false,false,false,[]⟩:=da
theorem wI:zB.ty.get 80=some ⟨80,(.struct #[⟨ "S",9,0,false, "", "",0⟩,⟨ "At",3,1,false, "", "",16⟩,⟨ "Fault",26,2,false, "", "",24⟩]),4,40,some (.agg [(sb []),(ip 0),(ip 0),(ip 0)]),true,false,false,[]⟩:=da
theorem yt:zB.ty.get 112=some ⟨112,(.struct #[⟨ "S",9,0,false, "", "",0⟩,⟨ "Bit",3,1,false, "", "",16⟩]),2,24,some (.agg [(sb []),(ip 0)]),true,false,false,[]⟩:=da
theorem zw:zB.ty.get 120=some ⟨120,(.struct #[⟨ "S",9,0,false, "", "",0⟩,⟨ "Left",3,1,false, "", "",16⟩]),2,24,some (.agg [(sb []),(ip 0)]),true,false,false,[]⟩:=da
theorem YO:zB.ty.get 123=some ⟨123,(.slice 131),1,24,some .nilslice,false,false,false,[]⟩:=da
theorem Yv:zB.ty.get 131=some ⟨131,(.struct #[⟨ "Symbol",3,0,false, "", "",0⟩,⟨ "Bits",3,1,false, "", "",8⟩,⟨ "Base",3,2,false, "", "",16⟩]),3,24,some (.agg [(ip 0),(ip 0),(ip 0)]),true,false,false,[]⟩:=da
theorem z0C:zB.ty.get 147=some ⟨147,(.struct #[⟨ "bytes",3,0,false, "", "cheesepress/lits",0⟩,⟨ "from",3,1,false, "", "cheesepress/lits",8⟩,⟨ "n",3,2,false, "", "cheesepress/lits",16⟩,⟨ "m",3,3,false, "", "cheesepress/lits",24⟩,⟨ "streams",3,4,false, "", "cheesepress/lits",32⟩]),5,40,some (.agg [(ip 0),(ip 0),(ip 0),(ip 0),(ip 0)]),true,false,false,[]⟩:=da
theorem JV:zB.ty.get 152=some ⟨152,(.pointer 155),1,8,some .nilptr,true,false,false,[⟨ "cheesepress/cursor.bad",22,#[],some (116,true)⟩,⟨ "cheesepress/cursor.bytes",156,#[],some (115,true)⟩,⟨ "cheesepress/cursor.done",240,#[],some (184,true)⟩,⟨ "cheesepress/cursor.left",106,#[],some (188,true)⟩]⟩:=da
theorem z0D:zB.ty.get 206=some ⟨206,(.array 256 3),256,2048,some (.agg (List.replicate 256 (ip 0))),true,false,false,[]⟩:=da
theorem zPq:zB.ty.get 277=some ⟨277,(.slice 4),1,24,some .nilslice,false,false,false,[]⟩:=da
theorem zJe:zB.ty.get 298=some ⟨298,(.struct #[⟨ "s",9,0,false, "", "cheesepress/back",0⟩]),1,16,some (.agg [(sb [])]),true,false,false,[⟨ "cheesepress/back.bit",361,#[],some (325,false)⟩,⟨ "cheesepress/back.long",22,#[],some (305,false)⟩,⟨ "cheesepress/back.size",106,#[],some (306,false)⟩]⟩:=da
theorem zVP:zB.ty.get 343=some ⟨343,(.slice 24),1,24,some .nilslice,false,false,false,[]⟩:=da
theorem zJf:zB.ty.get 357=some ⟨357,(.map 3 3),1,8,some .nilmap,false,false,false,[]⟩:=da
theorem zVQ:zB.ty.get 377=some ⟨377,(.map 3 4),1,8,some .nilmap,false,false,false,[]⟩:=da
def zVl(f : Go.Func): Go.Code := match FI.of f with|some fi => jd fi.body|none => .skip
def kid : Go.Code -> Nat -> Go.Code
  | .seq a b, i => cond (Nat.beq i 0) a b
  | .cond _ a b, i => cond (Nat.beq i 0) a b
  | .block _ a, _ => a
  | .loop a, _ => a
  | .scope a, _ => a
  | .rangeFunc _ _ a b, i => cond (Nat.beq i 0) a b
  | c, _ => c
def pth(c : Go.Code): Uf -> Go.Code
  | [] => c
  | i::p => pth (kid c i) p
def YB : Go.Code -> Array Go.Oper
  | .region _ o _ => o
  | _ => #[]
noncomputable def bf(k:Nat):Code:=match Tryz.prog.funcs[k]? with|some f=>zVl f|none=>.skip
def btl:Nat->Nat->Uf->Uf
 | 0,_,l=>l
 | f+1,n,l=>cond (Nat.ble n 1) l (btl f (n/2) (n%2::l))
def pQ(k n:Nat):Code:=pth (bf k) (btl 99 n [])
def Vb(k n:Nat)(rs:List ResultVar)(L:Uf)(args:Ug)(B:H->Uc->Ud->Prop):Prop:=(λ(h:H) Q=>((zB.fn.get k).map xG,Nat.ble args.length n&&Nat.ble n 511,wpS Tryz.prog zB L 4 false (bf k) ⟨n,ze args 0 (Tb.leaf zC),[],h⟩ (endW zB ⟨n,rs,bf k⟩ Q)))=(λh Q=>(some ⟨n,rs,bf k⟩,true,B h Q (endW zB ⟨n,rs,bf k⟩ Q)))
theorem vb{k n:Nat}{rs:List ResultVar}{L:Uf}{args:Ug}{B:H->Uc->Ud->Prop}(e:(λ(h:H) Q=>((zB.fn.get k).map xG,Nat.ble args.length n&&Nat.ble n 511,wpS Tryz.prog zB L 4 false (bf k) ⟨n,ze args 0 (Tb.leaf zC),[],h⟩ (endW zB ⟨n,rs,bf k⟩ Q)))=(λh Q=>(some ⟨n,rs,bf k⟩,true,B h Q (endW zB ⟨n,rs,bf k⟩ Q))):=by kernel_rfl):Vb k n rs L args B:=e
theorem vz{b:Bool}{n:Nat}{L:Uf}{code:Code}{K:Kn}{B:Bz}(e:Vw0 Tryz.prog zB 4 b n L code K=Vw1 Tryz.prog zB 4 b n L K B:=by kernel_rfl):Vz Tryz.prog zB 4 b n L code K B:=e
end Go.Proofs.YtnpeieeomokomaaGreat
