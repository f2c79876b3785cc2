/- CF. No condition. -/
import Derived.Test.YtnpeieeomokomaaGreatZCtx
import Derived.Test.YtnpeieeomokomaaGreatZS
import Derived.Test.YtnpeieeomokomaaGreatZW
import Derived.Test.YtnpeieeomokomaaGreatZCD
import Derived.Test.YtnpeieeomokomaaGreatZCT
noncomputable section
namespace Go.Proofs.YtnpeieeomokomaaGreat
open Go.Sim
theorem fQ:zB.ty.get 176=some ⟨176,(.array 4 3),4,32,some (.agg [(ip 0),(ip 0),(ip 0),(ip 0)]),true,false,false,[]⟩:=de
theorem uM:zB.ty.get 220=some ⟨220,(.struct #[⟨ "S",9,0,false, "", "",0⟩,⟨ "Part",3,1,false, "", "",16⟩,⟨ "N",3,2,false, "", "",24⟩]),3,32,some (.agg [(sb []),(ip 0),(ip 0)]),true,false,false,[]⟩:=de
theorem qI:zB.ty.get 233=some ⟨233,(.slice 235),1,24,some .nilslice,false,false,false,[⟨ "Len",106,#[],some (180,false)⟩,⟨ "Less",288,#[],some (384,false)⟩,⟨ "Swap",290,#[],some (387,false)⟩]⟩:=de
theorem Zx:zB.ty.get 235=some ⟨235,(.pointer 237),1,8,some .nilptr,true,false,false,[⟨ "cheesepress/length.key",427,#[],some (389,true)⟩]⟩:=de
theorem P0:zB.ty.get 239=some ⟨239,(.func #[235,3] #[] false),1,8,some .nilFunc,false,false,false,[]⟩:=de
theorem uN:zB.ty.get 253=some ⟨253,(.slice 257),1,24,some .nilslice,false,false,false,[]⟩:=de
theorem Y6:zB.ty.get 257=some ⟨257,(.struct #[⟨ "Bits",3,0,false, "", "",0⟩,⟨ "Value",3,1,false, "", "",8⟩]),2,16,some (.agg [(ip 0),(ip 0)]),true,false,false,[]⟩:=de
theorem EA:zB.ty.get 296=some ⟨296,(.array 2 127),2,16,some (.agg [(.int .u64 (.ofNat 0)),(.int .u64 (.ofNat 0))]),true,false,false,[]⟩:=de
theorem T1:zB.ty.get 311=some ⟨311,(.map 5 257),1,8,some .nilmap,false,false,false,[]⟩:=de
theorem AY:zB.ty.get 312=some ⟨312,(.map 257 5),1,8,some .nilmap,false,false,false,[]⟩:=de
theorem EB:zB.ty.get 344=some ⟨344,(.slice 296),1,24,some .nilslice,false,false,false,[]⟩:=de
theorem P1:zB.ty.get 346=some ⟨346,(.struct #[⟨ "EncodeTable",216,0,true, "", "",0⟩]),2,32,some (.agg [(ip 0),.nilslice]),false,false,false,[⟨ "cheesepress/encode.cells",347,#[],some (295,false)⟩,⟨ "cheesepress/encode.put",349,#[],some (296,false)⟩]⟩:=de
theorem zDL:(zB.fn.get 102).map zG=some ⟨23,[.cell 4 59,.tmp 5],bf 102⟩:=de
def zGy:Uf:=[4,5]
theorem zDM:(zB.fn.get 103).map zG=some ⟨15,[.tmp 2,.tmp 3],bf 103⟩:=de
def zGz:Uf:=[2,3]
theorem zDP:(zB.fn.get 107).map zG=some ⟨43,[.tmp 2],bf 107⟩:=de
def zHB:Uf:=[2,0]
theorem zDc:(zB.fn.get 169).map zG=some ⟨15,[.tmp 2],bf 169⟩:=de
def zHK:Uf:=[2]
theorem Bj:(zB.fn.get 170).map zG=some ⟨4,[.tmp 2],bf 170⟩:=de
def zCK:Uf:=[2]
def zBL:Code:=pQ 172 28587
def eE:Code:=pQ 172 3572
def lI:Code:=pQ 172 3573
def zBM:Code:=pQ 172 895
def zBN:Code:=pQ 172 447
theorem zDe:(zB.fn.get 172).map zG=some ⟨105,[.cell 4 59,.tmp 5],bf 172⟩:=de
def eD:Uf:=[4,5,28,7,3,11,13,15,12,56,57,14,6,0,55]
theorem zER:(zB.fn.get 239).map zG=some ⟨6,[.tmp 2],bf 239⟩:=de
def zH6:Uf:=[2]
theorem zEV:(zB.fn.get 244).map zG=some ⟨29,[.cell 2 209,.tmp 3],bf 244⟩:=de
def zH7:Uf:=[2,3]
theorem zE2:(zB.fn.get 251).map zG=some ⟨13,[.tmp 2],bf 251⟩:=de
def zHd:Uf:=[2]
theorem zE4:(zB.fn.get 253).map zG=some ⟨60,[.cell 2 216,.tmp 3],bf 253⟩:=de
def zC0:Uf:=[2,3,35,34,33,7]
theorem zEo:(zB.fn.get 284).map zG=some ⟨18,[.tmp 2,.tmp 3],bf 284⟩:=de
def zHp:Uf:=[2,3]
theorem zEr:(zB.fn.get 288).map zG=some ⟨16,[],bf 288⟩:=de
def zC6:Uf:=[8,7,6,0]
theorem zEt:(zB.fn.get 290).map zG=some ⟨16,[.cell 2 209,.tmp 3],bf 290⟩:=de
def zHr:Uf:=[2,3]
theorem zEx:(zB.fn.get 294).map zG=some ⟨57,[.tmp 2],bf 294⟩:=de
def Ae:Uf:=[2,25,24,23,48,47,46,1]
theorem zFQ:(zB.fn.get 314).map zG=some ⟨25,[.tmp 2],bf 314⟩:=de
def zCh:Uf:=[2,11,10,9,3]
theorem zIs:(zB.fn.get 49).map zG=some ⟨33,[.tmp 4,.tmp 5],bf 49⟩:=de
def L49:Uf:=[4,5,11,10,9,1,6,0]
theorem zIu:(zB.fn.get 54).map zG=some ⟨65,[.tmp 2,.tmp 3],bf 54⟩:=de
def L54:Uf:=[2,3]
theorem zDd:(zB.fn.get 171).map zG=some ⟨47,[.tmp 4,.tmp 5],bf 171⟩:=de
def zHL:Uf:=[4,5,20,7,1,9,6]
theorem zDi:(zB.fn.get 176).map zG=some ⟨28,[.tmp 6],bf 176⟩:=de
def zHO:Uf:=[6]
def Aj:Code:=pQ 178 1012
def zAW:Code:=pQ 178 1013
def zBO:Code:=pQ 178 127
theorem zDk:(zB.fn.get 178).map zG=some ⟨86,[.cell 6 220],bf 178⟩:=de
def I6:Uf:=[6,27,28,12,5,11,7,10,13,9,19,3,26]
theorem zEM:(zB.fn.get 234).map zG=some ⟨29,[.tmp 2,.tmp 3],bf 234⟩:=de
def zCU:Uf:=[2,3,5,8,7,6]
def Ak:Code:=pQ 237 244
def zAX:Code:=pQ 237 245
def zBQ:Code:=pQ 237 31
theorem zEP:(zB.fn.get 237).map zG=some ⟨20,[.tmp 2,.tmp 3],bf 237⟩:=de
def E4:Uf:=[2,3,14,6,5,13]
theorem zEY:(zB.fn.get 247).map zG=some ⟨9,[.tmp 4],bf 247⟩:=de
def zHa:Uf:=[4]
theorem zE0:(zB.fn.get 249).map zG=some ⟨33,[.tmp 2],bf 249⟩:=de
def zHb:Uf:=[2]
theorem zE5:(zB.fn.get 254).map zG=some ⟨4,[.tmp 2],bf 254⟩:=de
def zHe:Uf:=[2]
theorem zE7:(zB.fn.get 256).map zG=some ⟨47,[.tmp 6,.tmp 7,.tmp 8,.tmp 9],bf 256⟩:=de
def zHg:Uf:=[6,7,8,9,19,11,2,1]
theorem zEs:(zB.fn.get 289).map zG=some ⟨23,[.tmp 4],bf 289⟩:=de
def zC7:Uf:=[4,10,9,5,0]
theorem zEw:(zB.fn.get 293).map zG=some ⟨19,[],bf 293⟩:=de
def zC8:Uf:=[3,0,1]
theorem zFM:(zB.fn.get 310).map zG=some ⟨61,[],bf 310⟩:=de
def zIB:Uf:=[]
theorem zF2:(zB.fn.get 329).map zG=some ⟨25,[.tmp 2],bf 329⟩:=de
def zIK:Uf:=[2,0]
theorem zIb:(zB.fn.get 16).map zG=some ⟨31,[.tmp 2,.tmp 3],bf 16⟩:=de
def L16:Uf:=[2,3]
theorem zIr:(zB.fn.get 48).map zG=some ⟨30,[.tmp 2,.cell 3 64],bf 48⟩:=de
def L48:Uf:=[2,3,9,8,0]
theorem zIt:(zB.fn.get 50).map zG=some ⟨5,[.tmp 2],bf 50⟩:=de
def L50:Uf:=[2]
theorem zDJ:(zB.fn.get 100).map zG=some ⟨42,[.tmp 4,.tmp 5],bf 100⟩:=de
def zCD:Uf:=[4,5,8,6,20,19,18,1,0]
theorem zDg:(zB.fn.get 174).map zG=some ⟨14,[.tmp 2,.tmp 3],bf 174⟩:=de
def zHN:Uf:=[2,3]
def FK:Code:=pQ 175 1829183
def FL:Code:=pQ 175 228647
def cG:Code:=pQ 175 14291
def FM:Code:=pQ 175 447
theorem zDh:(zB.fn.get 175).map zG=some ⟨100,[.cell 2 209],bf 175⟩:=de
def Yd:Uf:=[2,11,6,1,4,7,5,3]
theorem zEO:(zB.fn.get 236).map zG=some ⟨22,[.tmp 2,.tmp 3,.tmp 4],bf 236⟩:=de
def zH4:Uf:=[2,3,4]
theorem Bm:(zB.fn.get 241).map zG=some ⟨4,[.tmp 2],bf 241⟩:=de
def zCW:Uf:=[2]
theorem zEW:(zB.fn.get 245).map zG=some ⟨12,[],bf 245⟩:=de
def zH8:Uf:=[]
theorem zEX:(zB.fn.get 246).map zG=some ⟨46,[.cell 6 209,.tmp 7],bf 246⟩:=de
def zH9:Uf:=[6,7,3,2,1]
theorem zE6:(zB.fn.get 255).map zG=some ⟨23,[.tmp 4,.tmp 5],bf 255⟩:=de
def zHf:Uf:=[4,5]
theorem zE8:(zB.fn.get 257).map zG=some ⟨68,[.cell 6 220,.tmp 7],bf 257⟩:=de
def zHh:Uf:=[6,7,8,3,1,2]
theorem zEp:(zB.fn.get 285).map zG=some ⟨22,[],bf 285⟩:=de
def zC4:Uf:=[7,6,5,0]
theorem zEu:(zB.fn.get 291).map zG=some ⟨9,[.tmp 4],bf 291⟩:=de
def zHs:Uf:=[4]
theorem zEv:(zB.fn.get 292).map zG=some ⟨21,[.tmp 3],bf 292⟩:=de
def zHt:Uf:=[3]
def zBV:Code:=pQ 296 63
theorem zEz:(zB.fn.get 296).map zG=some ⟨57,[.tmp 6,.tmp 7,.tmp 8],bf 296⟩:=de
def zC9:Uf:=[6,7,8,9,10,11]
theorem zFP:(zB.fn.get 313).map zG=some ⟨17,[.tmp 2],bf 313⟩:=de
def zCg:Uf:=[2,8,7,6,3]
theorem zFR:(zB.fn.get 316).map zG=some ⟨8,[.tmp 2],bf 316⟩:=de
def zIC:Uf:=[2]
theorem zIc:(zB.fn.get 25).map zG=some ⟨22,[.tmp 2,.tmp 3],bf 25⟩:=de
def L25:Uf:=[2,3]
theorem zId:(zB.fn.get 26).map zG=some ⟨50,[.tmp 2,.tmp 3],bf 26⟩:=de
def L26:Uf:=[2,3,23,22,21,5]
theorem zIv:(zB.fn.get 56).map zG=some ⟨14,[.tmp 2,.tmp 3],bf 56⟩:=de
def L56:Uf:=[2,3]
theorem zJQ:(zB.fn.get 93).map zG=some ⟨2,[.cell 0 136],bf 93⟩:=de
def L93:Uf:=[0]
def Ai:Code:=pQ 101 244
def zAV:Code:=pQ 101 245
def zBI:Code:=pQ 101 31
theorem zDK:(zB.fn.get 101).map zG=some ⟨18,[.tmp 2,.tmp 3],bf 101⟩:=de
def E1:Uf:=[2,3,5,12]
theorem zDN:(zB.fn.get 104).map zG=some ⟨19,[.tmp 4,.tmp 5],bf 104⟩:=de
def zHA:Uf:=[4,5]
theorem zDQ:(zB.fn.get 108).map zG=some ⟨17,[.tmp 2],bf 108⟩:=de
def zCF:Uf:=[2,8,7,6,3]
theorem zDf:(zB.fn.get 173).map zG=some ⟨44,[.tmp 2],bf 173⟩:=de
def zHM:Uf:=[2,1]
theorem zDj:(zB.fn.get 177).map zG=some ⟨34,[.tmp 2,.tmp 3],bf 177⟩:=de
def zHP:Uf:=[2,3]
theorem zDo:(zB.fn.get 183).map zG=some ⟨9,[.tmp 3],bf 183⟩:=de
def zHT:Uf:=[3]
theorem zEN:(zB.fn.get 235).map zG=some ⟨22,[],bf 235⟩:=de
def zCV:Uf:=[7,6,5,0]
theorem zEQ:(zB.fn.get 238).map zG=some ⟨4,[.tmp 2],bf 238⟩:=de
def zH5:Uf:=[2]
theorem zES:(zB.fn.get 240).map zG=some ⟨28,[.tmp 4],bf 240⟩:=de
theorem zE3:(zB.fn.get 252).map zG=some ⟨78,[],bf 252⟩:=de
def Ad:Uf:=[9,8,7,0,6]
theorem zEq:(zB.fn.get 287).map zG=some ⟨31,[.tmp 2],bf 287⟩:=de
def zHq:Uf:=[2,3,1]
theorem zEy:(zB.fn.get 295).map zG=some ⟨21,[.tmp 4],bf 295⟩:=de
def zHu:Uf:=[4,2,1]
theorem zFN:(zB.fn.get 311).map zG=some ⟨19,[.tmp 4],bf 311⟩:=de
def zCe:Uf:=[4,8,7,1,0]
theorem zFO:(zB.fn.get 312).map zG=some ⟨21,[.tmp 2],bf 312⟩:=de
def zCf:Uf:=[2,3,0]
theorem zF1:(zB.fn.get 326).map zG=some ⟨17,[.tmp 4],bf 326⟩:=de
def zIJ:Uf:=[4]
theorem zFa:(zB.fn.get 338).map zG=some ⟨6,[.tmp 2],bf 338⟩:=de
def zIN:Uf:=[2]
end Go.Proofs.YtnpeieeomokomaaGreat
