/- CH. No condition. -/
import Derived.Test.YtnpeieeomokomaaGreatZCtx
import Derived.Test.YtnpeieeomokomaaGreatZS
import Derived.Test.YtnpeieeomokomaaGreatZW
import Derived.Test.YtnpeieeomokomaaGreatZCD
import Derived.Test.YtnpeieeomokomaaGreatZCF
import Derived.Test.YtnpeieeomokomaaGreatZCG
import Derived.Test.YtnpeieeomokomaaGreatZCT
noncomputable section
namespace Go.Proofs.YtnpeieeomokomaaGreat
open Go.Sim
theorem fR:zB.ty.get 372=some ⟨372,(.struct #[⟨ "number",3,0,false, "", "cheesepress/code",0⟩,⟨ "length",3,1,false, "", "cheesepress/code",8⟩]),2,16,some (.agg [(ip 0),(ip 0)]),true,false,false,[]⟩:=de
theorem P3:zB.ty.get 381=some ⟨381,(.array 12 3),12,96,some (.agg [(ip 0),(ip 0),(ip 0),(ip 0),(ip 0),(ip 0),(ip 0),(ip 0),(ip 0),(ip 0),(ip 0),(ip 0)]),true,false,false,[]⟩:=de
theorem zJA:(zB.fn.get 61).map zG=some ⟨27,[.tmp 2],bf 61⟩:=de
def L61:Uf:=[2]
theorem zJC:(zB.fn.get 63).map zG=some ⟨45,[.cell 4 80,.cell 5 80],bf 63⟩:=de
def L63:Uf:=[4,5]
theorem zJD:(zB.fn.get 64).map zG=some ⟨11,[.cell 4 26],bf 64⟩:=de
def L64:Uf:=[4]
theorem zJE:(zB.fn.get 65).map zG=some ⟨8,[.tmp 2],bf 65⟩:=de
def L65:Uf:=[2]
theorem zJF:(zB.fn.get 67).map zG=some ⟨56,[.tmp 10,.cell 11 26],bf 67⟩:=de
def L67:Uf:=[10,11]
def Ye:Code:=pQ 124 16372
def YL:Code:=pQ 124 16373
def zBJ:Code:=pQ 124 2047
theorem zDZ:(zB.fn.get 124).map zG=some ⟨94,[.cell 6 9,.cell 7 3,.cell 8 24],bf 124⟩:=de
def I5:Uf:=[6,7,8,40,1,10,72,73,3,19,18,17,15,2,71,16]
theorem Bl:(zB.fn.get 198).map zG=some ⟨6,[.tmp 4],bf 198⟩:=de
def zCP:Uf:=[4]
theorem Bn:(zB.fn.get 264).map zG=some ⟨22,[],bf 264⟩:=de
def E5:Uf:=[7,6,0,2]
theorem zFS:(zB.fn.get 317).map zG=some ⟨39,[.tmp 2],bf 317⟩:=de
def zCi:Uf:=[2,7,5,3,6]
theorem zF5:(zB.fn.get 333).map zG=some ⟨17,[.tmp 4],bf 333⟩:=de
def zIL:Uf:=[4]
theorem zF8:(zB.fn.get 336).map zG=some ⟨29,[],bf 336⟩:=de
def zCn:Uf:=[12,11,10,0,5,4]
theorem zDY:(zB.fn.get 123).map zG=some ⟨21,[.tmp 6,.tmp 7],bf 123⟩:=de
def zHC:Uf:=[6,7]
theorem zDw:(zB.fn.get 196).map zG=some ⟨59,[.tmp 6,.tmp 7,.cell 8 26],bf 196⟩:=de
def zCO:Uf:=[6,7,8,10,2,0,1,39,38]
theorem zEc:(zB.fn.get 263).map zG=some ⟨38,[.tmp 2,.tmp 3],bf 263⟩:=de
def zC2:Uf:=[2,3,19,18,17,6,7]
def Am:Code:=pQ 297 500
def zAZ:Code:=pQ 297 501
def zBW:Code:=pQ 297 63
theorem zFA:(zB.fn.get 297).map zG=some ⟨37,[.tmp 2,.tmp 3],bf 297⟩:=de
def E7:Uf:=[2,3,21,22,6,7,8,5,20]
theorem zFT:(zB.fn.get 318).map zG=some ⟨5,[.tmp 2],bf 318⟩:=de
def zID:Uf:=[2]
theorem zFU:(zB.fn.get 319).map zG=some ⟨25,[.tmp 2],bf 319⟩:=de
def zCj:Uf:=[2,8,7,6,3,1]
theorem zF4:(zB.fn.get 331).map zG=some ⟨25,[.tmp 2],bf 331⟩:=de
def zCl:Uf:=[2,4,0,3]
def zGP:Code:=pQ 30 61
def zGQ:Code:=pQ 30 2095615
def zGR:Code:=pQ 30 523903
def zGS:Code:=pQ 30 8185
def zGT:Code:=pQ 30 131051
def zGU:Code:=pQ 30 8191
def AJ:Code:=pQ 30 2047
def AK:Code:=pQ 30 511
def zGV:Code:=pQ 30 63
def AL:Code:=pQ 30 31
theorem zIg:(zB.fn.get 30).map zG=some ⟨186,[.tmp 8,.tmp 9,.tmp 10,.cell 11 26],bf 30⟩:=de
def ua:Uf:=[8,9,10,11,43,126,18,116,13,14,76,12,0,16,21,2,22,20,19,3,1,15]
theorem zDT:(zB.fn.get 112).map zG=some ⟨33,[.tmp 2,.tmp 3],bf 112⟩:=de
def zCG:Uf:=[2,3,16,6,4,12,11,10]
theorem zDu:(zB.fn.get 194).map zG=some ⟨19,[.tmp 4],bf 194⟩:=de
def zHU:Uf:=[4]
theorem zDv:(zB.fn.get 195).map zG=some ⟨75,[.tmp 6,.tmp 7],bf 195⟩:=de
def zCN:Uf:=[6,7,12,2,8,13,11]
theorem zDx:(zB.fn.get 197).map zG=some ⟨15,[.cell 2 176],bf 197⟩:=de
def zHV:Uf:=[2]
theorem zDy:(zB.fn.get 200).map zG=some ⟨19,[.tmp 2],bf 200⟩:=de
def zCQ:Uf:=[2,4,0,3]
theorem zF3:(zB.fn.get 330).map zG=some ⟨30,[.cell 2 381,.tmp 3],bf 330⟩:=de
def zCk:Uf:=[2,3,5,12,11,10]
theorem zDU:(zB.fn.get 113).map zG=some ⟨22,[.tmp 2,.tmp 3],bf 113⟩:=de
def zCH:Uf:=[2,3,8,7,6]
end Go.Proofs.YtnpeieeomokomaaGreat
