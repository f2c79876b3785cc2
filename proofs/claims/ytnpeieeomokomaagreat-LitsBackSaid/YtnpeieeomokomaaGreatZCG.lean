/- CG. No condition. -/
import Derived.Test.YtnpeieeomokomaaGreatZCF
import Derived.Test.YtnpeieeomokomaaGreatZCtx
import Derived.Test.YtnpeieeomokomaaGreatZS
import Derived.Test.YtnpeieeomokomaaGreatZW
import Derived.Test.YtnpeieeomokomaaGreatZCD
import Derived.Test.YtnpeieeomokomaaGreatZCT
noncomputable section
namespace Go.Proofs.YtnpeieeomokomaaGreat
open Go.Sim
def B3:Uf:=[4,24,6,10,9,8,5,0,1]
theorem Zy:zB.ty.get 259=some ⟨259,(.slice 261),1,24,some .nilslice,false,false,false,[]⟩:=de
theorem nF:zB.ty.get 384=some ⟨384,(.slice 372),1,24,some .nilslice,false,false,false,[]⟩:=de
theorem A1:zB.ty.get 426=some ⟨426,(.array 3 3),3,24,some (.agg [(ip 0),(ip 0),(ip 0)]),true,false,false,[]⟩:=de
theorem zIe:(zB.fn.get 27).map zG=some ⟨16,[.tmp 4],bf 27⟩:=de
def L27:Uf:=[4]
def zFq:Code:=pQ 55 28878436
theorem zFh:(zB.fn.get 55).map zG=some ⟨47,[.tmp 2,.tmp 3],bf 55⟩:=de
def B5:Uf:=[2,3,30,29,5,22,21,20,6]
theorem Bh:(zB.fn.get 105).map zG=some ⟨18,[.tmp 2],bf 105⟩:=de
def zCE:Uf:=[2]
theorem zDO:(zB.fn.get 106).map zG=some ⟨76,[.tmp 2],bf 106⟩:=de
def Ab:Uf:=[2,15,14,13,3,6,9,0]
theorem zDl:(zB.fn.get 179).map zG=some ⟨12,[],bf 179⟩:=de
def zHQ:Uf:=[]
theorem zDm:(zB.fn.get 180).map zG=some ⟨5,[.tmp 2],bf 180⟩:=de
def zHR:Uf:=[2]
theorem zDn:(zB.fn.get 181).map zG=some ⟨15,[.tmp 2],bf 181⟩:=de
def zHS:Uf:=[2]
theorem Bk:(zB.fn.get 182).map zG=some ⟨34,[],bf 182⟩:=de
def zCL:Uf:=[]
theorem zE9:(zB.fn.get 258).map zG=some ⟨23,[],bf 258⟩:=de
def zC1:Uf:=[0,4,1]
def FN:Code:=pQ 259 1807
def FO:Code:=pQ 259 15
theorem zEa:(zB.fn.get 259).map zG=some ⟨48,[.tmp 6],bf 259⟩:=de
def aJ:Uf:=[6,0,9,7,8,2,1]
theorem zF6:(zB.fn.get 334).map zG=some ⟨18,[.tmp 2],bf 334⟩:=de
def zCm:Uf:=[2,8,7,6,3]
theorem zF7:(zB.fn.get 335).map zG=some ⟨20,[.tmp 4],bf 335⟩:=de
def zIM:Uf:=[4]
theorem zFb:(zB.fn.get 384).map zG=some ⟨18,[.tmp 6],bf 384⟩:=de
def zIP:Uf:=[6]
theorem zFc:(zB.fn.get 385).map zG=some ⟨23,[.tmp 2],bf 385⟩:=de
def zIQ:Uf:=[2]
theorem zFd:(zB.fn.get 386).map zG=some ⟨13,[],bf 386⟩:=de
def zIR:Uf:=[]
theorem zFe:(zB.fn.get 387).map zG=some ⟨20,[],bf 387⟩:=de
def zIS:Uf:=[]
theorem zFf:(zB.fn.get 388).map zG=some ⟨23,[.tmp 4],bf 388⟩:=de
def zIT:Uf:=[4]
theorem zFg:(zB.fn.get 389).map zG=some ⟨16,[.cell 2 426],bf 389⟩:=de
def zIU:Uf:=[2]
theorem zIz:(zB.fn.get 60).map zG=some ⟨81,[.tmp 4,.tmp 5,.tmp 6,.tmp 7,.tmp 8,.cell 9 26],bf 60⟩:=de
theorem zJB:(zB.fn.get 62).map zG=some ⟨19,[.cell 4 80],bf 62⟩:=de
theorem zDR:(zB.fn.get 109).map zG=some ⟨15,[.cell 2 80,.tmp 3],bf 109⟩:=de
theorem zDS:(zB.fn.get 111).map zG=some ⟨40,[.cell 4 80,.tmp 5],bf 111⟩:=de
theorem zDV:(zB.fn.get 114).map zG=some ⟨11,[.tmp 2],bf 114⟩:=de
theorem zDW:(zB.fn.get 115).map zG=some ⟨60,[.tmp 4],bf 115⟩:=de
theorem zDX:(zB.fn.get 116).map zG=some ⟨10,[.tmp 2],bf 116⟩:=de
theorem zDp:(zB.fn.get 184).map zG=some ⟨13,[.cell 4 80,.tmp 5],bf 184⟩:=de
theorem zDq:(zB.fn.get 185).map zG=some ⟨40,[.tmp 2],bf 185⟩:=de
theorem zDr:(zB.fn.get 186).map zG=some ⟨42,[.tmp 2],bf 186⟩:=de
theorem zDs:(zB.fn.get 187).map zG=some ⟨15,[],bf 187⟩:=de
theorem zDt:(zB.fn.get 188).map zG=some ⟨17,[.tmp 2],bf 188⟩:=de
theorem zEb:(zB.fn.get 260).map zG=some ⟨13,[.tmp 3],bf 260⟩:=de
theorem zDz:(zB.fn.get 202).map zG=some ⟨26,[.tmp 4,.tmp 5],bf 202⟩:=de
end Go.Proofs.YtnpeieeomokomaaGreat
