/- CA. No condition. -/
import Derived.Test.YtnpeieeomokomaaGreatZCtx
import Derived.Test.YtnpeieeomokomaaGreatZCT
import Derived.Test.YtnpeieeomokomaaGreatZS
import Derived.Test.YtnpeieeomokomaaGreatZW
noncomputable section
namespace Go.Proofs.YtnpeieeomokomaaGreat
open Go.Sim
theorem zIp:(zB.fn.get 41).map zG=some ⟨13,[.tmp 2],bf 41⟩:=de
def L41:Uf:=[2]
theorem zJK:(zB.fn.get 78).map zG=some ⟨21,[.tmp 2],bf 78⟩:=de
def L78:Uf:=[2]
theorem zJM:(zB.fn.get 80).map zG=some ⟨77,[.cell 8 59,.tmp 9,.cell 10 26],bf 80⟩:=de
def L80:Uf:=[8,9,10,36,0,1,2,3]
theorem Bi:(zB.fn.get 143).map zG=some ⟨22,[.tmp 4],bf 143⟩:=de
def E3:Uf:=[4,9,8,7,1]
theorem zEH:(zB.fn.get 212).map zG=some ⟨21,[.tmp 2],bf 212⟩:=de
def zH0:Uf:=[2]
theorem zEK:(zB.fn.get 215).map zG=some ⟨34,[.cell 4 120,.tmp 5,.tmp 6],bf 215⟩:=de
def zH3:Uf:=[4,5,6]
theorem zEZ:(zB.fn.get 248).map zG=some ⟨17,[.tmp 2],bf 248⟩:=de
def zCZ:Uf:=[2,8,7,6,3]
def Kw:Code:=pQ 274 244
def JY:Code:=pQ 274 245
def zBS:Code:=pQ 274 31
theorem zEj:(zB.fn.get 274).map zG=some ⟨26,[.tmp 2,.tmp 3],bf 274⟩:=de
def E6:Uf:=[2,3,19,20,5,6,7,18]
theorem Bo:(zB.fn.get 286).map zG=some ⟨7,[],bf 286⟩:=de
def zC5:Uf:=[]
theorem zFG:(zB.fn.get 304).map zG=some ⟨40,[.tmp 4],bf 304⟩:=de
def zCc:Uf:=[4,9,8,2,5]
def zAl:Code:=pQ 323 33344716
theorem zFY:(zB.fn.get 323).map zG=some ⟨75,[],bf 323⟩:=de
def Pd:Uf:=[20,19,18,4,5,0,8,1,3,47,46,9,40,39,38]
def zGL:Code:=pQ 10 13
def zGM:Code:=pQ 10 1017
def AI:Code:=pQ 10 511
def zGN:Code:=pQ 10 255
def zGO:Code:=pQ 10 7
theorem zI8:(zB.fn.get 10).map zG=some ⟨80,[.cell 4 23,.cell 5 3,.cell 6 26],bf 10⟩:=de
def Pb:Uf:=[4,5,6,16,1,8,0,7,74]
def zFr:Code:=pQ 81 2036
theorem zJN:(zB.fn.get 81).map zG=some ⟨105,[.tmp 4,.tmp 5],bf 81⟩:=de
def L81:Uf:=[4,5,26,6,2,8,13,12]
theorem zD9:(zB.fn.get 142).map zG=some ⟨24,[.tmp 2,.tmp 3],bf 142⟩:=de
def zCJ:Uf:=[2,3,5,8,7,6]
theorem zEG:(zB.fn.get 209).map zG=some ⟨14,[.tmp 2,.tmp 3],bf 209⟩:=de
def zHZ:Uf:=[2,3]
theorem zEI:(zB.fn.get 213).map zG=some ⟨18,[.cell 2 120,.tmp 3],bf 213⟩:=de
def zH1:Uf:=[2,3]
theorem zE1:(zB.fn.get 250).map zG=some ⟨7,[.tmp 4],bf 250⟩:=de
def zHc:Uf:=[4]
theorem zEi:(zB.fn.get 273).map zG=some ⟨22,[.tmp 2,.tmp 3],bf 273⟩:=de
def zHl:Uf:=[2,3,5,4]
theorem zEm:(zB.fn.get 277).map zG=some ⟨6,[.tmp 2],bf 277⟩:=de
def zHn:Uf:=[2]
theorem zFI:(zB.fn.get 306).map zG=some ⟨31,[.tmp 2],bf 306⟩:=de
def zHy:Uf:=[2,1]
theorem zF0:(zB.fn.get 325).map zG=some ⟨16,[.tmp 4],bf 325⟩:=de
def zII:Uf:=[4]
theorem zD6:(zB.fn.get 139).map zG=some ⟨14,[.tmp 2,.tmp 3],bf 139⟩:=de
def zHF:Uf:=[2,3]
theorem zD8:(zB.fn.get 141).map zG=some ⟨27,[.tmp 4,.tmp 5],bf 141⟩:=de
def zHH:Uf:=[4,5]
theorem zDb:(zB.fn.get 145).map zG=some ⟨6,[.tmp 2],bf 145⟩:=de
def zHJ:Uf:=[2]
theorem zEL:(zB.fn.get 216).map zG=some ⟨15,[.tmp 2],bf 216⟩:=de
def zCT:Uf:=[2,5,0,3]
theorem zEh:(zB.fn.get 272).map zG=some ⟨39,[.cell 4 112,.tmp 5,.tmp 6],bf 272⟩:=de
def zHk:Uf:=[4,5,6,7,2,1]
theorem zFF:(zB.fn.get 303).map zG=some ⟨19,[.tmp 4],bf 303⟩:=de
def zHw:Uf:=[4]
theorem zFH:(zB.fn.get 305).map zG=some ⟨7,[.tmp 2],bf 305⟩:=de
def zHx:Uf:=[2]
theorem zFL:(zB.fn.get 309).map zG=some ⟨33,[.tmp 4],bf 309⟩:=de
def zCd:Uf:=[4,9,8,5,0]
end Go.Proofs.YtnpeieeomokomaaGreat
