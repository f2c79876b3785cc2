/- CI. No condition. -/
import Derived.Test.YtnpeieeomokomaaGreatZCtx
import Derived.Test.YtnpeieeomokomaaGreatZS
import Derived.Test.YtnpeieeomokomaaGreatZW
import Derived.Test.YtnpeieeomokomaaGreatZCD
import Derived.Test.YtnpeieeomokomaaGreatZCF
import Derived.Test.YtnpeieeomokomaaGreatZCG
import Derived.Test.YtnpeieeomokomaaGreatZCH
import Derived.Test.YtnpeieeomokomaaGreatZCT
noncomputable section
namespace Go.Proofs.YtnpeieeomokomaaGreat
open Go.Sim
theorem zGg:zB.ty.get 261=some ⟨261,(.struct #[⟨ "count",3,0,false, "", "cheesepress/cheesepressref13",0⟩,⟨ "leaf",4,1,false, "", "cheesepress/cheesepressref13",8⟩,⟨ "number",3,2,false, "", "cheesepress/cheesepressref13",16⟩,⟨ "symbols",23,3,false, "", "cheesepress/cheesepressref13",24⟩]),4,48,some (.agg [(ip 0),(.bool false),(ip 0),.nilslice]),false,false,false,[]⟩:=de
def zJT:Code:=pQ 8 32756
def zJX:Code:=pQ 8 8191
def zBX:Code:=pQ 8 4095
def zJY:Code:=pQ 8 1023
theorem fn8:(zB.fn.get 8).map zG=some ⟨183,[.tmp 8],bf 8⟩:=de
def L8:Uf:=[8,25,10,24,9,15,13,11,12]
def zGW:Code:=pQ 33 31
def zGX:Code:=pQ 33 15
theorem zIi:(zB.fn.get 33).map zG=some ⟨55,[.tmp 4],bf 33⟩:=de
def Af:Uf:=[4,8,7,5,6,0,9,1]
theorem zIl:(zB.fn.get 36).map zG=some ⟨22,[.tmp 4,.tmp 5],bf 36⟩:=de
def L36:Uf:=[4,5]
theorem zIw:(zB.fn.get 57).map zG=some ⟨21,[.tmp 4],bf 57⟩:=de
def L57:Uf:=[4]
theorem zIy:(zB.fn.get 59).map zG=some ⟨36,[.tmp 6],bf 59⟩:=de
def L59:Uf:=[6]
theorem zJG:(zB.fn.get 74).map zG=some ⟨52,[.tmp 2,.tmp 3],bf 74⟩:=de
def L74:Uf:=[2,3,8,6,7,9,5]
def FF:Code:=pQ 132 14949
def zBK:Code:=pQ 132 59807
def FG:Code:=pQ 132 14951
def FH:Code:=pQ 132 7475
theorem zD0:(zB.fn.get 132).map zG=some ⟨98,[.tmp 6,.tmp 7],bf 132⟩:=de
def nJ:Uf:=[6,7,24,11,1,12,0,10,2,9,15,14,8]
theorem zD3:(zB.fn.get 135).map zG=some ⟨18,[.tmp 2],bf 135⟩:=de
def zCI:Uf:=[2,6,5,0]
theorem zD4:(zB.fn.get 136).map zG=some ⟨6,[.tmp 4],bf 136⟩:=de
def zHE:Uf:=[4]
theorem zEA:(zB.fn.get 203).map zG=some ⟨14,[.tmp 2],bf 203⟩:=de
def zHW:Uf:=[2]
def zBP:Code:=pQ 205 15
theorem zEC:(zB.fn.get 205).map zG=some ⟨126,[],bf 205⟩:=de
def Ac:Uf:=[12,1,0]
theorem zEe:(zB.fn.get 269).map zG=some ⟨27,[.tmp 4],bf 269⟩:=de
def zHi:Uf:=[4]
theorem zFB:(zB.fn.get 299).map zG=some ⟨24,[.tmp 4,.tmp 5],bf 299⟩:=de
def zHv:Uf:=[4,5,0,1]
theorem zFC:(zB.fn.get 300).map zG=some ⟨38,[.tmp 4],bf 300⟩:=de
def zCa:Uf:=[4,21,20,19,0]
def An:Code:=pQ 301 244
def zA0:Code:=pQ 301 245
theorem zFD:(zB.fn.get 301).map zG=some ⟨42,[.tmp 4],bf 301⟩:=de
def E8:Uf:=[4,21,7,5,9,19]
theorem zFW:(zB.fn.get 321).map zG=some ⟨4,[.tmp 2],bf 321⟩:=de
def zIF:Uf:=[2]
theorem zIf:(zB.fn.get 29).map zG=some ⟨34,[.tmp 0],bf 29⟩:=de
def L29:Uf:=[0]
theorem zIh:(zB.fn.get 32).map zG=some ⟨137,[.tmp 0],bf 32⟩:=de
def L32:Uf:=[0,21,22,8,3,4,5,6,7,14,20,15,16,17,18,19]
def zGY:Code:=pQ 34 31
theorem zIj:(zB.fn.get 34).map zG=some ⟨37,[.tmp 2],bf 34⟩:=de
def L34:Uf:=[2,3,4,0]
theorem zIk:(zB.fn.get 35).map zG=some ⟨26,[.tmp 4,.tmp 5,.tmp 6],bf 35⟩:=de
def L35:Uf:=[4,5,6]
theorem zIx:(zB.fn.get 58).map zG=some ⟨25,[.tmp 8],bf 58⟩:=de
def L58:Uf:=[8]
theorem zFi:(zB.fn.get 73).map zG=some ⟨50,[.tmp 6,.tmp 7],bf 73⟩:=de
def L73:Uf:=[6,7,0,1,2]
theorem zJH:(zB.fn.get 75).map zG=some ⟨13,[.tmp 4],bf 75⟩:=de
def L75:Uf:=[4]
def zGZ:Code:=pQ 76 13
def zG0:Code:=pQ 76 4009
def zG1:Code:=pQ 76 2005
def zCq:Code:=pQ 76 500
def zFl:Code:=pQ 76 501
def AM:Code:=pQ 76 7
theorem zJI:(zB.fn.get 76).map zG=some ⟨54,[.tmp 4,.cell 5 98],bf 76⟩:=de
def IS:Uf:=[4,5,18,2,1,47,11,10,8,9,34,35,33]
theorem zD1:(zB.fn.get 133).map zG=some ⟨14,[.tmp 2],bf 133⟩:=de
def zHD:Uf:=[2]
def zAg:Code:=pQ 134 244
def zAh:Code:=pQ 134 512628
def zAi:Code:=pQ 134 500
theorem zD2:(zB.fn.get 134).map zG=some ⟨88,[.tmp 2],bf 134⟩:=de
def E2:Uf:=[2,5,0,4,11,10,3,8,6]
theorem zEB:(zB.fn.get 204).map zG=some ⟨38,[.cell 2 261,.tmp 3],bf 204⟩:=de
def zCR:Uf:=[2,3,5,0,4]
theorem zED:(zB.fn.get 206).map zG=some ⟨22,[.tmp 4,.tmp 5],bf 206⟩:=de
def zHX:Uf:=[4,5,6,0,1]
theorem zEE:(zB.fn.get 207).map zG=some ⟨23,[.tmp 2,.tmp 3],bf 207⟩:=de
def zCS:Uf:=[2,3,11,10,0,4]
theorem zEd:(zB.fn.get 268).map zG=some ⟨28,[.tmp 2,.tmp 3],bf 268⟩:=de
def zC3:Uf:=[2,3,5,0,4]
theorem zEf:(zB.fn.get 270).map zG=some ⟨16,[.tmp 4,.tmp 5],bf 270⟩:=de
def zHj:Uf:=[4,5]
def zBR:Code:=pQ 271 8107
def Al:Code:=pQ 271 1012
def zAY:Code:=pQ 271 1013
theorem zEg:(zB.fn.get 271).map zG=some ⟨63,[.cell 4 9,.cell 5 24],bf 271⟩:=de
def Tt:Uf:=[4,5,8,11,32,33,2,10,9,7,6,1,31]
theorem zFE:(zB.fn.get 302).map zG=some ⟨17,[.tmp 2],bf 302⟩:=de
def zCb:Uf:=[2,8,7,6,3]
theorem zFV:(zB.fn.get 320).map zG=some ⟨9,[.tmp 2],bf 320⟩:=de
def zIE:Uf:=[2]
theorem zF9:(zB.fn.get 337).map zG=some ⟨19,[],bf 337⟩:=de
def zCo:Uf:=[3,0,1]
end Go.Proofs.YtnpeieeomokomaaGreat
