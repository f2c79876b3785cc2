/- CD. No condition. -/
import Derived.Test.YtnpeieeomokomaaGreatZCtx
import Derived.Test.YtnpeieeomokomaaGreatZCT
import Derived.Test.YtnpeieeomokomaaGreatZS
import Derived.Test.YtnpeieeomokomaaGreatZW
import Derived.Test.YtnpeieeomokomaaGreatZCA
noncomputable section
namespace Go.Proofs.YtnpeieeomokomaaGreat
open Go.Sim
theorem zI9:(zB.fn.get 12).map zG=some ⟨26,[.tmp 4],bf 12⟩:=de
def L12:Uf:=[4,5,0,1]
theorem zIo:(zB.fn.get 40).map zG=some ⟨32,[.tmp 2,.cell 3 26],bf 40⟩:=de
def L40:Uf:=[2,3]
theorem zJP:(zB.fn.get 91).map zG=some ⟨32,[.tmp 4],bf 91⟩:=de
def L91:Uf:=[4,16,15,14,6,1]
theorem zD7:(zB.fn.get 140).map zG=some ⟨35,[.tmp 4,.tmp 5],bf 140⟩:=de
def zHG:Uf:=[4,5]
theorem zDa:(zB.fn.get 144).map zG=some ⟨7,[.tmp 2],bf 144⟩:=de
def zHI:Uf:=[2]
theorem zET:(zB.fn.get 242).map zG=some ⟨25,[.tmp 2],bf 242⟩:=de
def zCX:Uf:=[2,4,0,3]
def zBT:Code:=pQ 275 32051
def zBU:Code:=pQ 275 4007
theorem zEk:(zB.fn.get 275).map zG=some ⟨64,[.tmp 6],bf 275⟩:=de
def Pc:Uf:=[6,9,11,0,8,20,19,18,1]
theorem zFK:(zB.fn.get 308).map zG=some ⟨27,[.tmp 2],bf 308⟩:=de
def zIA:Uf:=[2]
theorem zIa:(zB.fn.get 13).map zG=some ⟨27,[.tmp 4,.tmp 5,.cell 6 26],bf 13⟩:=de
def L13:Uf:=[4,5,6]
theorem zIm:(zB.fn.get 38).map zG=some ⟨12,[],bf 38⟩:=de
def L38:Uf:=[]
theorem zIn:(zB.fn.get 39).map zG=some ⟨85,[.tmp 4,.tmp 5,.cell 6 26],bf 39⟩:=de
def L39:Uf:=[4,5,6,16,7,8,1,0]
theorem zIq:(zB.fn.get 46).map zG=some ⟨27,[.tmp 2,.tmp 3],bf 46⟩:=de
def L46:Uf:=[2,3]
theorem zJJ:(zB.fn.get 77).map zG=some ⟨13,[.tmp 2],bf 77⟩:=de
def L77:Uf:=[2]
theorem zJL:(zB.fn.get 79).map zG=some ⟨33,[],bf 79⟩:=de
def L79:Uf:=[]
theorem zJO:(zB.fn.get 82).map zG=some ⟨54,[.tmp 2,.tmp 3,.tmp 4],bf 82⟩:=de
def L82:Uf:=[2,3,4,8,0]
def zAj:Code:=pQ 137 4164604
def FJ:Code:=pQ 137 65071
def zAk:Code:=pQ 137 1016
theorem zD5:(zB.fn.get 137).map zG=some ⟨137,[.cell 6 59,.tmp 7],bf 137⟩:=de
def ft:Uf:=[6,7,18,0,10,2,14,11]
theorem zEF:(zB.fn.get 208).map zG=some ⟨28,[.tmp 4,.tmp 5],bf 208⟩:=de
def zHY:Uf:=[4,5]
theorem zEJ:(zB.fn.get 214).map zG=some ⟨25,[.tmp 2,.tmp 3],bf 214⟩:=de
def zH2:Uf:=[2,3]
theorem zEU:(zB.fn.get 243).map zG=some ⟨25,[.tmp 2],bf 243⟩:=de
def zCY:Uf:=[2,11,10,9,4,3]
theorem zEl:(zB.fn.get 276).map zG=some ⟨10,[.tmp 3],bf 276⟩:=de
def zHm:Uf:=[3]
theorem zEn:(zB.fn.get 278).map zG=some ⟨32,[.tmp 4,.tmp 5],bf 278⟩:=de
def zHo:Uf:=[4,5,6,2,1]
theorem zFJ:(zB.fn.get 307).map zG=some ⟨4,[.tmp 2],bf 307⟩:=de
def zHz:Uf:=[2]
theorem zFX:(zB.fn.get 322).map zG=some ⟨6,[.tmp 2],bf 322⟩:=de
def zIG:Uf:=[2]
theorem zFZ:(zB.fn.get 324).map zG=some ⟨12,[.tmp 2],bf 324⟩:=de
def zIH:Uf:=[2]
end Go.Proofs.YtnpeieeomokomaaGreat
