/- AL. No condition. -/
import Derived.Test.YtnpeieeomokomaaGreatZCtx
import Derived.Test.YtnpeieeomokomaaGreatZX
import Derived.Test.YtnpeieeomokomaaGreatZS
import Derived.Test.YtnpeieeomokomaaGreatZW
namespace Go.Proofs.YtnpeieeomokomaaGreat
open Go.Sim
def ws:Ug:=List.replicate 97 (dd 0)++List.replicate 2 (dd 1)++List.replicate 157 (dd 0)
def kS:Lt:=⟨234,[.slice 66 0 256 (.exact 256)],[⟨66,ws,none⟩],.tuple [dd 2,(.bool true)]⟩
theorem zUK:kS.Holds Tryz.prog zB:=Lt.holds yA xR 67
def kD:Lt:=⟨101,[.slice 66 0 256 (.exact 256)],[⟨66,ws,none⟩],.tuple [dd 2,dd 0]⟩
theorem zZS:kD.Holds Tryz.prog zB:=Lt.holds yA (yp zUK xR) 67
def kW:Lt:=⟨107,[.slice 84 0 99 (.exact 256)],[⟨84,ws,none⟩],dd 0⟩
theorem zZ2:kW.Holds Tryz.prog zB:=Lt.holds yA xR 87
def kI:Lt:=⟨82,[.slice 87 0 98 (.exact 98)],[⟨87,ws,none⟩],.tuple [dd 1,dd 1,dd 0]⟩
theorem zZV:kI.Holds Tryz.prog zB:=Lt.holds yA xR 90
def kN:Lt:=⟨103,[.agg [dd 5,.slice 212 0 2 (.exact 2)]],[⟨212,[dd 31,dd (.negSucc 0)],none⟩],.tuple [.str [224,3],dd 0]⟩
theorem zZX:kN.Holds Tryz.prog zB:=Lt.holds yA xR 219
def kV:Lt:=⟨247,[.agg [dd 5,.slice 212 0 2 (.exact 2)],.slice 87 0 98 (.exact 98)],[⟨212,[dd 31,dd (.negSucc 0)],none⟩,⟨87,ws,none⟩],.bool true⟩
theorem zZ1:kV.Holds Tryz.prog zB:=Lt.holds yA xR 224
def kC:Lt:=⟨294,[.agg [dd 5,.slice 242 0 2 (.exact 2)]],[⟨242,[.slice 305 0 31 (.skip 0),.slice 307 0 1 (.skip 0)],none⟩,⟨305,([0,1,2,3,4,5,6,7,8,9,10,11,12,13,14,15,16,17,18,19,20,21,22,23,24,25,26,27,28,29,30]:Ub).map (V.int .i64),some ⟨1,4,0⟩⟩,⟨307,[dd 31],some ⟨1,4,0⟩⟩],dd 0⟩
theorem zZR:kC.Holds Tryz.prog zB:=Lt.holds yA xR 316
def kP:Lt:=⟨257,[.agg [.str [],dd 1,dd 1],dd 0,.int .u64 0],[],.tuple [.agg [.str [],dd 1,dd 1],dd 0]⟩
theorem zZY:kP.Holds Tryz.prog zB:=Lt.holds yA xR 0
def kQ:Lt:=⟨257,[.agg [.str [],dd 1,dd 3],dd 0,.int .u64 0],[],.tuple [.agg [.str [],dd 1,dd 3],dd 0]⟩
theorem zZZ:kQ.Holds Tryz.prog zB:=Lt.holds yA xR 0
def kF:Lt:=⟨178,[.agg [dd 5,.slice 212 0 2 (.exact 2)],.slice 87 0 98 (.exact 98),dd 2],[⟨212,[dd 31,dd (.negSucc 0)],none⟩,⟨87,ws,none⟩],.agg [.str [129],dd 17,dd 5]⟩
theorem zZT:kF.Holds Tryz.prog zB:=Lt.holds yA (yp zZR (yp zZY (yp zZZ xR))) 224
def k5:Lt:=⟨54,[.slice 87 0 98 (.exact 98)],[⟨87,ws,none⟩],.tuple [.str [4,224,3,129,49],dd 0]⟩
theorem zZQ:k5.Holds Tryz.prog zB:=Lt.holds yA (yp zZX (yp zZ1 (yp zZT xR))) 191
def kT:Lt:=⟨16,[.slice 84 0 99 (.exact 256)],[⟨84,ws,none⟩],.tuple [.str [4,224,3,129,49],dd 0]⟩
theorem zZ0:kT.Holds Tryz.prog zB:=Lt.holds yA (yp zZ2 (yp zZV (yp zZQ xR))) 87
def kH:Lt:=⟨300,[.slice 84 0 99 (.exact 256),.str [97,98]],[⟨84,ws,none⟩],dd 0⟩
theorem zZU:kH.Holds Tryz.prog zB:=Lt.holds yA xR 87
def kL:Lt:=⟨301,[.slice 84 0 99 (.exact 256),.str [97,98]],[⟨84,ws,none⟩],.str [5]⟩
theorem zZW:kL.Holds Tryz.prog zB:=Lt.holds yA xR 87
theorem zEY:zAg (run zB (zFV [kS,kD,kT,kH,kL]) 1000000 29 [] H0)=true:=da
theorem zKQ:(zB.fn.get 29).isSome=true:=da
theorem OW{h:H}{Q:Uc}(a:Q (.bool true) h):RF Tryz.prog zB 29 [] h Q:=by obtain⟨h',e⟩:=zDo zEY;have s:SimF Tryz.prog 29 [] H0 (.ret (.bool true) h'):=KH yA (yp zUK (yp zZS (yp zZ0 (yp zZU (yp zZW xR))))) e;exact⟨_,h,⟨Option.isSome_iff_exists.1 zKQ,s.frame⟩,a⟩
end Go.Proofs.YtnpeieeomokomaaGreat
