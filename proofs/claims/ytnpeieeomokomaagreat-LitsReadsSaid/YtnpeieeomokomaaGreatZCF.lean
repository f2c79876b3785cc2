/- CF. No condition. -/
import Derived.Test.YtnpeieeomokomaaGreatZCtx
import Derived.Test.YtnpeieeomokomaaGreatZS
import Derived.Test.YtnpeieeomokomaaGreatZW
import Derived.Test.YtnpeieeomokomaaGreatZCD
import Derived.Test.YtnpeieeomokomaaGreatZCT
namespace Go.Proofs.YtnpeieeomokomaaGreat
open Go.Sim
theorem zVN:zB.ty.get 167=some ⟨167,(.slice 170),1,24,some .nilslice,false,false,false,[]⟩:=da
theorem zPp:zB.ty.get 170=some ⟨170,(.struct #[⟨ "number",3,0,false, "", "cheesepress/cheesepressref25",0⟩,⟨ "bytes",3,1,false, "", "cheesepress/cheesepressref25",8⟩,⟨ "n",3,2,false, "", "cheesepress/cheesepressref25",16⟩,⟨ "m",3,3,false, "", "cheesepress/cheesepressref25",24⟩,⟨ "end",3,4,false, "", "cheesepress/cheesepressref25",32⟩,⟨ "streams",3,5,false, "", "cheesepress/cheesepressref25",40⟩]),6,48,some (.agg [(ip 0),(ip 0),(ip 0),(ip 0),(ip 0),(ip 0)]),true,false,false,[]⟩:=da
theorem YP:zB.ty.get 176=some ⟨176,(.array 4 3),4,32,some (.agg [(ip 0),(ip 0),(ip 0),(ip 0)]),true,false,false,[]⟩:=da
theorem JW:zB.ty.get 253=some ⟨253,(.slice 257),1,24,some .nilslice,false,false,false,[]⟩:=da
theorem Zc:zB.ty.get 257=some ⟨257,(.struct #[⟨ "Bits",3,0,false, "", "",0⟩,⟨ "Value",3,1,false, "", "",8⟩]),2,16,some (.agg [(ip 0),(ip 0)]),true,false,false,[]⟩:=da
theorem z0E:zB.ty.get 311=some ⟨311,(.map 5 257),1,8,some .nilmap,false,false,false,[]⟩:=da
theorem zVO:zB.ty.get 312=some ⟨312,(.map 257 5),1,8,some .nilmap,false,false,false,[]⟩:=da
def L15:Uf:=[2]
variable {tm:Tm}{d:List AD}{h:H}{Q:Ud}
theorem z3o{a0:V}:Vb 15 6 [.tmp 2] L15 [a0] (λh Q _=>∃v0 h1,zJ zB 23 0 [] h=some (v0,h1)/\True/\∃v2 a,zn zB 23 h1 v0 a0=some (v2,a)/\Q v2 a):=vb
noncomputable def zOb:Code:=pQ 173 7
def zQP:Uf:=[2,1]
theorem zSw{y1:V}:Vy 44 zQP zOb [(1,y1)] (λ_ h _ E _ _ _ _=>zP zB 59 1 h y1 λv0 h1=>Lv 23 h1 v0 λv2=>Ln 23 h1 v2 λm=>(h1.nx<=T.top/\h1.low<=T.top)/\Br (m<1) (E [(2,(23:Int))] .ret h1) (Br ((256:Int)<m) (E [(2,(23:Int))] .ret h1) (zP zB 59 1 h1 y1 λv4 l=>Lv 23 l v4 λv6=>Rq 23 3 l v6 (zG (m-1)) λs=>Br (s=0) (E [(2,(23:Int))] .ret l) (zP zB 59 1 l y1 λv10 b=>Lv 23 b v10 λn=>Ri 242 [n] (zX b) λo f=>f.nx<=T.top/\∀a,a=yN b f->Br (o<(-1)) (E [(2,(23:Int))] .ret a) (∃g:Int,∃i,zo zB 59 a y1=some (.agg [g,i])/\Ri 243 [(.agg [g,i])] (zX a) λp c=>(a.nx<=c.low/\c.nx<=T.top)/\∀j,j=yN a c->zP zB 59 0 j y1 λq e=>Li e q λr=>∃k:Int,zj .shl .i64 1 r=some (k:V)/\Br (p≠k) (E [(2,(23:Int))] .ret e) (E [(2,(0:Int))] .ret e)))))):=vz
theorem z0e{a:Int}{b:V}:Vb 173 44 [.tmp 2] zQP [(.agg [a,b])] (λh Q K=>ZN (cond (za (V.cells (.agg [a,b]))) (Cs.ofL (V.cells (.agg [a,b]))) none) λc=>h.nx<T.top/\∀p0 h1,p0=h.nx->h1=h.new (.cells c ⟨0,60,0⟩ true false)->Li h1 (.ptr p0 (0+0)) λe=>Br (e<5) (Q (31:Int) h1) (Li h1 (.ptr p0 (0+0)) λf=>Br ((12:Int)<f) (Q (31:Int) h1) (Gz zQP (Tb.leaf zC) [(2,(0:Int)),(1,(.ptr p0 0))] λu=>Wf zQP zOb ⟨44,u,[],h1⟩ K))):=vb
def z26:Uf:=[2]
theorem z1f{a0:Int}:Vb 338 6 [.tmp 2] z26 [a0] (λh Q _=>Br (a0≠a0) (Q true h) (Q false h)):=vb
end Go.Proofs.YtnpeieeomokomaaGreat

