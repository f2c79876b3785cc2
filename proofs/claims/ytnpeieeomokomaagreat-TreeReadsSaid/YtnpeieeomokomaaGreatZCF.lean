/- CF. No condition. -/
import Derived.Test.YtnpeieeomokomaaGreatZCtx
import Derived.Test.YtnpeieeomokomaaGreatZV
import Derived.Test.YtnpeieeomokomaaGreatZY
import Derived.Test.YtnpeieeomokomaaGreatZCE
import Derived.Test.YtnpeieeomokomaaGreatZCT
namespace Go.Proofs.YtnpeieeomokomaaGreat
open Go.Sim
end Go.Proofs.YtnpeieeomokomaaGreat
namespace Go.Proofs.YtnpeieeomokomaaGreat
open Go.Sim
end Go.Proofs.YtnpeieeomokomaaGreat
namespace Go.Proofs.YtnpeieeomokomaaGreat
open Go.Sim
end Go.Proofs.YtnpeieeomokomaaGreat
namespace Go.Proofs.YtnpeieeomokomaaGreat
open Go.Sim
noncomputable def b173:Code:=bodyOf Tryz.f173
noncomputable def r173_0:Code:=pth b173 [1,1]
theorem fn173:(ctx.fn.get 173).map slimF=some ⟨44,[.tmp 2],b173⟩:=by kernel_rfl
def L173:List Nat:=[2,1]
abbrev W173 (b:Bool):Code→St→(AX→St→Prop)→Prop:=wpS Tryz.prog ctx L173 4 b
theorem vr173_0 {tm:Tm}  {y1:V} {d:List AD} {h:H} {Q:AX→St→Prop}:W173 false r173_0 ⟨44,(putAll tm [(1,y1)]),d,h⟩ (sealQ L173 Q)=(wpFA ctx 59 1 h y1 (fun v0 h1=>∃ (v2:V),ald ctx 23 h1 v0=some v2∧∃ (x3:Int),alen ctx 23 h1 v2=some (.int .i64 x3)∧((h1.next≤T.top∧h1.low≤T.top)∧((x3<(1:Int)→(∀ tm',facts tm tm' [ss 2 (.int .i64 (23:Int)),ss 1 y1] (Q .ret ⟨44,tm',d,h1⟩)))∧(¬(x3<(1:Int))→(((256:Int)<x3→(∀ tm',facts tm tm' [ss 2 (.int .i64 (23:Int)),ss 1 y1] (Q .ret ⟨44,tm',d,h1⟩)))∧(¬((256:Int)<x3)→wpFA ctx 59 1 h1 y1 (fun v4 h5=>∃ (v6:V),ald ctx 23 h5 v4=some v6∧∃ p7 o8,aidx ctx 23 v6 (.int .i64 (w64 (x3-(1:Int))))=some (.ptr p7 o8)∧∃ (x9:Int),ald ctx 3 h5 (.ptr p7 o8)=some (.int .i64 x9)∧((x9=(0:Int)→(∀ tm',facts tm tm' [ss 2 (.int .i64 (23:Int)),ss 1 y1] (Q .ret ⟨44,tm',d,h5⟩)))∧(¬(x9=(0:Int))→wpFA ctx 59 1 h5 y1 (fun v10 h11=>∃ (v12:V),ald ctx 23 h11 v10=some v12∧RF Tryz.prog ctx 242 [v12] (topH h11) (fun v13 h14=>∃ (x15:Int),v13=(.int .i64 x15)∧(h14.next≤T.top∧∀ h16,h16=lowM h11 h14→((x15<(-1:Int)→(∀ tm',facts tm tm' [ss 2 (.int .i64 (23:Int)),ss 1 y1] (Q .ret ⟨44,tm',d,h16⟩)))∧(¬(x15<(-1:Int))→∃ (x17:Int) (v18:V),ald ctx 59 h16 y1=some (.agg [(.int .i64 x17),v18])∧RF Tryz.prog ctx 243 [(.agg [(.int .i64 x17),v18])] (topH h16) (fun v19 h20=>∃ (x21:Int),v19=(.int .i64 x21)∧((h16.next≤h20.low∧h20.next≤T.top)∧∀ h22,h22=lowM h16 h20→wpFA ctx 59 0 h22 y1 (fun v23 h24=>∃ (x25:Int),ald ctx 3 h24 v23=some (.int .i64 x25)∧∃ (x26:Int),intB .shl .i64 (1:Int) x25=some (.int .i64 x26)∧((x21≠x26→(∀ tm',facts tm tm' [ss 2 (.int .i64 (23:Int)),ss 1 y1] (Q .ret ⟨44,tm',d,h24⟩)))∧(¬(x21≠x26)→(∀ tm',facts tm tm' [ss 2 (.int .i64 (0:Int)),ss 1 y1] (Q .ret ⟨44,tm',d,h24⟩)))))))))))))))))))))):=by kernel_rfl
theorem vb173  {a0_0:Int} {a0_1:V} {h:H} {Q:V→H→Prop}:W173 false b173 ⟨44,setArgs [(.agg [(.int .i64 a0_0),a0_1])] 0 (Tb.leaf undefV),[],h⟩ (endW ctx ⟨44,[.tmp 2],b173⟩ Q)=(wpCs (cond (allOne (V.cells (.agg [(.int .i64 a0_0),a0_1]))) (Cs.ofL (V.cells (.agg [(.int .i64 a0_0),a0_1]))) none) (fun cs2=>h.next<T.top∧∀ p0 h1,p0=h.next→h1=h.new (.cells cs2 ⟨0,60,0⟩ true false)→∃ (x3:Int),ald ctx 3 h1 (.ptr p0 (0+0))=some (.int .i64 x3)∧((x3<(5:Int)→Q (.int .i64 (31:Int)) h1)∧(¬(x3<(5:Int))→∃ (x4:Int),ald ctx 3 h1 (.ptr p0 (0+0))=some (.int .i64 x4)∧(((12:Int)<x4→Q (.int .i64 (31:Int)) h1)∧(¬((12:Int)<x4)→(∀ tm',facts (Tb.leaf undefV) tm' [ss 2 (.int .i64 (0:Int)),ss 1 (.ptr p0 0)] (W173 false r173_0 ⟨44,tm',[],h1⟩ (endW ctx ⟨44,[.tmp 2],b173⟩ Q))))))))):=by kernel_rfl
end Go.Proofs.YtnpeieeomokomaaGreat
namespace Go.Proofs.YtnpeieeomokomaaGreat
open Go.Sim
end Go.Proofs.YtnpeieeomokomaaGreat

