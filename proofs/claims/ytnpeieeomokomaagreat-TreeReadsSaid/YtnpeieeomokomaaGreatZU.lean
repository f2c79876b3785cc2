/- U. No condition. -/
import Derived.Test.YtnpeieeomokomaaGreatZS
import Derived.ProofKit
namespace Go.Sim
open Go.RowKit Go.ChangeShapes Go.WideShapes Go.ChangeAt
def H0:H:={ tbl:=.leaf,next:=0,low:=T.top }
def env0:Env:={ blk:=fun _=>0,off:=fun _=>0,cap:=fun _=>0 }
theorem HR_none (ρ:Env) (w:World):HR ρ (fun _=>False) H0 w :=
 ⟨Nat.zero_le _,fun _ h=>h.elim,fun _ _ h=>h.elim,fun _ _ _ _ h=>h.elim⟩
theorem SimF.calls {P:Program} {f:Nat} {args:List V} {v:V} {h:H} (s:SimF P f args H0 (.ret v h)) (hin:∀ v∈args,v.In fun _=>False) (W:World) :
  Calls P f (args.map (V.conc env0)).toArray W fun e W'=>∃ ρ,e = .returned (v.conc ρ)∧Below W.heap.size W W':=by
 have h1:=s env0 (fun _=>False) W (HR_none _ _) hin
 refine CallsIn.calls (F:=Fx none) (CallsIn.mono h1 ?_) (Fx_room none)
 rintro e W' ⟨ρ,rfl,m,_,_⟩
 exact ⟨ρ,rfl,m.os,m.tape,m.output,m.size,fun k hk=>m.frame k hk fun _ _ hj=>hj.elim⟩
theorem SimF.says {P:Program} {f:Nat} {args:List V} {h:H} (s:SimF P f args H0 (.ret (.bool true) h)) (hin:∀ v∈args,v.In fun _=>False) (W:World) :
  Calls P f (args.map (V.conc env0)).toArray W fun e W'=>e = .returned (.bool true)∧Below W.heap.size W W' :=
 (s.calls hin W).mono fun _ _ ⟨_,he,hb⟩=>⟨he,hb⟩
def saysTrue:Option CallOut→Bool
 | some (.ret (.bool true) _)=>true
 | _=>false
theorem saysTrue_iff {r:Option CallOut} (h:saysTrue r=true):∃ h',r=some (.ret (.bool true) h'):=by
 unfold saysTrue at h
 split at h
 ·rename_i h'; exact ⟨h',rfl⟩
 ·cases h
theorem post_true {H:Type} {enc:TypeId×Value→H} {P:Program} {f:Func} {s:ChangeSpec} {W W':World} {args:Array Value} {ds gs:List (DataW H)} {before pa pv:List MemPlace} {bt:TypeId}
  (hW:DataW.Whole enc P f.params.toList s.vars false W args.toList ds gs before) (hb:Below W.heap.size W W') (hr:f.resultTypes = #[bt]) (ht:P.underlying bt=some .bool)
  (er:(s.fn H (ds++gs)).results=[.lit (.bool true)])
  (ha:DataW.TrodAll enc P W' 0 (fun b=>decide (b<W.heap.size)) true f.params.toList args.toList (s.fn H (ds++gs)).args pa)
  (hv:DataW.TrodVars enc P W' (fun b=>decide (b<W.heap.size)) s.vars (s.fn H (ds++gs)).vars pv) :
  s.post enc P f false true false false W args (.bool true) W':=by
 refine ⟨ds,gs,before,[],pa,pv,hW,?_,ha,hv,hb.frame _,fun h=>by cases h⟩
 rw [er,hr]
 exact trodAll_mk1 ⟨1,by simp [DataW.trod,Value.cells,ht]⟩
end Go.Sim
