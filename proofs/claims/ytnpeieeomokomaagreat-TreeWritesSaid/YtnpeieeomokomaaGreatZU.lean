/- U. No condition. -/
import Derived.Test.YtnpeieeomokomaaGreatZS
import Derived.ProofKit
namespace Go.Sim
open Go.RowKit Go.ChangeShapes Go.WideShapes Go.ChangeAt
def H0:H:={ tbl:=.leaf,next:=0,low:=T.top }
def zBr:Env:={ blk:=λ_=>0,off:=λ_=>0,cap:=λ_=>0 }
theorem zB2 (ρ:Env) (w:World):HR ρ (λ_=>False) H0 w :=
 ⟨oJ _,λ_ h=>h.elim,λ_ _ h=>h.elim,λ_ _ _ _ h=>h.elim⟩
def O9:Option CallOut->Bool
 | some (.ret (.bool true) _)=>true
 | _=>false
theorem zCf {r:Option CallOut}(h:O9 r=true):∃h',r=some (.ret (.bool true) h'):=by
 unfold O9 at h;split at h
 ·rename_i h';exact⟨h',rfl⟩
 ·cases h
theorem zJ6 {H:Type}{enc:TypeId×Value->H}{P:Program}{f:Func}{s:ChangeSpec}{W W':World}{args:Array Value}{ds gs:List (DataW H)}{before pa pv:List MemPlace}{bt:TypeId}
  (hW:DataW.Whole enc P f.params.toList s.vars false W args.toList ds gs before) (hb:Below W.heap.size W W') (hr:f.resultTypes = #[bt]) (ht:P.underlying bt=some .bool)
  (er:(s.fn H (ds++gs)).results=[.lit (.bool true)])
  (ha:DataW.TrodAll enc P W' 0 (λb=>decide (b<W.heap.size)) true f.params.toList args.toList (s.fn H (ds++gs)).args pa)
  (hv:DataW.TrodVars enc P W' (λb=>decide (b<W.heap.size)) s.vars (s.fn H (ds++gs)).vars pv) :
  s.post enc P f false true false false W args (.bool true) W':=by
 refine⟨ds,gs,before,[],pa,pv,hW,?_,ha,hv,hb.frame _,λh=>by cases h⟩
 rw[er,hr];exact trodAll_mk1 ⟨1,by simp[DataW.trod,Value.cells,ht]⟩
end Go.Sim
