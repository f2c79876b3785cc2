/- Back. No condition. -/
import Derived.Test.YtnpeieeomokomaaGreatRows
import Derived.Test.YtnpeieeomokomaaGreatZBG
import Derived.Test.YtnpeieeomokomaaGreatZW
import Derived.ProofKit
import Derived.Test.YtnpeieeomokomaaGreatZJn
set_option maxRecDepth 100000
namespace Go.Proofs.YtnpeieeomokomaaGreat
section
open Go.Sim Go.ChangeShapes Go.WideShapes Go.ChangeAt Go.RowKit
theorem GN:laidOutB Tryz.prog=true:=de
theorem cj{H:Type}{enc:TypeId×Value->H}{P:Program}{w:World}{base:Nat}{spare:Nat->Bool}{held:Bool}{g m i n:TypeId}{args:Array Value}{j:List (DataW H)}{ps:List MemPlace}(h:DataW.TrodAll enc P w base spare held [g,m,i,n] args.toList j ps):
  ∃v0 v1 e k d0 d1 d2 d3 p0 l,args = #[v0,v1,e,k]/\j=[d0,d1,d2,d3]/\DataW.Trod enc P w base spare held g v0 d0 p0/\DataW.Trod enc P w base spare held i e d2 l:=by
 obtain⟨v0,o,d0,p,p0,q0,f,rfl,rfl,q,a⟩:=trodAll_cons h;obtain⟨v1,r,d1,s,B,C,rfl,rfl,rfl,t,b⟩:=trodAll_cons a;obtain⟨e,u,d2,v,l,D,rfl,rfl,rfl,x,c⟩:=trodAll_cons b;obtain⟨k,y,d3,z,p3,E,rfl,rfl,rfl,A,d⟩:=trodAll_cons c;obtain⟨rfl,rfl,rfl⟩:=trodAll_nil d<;>grind
theorem lU{H:Type}{enc:TypeId×Value->H}{W:World}{base:Nat}{v0 v1 c g:Value}{d0 d2:DataW H}{p0 j:List MemPlace}(w0:Value.okWide Tryz.prog W .any base 23 v0)(n:Value.okWide Tryz.prog W .any base 3 v1)(w2:Value.okWide Tryz.prog W .any base 23 c)(o:Value.okWide Tryz.prog W .any base 9 g)(h0:DataW.Trod enc Tryz.prog W 0 (λ_=>true) true 23 v0 d0 p0)(h2:DataW.Trod enc Tryz.prog W 0 (λ_=>true) true 23 c d2 j):
  Calls Tryz.prog 8 #[v0,v1,c,g] W λe W'=>e = .returned (.bool true)/\Below W.heap.size W W':=by
 obtain⟨l0,d,q0⟩:=PH Tryz.underlying23 Tryz.underlying3 w0 h0;obtain⟨a,rfl⟩:=okWide_int Tryz.underlying3 n;obtain⟨b,r1,p⟩:=PH Tryz.underlying23 Tryz.underlying3 w2 h2;obtain⟨m,rfl⟩:=okWide_string Tryz.underlying9 o;have s:Sl (ZK (zI l0) (zI b)) (ab 0 l0.length v0) 1 l0.length (zI l0):=Aq d _;have s1:Sl (ZK (zI l0) (zI b)) (ab 1 b.length c) 1 b.length (zI b):=As r1 _;obtain⟨r,h',⟨_,t⟩,rfl⟩:=Is (i:=a) (more:=m.data.toList) s s1 q0 p (by rw[qm];exact of_decide_eq_true de) (oR _);have h:∀(l:Ub),∀q∈zI l,Plain q:=λl q f=>by obtain⟨_,_,rfl⟩:=List.mem_map.1 f;exact zN _ _
 have k:=t.calls2 (Aa d r1 (h l0) (h b)) (λq f=>by
  simp only[oq,List.not_mem_nil,or_false]at f;rcases f with rfl|rfl|rfl|rfl
  .exact Ao d
  .exact(zN _ _).2 _
  .exact Ap r1
  exact(yR _).2 _)
 simp only[List.map_cons,List.map_nil,I8 d,I9 r1]at k;simpa [V.conc]using k
theorem nO(os:Os)(a:os.Started)(H:Type)(enc:TypeId×Value->H):
  ReturnsInHanded {} Tryz.checked os 8 .any (Rows.litsBackSpec.pre6 enc Tryz.prog Tryz.f8 Rows.litsBackRow.domain false) (Rows.litsBackSpec.post enc Tryz.prog Tryz.f8 false true false false):=by
 refine returnsInHanded_of_change (C:=Tryz.checked) own a de Tryz.func8
  (ChangeSpec.witness6 (enc:=enc) (C:=Tryz.checked) false ⟨#[],#[.slice none 0 0,.int .i64 0,.slice none 0 0,.string ⟨#[]⟩],[]⟩ 8 de de de de) ?_
 intro W base args i r c b g _ _;have xN:∀(j:Nat) t v,Tryz.f8.params[j]? = some t->args[j]? = some v->Value.okWide Tryz.prog W .any base t v:=b;have d:=g;obtain⟨p,q,f,k,rfl,_,_⟩:=g;have h:DataW.TrodAll enc Tryz.prog W 0 (λ_=>true) true Tryz.f8.params.toList args.toList i p:=f;rw[Tryz.params8]at h xN;obtain⟨v0,v1,l,m,d0,d1,d2,d3,p0,s,rfl,rfl,n,h2⟩:=cj h;obtain⟨rfl,rfl⟩:=trodVars_none k;refine(lU (xN 0 23 v0 rfl rfl) (xN 1 3 v1 rfl rfl) (xN 2 23 l rfl rfl) (xN 3 9 m rfl rfl) n h2).mono λe W' ⟨o,hb⟩=>⟨_,o,?_⟩
 exact LQ GN (by rw[Tryz.params8];kernel_rfl) d hb rfl Tryz.underlying4 rfl rfl (by exact(rfl:([]:List MemPlace)=[]))
end
section
open Go.Sim Go.ChangeShapes Go.WideShapes Go.ChangeAt Go.RowKit
theorem litsBack_holds:Rows.LitsBackSaid :=
 OpenClaim.holds_of_wide 8 Tryz.f8 rfl rfl rfl rfl rfl rfl rfl ⟨rfl,rfl,rfl,rfl,rfl⟩ rfl rfl rfl rfl rfl vB Tryz.func8 nM uy uz
  (λos a H b _=>nO os a H b)
end
end Go.Proofs.YtnpeieeomokomaaGreat
