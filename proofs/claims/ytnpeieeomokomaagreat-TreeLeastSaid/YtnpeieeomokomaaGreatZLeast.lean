/- Least. No condition. -/
import Derived.Test.YtnpeieeomokomaaGreatZTR
import Derived.Test.YtnpeieeomokomaaGreatZW
import Derived.ProofKit
import Derived.Test.YtnpeieeomokomaaGreatZJn
set_option maxRecDepth 100000
namespace Go.Proofs.YtnpeieeomokomaaGreat
open Go.Sim Go.ChangeShapes Go.WideShapes Go.ChangeAt Go.RowKit
theorem zNa:laidOutB Tryz.prog=true:=by kernel_rfl
theorem zRr (W:World):Go.Sim.Rd W (.slice none 0 0) 1 0 []:=⟨rfl,.inl ⟨rfl,rfl⟩⟩
theorem zB2 {H:Type}{enc:TypeId×Value->H}{W:World}{base:Nat}{v0 v1 v2:Value}{d0:DataW H}{p0:List MemPlace}(w0:Value.okWide Tryz.prog W .any base 23 v0) (w1:Value.okWide Tryz.prog W .any base 3 v1) (w2:Value.okWide Tryz.prog W .any base 3 v2)
  (h0:DataW.Trod enc Tryz.prog W 0 (λ_=>true) true 23 v0 d0 p0) :
  Calls Tryz.prog 6 #[v0,v1,v2] W λe W'=>e = .returned (.bool true)/\Below W.heap.size W W':=by
 obtain⟨l0,r0,q0⟩:=zRq Tryz.underlying23 Tryz.underlying3 (by kernel_rfl) w0 h0;obtain⟨a,rfl⟩:=okWide_int Tryz.underlying3 w1;obtain⟨b,rfl⟩:=okWide_int Tryz.underlying3 w2;have r1:=zRr W;have s0:Sl (ZK (zJ l0) []) (ab 0 l0.length v0) 1 l0.length (zJ l0):=zVr r0 [];obtain⟨r,h',⟨_,sf⟩,rfl⟩:=zKh (Q:=λr _=>r = .bool true) (many:=a) (cut:=b) s0 (by rw[qp];exact of_decide_eq_true (by kernel_rfl)) (oP _) λ_=>rfl
 have px:∀(l:List Int),∀q∈zJ l,Plain q:=λl q hq=>by obtain⟨_,_,rfl⟩:=List.mem_map.1 hq;exact ye _ _
 have k:=sf.calls2 (zV2 r0 r1 (px l0) (λ_ h=>by cases h)) (λq hq=>by
  simp only[od,List.not_mem_nil,or_false]at hq;rcases hq with rfl|rfl|rfl
  ·exact zVq r0
  ·exact(ye _ _).2 _
  ·exact(ye _ _).2 _)
 simp only[List.map_cons,List.map_nil,zLr r0]at k;simpa [V.conc]using k
theorem KA (os:Os) (started:os.Started) (H:Type) (enc:TypeId×Value->H) :
  ReturnsInHanded {} Tryz.checked os 6 .any (Rows.treeLeastSpec.pre6 enc Tryz.prog Tryz.f6 Rows.treeLeastRow.domain false) (Rows.treeLeastSpec.post enc Tryz.prog Tryz.f6 false true false false):=by
 refine returnsInHanded_of_change (C:=Tryz.checked) own started (by kernel_rfl) Tryz.func6
  (ChangeSpec.witness6 (enc:=enc) (C:=Tryz.checked) false ⟨#[],#[.slice none 0 0,.int .i64 0,.int .i64 0],[]⟩ 8 (by kernel_rfl) (by kernel_rfl) (by kernel_rfl) (by kernel_rfl)) ?_
 intro W base args ds gs before hval0 hW _ _;have hval:∀(j:Nat) t v,Tryz.f6.params[j]? = some t->args[j]? = some v->Value.okWide Tryz.prog W .any base t v:=hval0;have hW':=hW;obtain⟨p,q,hA0,hV,rfl,_,_⟩:=hW;have hA:DataW.TrodAll enc Tryz.prog W 0 (λ_=>true) true Tryz.f6.params.toList args.toList ds p:=hA0;rw[Tryz.params6]at hA hval;obtain⟨v0,v1,v2,d0,d1,d2,p0,p1,p2,rfl,rfl,rfl,h0,h1,h2⟩:=trodAll_three hA;obtain⟨rfl,rfl⟩:=trodVars_none hV;refine(zB2 (hval 0 23 v0 rfl rfl) (hval 1 3 v1 rfl rfl) (hval 2 3 v2 rfl rfl) h0).mono λe W' ⟨he,hb⟩=>⟨_,he,?_⟩
 exact zLD zNa (by rw[Tryz.params6];kernel_rfl) hW' hb rfl Tryz.underlying4 rfl rfl (by exact(rfl:([]:List MemPlace)=[]))
theorem treeLeast_holds:Rows.TreeLeastSaid :=
 OpenClaim.holds_of_wide 6 Tryz.f6 rfl rfl rfl rfl rfl rfl rfl ⟨rfl,rfl,rfl,rfl,rfl⟩ rfl rfl rfl rfl rfl Kp Tryz.func6 Jz zAj zAk
  (λos started H enc _=>KA os started H enc)
end Go.Proofs.YtnpeieeomokomaaGreat
