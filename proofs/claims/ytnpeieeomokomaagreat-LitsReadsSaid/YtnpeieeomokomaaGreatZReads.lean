/- Reads. No condition. -/
import Derived.Test.YtnpeieeomokomaaGreatZTU
import Derived.Test.YtnpeieeomokomaaGreatZW
import Derived.ProofKit
import Derived.Test.YtnpeieeomokomaaGreatZJn
set_option maxRecDepth 100000
namespace Go.Proofs.YtnpeieeomokomaaGreat
open Go.Sim Go.ChangeShapes Go.WideShapes Go.ChangeAt Go.RowKit
theorem zN2:laidOutB Tryz.prog=true:=da
theorem zDu{H:Type}{enc:TypeId×Value->H}{P:Program}{w:World}{base:Nat}{spare:Nat->Bool}{held:Bool}{k l i m:TypeId}{args:Array Value}{j:List (DataW H)}{ps:List MemPlace}(h:DataW.TrodAll enc P w base spare held [k,l,i,m] args.toList j ps):
  ∃v0 v1 v2 v3 d0 d1 d2 d3 e,args = #[v0,v1,v2,v3]/\j=[d0,d1,d2,d3]/\DataW.Trod enc P w base spare held i v2 d2 e:=by
 obtain⟨v0,n,d0,o,p0,q0,f,rfl,rfl,p,a⟩:=trodAll_cons h;obtain⟨v1,q,d1,r,z,A,rfl,rfl,rfl,s,b⟩:=trodAll_cons a;obtain⟨v2,t,d2,u,e,B,rfl,rfl,rfl,g,c⟩:=trodAll_cons b;obtain⟨v3,v,d3,x,C,D,rfl,rfl,rfl,y,d⟩:=trodAll_cons c;obtain⟨rfl,rfl,rfl⟩:=trodAll_nil d;exact⟨v0,v1,v2,v3,d0,d1,d2,d3,e,by cases args;simp_all,rfl,g⟩
theorem zB2{H:Type}{enc:TypeId×Value->H}{W:World}{base:Nat}{v0 v1 v2 v3:Value}{d2:DataW H}{f:List MemPlace}(w0:Value.okWide Tryz.prog W .any base 9 v0)(h:Value.okWide Tryz.prog W .any base 3 v1)(j:Value.okWide Tryz.prog W .any base 23 v2)(n:Value.okWide Tryz.prog W .any base 3 v3)(o:DataW.Trod enc Tryz.prog W 0 (λ_=>true) true 23 v2 d2 f):Calls Tryz.prog 7 #[v0,v1,v2,v3] W λe W'=>e = .returned (.bool true)/\Below W.heap.size W W':=by
 obtain⟨s,rfl⟩:=okWide_string Tryz.underlying9 w0;obtain⟨a,rfl⟩:=okWide_int Tryz.underlying3 h;obtain⟨m,rfl⟩:=okWide_int Tryz.underlying3 n;obtain⟨l0,c,_⟩:=zRU Tryz.underlying23 Tryz.underlying3 da j o;have r1:Go.Sim.Rd W (.slice none 0 0) 1 0 []:=⟨rfl,.inl ⟨rfl,rfl⟩⟩;have p:Sl (ZE (zV l0) []) (ab 0 l0.length v2) 1 l0.length (zV l0):=zV9 c [];have t:l0.length=0->yr 1 (ZE (zV l0) []) (ab 0 l0.length v2)=some (0,[]):=by
  intro q0;have:l0=[]:=List.eq_nil_of_length_eq_zero q0;subst this;rcases zUA (i:=0) c with⟨d,_⟩|⟨cap,_,d⟩
  .rw[d];rfl
  rw[d];have g:=qA (zV []) [];unfold yr;simp only[g];rfl
 obtain⟨r,h',⟨_,u⟩,rfl⟩:=zLB (s:=s.data.toList) (x:=a) (most:=m) (Q:=λr _=>r = .bool true) ⟨p,t⟩ (by rw[ZU];exact of_decide_eq_true da) (oV _) λ_=>rfl
 have v:∀(l:Ub),∀q∈zV l,Plain q:=λl q b=>by obtain⟨_,_,rfl⟩:=List.mem_map.1 b;exact zL _ _
 have k:=u.calls2 (zVV c r1 (v l0) (λq b=>by cases b)) (λq b=>by
  simp only[oq,List.not_mem_nil,or_false]at b;rcases b with rfl|rfl|rfl|rfl
  .exact(yx _).2 _
  .exact(zL _ _).2 _
  .exact zV8 c
  exact(zL _ _).2 _)
 simp only[List.map_cons,List.map_nil,zLu c]at k;simpa [V.conc]using k
theorem Jp(os:Os)(b:os.Started)(H:Type)(enc:TypeId×Value->H):
  ReturnsInHanded {} Tryz.checked os 7 .any (Rows.litsReadsSpec.pre6 enc Tryz.prog Tryz.f7 Rows.litsReadsRow.domain false) (Rows.litsReadsSpec.post enc Tryz.prog Tryz.f7 false true false false):=by
 refine returnsInHanded_of_change (C:=Tryz.checked) own b da Tryz.func7
  (ChangeSpec.witness6 (enc:=enc) (C:=Tryz.checked) false ⟨#[],#[.string ⟨#[]⟩,.int .i64 0,.slice none 0 0,.int .i64 0],[]⟩ 8 da da da da) ?_
 intro W base args k s d c h _ _;have a:∀(j:Nat) t v,Tryz.f7.params[j]? = some t->args[j]? = some v->Value.okWide Tryz.prog W .any base t v:=c;have f:=h;obtain⟨p,q,g,l,rfl,_,_⟩:=h;have i:DataW.TrodAll enc Tryz.prog W 0 (λ_=>true) true Tryz.f7.params.toList args.toList k p:=g;rw[Tryz.params7]at i a;obtain⟨v0,v1,m,n,d0,d1,d2,d3,u,rfl,rfl,o⟩:=zDu i;obtain⟨rfl,rfl⟩:=trodVars_none l;refine(zB2 (a 0 9 v0 rfl rfl) (a 1 3 v1 rfl rfl) (a 2 23 m rfl rfl) (a 3 3 n rfl rfl) o).mono λe W' ⟨r,hb⟩=>⟨_,r,?_⟩
 exact zKm zN2 (by rw[Tryz.params7];kernel_rfl) f hb rfl Tryz.underlying4 rfl rfl (by exact(rfl:([]:List MemPlace)=[]))
theorem litsReads_holds:Rows.LitsReadsSaid :=
 OpenClaim.holds_of_wide 7 Tryz.f7 rfl rfl rfl rfl rfl rfl rfl ⟨rfl,rfl,rfl,rfl,rfl⟩ rfl rfl rfl rfl rfl Kt Tryz.func7 Jo zAD zAE
  (λos a H b _=>Jp os a H b)
end Go.Proofs.YtnpeieeomokomaaGreat
