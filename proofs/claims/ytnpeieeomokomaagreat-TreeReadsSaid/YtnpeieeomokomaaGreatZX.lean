/- X. No condition. -/
import Derived.Test.YtnpeieeomokomaaGreatZV
import Derived.Test.YtnpeieeomokomaaGreatZU
import Derived.Test.YtnpeieeomokomaaGreatZW
import Derived.ProofKit
import Derived.Test.YtnpeieeomokomaaGreatZS
import Derived.ChangeSlices
import Derived.Carry
import Derived.ChangeOld
namespace Go.Sim
theorem Dx_same (D:Nat→Prop) (h:H):Dx D h h=D:=by
 funext id
 exact propext ⟨fun e=>e.elim (fun q=>q) (fun q=>by omega),.inl⟩
theorem SimF.frame {P:Program} {f:Nat} {b:Bool} {h0 h:H} (s:SimF P f [] H0 (.ret (.bool b) h0)):SimF P f [] h (.ret (.bool b) h):=by
 intro ρ D w hr _
 have h1:=s env0 (fun _=>False) w (HR_none _ _) (by simp)
 refine CallsIn.mono h1 ?_
 rintro e w' ⟨ρ',rfl,m,_,_⟩
 have fr:∀ r,r<w.heap.size→w'.heap[r]? = w.heap[r]?:=fun k hk=>m.frame k hk fun _ _ hj=>hj.elim
 refine ⟨ρ,rfl,⟨Nat.le_refl _,m.size,m.os,m.tape,m.output,fun _ _=>⟨rfl,rfl,rfl⟩,fun id o' _ hg=>⟨o',hg,rfl⟩,fun id o' g1 g2 _=>by omega,fun r hr _=>fr r hr,Nat.le_refl _,fun _ _ _=>rfl⟩,?_,trivial⟩
 rw [Dx_same]
 refine ⟨hr.cap,hr.lt,fun id o hd hg=>?_,hr.inj⟩
 have h2:=hr.rel id o hd hg
 rcases Nat.lt_or_ge (ρ.blk id) w.heap.size with q | q
 ·rw [fr _ q]; exact h2
 ·exfalso
  rw [Array.getElem?_eq_none q] at h2
  cases o <;> simp [ORel] at h2
def Plain (x:V):Prop:=(∀ ρ,x.conc ρ=x.conc env0)∧∀ D,x.In D
theorem plain_int (k:IntKind) (n:Int):Plain (.int k n):=⟨fun _=>by simp [V.conc],fun _=>by simp [V.In]⟩
theorem plain_bool (b:Bool):Plain (.bool b):=⟨fun _=>by simp [V.conc],fun _=>by simp [V.In]⟩
theorem plain_str (l:List UInt8):Plain (.str l):=⟨fun _=>by simp [V.conc],fun _=>by simp [V.In]⟩
theorem plain_agg {l:List V} (h:∀ x∈l,Plain x):Plain (.agg l) :=
 ⟨fun ρ=>by
  simp only [V.conc,V.concL_eq]
  rw [List.map_congr_left fun x hx=>(h x hx).1 ρ],fun D=>by
  simp only [V.In]
  exact V.InL_iff.2 fun x hx=>(h x hx).2 D⟩
theorem plain_tuple {l:List V} (h:∀ x∈l,Plain x):Plain (.tuple l) :=
 ⟨fun ρ=>by
  simp only [V.conc,V.concL_eq]
  rw [List.map_congr_left fun x hx=>(h x hx).1 ρ],fun D=>by
  simp only [V.In]
  exact V.InL_iff.2 fun x hx=>(h x hx).2 D⟩
theorem SimF.plain {P:Program} {f:Nat} {args:List V} {v:V} {h0 h:H} (s:SimF P f args H0 (.ret v h0)) (ha:∀ a∈args,Plain a) (hv:Plain v):SimF P f args h (.ret v h):=by
 intro ρ D w hr _
 have h1:=s env0 (fun _=>False) w (HR_none _ _) (fun a q=>(ha a q).2 _)
 have he:args.map (V.conc ρ)=args.map (V.conc env0):=List.map_congr_left fun a q=>(ha a q).1 ρ
 rw [he]
 refine CallsIn.mono h1 ?_
 rintro e w' ⟨ρ',rfl,m,_,_⟩
 have fr:∀ r,r<w.heap.size→w'.heap[r]? = w.heap[r]?:=fun k hk=>m.frame k hk fun _ _ hj=>hj.elim
 refine ⟨ρ,by rw [hv.1 ρ',hv.1 ρ],⟨Nat.le_refl _,m.size,m.os,m.tape,m.output,fun _ _=>⟨rfl,rfl,rfl⟩,fun id o' _ hg=>⟨o',hg,rfl⟩,fun id o' g1 g2 _=>by omega,fun r hr _=>fr r hr,Nat.le_refl _,fun _ _ _=>rfl⟩,?_,hv.2 _⟩
 rw [Dx_same]
 refine ⟨hr.cap,hr.lt,fun id o hd hg=>?_,hr.inj⟩
 have h2:=hr.rel id o hd hg
 rcases Nat.lt_or_ge (ρ.blk id) w.heap.size with q | q
 ·rw [fr _ q]; exact h2
 ·exfalso
  rw [Array.getElem?_eq_none q] at h2
  cases o <;> simp [ORel] at h2
theorem RF.plain {P:Program} {c:Ctx} {f:Nat} {args:List V} {h:H} {Q:V→H→Prop} (r:RF P c f args H0 fun v _=>Plain v∧Q v h) (ha:∀ a∈args,Plain a):RF P c f args h Q:=by
 obtain ⟨v,h',⟨hf,s⟩,hp,hq⟩:=r
 exact ⟨v,h,⟨hf,s.plain ha hp⟩,hq⟩
end Go.Sim
namespace Go.Sim
open Go.RowKit Go.ChangeShapes Go.WideShapes Go.ChangeAt
def hRO (l:List V):H:=H0.new (.cells (.ls l) ⟨0,0,0⟩ false false)
def envRO (b off:Nat):Env:={ blk:=fun _=>b,off:=fun _=>off,cap:=fun _=>0 }
theorem hRO_next (l:List V):(hRO l).next=1:=new_next _ _
theorem hRO_get (l:List V):(hRO l).get 0=some (.cells (.ls l) ⟨0,0,0⟩ false false):=get_new_self (h:=H0) _ (by decide)
theorem HR_RO {l:List V} {b off:Nat} {c:Array Value} {e:TypeId} {fz:Nat×Nat} {W:World} (hb:W.heap[b]? = some (.cells c e fz)) (hc:∀ i v,l[i]? = some v→c[off+i]? = some (v.conc env0)) (hv:∀ v∈l,v.conc (envRO b off)=v.conc env0) (hin2:∀ v∈l,v.In (fun i=>i=0)) :
  HR (envRO b off) (fun i=>i=0) (hRO l) W:=by
 refine ⟨by rw [hRO_next]; decide,fun i hi=>by rw [hRO_next]; omega,fun i o hi hg=>?_,fun i j oi oj hi hj hgi _ hw=>?_⟩
 ·subst hi
  rw [hRO_get] at hg
  cases hg
  refine ⟨c,e,fz,hb,fun i v h=>?_,fun i v h=>hin2 v (List.mem_of_getElem? ((Cs.getL_eq l i).symm.trans h)),fun h=>by cases h⟩
  have h':l[i]? = some v:=(Cs.getL_eq l i).symm.trans h
  rw [hv v (List.mem_of_getElem? h')]; exact hc i v h'
 ·subst hi
  rw [hRO_get] at hgi
  cases hgi; cases hw
end Go.Sim
namespace Go.Sim
open Go.RowKit Go.ChangeShapes Go.WideShapes Go.ChangeAt
variable {P:Program} {c:Ctx} {f:Nat}
end Go.Sim
namespace Go.Sim
open Go.RowKit Go.ChangeShapes Go.WideShapes Go.ChangeAt
theorem below_trodAll {H:Type} {enc:TypeId×Value→H} {P:Program} (hl:laidOutB P=true) {W W':World} (hb:Below W.heap.size W W') :
  ∀ {ts:List TypeId} {vs:List Value} {ds:List (DataW H)} {ps:List MemPlace},(ts.all fun t=>P.readableRec t && decide (t<P.types.size))=true→DataW.TrodAll enc P W 0 (fun _=>true) true ts vs ds ps→(∀ x∈ps,x.block<W.heap.size) →
   DataW.TrodAll enc P W' 0 (fun b=>decide (b<W.heap.size)) true ts vs ds ps
 | [],[],[],_,_,h,_=>h
 | _ :: _,_ :: _,_ :: _,_,ht,⟨p,q,h1,h2,e⟩,hp=>by
  simp only [List.all_cons,Bool.and_eq_true] at ht
  exact ⟨p,q,Below.trod hl ht.1.1 (of_decide_eq_true ht.1.2) h1 hb (fun x hx=>hp x (by rw [e]; exact List.mem_append_left _ hx)),below_trodAll hl hb ht.2 h2 (fun x hx=>hp x (by rw [e]; exact List.mem_append_right _ hx)),e⟩
theorem post_same {H:Type} {enc:TypeId×Value→H} {P:Program} {f:Func} {s:ChangeSpec} {W W':World} {args:Array Value} {ds gs:List (DataW H)} {before:List MemPlace} {bt:TypeId} (hl:laidOutB P=true)
  (hts:(f.params.toList.all fun t=>P.readableRec t && decide (t<P.types.size))=true) (hW:DataW.Whole enc P f.params.toList s.vars false W args.toList ds gs before) (hb:Below W.heap.size W W') (hr:f.resultTypes = #[bt]) (ht:P.underlying bt=some .bool)
  (er:(s.fn H (ds++gs)).results=[.lit (.bool true)]) (ea:(s.fn H (ds++gs)).args=ds) (hv:DataW.TrodVars enc P W' (fun b=>decide (b<W.heap.size)) s.vars (s.fn H (ds++gs)).vars []) :
  s.post enc P f false true false false W args (.bool true) W':=by
 have hlt:=hW.lt
 have hW':=hW
 obtain ⟨p,q,hA,_,rfl,_,_⟩:=hW
 exact post_true (pa:=p) (pv:=[]) hW' hb hr ht er (by rw [ea]; exact below_trodAll hl hb hts hA fun x hx=>hlt x (List.mem_append_left _ hx)) hv
section
variable {H:Type} {enc:TypeId×Value→H} {P:Program} {W:World} {base:Nat}
end
end Go.Sim
