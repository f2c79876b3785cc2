/- X. No condition. -/
import Derived.Test.YtnpeieeomokomaaGreatZV
import Derived.Test.YtnpeieeomokomaaGreatZU
import Derived.Test.YtnpeieeomokomaaGreatZW
import Derived.ProofKit
import Derived.Test.YtnpeieeomokomaaGreatZS
import Derived.ChangeSlices
import Derived.Carry
import Derived.ChangeOld
namespace Go.Sim
theorem KC (D:Nat->Prop) (h:H):Dx D h h=D:=by
 funext id
 exact propext ⟨λe=>e.elim (λq=>q) (λq=>by omega),.inl⟩
theorem SimF.frame {P:Program}{f:Nat}{b:Bool}{h0 h:H}(s:SimF P f [] H0 (.ret (.bool b) h0)):SimF P f [] h (.ret (.bool b) h):=by
 intro ρ D w hr _;have h1:=s zBr (λ_=>False) w (zB2 _ _) (by simp);refine CallsIn.mono h1 ?_;rintro e w' ⟨ρ',rfl,m,_,_⟩;have fr:∀r,r<w.heap.size->w'.heap[r]? = w.heap[r]?:=λk hk=>m.frame k hk λ_ _ hj=>hj.elim
 refine⟨ρ,rfl,⟨oO _,m.size,m.os,m.tape,m.output,λ_ _=>⟨rfl,rfl,rfl⟩,λid o' _ hg=>⟨o',hg,rfl⟩,λid o' g1 g2 _=>by omega,λr hr _=>fr r hr,oO _,λ_ _ _=>rfl⟩,?_,trivial⟩
 rw[KC];refine⟨hr.cap,hr.lt,λid o hd hg=>?_,hr.inj⟩
 have h2:=hr.rel id o hd hg;rcases Nat.lt_or_ge (ρ.blk id) w.heap.size with q|q
 ·rw[fr _ q];exact h2
 ·exfalso
  rw[Array.getElem?_eq_none q]at h2;cases o<;>simp[ORel]at h2
def Plain (x:V):Prop:=(∀ρ,x.conc ρ=x.conc zBr)/\∀D,x.In D
theorem xG (k:IntKind) (n:Int):Plain (.int k n):=⟨λ_=>by simp[V.conc],λ_=>by simp[V.In]⟩
theorem zG3 (b:Bool):Plain (.bool b):=⟨λ_=>by simp[V.conc],λ_=>by simp[V.In]⟩
theorem zJ3 (l:List UInt8):Plain (.str l):=⟨λ_=>by simp[V.conc],λ_=>by simp[V.In]⟩
theorem zJ2 {l:List V}(h:∀x∈l,Plain x):Plain (.agg l) :=
 ⟨λρ=>by
  simp only[V.conc,V.concL_eq];rw[List.map_congr_left λx hx=>(h x hx).1 ρ],λD=>by
  simp only[V.In];exact V.InL_iff.2 λx hx=>(h x hx).2 D⟩
theorem zEP {l:List V}(h:∀x∈l,Plain x):Plain (.tuple l) :=
 ⟨λρ=>by
  simp only[V.conc,V.concL_eq];rw[List.map_congr_left λx hx=>(h x hx).1 ρ],λD=>by
  simp only[V.In];exact V.InL_iff.2 λx hx=>(h x hx).2 D⟩
theorem SimF.plain {P:Program}{f:Nat}{args:List V}{v:V}{h0 h:H}(s:SimF P f args H0 (.ret v h0)) (ha:∀a∈args,Plain a) (hv:Plain v):SimF P f args h (.ret v h):=by
 intro ρ D w hr _;have h1:=s zBr (λ_=>False) w (zB2 _ _) (λa q=>(ha a q).2 _)
 have he:args.map (V.conc ρ)=args.map (V.conc zBr):=List.map_congr_left λa q=>(ha a q).1 ρ
 rw[he];refine CallsIn.mono h1 ?_;rintro e w' ⟨ρ',rfl,m,_,_⟩;have fr:∀r,r<w.heap.size->w'.heap[r]? = w.heap[r]?:=λk hk=>m.frame k hk λ_ _ hj=>hj.elim
 refine⟨ρ,by rw[hv.1 ρ',hv.1 ρ],⟨oO _,m.size,m.os,m.tape,m.output,λ_ _=>⟨rfl,rfl,rfl⟩,λid o' _ hg=>⟨o',hg,rfl⟩,λid o' g1 g2 _=>by omega,λr hr _=>fr r hr,oO _,λ_ _ _=>rfl⟩,?_,hv.2 _⟩
 rw[KC];refine⟨hr.cap,hr.lt,λid o hd hg=>?_,hr.inj⟩
 have h2:=hr.rel id o hd hg;rcases Nat.lt_or_ge (ρ.blk id) w.heap.size with q|q
 ·rw[fr _ q];exact h2
 ·exfalso
  rw[Array.getElem?_eq_none q]at h2;cases o<;>simp[ORel]at h2
theorem RF.plain {P:Program}{c:Ctx}{f:Nat}{args:List V}{h:H}{Q:V->H->Prop}(r:RF P c f args H0 λv _=>Plain v/\Q v h) (ha:∀a∈args,Plain a):RF P c f args h Q:=by
 obtain⟨v,h',⟨hf,s⟩,hp,hq⟩:=r;exact⟨v,h,⟨hf,s.plain ha hp⟩,hq⟩
open Go.RowKit Go.ChangeShapes Go.WideShapes Go.ChangeAt
def hRO (l:List V):H:=H0.new (.cells (.ls l) ⟨0,0,0⟩ false false)
def zDf (b off:Nat):Env:={ blk:=λ_=>b,off:=λ_=>off,cap:=λ_=>0 }
theorem wp (l:List V):(hRO l).next=1:=zI _ _
theorem Ys (l:List V):(hRO l).get 0=some (.cells (.ls l) ⟨0,0,0⟩ false false):=zw (h:=H0) _ (by decide)
theorem zXf {l:List V}{b off:Nat}{c:Array Value}{e:TypeId}{fz:Nat×Nat}{W:World}(hb:W.heap[b]? = some (.cells c e fz)) (hc:∀i v,l[i]? = some v->c[off+i]? = some (v.conc zBr)) (hv:∀v∈l,v.conc (zDf b off)=v.conc zBr) (hin2:∀v∈l,v.In (λi=>i=0)) :
  HR (zDf b off) (λi=>i=0) (hRO l) W:=by
 refine⟨by rw[wp];decide,λi hi=>by rw[wp];omega,λi o hi hg=>?_,λi j oi oj hi hj hgi _ hw=>?_⟩
 ·subst hi
  rw[Ys]at hg;cases hg;refine⟨c,e,fz,hb,λi v h=>?_,λi v h=>hin2 v (List.mem_of_getElem? ((Cs.getL_eq l i).symm.trans h)),λh=>by cases h⟩
  have h':l[i]? = some v:=(Cs.getL_eq l i).symm.trans h;rw[hv v (List.mem_of_getElem? h')];exact hc i v h'
 ·subst hi
  rw[Ys]at hgi;cases hgi;cases hw
variable {P:Program}{c:Ctx}{f:Nat}
end Go.Sim
namespace Go.Sim
open Go.RowKit Go.ChangeShapes Go.WideShapes Go.ChangeAt
def Rd (W:World) (v:Value) (esz n:Nat) (xs:List V):Prop :=
 xs.length=n*esz/\((v = .slice none 0 0/\n=0)\/∃b off cap cs e fz,v = .slice (some ⟨b,off,none⟩) n cap/\n<=cap/\W.heap[b]? = some (.cells cs e fz)/\∀i x,xs[i]? = some x->cs[off+i]? = some (x.conc zBr))
def ab (i n:Nat):Value->V
 | .slice (some _) _ cap=>.slice i 0 n (.exact cap)
 | _=>.nilslice
def pb:Value->Bool
 | .slice (some _) _ _=>true
 | _=>false
def zP0:Value->Nat
 | .slice (some a) _ _=>a.block
 | _=>0
def zP6:Value->Nat
 | .slice (some a) _ _=>a.off
 | _=>0
def ji (xs ys:List V):H:=(hRO xs).new (.cells (.ls ys) ⟨0,0,0⟩ false false)
def zFu (v w:Value):Env:={ blk:=λi=>cond (Nat.beq i 0) (zP0 v) (zP0 w),off:=λi=>cond (Nat.beq i 0) (zP6 v) (zP6 w),cap:=λ_=>0 }
def D2 (v w:Value) (i:Nat):Prop:=(i=0/\pb v=true)\/(i=1/\pb w=true)
theorem jI (xs ys:List V):(ji xs ys).next=2:=by unfold ji;rw[zI,wp]
theorem kE (xs ys:List V):(ji xs ys).get 0=some (.cells (.ls xs) ⟨0,0,0⟩ false false):=by
 unfold ji;rw[xh _ (by rw[wp];decide) (by rw[wp];decide),Ys]
theorem kF (xs ys:List V):(ji xs ys).get 1=some (.cells (.ls ys) ⟨0,0,0⟩ false false):=by
 unfold ji;have:=zw (h:=hRO xs) (.cells (.ls ys) ⟨0,0,0⟩ false false) (by rw[wp];decide)
 rwa [wp]at this
theorem zXa (xs ys:List V):(ji xs ys).low=T.top:=rfl
theorem zU8 {W:World}{v w:Value}{e1 n1 e2 n2:Nat}{xs ys:List V}(r1:Rd W v e1 n1 xs) (r2:Rd W w e2 n2 ys) (px:∀x∈xs,Plain x) (py:∀x∈ys,Plain x):HR (zFu v w) (D2 v w) (ji xs ys) W:=by
 refine⟨by rw[jI];decide,λi hi=>by rw[jI];rcases hi with⟨rfl,_⟩|⟨rfl,_⟩<;>decide,λi o hi hg=>?_,λi j oi oj hi hj hgi _ hw=>?_⟩
 ·rcases hi with⟨rfl,hp⟩|⟨rfl,hp⟩
  ·rw[kE]at hg
   cases hg;obtain⟨_,⟨rfl,_⟩|⟨b,off,cap,cs,e,fz,rfl,_,hb,hc⟩⟩:=r1
   ·cases hp
   ·refine⟨cs,e,fz,hb,λi x h=>?_,λi x h=>(px x (List.mem_of_getElem? ((Cs.getL_eq xs i).symm.trans h))).2 _,λh=>by cases h⟩
    have h':xs[i]? = some x:=(Cs.getL_eq xs i).symm.trans h;rw[(px x (List.mem_of_getElem? h')).1];exact hc i x h'
  ·rw[kF]at hg
   cases hg;obtain⟨_,⟨rfl,_⟩|⟨b,off,cap,cs,e,fz,rfl,_,hb,hc⟩⟩:=r2
   ·cases hp
   ·refine⟨cs,e,fz,hb,λi x h=>?_,λi x h=>(py x (List.mem_of_getElem? ((Cs.getL_eq ys i).symm.trans h))).2 _,λh=>by cases h⟩
    have h':ys[i]? = some x:=(Cs.getL_eq ys i).symm.trans h;rw[(py x (List.mem_of_getElem? h')).1];exact hc i x h'
 ·rcases hi with⟨rfl,hp⟩|⟨rfl,hp⟩
  ·rw[kE]at hgi
   cases hgi;cases hw
  ·rw[kF]at hgi
   cases hgi;cases hw
theorem zKY {W:World}{v w:Value}{e1 n1:Nat}{xs:List V}(r1:Rd W v e1 n1 xs):(ab 0 n1 v).conc (zFu v w)=v:=by
 obtain⟨_,⟨rfl,rfl⟩|⟨b,off,cap,cs,e,fz,rfl,_,hb,hc⟩⟩:=r1
 ·simp[ab,V.conc]
 ·simp[ab,V.conc,zFu,zP0,zP6,Cap.val]
theorem zKZ {W:World}{v w:Value}{e1 n1:Nat}{xs:List V}(r1:Rd W w e1 n1 xs):(ab 1 n1 w).conc (zFu v w)=w:=by
 obtain⟨_,⟨rfl,rfl⟩|⟨b,off,cap,cs,e,fz,rfl,_,hb,hc⟩⟩:=r1
 ·simp[ab,V.conc]
 ·simp[ab,V.conc,zFu,zP0,zP6,Cap.val]
  exact⟨rfl,rfl⟩
theorem zVE {W:World}{v w:Value}{e1 n1:Nat}{xs:List V}(r1:Rd W v e1 n1 xs):(ab 0 n1 v).In (D2 v w):=by
 obtain⟨_,⟨rfl,rfl⟩|⟨b,off,cap,cs,e,fz,rfl,_,hb,hc⟩⟩:=r1
 ·simp[ab,V.In]
 ·simp[ab,V.In,D2,pb]
theorem zVF {W:World}{v w:Value}{e1 n1:Nat}{xs:List V}(r1:Rd W w e1 n1 xs):(ab 1 n1 w).In (D2 v w):=by
 obtain⟨_,⟨rfl,rfl⟩|⟨b,off,cap,cs,e,fz,rfl,_,hb,hc⟩⟩:=r1
 ·simp[ab,V.In]
 ·simp[ab,V.In,D2,pb]
theorem zHR {W:World}{v:Value}{i e1 n1:Nat}{xs:List V}(r1:Rd W v e1 n1 xs):(ab i n1 v = .nilslice/\n1=0)\/∃cap,n1<=cap/\ab i n1 v = .slice i 0 n1 (.exact cap):=by
 obtain⟨_,⟨rfl,rfl⟩|⟨b,off,cap,cs,e,fz,rfl,hl,hb,hc⟩⟩:=r1
 ·exact .inl ⟨rfl,rfl⟩
 ·exact .inr ⟨cap,hl,rfl⟩
theorem zVG {W:World}{v:Value}{e1 n1:Nat}{xs:List V}(r1:Rd W v e1 n1 xs) (ys:List V):Sl (ji xs ys) (ab 0 n1 v) e1 n1 xs:=by
 refine⟨r1.1,?_⟩;rcases zHR (i:=0) r1 with⟨h1,h2⟩|⟨cap,_,h1⟩
 ·exact .inl ⟨h1,h2⟩
 ·exact .inr ⟨0,0,_,_,_,_,_,h1,by rw[jI];decide,kE _ _,λi _=>by rw[Nat.zero_add];exact Cs.getL_eq xs i⟩
theorem zVH {W:World}{v:Value}{e1 n1:Nat}{ys:List V}(r1:Rd W v e1 n1 ys) (xs:List V):Sl (ji xs ys) (ab 1 n1 v) e1 n1 ys:=by
 refine⟨r1.1,?_⟩;rcases zHR (i:=1) r1 with⟨h1,h2⟩|⟨cap,_,h1⟩
 ·exact .inl ⟨h1,h2⟩
 ·exact .inr ⟨1,0,_,_,_,_,_,h1,by rw[jI];decide,kF _ _,λi _=>by rw[Nat.zero_add];exact Cs.getL_eq ys i⟩
theorem SimF.calls2 {P:Program}{f:Nat}{args:List V}{h:H}{xs ys:List V}{v w:Value}{W:World}(s:SimF P f args (ji xs ys) (.ret (.bool true) h)) (hr:HR (zFu v w) (D2 v w) (ji xs ys) W) (hin:∀x∈args,x.In (D2 v w)) :
  Calls P f (args.map (V.conc (zFu v w))).toArray W λe W'=>e = .returned (.bool true)/\Below W.heap.size W W':=by
 have h1:=s _ _ W hr hin;refine CallsIn.calls (F:=Fx none) (CallsIn.mono h1 ?_) (zHP none);rintro e W' ⟨ρ,rfl,m,_,_⟩;refine⟨rfl,m.os,m.tape,m.output,m.size,λk hk=>m.frame k hk λj o hj hg hw=>?_⟩
 rcases hj with⟨rfl,hp⟩|⟨rfl,hp⟩
 ·rw[kE]at hg
  cases hg;cases hw
 ·rw[kF]at hg
  cases hg;cases hw
theorem Zh {H:Type}{enc:TypeId×Value->H}{P:Program}(hl:laidOutB P=true) {W W':World}(hb:Below W.heap.size W W') :
  ∀{ts:List TypeId}{vs:List Value}{ds:List (DataW H)}{ps:List MemPlace},(ts.all λt=>P.readableRec t && decide (t<P.types.size))=true->DataW.TrodAll enc P W 0 (λ_=>true) true ts vs ds ps->(∀x∈ps,x.block<W.heap.size) ->
   DataW.TrodAll enc P W' 0 (λb=>decide (b<W.heap.size)) true ts vs ds ps
 | [],[],[],_,_,h,_=>h
 | _::_,_::_,_::_,_,ht,⟨p,q,h1,h2,e⟩,hp=>by
  simp only[List.all_cons,oG]at ht;exact⟨p,q,Below.trod hl ht.1.1 (of_decide_eq_true ht.1.2) h1 hb (λx hx=>hp x (by rw[e];exact List.mem_append_left _ hx)),Zh hl hb ht.2 h2 (λx hx=>hp x (by rw[e];exact List.mem_append_right _ hx)),e⟩
theorem zJ5 {H:Type}{enc:TypeId×Value->H}{P:Program}{f:Func}{s:ChangeSpec}{W W':World}{args:Array Value}{ds gs:List (DataW H)}{before:List MemPlace}{bt:TypeId}(hl:laidOutB P=true)
  (hts:(f.params.toList.all λt=>P.readableRec t && decide (t<P.types.size))=true) (hW:DataW.Whole enc P f.params.toList s.vars false W args.toList ds gs before) (hb:Below W.heap.size W W') (hr:f.resultTypes = #[bt]) (ht:P.underlying bt=some .bool)
  (er:(s.fn H (ds++gs)).results=[.lit (.bool true)]) (ea:(s.fn H (ds++gs)).args=ds) (hv:DataW.TrodVars enc P W' (λb=>decide (b<W.heap.size)) s.vars (s.fn H (ds++gs)).vars []) :
  s.post enc P f false true false false W args (.bool true) W':=by
 have hlt:=hW.lt;have hW':=hW;obtain⟨p,q,hA,_,rfl,_,_⟩:=hW;exact zJ6 (pa:=p) (pv:=[]) hW' hb hr ht er (by rw[ea];exact Zh hl hb hts hA λx hx=>hlt x (List.mem_append_left _ hx)) hv
section
variable {H:Type}{enc:TypeId×Value->H}{P:Program}{W:World}{base:Nat}
theorem zEf {t e:TypeId}{a:Addr}{len cap:Nat}(ht:P.underlying t=some (.slice e)) (hv:Value.okWide P W .any base t (.slice (some a) len cap)):a.spot=none/\∃cs e fz,W.heap[a.block]? = some (.cells cs e fz):=by
 simp only[Value.okWide,ht,Cell.okWide,Cell.ok]at hv;obtain⟨_,_,_,h2,row,cells,h3,_⟩:=hv;refine⟨h2,?_⟩;unfold World.shape? at h3;split at h3
 ·rename_i cs e fz h4;exact⟨cs,e,fz,h4⟩
 ·cases h3
theorem zID {t e:TypeId}{v:Value}{d:DataW H}{p:List MemPlace}(ht:P.underlying t=some (.slice e)) (he:P.underlying e=some (.int .i64)) (hc:P.cellsOf e=1) (hv:Value.okWide P W .any base t v) (h:DataW.Trod enc P W 0 (λ_=>true) true t v d p) :
  ∃zs:List Int,Rd W v 1 zs.length (zs.map λn=>V.int .i64 n)/\zs.length<9223372036854775808:=by
 obtain⟨a0,l0,c0,rfl⟩:=okWide_slice ht hv;obtain⟨fuel,hx⟩:=h;have hx':DataW.trod enc P W 0 (λ_=>true) true fuel t [.slice a0 l0 c0]=some (d,p):=by simpa [Value.cells]using hx
 rcases open_ints ht he hc hx' with⟨e1,e2⟩|⟨a,len,cap,zs,e1,_,hl,hm,hz,e2,hcell,hw⟩
 ·cases e1
  exact⟨[],⟨rfl,.inl ⟨rfl,rfl⟩⟩,by decide⟩
 ·cases e1
  have hz':zs.length=c0:=by simpa using hz
  obtain⟨hsp,cs,e,fz,hb⟩:=zEf ht hv;obtain⟨b,off,sp⟩:=a;cases hsp;have hlen:(zs.take l0).length=l0:=by simp;omega
  have hml:c0<=2^63-1:=hm;refine⟨zs.take l0,⟨by simp,.inr ⟨b,off,c0,cs,e,fz,by rw[hlen],by omega,hb,λi x hi=>?_⟩⟩,by omega⟩
  rw[oU]at hi;obtain⟨z,h1,rfl⟩:=Option.map_eq_some_iff.1 hi;have hil:i<l0:=by have:=(List.getElem?_eq_some_iff.1 h1).1;omega
  have h2:zs.getD i 0=z:=by
   rw[List.getElem?_take_of_lt hil]at h1;simp[List.getD,h1]
  have:=hcell i (by omega);rw[add_plain,h2]at this;simpa [World.cell?,hb,V.conc]using this
end
end Go.Sim
