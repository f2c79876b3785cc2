/- TL. No condition. -/
import Derived.Test.YtnpeieeomokomaaGreatZTJ
import Derived.Shelf.Lays
import Derived.Shelf.Sort.Plain
import Derived.Lib.SortBridge
namespace Go.Proofs.YtnpeieeomokomaaGreat
open Go.Sim
variable {h:H}{Q:Uc}
open Go.Sim Go
theorem _root_.Go.Sim.ORel.back{ρ ρ':Env}{D D':Nat->Prop}{b:Nat}{o:O}{q x:Option Obj}(h0:ORel ρ D b o q)(h:ORel ρ' D' b o x)(hb:D b)(d:Agree D ρ ρ'):ORel ρ D b o x:=by
 obtain⟨_,j,s⟩:=d b hb;cases o with
 | cells l esz wr op =>
  obtain⟨c,e,fz,h1,f,u,w⟩:=h;obtain⟨_,_,_,_,_,g,_⟩:=h0;refine⟨c,e,fz,h1,λi v k=>?_,g,λy=>?_⟩
  .have:=f i v k
   rwa [V.conc_agree d v (g i v k),j]at this
  have:=w y
  rwa [j,s]at this
 | map es clock=>obtain⟨_,a⟩:=h0;refine⟨?_,a⟩;rw[h.1];congr 3;exact List.map_congr_left λe p=>by unfold Ent.conc;rw[V.conc_agree d _ (a e p).1,V.conc_agree d _ (a e p).2]
 | loop st pending n tm params assign body dfr =>
  obtain⟨fn,tmps,h1,f,u⟩:=h;obtain⟨_,_,_,a,g⟩:=h0;refine⟨fn,tmps,?_,⟨f.size,f.cap,λt=>?_,a.inn⟩,g⟩
  .rw[h1,(d dfr g).1]
  rw[f.val t,V.conc_agree d _ (a.inn t)]
 | deferred there=>exact h
 | strIter l pos=>exact h
 | mapIter m since seen stepped =>
  obtain⟨h1,_⟩:=h;obtain⟨_,a⟩:=h0;refine⟨?_,a⟩;rw[h1];rcases m with _|r
  .rfl
  rw[oo,oo,(d r (a r rfl)).1]
theorem _root_.Go.Sim.SimF.forget{P:Program}{f:Nat}{args:Ug}{h h':H}{v:V}(s:SimF P f args h (.ret v h'))(d:Plain v)(l:∀b,b<h.nx->h'.get b=h.get b):SimF P f args h (.ret v h):=by intro ρ D w hr i;refine CallsIn.mono (s ρ D w hr i) ?_;rintro e w' ⟨ρ',rfl,m,j,_⟩;refine⟨ρ,by rw[d.1 ρ',d.1 ρ],⟨oV _,m.size,m.os,m.tape,m.output,Agree.refl _ _,λid o' _ g=>⟨o',g,rfl⟩,λid o' n p _=>oy,m.frame,oV _,λ_ _ _=>rfl⟩,?_,d.2 _⟩;rw[zr];refine⟨hr.cap,hr.lt,λid o a c=>?_,hr.inj⟩;have h1:=hr.rel id o a c;have k:=j.rel id o (.inl a) (by rw[l id (hr.lt id a)];exact c);rw[(m.agree id a).1]at k;exact h1.back k a m.agree
theorem _root_.Go.Sim.RF.forget{P:Program}{c:Ctx}{f n:Nat}{args:Ug}{v:V}(r:RF P c f args h λv' h'=>v'=v/\Ext h h' n)(a:Plain v)(d:Q v h):RF P c f args h Q:=by obtain⟨v',h',⟨e,s⟩,rfl,x⟩:=r;exact⟨v',h,⟨e,s.forget a λb hb=>x.get b hb⟩,d⟩
open Go.Shelf Go.Sort Go.RowKit
set_option maxRecDepth 100000
open Go.Sim Go Go.Sort
theorem zPr:zB.ty.get 3=some yn:=zm
theorem zMa(a:Ub):za (zV a)=true:=yY.2 λv b=>by obtain⟨x,_,rfl⟩:=List.mem_map.1 b;rfl
theorem zFB{a:Int}(b:Q (.bool false) h):RF P zB 338 [dd a] h Q :=
 yU z1f ⟨λc=>absurd rfl c,λ_=>b⟩
end Go.Proofs.YtnpeieeomokomaaGreat
