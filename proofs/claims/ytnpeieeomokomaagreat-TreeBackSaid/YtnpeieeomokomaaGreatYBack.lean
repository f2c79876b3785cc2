/- Back. No condition. -/
import Derived.Test.YtnpeieeomokomaaGreatYTS
import Derived.Test.YtnpeieeomokomaaGreatYTR
import Derived.Test.YtnpeieeomokomaaGreatYTG
import Derived.Test.YtnpeieeomokomaaGreatYCH
import Derived.Test.YtnpeieeomokomaaGreatYW
import Derived.ProofKit
import Derived.Test.YtnpeieeomokomaaGreatYJn
set_option maxRecDepth 100000
set_option maxHeartbeats 4000000
namespace Go.Proofs.YtnpeieeomokomaaGreat
open Go.Sim
variable {h:H}{Q:V->H->Prop}
theorem zOM(x y:Nat)(a b c d:Int):Yo zA .neq 26 (t x) (t y) (.agg [.int .i64 a,.int .i64 b]) (.agg [.int .i64 c,.int .i64 d])=(match (match some (eqF a c)with|some true=>(match some (eqF b d)with|some true=>some true|r=>r)|r=>r)with|some r=>some (.bool (!r))|none=>none):=by kernel_rfl
theorem zLt{l:List Int}(ck:OG l=0):kl l = .tuple [.str [],.int .i64 7]\/∃s,kl l = .tuple [.str s,.int .i64 0]/\(Za (kZ l)=some s\/jt (kZ l)=some s):=by
 cases hd:Za (kZ l)with
 | none =>
  cases hc:jt (kZ l)with
  | none=>exact .inl (zZA ck hd hc)
  | some c=>exact .inr ⟨c,zZB ck hd hc,.inr rfl⟩
 | some d =>
  cases hc:jt (kZ l)with
  | none=>exact .inr ⟨d,zZC ck hd hc,.inl rfl⟩
  | some c =>
   obtain⟨s,e,h,_⟩:=zZD ck hd hc;exact .inr ⟨s,e,h.imp (λq=>by rw[q]) (λq=>by rw[q])⟩
theorem zR5{w:List Int}{c:List UInt8}(h:jt w=some c)(hr:jw w=0):2<=c.length:=by
 have r:=zPi (b:=[]) (m:=[]) h hr;obtain⟨rfl,hl⟩:=zCz h;rw[oV];cases e:ju w with
 | nil =>
  rw[e]at r;have r2:yR [UInt8.ofNat 0] 0=⟨w,0+1,0,0⟩:=r;have:(yR [UInt8.ofNat 0] 0).e≠0:=by decide +kernel
  rw[r2]at this;exact absurd rfl this
 | cons x l=>simp
theorem zNC{w:List Int}{s:List UInt8}(hr:jw w=0)(h1:1<=w.length)(h:Za w=some s\/jt w=some s):∃b:UInt8,s[0]? = some b/\2<=s.length/\s.length<=128/\(128<=b.toNat/\s.length=1+(b.toNat-127+1)/2\/b.toNat<128/\s.length=1+b.toNat):=by
 rcases h with h|h
 ·obtain⟨rfl,hl⟩:=zIn h
  have e2:(zDC w).length=(w.length+1)/2+1:=by show(jS w).length+1=_;rw[Z9]
  have e1:(UInt8.ofNat (w.length+127)).toNat=w.length+127:=by rw[UInt8.toNat_ofNat',oe (by omega)]
  refine⟨UInt8.ofNat (w.length+127),rfl,by omega,by omega,.inl ?_⟩;rw[e1,e2];omega
 ·have h2:=zR5 h hr
  obtain⟨rfl,hl⟩:=zCz h;have e1:(UInt8.ofNat (ju w).length).toNat=(ju w).length:=by rw[UInt8.toNat_ofNat',oe (by omega)]
  rw[oV]at h2 ⊢;refine⟨UInt8.ofNat (ju w).length,rfl,h2,by omega,.inr ?_⟩;rw[e1];omega
theorem zM9{s:List UInt8}{b:UInt8}{tm:Tm}{Q:AX->St->Prop}(hs:Has tm [(11,.str s)])(hb:s[0]? = some b)(h2:s.length<=128)(hc:128<=b.toNat/\s.length=1+(b.toNat-127+1)/2\/b.toNat<128/\s.length=1+b.toNat)(hq:∀tm',zk tm' 8 = .bool true->Q .ret ⟨132,tm',[],h⟩):W5 false zYJ ⟨132,tm,[],h⟩ (yE L5 Q):=by
 have hb8:=b.toNat_lt;have ew:zG ((b.toNat:Nat):Int)=((b.toNat:Nat):Int):=zD (by omega) (by omega);refine wpS.av hs z3t rfl rfl ⟨((b.toNat:Nat):Int),wx (i:=0) hb,?_⟩;rw[ew];generalize b.toNat=x at hc ew hb8;rcases hc with⟨c1,c2⟩|⟨c1,c2⟩
 ·have e1:zG (((x:Nat):Int)-127)=((x-127:Nat):Int):=by rw[zD (by omega) (by omega)];omega
  have e2:zG (((x-127:Nat):Int)+1)=((x-127+1:Nat):Int):=yQ (by omega);have e3:Int.tdiv ((x-127+1:Nat):Int) 2=(((x-127+1)/2:Nat):Int):=rfl;have e4:zG (((x-127+1)/2:Nat):Int)=(((x-127+1)/2:Nat):Int):=zD (by omega) (by omega);have e5:zG (1+(((x-127+1)/2:Nat):Int))=((1+(x-127+1)/2:Nat):Int):=by rw[zD (by omega) (by omega)];omega
  rw[e1,e2,e3,e4,e5];exact⟨λ_=>⟨by decide,λ_=>qc ⟨true,rfl,λ_=>hs.on λtm' hs'=>hs'.slt λtm2 hs2=>hq tm2 (hs2.get rfl),λg=>(by cases g)⟩,λq=>absurd (show((s.length:Nat):Int)=((1+(x-127+1)/2:Nat):Int)by omega) q⟩,λq=>by omega⟩
 ·have e6:zG (1+((x:Nat):Int))=((1+x:Nat):Int):=by rw[zD (by omega) (by omega)];omega
  rw[e6];exact⟨λq=>by omega,λ_=>⟨λ_=>⟨λ_=>qc ⟨true,rfl,λ_=>hs.on λtm' hs'=>hs'.slt λtm2 hs2=>hq tm2 (hs2.get rfl),λg=>(by cases g)⟩,λq=>absurd (show((s.length:Nat):Int)=((1+x:Nat):Int)by omega) q⟩,λq=>by omega⟩⟩
theorem zM8{v:V}{nums:List Int}{many:Int}{b m:List UInt8}(sl:Sl h v 1 nums.length (zJ nums))(hn:h.nx+40000<=T.top)(lo:h.low<=T.top)(hq:∀h',Q (.bool true) h'):RF P zA 5 [v,.int .i64 many,.str b,.str m] h Q:=by
 refine yK fn5 rfl rfl vb5 ⟨λ_=>qc ⟨true,rfl,λ_=>hq _,λg=>(by cases g)⟩,λc0=>⟨λ_=>qc ⟨true,rfl,λ_=>hq _,λg=>(by cases g)⟩,λc1=>Has.nil.on λtm hs=>?_⟩⟩
 have b0:b.length<=20:=by have:¬(20:Int)<((b.length:Nat):Int):=c0;omega
 have m0:m.length<=20:=by have:¬(20:Int)<((m.length:Nat):Int):=c1;omega
 refine wpS.av hs z3u rfl rfl (zOX sl (by omega) lo λh1 w l x1 ck sw=>⟨_,_,rfl,λ_=>?_,λg=>(by cases g)⟩)
 obtain⟨l1,l2,hin⟩:=J5 ck;obtain⟨i1,i2,i3⟩:=zDR ck;have rg:=zJX ck;have t1:=x1.top;have lo1:h1.low<=T.top:=oQ x1.low lo;rcases zLt ck with hw|⟨s,hw,hs2⟩
 ·exact kI sw (by omega) (by omega) lo1 ⟨_,_,hw,λ_=>qc ⟨true,rfl,λ_=>hs.on λtm' hs'=>endW.r1 (hs'.get rfl) (hq _),λg=>(by cases g)⟩,λc=>absurd rfl c⟩
 obtain⟨fb,f1,f2,f3,f4⟩:=zNC rg i2 hs2;have rl:kc ((b++s)++m) ((b.length:Nat):Int)=⟨l,b.length+s.length,0,0⟩:=by rw[List.append_assoc];exact zGE ck hs2
 have hsz:zSe l = .tuple [.int .i64 (s.length:Nat),.int .i64 0]:=by unfold zSe;rw[hw]
 refine kI sw (by omega) (by omega) lo1 ⟨_,_,hw,λc=>absurd c (by decide),λ_=>⟨by omega,by rw[oU];omega,YC (at':=((b.length:Nat):Int)) (by rw[oU,oU];omega) (by omega) lo1 λh12 v13 x12 s13 hv13=>?_⟩⟩
 rw[rl]at s13 ⊢;have t12:=x12.top;refine⟨_,_,_,_,rfl,by omega,?_⟩;rintro p17 h18 rfl e18;have w18:=(Vw.nil (S:=zS) (h:=h12)).new e18 (by omega);have n18:h18.nx=h12.nx+1:=by rw[e18,zH]
 obtain⟨h19,e19,w19,n19,k19⟩:=w18.st (cx:=zA) 0 (f:=0) (u:=flt 0 0) rfl (by omega) xa rfl (oJ _) rfl rfl;have x19:=w19.ex0;have lo19:h19.low<=T.top:=oQ x19.low (oQ x12.low lo1);have sA:=(sw.ext x12).ext x19;have s13':Sl h12 v13 1 l.length (zJ l):=s13;have sB:=s13'.ext x19;refine⟨h19,e19,zGY sA (by omega) (by omega) lo19 ⟨_,_,hsz,λc=>absurd rfl c,λ_=>⟨_,_,w19.ldA 0 rfl xa rfl rfl,false,by rw[zOM,zCD];rfl,λg=>(by cases g),λ_=>⟨λc=>absurd rfl c,λ_=>⟨λc=>absurd rfl c,λ_=>⟨λc=>?_,λ_=>⟨λc=>?_,λ_=>KZ sB sA (by omega) (by omega) lo19 ⟨true,rfl,λ_=>⟨λc=>?_,λ_=>hs.on λtm2 hs3=>?_⟩,λg=>(by cases g)⟩⟩⟩⟩⟩⟩⟩⟩
 ·exfalso;have:((s.length:Nat):Int)<2:=c;omega
 ·exfalso;have:(128:Int)<((s.length:Nat):Int):=c;omega
 ·exact absurd (show((b.length+s.length:Nat):Int)=zG (((b.length:Nat):Int)+((s.length:Nat):Int))by rw[zD (by omega) (by omega)];omega) c
 ·exact zM9 (hs3.sub (by kernel_rfl)) f1 f3 f4 λtm' g=>endW.r1 g (hq _)
open Go.Sim Go.ChangeShapes Go.WideShapes Go.ChangeAt Go.RowKit
theorem zOF:laidOutB Tryz.prog=true:=by kernel_rfl
theorem zPj(W:World):Go.Sim.Rd W (.slice none 0 0) 1 0 []:=⟨rfl,.inl ⟨rfl,rfl⟩⟩
theorem zDw{H:Type}{enc:TypeId×Value->H}{W:World}{base:Nat}{v0 v1 v2 v3:Value}{d0:DataW H}{p0:List MemPlace}(w0:Value.okWide Tryz.prog W .any base 23 v0)(w1:Value.okWide Tryz.prog W .any base 3 v1)(w2:Value.okWide Tryz.prog W .any base 9 v2)(w3:Value.okWide Tryz.prog W .any base 9 v3)(h0:DataW.Trod enc Tryz.prog W 0 (λ_=>true) true 23 v0 d0 p0):
  Calls Tryz.prog 5 #[v0,v1,v2,v3] W λe W'=>e = .returned (.bool true)/\Below W.heap.size W W':=by
 obtain⟨l0,r0,q0⟩:=zS8 Tryz.underlying23 Tryz.underlying3 (by kernel_rfl) w0 h0;obtain⟨a,rfl⟩:=okWide_int Tryz.underlying3 w1;obtain⟨b,rfl⟩:=okWide_string Tryz.underlying9 w2;obtain⟨m,rfl⟩:=okWide_string Tryz.underlying9 w3;have r1:=zPj W;have s0:Sl (ZS (zJ l0) []) (ab 0 l0.length v0) 1 l0.length (zJ l0):=zW1 r0 [];obtain⟨r,h',⟨_,sf⟩,rfl⟩:=zM8 (Q:=λr _=>r = .bool true) (many:=a) (b:=b.data.toList) (m:=m.data.toList) s0 (by rw[qz];exact of_decide_eq_true (by kernel_rfl)) (oP _) λ_=>rfl
 have px:∀(l:List Int),∀q∈zJ l,Plain q:=λl q hq=>by obtain⟨_,_,rfl⟩:=List.mem_map.1 hq;exact ym _ _
 have k:=sf.calls2 (zWC r0 r1 (px l0) (λ_ h=>by cases h)) (λq hq=>by
  simp only[od,List.not_mem_nil,or_false]at hq;rcases hq with rfl|rfl|rfl|rfl
  ·exact zW0 r0
  ·exact(ym _ _).2 _
  ·exact(Jh _).2 _
  ·exact(Jh _).2 _)
 simp only[List.map_cons,List.map_nil,zML r0]at k;simpa [V.conc]using k
theorem Kt(os:Os)(started:os.Started)(H:Type)(enc:TypeId×Value->H):
  ReturnsInHanded {} Tryz.checked os 5 .any (Rows.treeBackSpec.pre6 enc Tryz.prog Tryz.f5 Rows.treeBackRow.domain false) (Rows.treeBackSpec.post enc Tryz.prog Tryz.f5 false true false false):=by
 refine returnsInHanded_of_change (C:=Tryz.checked) own started (by kernel_rfl) Tryz.func5
  (ChangeSpec.witness6 (enc:=enc) (C:=Tryz.checked) false ⟨#[],#[.slice none 0 0,.int .i64 0,.string ⟨#[]⟩,.string ⟨#[]⟩],[]⟩ 8 (by kernel_rfl) (by kernel_rfl) (by kernel_rfl) (by kernel_rfl)) ?_
 intro W base args ds gs before hval0 hW _ _;have hval:∀(j:Nat) t v,Tryz.f5.params[j]? = some t->args[j]? = some v->Value.okWide Tryz.prog W .any base t v:=hval0;have hW':=hW;obtain⟨p,q,hA0,hV,rfl,_,_⟩:=hW;have hA:DataW.TrodAll enc Tryz.prog W 0 (λ_=>true) true Tryz.f5.params.toList args.toList ds p:=hA0;rw[Tryz.params5]at hA hval;obtain⟨v0,v1,v2,v3,d0,d1,d2,d3,p0,p1,p2,p3,rfl,rfl,rfl,h0,h1,h2,h3⟩:=trodAll_four hA;obtain⟨rfl,rfl⟩:=trodVars_none hV;refine(zDw (hval 0 23 v0 rfl rfl) (hval 1 3 v1 rfl rfl) (hval 2 9 v2 rfl rfl) (hval 3 9 v3 rfl rfl) h0).mono λe W' ⟨he,hb⟩=>⟨_,he,?_⟩
 exact zLT zOF (by rw[Tryz.params5];kernel_rfl) hW' hb rfl Tryz.underlying4 rfl rfl (by exact(rfl:([]:List MemPlace)=[]))
theorem treeBack_holds:Rows.TreeBackSaid :=
 OpenClaim.holds_of_wide 5 Tryz.f5 rfl rfl rfl rfl rfl rfl rfl ⟨rfl,rfl,rfl,rfl,rfl⟩ rfl rfl rfl rfl rfl zAs Tryz.func5 Ks zB8 zB9
  (λos started H enc _=>Kt os started H enc)
end Go.Proofs.YtnpeieeomokomaaGreat
