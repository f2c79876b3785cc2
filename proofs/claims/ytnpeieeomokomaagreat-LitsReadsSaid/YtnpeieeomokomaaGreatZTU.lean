/- TU. No condition. -/
import Derived.Test.YtnpeieeomokomaaGreatZTS
import Derived.Test.YtnpeieeomokomaaGreatZTR
import Derived.Test.YtnpeieeomokomaaGreatZTG
import Derived.Test.YtnpeieeomokomaaGreatZAL
set_option maxRecDepth 100000
set_option maxHeartbeats 1000000
namespace Go.Proofs.YtnpeieeomokomaaGreat
open Go.Sim
variable {h:H}{Q:Uc}
theorem zBq(a:Int):Oj a a=true:=by rw[j4];simp
theorem zMY(x y:Nat)(a b c d:Int):ZQ zB .eql 26 (t x) (t y) (.agg [dd a,dd b]) (.agg [dd c,dd d])=(match (match some (Oj a c)with|some true=>(match some (Oj b d)with|some true=>some true|r=>r)|r=>r)with|some r=>some (.bool r)|none=>none):=da
theorem zMZ(x y:Nat)(a b:Int):ZQ zB .eql 26 (t x) (t y) (.agg [dd a,dd b]) (.agg [dd a,dd b])=some (.bool true):=by rw[zMY,zBq,zBq]
theorem Sl.blk{v:V}{e n:Nat}{xs:Ug}(s:Sl h v e n xs){q:Nat}(a:yG v=some q):q<h.nx:=by
 obtain⟨_,⟨rfl,_⟩|⟨b,o,c,cs,k,w,op,rfl,hb,_⟩⟩:=s
 .cases a
 cases a;exact hb
def zKa:Option Ub->Ub
 | some l=>l
 | none=>[]
theorem nxOk.sl{h h':H}{v:V}{o:Option Ub}{m:Nat}(s:nxOk h v o)(x:Ext h h' m):Sl h' v 1 (zKa o).length (zV (zKa o)):=by
 rcases o with _|l
 .exact⟨rfl,.inl ⟨s,rfl⟩⟩
 exact Go.Sim.Sl.ext (show Sl h v 1 l.length (zV l)from s) x
theorem zN4{s:Ua}{v:V}{l:Ub}(sl:Sl h v 1 l.length (zV l))(h1:s.length<=1200->l.length<=260->Q (.bool true) h)(a:Q (.bool false) h):RF P zB 28 [.str s,v] h Q:=by
 refine yU z3p ⟨λc=>⟨_,sl.len z7 rfl,λb=>h1 ?_ ?_,λ_=>a⟩,λ_=>a⟩
 .have:(s.length:Int)<=1200:=c;omega
 have:(l.length:Int)<=260:=b;omega
theorem zWS{s:Ua}{x most:Int}{last:Ub}(hl:last.length<=260):(zKa (Jq s x last most).nx).length<4611686018427387904:=by
 have d:∀e y,(zKa (Zg e y).nx).length<4611686018427387904:=λ_ _=>by show(0:Nat)<_;decide
 have f:∀(l:Ub) (a b n st:Nat),l.length<=260->(zKa (lrC s l a b n st).nx).length<4611686018427387904:=λl a b n st h=>by
  unfold lrC;split
  .show l.length<_;omega
  exact d _ _
 have g:∀(st n m b:Nat),(zKa (lrT s x st n m b).nx).length<4611686018427387904:=λst n m b=>by
  unfold lrT;split
  .rename_i c;exact f _ _ _ _ _ (by have:=(YF c).1;omega)
  split<;>exact d _ _
 unfold Jq;split
 .exact d _ _
 split
 .exact d _ _
 unfold lrB;split
 .exact d _ _
 split
 .exact d _ _
 split
 .exact d _ _
 unfold lrD;split
 .show last.length<_;omega
 split
 .show last.length<_;omega
 split
 .exact d _ _
 split
 .exact d _ _
 split
 .exact g _ _ _ _
 exact f _ _ _ _ _ hl
theorem zLB{s:Ua}{x most:Int}{v:V}{last:Ub}(z:Sls h v last)(hn:h.nx+80000<=T.top)(J:h.low<=T.top)(A:∀h',Q (.bool true) h'):RF P zB 7 [.str s,dd x,v,dd most] h Q:=by
 refine enO fn7 rfl rfl vb7 (zN4 z.1 (λhs hl=>⟨true,rfl,λ_=>?_,λg=>(by cases g)⟩) ⟨false,rfl,λg=>(by cases g),λ_=>OW ⟨true,rfl,λ_=>A _,λg=>(by cases g)⟩⟩);obtain⟨h1,M,w,N,O,B,C⟩:=zW2 z;have t2:=B.top;have l2:=B.low;refine yU z3o ⟨_,h1,M,trivial,w,N,O,w,rfl,?_⟩;refine zFF C (λq A=>Sl.blk C.1 A) oy oy oy oy λR U e W=>⟨_,U,_,_,_,rfl,?_⟩
 have t7:=e.top;refine⟨oy,?_⟩;rintro X Y rfl D;have i:=(Vw.nil (S:=zN) (h:=R)).new D oy;have Z:=i.top;obtain⟨E,F,c,n15,_⟩:=i.st (cx:=zB) 0 (t:=26) (f:=0) (u:=.agg [dd (Jq s x last most).e,dd (Jq s x last most).y]) (cs':=.ls [dd (Jq s x last most).e,dd (Jq s x last most).y]) rfl oy zd rfl;have t15:=c.top;have X15:=(B.trans e).trans c.ex0;have l15:=X15.low;refine⟨E,F,zDW (z.ext X15) oy oy oy oy λj G k H=>⟨_,G,_,_,_,rfl,?_⟩⟩;have t17:=k.top;have l:=c.ext k;have K:=l.top;refine⟨oy,?_⟩;rintro p23 h24 rfl m;have n:=l.new m oy;have t24:=n.top;have o:=(Vw.nil (S:=zN) (h:=j)).new m oy;obtain⟨p,r,a,n25,k25⟩:=n.st (cx:=zB) 0 (t:=26) (f:=0) (u:=.agg [dd (Jq s x last most).e,dd (Jq s x last most).y]) (cs':=.ls [dd (Jq s x last most).e,dd (Jq s x last most).y]) rfl oy zd rfl;have t25:=a.top;have l25:=a.low;have l7:=e.low;have d:Ext j p 1:=by obtain⟨L,b,y,_,_⟩:=o.st (cx:=zB) 0 (t:=26) (f:=0) (u:=.agg [dd (Jq s x last most).e,dd (Jq s x last most).y]) (cs':=.ls [dd (Jq s x last most).e,dd (Jq s x last most).y]) rfl oy zd rfl;rw[r]at b;cases b;exact y.ex0
 have I:=zWS (s:=s) (x:=x) (most:=most) hl;refine⟨p,r,λ_=>Kd (W.sl a.ex0) (H.sl d) I ⟨true,rfl,λ_=>⟨λ_=>⟨_,_,a.ldA 1 rfl zd rfl,_,_,a.ldA 0 rfl zd rfl,true,zMZ _ _ _ _,λ_=>?_,λg=>(by cases g)⟩,λg=>absurd rfl g⟩,λg=>(by cases g)⟩,λg=>absurd rfl g⟩;exact Kd (C.1.ext (e.trans a.ex0)) (z.1.ext ((B.trans e).trans a.ex0)) oy ⟨true,rfl,λ_=>OW ⟨true,rfl,λ_=>A _,λg=>(by cases g)⟩,λg=>(by cases g)⟩
end Go.Proofs.YtnpeieeomokomaaGreat
