/- TM. No condition. -/
import Derived.Test.YtnpeieeomokomaaGreatZTJ
import Derived.Test.YtnpeieeomokomaaGreatZTL
import Derived.Test.YtnpeieeomokomaaGreatZCG
set_option maxRecDepth 100000
namespace Go.Proofs.YtnpeieeomokomaaGreat
open Go.Sim
variable {h:H}{Q:Uc}
open Go (Oper)
def jz(x y:Int):Int:=if x<y then -1 else if y<x then 1 else 0
theorem zIe{x y:Int}(a:Q (dd (jz x y)) h):RF P zB 335 [dd x,dd y] h Q:=by
 unfold jz at a;refine yU z1d (zFB ⟨false,rfl,λc=>(by cases c),λ_=>zFB ⟨false,rfl,λc=>(by cases c),λ_=>⟨λc=>?_,λc=>⟨λb=>?_,λb=>?_⟩⟩⟩⟩)
 .rw[if_pos c]at a;exact a
 .rw[if_neg c,if_pos b]at a;exact a
 rw[if_neg c,if_neg b]at a;exact a
theorem zZd{v:V}{l:Ub}(sl:Sl h v 1 l.length (l.map λn=>dd n))(hl:l.length<4611686018427387904)(f:Q (dd (wu l)) h):RF P zB 334 [v] h Q:=by
 refine yU z1c ⟨_,sl.len z7 rfl,Has.nil.on λtm hs=>?_⟩;refine wpC.round (λk tm h'=>∃i:Nat,i<=l.length/\k=l.length-i/\h'=h/\wu (l.take i)=0/\Has tm [(8,dd i),(7,dd l.length),(6,v),(3,dd 0)]) l.length ⟨0,oy,oy,rfl,by simp[wu],hs.sub da⟩ ?_;rintro k tm h' ⟨i,h1,rfl,rfl,d,hs⟩;refine wpC.av hs zS3 rfl rfl ⟨λc=>?_,λc=>hs.on λg a=>?_⟩
 .have hi:i<l.length:=oy
  have q:l[i]? = some l[i]:=oU hi;obtain⟨b,o,s,t⟩:=sl.at1 (u:=dd l[i]) hi z7 rfl zm rfl rfl (by rw[oh,q];rfl);have r:wu l=if l[i]≠0 then l[i] else wu (l.drop (i+1)):=by rw[zBz d,List.drop_eq_getElem_cons hi];rfl
  refine⟨b,o,s,l[i],t,λj=>hs.on λg a=>?_,λj=>hs.on λg a=>?_⟩
  .rw[r,if_pos j]at f;exact thenC.rt (thenC.rt (endW.r1 (a.get rfl) f))
  have e:zG ((i:Int)+1)=((i+1:Nat):Int):=by rw[zD oy oy];rfl
  refine⟨rfl,rfl,l.length-(i+1),oy,i+1,oy,rfl,rfl,?_,?_⟩
  .rw[List.take_add_one,q];clear r f hs sl;generalize l.take i=z at d ⊢;induction z with
   | nil=>simp only[List.nil_append,Option.toList_some,wu];rw[if_neg j]
   | cons x z ih =>
    simp only[List.cons_append,wu]at d ⊢;split at d
    .rename_i m;exact absurd d m
    rename_i m;rw[if_neg m];exact ih d
  rw[<-e];exact a.sub da
 have hi:i=l.length:=oy
 subst hi;rw[List.take_length]at d;rw[d]at f;refine thenC.left (wpS.av a zTp rfl rfl (a.on λw p=>?_));exact endW.r1 (p.get rfl) f
section
variable (a0 a1 a2 b0 b1 b2:Int)
end
end Go.Proofs.YtnpeieeomokomaaGreat
