/- TA. No condition. -/
import Derived.Test.YtnpeieeomokomaaGreatZCE
import Derived.Test.YtnpeieeomokomaaGreatZW
import Derived.Test.YtnpeieeomokomaaGreatZZ
set_option maxRecDepth 100000
namespace Go.Proofs.YtnpeieeomokomaaGreat
open Go.Sim
noncomputable abbrev P:=Tryz.prog
theorem ble (a b:Nat) (h:Nat.ble a b=true):a<=b:=oE h
theorem yb {h:H}(hn:h.next<=T.top) (hl:h.low<=T.top):(h.next<=(za h).low/\(za h).next<=T.top)/\yh h (za h)=h:=by
 refine⟨⟨hn,hn⟩,?_⟩;show(⟨h.tbl,h.next,cond (Nat.ble h.low T.top) h.low T.top⟩:H)=h;rw[oC hl,oK]
theorem Kg:∀(l:List UInt8) (i:Nat),YD l i=l[i]?
 | [],_=>rfl
 | _::_,0=>rfl
 | _::l,i+1=>by rw[YD,Kg l i];rfl
theorem zJM {k:IntKind}{l:List UInt8}{i:Nat}{b:UInt8}(h:l[i]? = some b):jw zA 9 (.str l) (.int k (i:Int))=some (.int .u8 ((b.toNat:Nat):Int)):=by
 unfold jw;have e1:xB (i:Int)=some i:=rfl;simp only[e1,Y3,Kg,h];rfl
theorem yu:∀(l:List UInt8) (n:Nat),qP l n=n+l.length
 | [],n=>by simp[qP]
 | _::l,n=>by rw[qP,yu l];simp;omega
theorem zt:200000<T.top:=by decide
theorem zHe {n:Int}{h:H}{Q:V->H->Prop}(hn:n<9223372036854775808) (hq:Q (.int .i64 (hi n)) h):RF P zA 216 [.int .i64 n] h Q:=by
 refine RF.enterS zG zYq (ble _ _ rfl) (ble _ _ rfl) z1D (Has.nil.on λtm hs=>?_);refine wpC.round (λk tm h'=>∃i:Nat,i<=63/\k=63-i/\h'=h/\Has tm [(5,.int .i64 i),(0,.int .i64 n),(3,.int .i64 (hiU n i))]) 63 ⟨0,by omega,rfl,rfl,by rw[show hiU n 0 = -1 by unfold hiU;rw[if_neg (by omega)]];exact hs.sub rfl⟩ ?_
 rintro k tm h' ⟨i,h1,rfl,rfl,hs⟩;refine wpC.at hs zQy rfl rfl ⟨λc=>⟨_,zOX (by omega),λc2=>hs.on λtm' hs'=>?_,λc2=>hs.on λtm' hs'=>?_⟩,λc=>hs.on λtm' hs'=>?_⟩
 ·have c3:=(J5 (XE i)).1 c2
  have e:zL ((i:Int)+1)=((i+1:Nat):Int):=by rw[zH (by omega) (by omega)];rfl
  refine⟨rfl,rfl,63-(i+1),by omega,i+1,by omega,rfl,rfl,?_⟩;rw[zDr,if_pos c3,<-e];exact hs'.sub rfl
 ·have c3:¬((2^i:Nat):Int)<=n:=λg=>c2 ((J5 (XE i)).2 g)
  have e:zL ((i:Int)+1)=((i+1:Nat):Int):=by rw[zH (by omega) (by omega)];rfl
  refine⟨rfl,rfl,63-(i+1),by omega,i+1,by omega,rfl,rfl,?_⟩;rw[zDr,if_neg c3,<-e];exact hs'.sub rfl
 ·have hi63:i=63:=by omega
  subst hi63;rw[zWU hn]at hs';refine thenC.left (wpS.at hs' zSW rfl rfl (hs'.on λtm2 hs2=>?_));exact endW.r1 (hs2.get rfl) hq
theorem KI {n:Int}{h:H}{Q:V->H->Prop}(hn:n<9223372036854775808) (hq:Q (.int .i64 (hi n+1)) h):RF P zA 145 [.int .i64 n] h Q:=by
 have h1 : -1<=hi n/\hi n<63:=by
  unfold hi;split
  ·rename_i h0
   have:n.toNat.log2<63:=(Nat.log2_lt (by omega)).2 (by omega);omega
  ·omega
 refine RF.enterS zG zYY (ble _ _ rfl) (ble _ _ rfl) z0b (zHe hn ⟨_,rfl,?_⟩)
 rwa [zH (by omega) (by omega)]
theorem KY {b:Bool}{e:Int}{h:H}{Q:V->H->Prop}(hq:Q (.int .i64 (if b=true then e else 0)) h):RF P zA 250 [.bool b,.int .i64 e] h Q:=by
 refine RF.enterS zG zZW (ble _ _ rfl) (ble _ _ rfl) z18 ?_;cases b
 ·exact hq
 ·exact hq
def Yn:List Int->Int
 | []=>0
 | x::l=>if x≠0 then x else Yn l
theorem zJH {l:List Int}{i:Nat}(h:Yn (l.take i)=0):Yn l=Yn (l.drop i):=by
 induction l generalizing i with
 | nil=>simp
 | cons x l ih =>
  cases i with
  | zero=>rfl
  | succ i =>
   simp only[List.take_succ_cons,Yn]at h;split at h
   ·rename_i hx;exact absurd h hx
   ·rename_i hx
    show(if x≠0 then x else Yn l)=Yn (l.drop i);rw[if_neg hx];exact ih h
theorem zDj {v:V}{l:List Int}{h:H}{Q:V->H->Prop}(sl:Sl h v 1 l.length (l.map λn=>V.int .i64 n)) (hl:l.length<4611686018427387904) (hq:Q (.int .i64 (Yn l)) h):RF P zA 248 [v] h Q:=by
 refine RF.enterS zG zZU (ble _ _ rfl) (ble _ _ rfl) z16 ⟨_,sl.len zU1 rfl,Has.nil.on λtm hs=>?_⟩
 refine wpC.round (λk tm h'=>∃i:Nat,i<=l.length/\k=l.length-i/\h'=h/\Yn (l.take i)=0/\Has tm [(8,.int .i64 i),(7,.int .i64 l.length),(6,v),(3,.int .i64 0)]) l.length ⟨0,by omega,by omega,rfl,by simp[Yn],hs.sub rfl⟩ ?_
 rintro k tm h' ⟨i,h1,rfl,rfl,h2,hs⟩;refine wpC.at hs zRN rfl rfl ⟨λc=>?_,λc=>hs.on λtm' hs'=>?_⟩
 ·have hi:i<l.length:=by omega
  have hg:l[i]? = some l[i]:=oM hi;obtain⟨b,o,e1,e2⟩:=sl.at1 (u:=.int .i64 l[i]) hi zU1 rfl z5K rfl rfl (by rw[oU,hg];rfl);have ed:Yn l=if l[i]≠0 then l[i] else Yn (l.drop (i+1)):=by
   rw[zJH h2,List.drop_eq_getElem_cons hi];rfl
  refine⟨b,o,e1,l[i],e2,λc2=>hs.on λtm' hs'=>?_,λc2=>hs.on λtm' hs'=>?_⟩
  ·rw[ed,if_pos c2]at hq
   refine thenC.left (wpS.at hs' zIU rfl rfl (hs'.on λtm2 hs2=>?_));exact endW.r1 (hs2.get rfl) hq
  ·have e:zL ((i:Int)+1)=((i+1:Nat):Int):=by rw[zH (by omega) (by omega)];rfl
   refine⟨rfl,rfl,l.length-(i+1),by omega,i+1,by omega,rfl,rfl,?_,?_⟩
   ·rw[List.take_add_one,hg]
    clear ed hq hs sl;generalize l.take i=z at h2 ⊢
    induction z with
    | nil=>simp only[List.nil_append,Option.toList_some,Yn];rw[if_neg c2]
    | cons x z ih =>
     simp only[List.cons_append,Yn]at h2 ⊢;split at h2
     ·rename_i hx;exact absurd h2 hx
     ·rename_i hx;rw[if_neg hx];exact ih h2
   ·rw[<-e];exact hs'.sub rfl
 ·have hi:i=l.length:=by omega
  subst hi;rw[List.take_length]at h2;rw[h2]at hq;refine thenC.left (wpS.at hs' zIU rfl rfl (hs'.on λtm2 hs2=>?_));exact endW.r1 (hs2.get rfl) hq
theorem zOW {left:Nat}{h:H}{Q:V->H->Prop}(hl:left<=1048576) (hn:h.next<=T.top) (hw:h.low<=T.top) (hq:Q (.tuple [.int .i64 (zT (left+1):Nat),.int .i64 ((2^zT (left+1)-2-left:Nat):Int)]) h):RF P zA 209 [.int .i64 left] h Q:=by
 have hb:zT (left+1)<=21:=yE (by omega);have h2:=ZA (left+1);have hp:2^zT (left+1)<=2^21:=Nat.pow_le_pow_right (by decide) hb;have e1:zL ((left:Int)+1)=((left+1:Nat):Int):=by rw[zH (by omega) (by omega)];rfl
 refine RF.enterS zG zYp (ble _ _ rfl) (ble _ _ rfl) z1C ?_;rw[e1];refine KI (by omega) ⟨_,rfl,⟨hn,hw⟩,((1*2^zT (left+1):Nat):Int),?_,?_⟩
 ·rw[kG];exact zb (a:=1) (by omega) (by omega)
 ·rw[kG]
  have e2:zL (zL (((1*2^zT (left+1):Nat):Int)-1)-((left+1:Nat):Int))=((2^zT (left+1)-2-left:Nat):Int):=by
   rw[zH (n:=((1*2^zT (left+1):Nat):Int)-1) (by omega) (by omega),zH (by omega) (by omega)];omega
  rw[e2];exact hq
def qC (left:Nat):Nat:=zT (left+1)
def shT (left:Nat):Nat:=2^qC left-2-left
theorem zCg (left:Nat):0<qC left:=by unfold qC zT;rw[if_neg (by omega)];omega
theorem Od (left:Nat):2^(qC left-1)<=left+1/\left+1<2^qC left/\2^qC left=2*2^(qC left-1):=by
 have h1:=zCg left;refine⟨zMc (by omega),ZA _,?_⟩;rw[<-Nat.pow_succ']
 congr 1
abbrev xn:TI:=⟨3,.int .i64,1,8,some (.int .i64 0),true,false,false,[]⟩
abbrev zM (l:List Int):List V:=l.map λn=>V.int .i64 n
theorem Yt (l m:List Int):zM (l++m)=zM l++zM m:=List.map_append ..
theorem wq (l:List Int):(zM l).length=l.length:=od ..
def oD (log:Int) (v:V):O:=.cells (.ls [.int .i64 log,v]) ⟨0,59+1,0⟩ true false
end Go.Proofs.YtnpeieeomokomaaGreat
