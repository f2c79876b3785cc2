/- TC. No condition. -/
import Derived.Test.YtnpeieeomokomaaGreatZTB
import Derived.Test.YtnpeieeomokomaaGreatZTA
import Derived.Test.YtnpeieeomokomaaGreatZZ
set_option maxRecDepth 100000
set_option maxHeartbeats 1000000
namespace Go.Proofs.YtnpeieeomokomaaGreat
open Go.Sim
theorem _root_.Go.Sim.thenC.rt {K:St->Prop}{R:AX->St->Prop}{s:St}(h:R .ret s):thenC K R .ret s:=h
theorem z5D {α:Type}:∀{l:List α},l.length=4->∃a b c d,l=[a,b,c,d]
 | [a,b,c,d],_=>⟨a,b,c,d,rfl⟩
theorem _root_.Go.Sim.qs_at {r:Option (List Qy×St)}{qs:List Qy}{s:St}{l:List ((Nat×List V)×V)}(e:r=some (qs,s)) (h:r.map (λx=>x.1.map λq=>(q.1,q.2.2))=some l):qs.map (λq=>(q.1,q.2.2))=l:=by
 subst e;exact Option.some.inj h
abbrev z5F (a b:Int):O:=.cells (.ls [.int .i64 a,.int .i64 b]) ⟨0,24+1,0⟩ true false
def jJ (l:List Int):Bool:=l.all λx=>decide (0<=x) && decide (x<=11)
def xM (l:List Int):Nat:=(l.filter λx=>decide (x≠0)).length
def zJN (l:List Int):V:=if jJ l=true then .tuple [.int .i64 (xM l:Nat),.bool true] else .tuple [.int .i64 0,.bool false]
theorem jq (l m:List Int):jJ (l++m)=(jJ l && jJ m):=List.all_append ..
theorem KK (l m:List Int):xM (l++m)=xM l+xM m:=by unfold xM;rw[List.filter_append,oR]
theorem qm (l:List Int):xM l<=l.length:=List.length_filter_le _ _
theorem zAy {v:V}{l:List Int}{h:H}{Q:V->H->Prop}(sl:Sl h v 1 l.length (zM l)) (hl:l.length<4611686018427387904) (hq:Q (zJN l) h):RF P zA 142 [v] h Q:=by
 refine RF.enterS zG zYW (ble _ _ rfl) (ble _ _ rfl) z09 ⟨_,sl.len zQ rfl,Has.nil.on λtm hs=>?_⟩
 refine wpC.round (λk tm h'=>∃i:Nat,i<=l.length/\k=l.length-i/\h'=h/\jJ (l.take i)=true/\Has tm [(8,.int .i64 i),(7,.int .i64 l.length),(6,v),(2,.int .i64 (xM (l.take i):Nat)),(3,.bool false)]) l.length ⟨0,by omega,by omega,rfl,by simp[jJ],hs.sub rfl⟩ ?_
 rintro k tm h' ⟨i,h1,rfl,rfl,h2,hs⟩;refine wpC.at hs zQc rfl rfl ⟨λc=>?_,λc=>hs.on λtm' hs'=>?_⟩
 ·have hi:i<l.length:=by omega
  have hg:l[i]? = some l[i]:=oM hi;obtain⟨b,o,e1,e2⟩:=sl.at1 (u:=.int .i64 l[i]) hi zQ rfl zi rfl rfl (by rw[oU,hg];rfl);have ht:l.take (i+1)=l.take i++[l[i]]:=by rw[List.take_add_one,hg];rfl
  have hall:∀x,x∈[l[i]]->¬(0<=x/\x<=11)->zJN l = .tuple [.int .i64 0,.bool false]:=λx hx hn=>by
   unfold zJN;rw[if_neg];intro g;rw[<-List.take_append_drop (i+1) l,jq,ht,jq]at g;simp only[oG]at g;have:=List.all_eq_true.1 g.1.2 x hx;simp only[oG,decide_eq_true_eq]at this;exact hn this
  generalize l[i]=x at hg e2 ht hall;have e:zL ((i:Int)+1)=((i+1:Nat):Int):=by rw[zH (by omega) (by omega)];rfl
  refine⟨b,o,e1,x,e2,λc2=>hs.on λtm' hs'=>?_,λc2=>⟨λc3=>hs.on λtm' hs'=>?_,λc3=>hs.on λtm' hs'=>?_⟩⟩
  ·rw[hall x (List.mem_singleton.2 rfl) (λg=>by omega)]at hq
   exact thenC.rt (thenC.rt (endW.r2 (hs'.get rfl) (hs'.get rfl) hq))
  ·rw[hall x (List.mem_singleton.2 rfl) (λg=>by omega)]at hq
   exact thenC.rt (thenC.rt (endW.r2 (hs'.get rfl) (hs'.get rfl) hq))
  ·have hb:jJ (l.take (i+1))=true:=by
    rw[ht,jq,h2];simp only[jJ,List.all_cons,List.all_nil,Bool.and_true,Bool.true_and,oG,decide_eq_true_eq];omega
   have hc:=qm (l.take i);rw[List.length_take]at hc;refine wpS.at hs' zRd rfl rfl ⟨λc4=>hs'.on λtm2 hs2=>?_,λc4=>hs'.on λtm2 hs2=>?_⟩
   ·refine thenC.nx (wpS.at hs2 zIO rfl rfl (hs2.on λtm3 hs3=>hs3.slt λtm4 hs4=>⟨rfl,rfl,l.length-(i+1),by omega,i+1,by omega,rfl,rfl,hb,?_⟩))
    have ec:zL (((xM (l.take i):Nat):Int)+1)=((xM (l.take (i+1)):Nat):Int):=by
     rw[zH (by omega) (by omega),ht,KK];have:xM [x]=1:=by simp[xM,c4]
     omega
    rw[<-ec,<-e];exact hs4.sub rfl
   ·refine thenC.nx (wpS.at hs2 zIO rfl rfl (hs2.on λtm3 hs3=>hs3.slt λtm4 hs4=>⟨rfl,rfl,l.length-(i+1),by omega,i+1,by omega,rfl,rfl,hb,?_⟩))
    have ec:xM (l.take (i+1))=xM (l.take i):=by
     rw[ht,KK];have:x=0:=by omega
     subst this;rfl
    rw[ec,<-e];exact hs4.sub rfl
 ·have hi:i=l.length:=by omega
  subst hi;rw[List.take_length]at h2 hs';unfold zJN at hq;rw[if_pos h2]at hq;refine thenC.left (wpS.at hs' zRe rfl rfl (hs'.on λtm2 hs2=>?_));exact endW.r2 (hs2.get rfl) (hs2.get rfl) hq
def Zd (x:Int):Nat:=if x≠0 then 2^(x.toNat-1) else 0
def ya (l:List Int):Nat:=(l.map Zd).sum
theorem zFB (l m:List Int):ya (l++m)=ya l+ya m:=by unfold ya;rw[List.map_append,List.sum_append]
theorem zCo {x:Int}(h:x<=11):Zd x<=1024:=by
 unfold Zd;split
 ·exact oP (Nat.pow_le_pow_right (by decide) (show x.toNat-1<=10 by omega)) (by decide)
 ·omega
theorem X3:∀{l:List Int},jJ l=true->ya l<=1024*l.length
 | [],_=>by simp[ya]
 | x::l,h=>by
  unfold jJ at h;rw[List.all_cons,oG,oG]at h;have h1:=zCo (of_decide_eq_true h.1.2);have h2:=X3 (l:=l) h.2;have:ya (x::l)=Zd x+ya l:=by simp[ya]
  rw[this,oS];omega
theorem zW3 {x:Int}{h:H}{Q:V->H->Prop}(h1:1<=x) (h2:x<=11) (hq:Q (.int .i64 (Zd x:Nat)) h):RF P zA 144 [.int .i64 x] h Q:=by
 have e:zN .u64 (zL (x-1))=((x.toNat-1:Nat):Int):=by
  rw[zH (by omega) (by omega),show x-1=((x.toNat-1:Nat):Int)by omega,zP (by omega)]
 have hp:2^(x.toNat-1)<=2^10:=Nat.pow_le_pow_right (by decide) (by omega);refine RF.enterS zG zYX (ble _ _ rfl) (ble _ _ rfl) z0a ⟨((1*2^(x.toNat-1):Nat):Int),by rw[e];exact zb (a:=1) (by omega) (by omega),?_⟩;unfold Zd at hq;rw[if_pos (by omega)]at hq
 rwa [Nat.one_mul]
theorem zOa {v:V}{l:List Int}{h:H}{Q:V->H->Prop}(sl:Sl h v 1 l.length (zM l)) (hl:l.length<=1000) (hin:jJ l=true) (hq:Q (.int .i64 (ya l:Nat)) h) :
  RF P zA 143 [v,.func (.func 144) [] []] h Q:=by
 refine RF.enterS zG zTe (ble _ _ rfl) (ble _ _ rfl) zU3 ⟨_,sl.len zQ rfl,Has.nil.on λtm hs=>?_⟩
 refine wpC.round (λk tm h'=>∃i:Nat,i<=l.length/\k=l.length-i/\h'=h/\Has tm [(9,.int .i64 i),(8,.int .i64 l.length),(7,v),(4,.int .i64 (ya (l.take i):Nat)),(1,.func (.func 144) [] [])]) l.length ⟨0,by omega,by omega,rfl,hs.sub rfl⟩ ?_
 rintro k tm h' ⟨i,h1,rfl,rfl,hs⟩;refine wpC.at hs zIM rfl rfl ⟨λc=>?_,λc=>hs.on λtm' hs'=>?_⟩
 ·have hi:i<l.length:=by omega
  have hg:l[i]? = some l[i]:=oM hi;obtain⟨b,o,e1,e2⟩:=sl.at1 (u:=.int .i64 l[i]) hi zQ rfl zi rfl rfl (by rw[oU,hg];rfl);have ht:l.take (i+1)=l.take i++[l[i]]:=by rw[List.take_add_one,hg];rfl
  have hr:0<=l[i]/\l[i]<=11:=by
   have:=List.all_eq_true.1 hin l[i] (oQ hi);simpa using this
  generalize l[i]=x at hg e2 ht hr;have e:zL ((i:Int)+1)=((i+1:Nat):Int):=by rw[zH (by omega) (by omega)];rfl
  have hw:ya (l.take (i+1))=ya (l.take i)+Zd x:=by rw[ht,zFB];simp[ya]
  have hb:ya (l.take i)<=1024*i:=by
   have hh:jJ (l.take i)=true:=by
    have:=hin;rw[<-List.take_append_drop i l,jq,oG]at this;exact this.1
   have:=X3 hh;rw[List.length_take]at this;omega
  have hx:=zCo hr.2;refine⟨b,o,e1,x,e2,λc2=>?_,λc2=>hs.on λtm' hs'=>⟨rfl,rfl,l.length-(i+1),by omega,i+1,by omega,rfl,rfl,?_⟩⟩
  ·show RF P zA 144 [.int .i64 x] h' _
   refine zW3 (by omega) hr.2 ?_;refine⟨((Zd x:Nat):Int),rfl,hs.on λtm' hs'=>⟨rfl,rfl,l.length-(i+1),by omega,i+1,by omega,rfl,rfl,?_⟩⟩
   have ew:zL (((ya (l.take i):Nat):Int)+(Zd x:Nat))=((ya (l.take (i+1)):Nat):Int):=by rw[zH (by omega) (by omega),hw];rfl
   rw[<-ew,<-e];exact hs'.sub rfl
  ·have:ya (l.take (i+1))=ya (l.take i):=by
    rw[hw];have:x=0:=by omega
    subst this;rfl
   rw[this,<-e];exact hs'.sub rfl
 ·have hi:i=l.length:=by omega
  subst hi;rw[List.take_length]at hs';refine thenC.left (wpS.at hs' zIP rfl rfl (hs'.on λtm2 hs2=>?_));exact endW.r1 (hs2.get rfl) hq
def yk (l:List Int):Nat:=2^zT (ya l)-ya l
def wok (l:List Int):Prop:=xM l≠0/\zT (ya l)<=11/\yk l=2^(yk l).log2
instance (l:List Int):Decidable (wok l):=inferInstanceAs (Decidable (_/\_/\_))
def zL1 (l:List Int):V :=
 if l.length<1\/255<l.length then .tuple [.int .i64 0,.int .i64 0,.int .i64 4]
 else if jJ l=true then
  (if wok l then .tuple [.int .i64 (zT (yk l):Nat),.int .i64 (zT (ya l):Nat),.int .i64 0] else .tuple [.int .i64 0,.int .i64 0,.int .i64 21])
 else .tuple [.int .i64 0,.int .i64 0,.int .i64 2]
theorem zGH {v:V}{l:List Int}{h:H}{Q:V->H->Prop}(sl:Sl h v 1 l.length (zM l)) (hl:l.length<4611686018427387904) (hq:Q (zL1 l) h):RF P zA 82 [v] h Q:=by
 refine RF.enterS zG z4l (ble _ _ rfl) (ble _ _ rfl) z59 ⟨_,sl.len zQ rfl,λc=>?_,λc=>⟨_,sl.len zQ rfl,λc2=>?_,λc2=>Has.nil.on λtm hs=>?_⟩⟩
 ·unfold zL1 at hq
  rw[if_pos (.inl (by omega))]at hq;exact hq
 ·unfold zL1 at hq
  rw[if_pos (.inr (by omega))]at hq;exact hq
 unfold zL1 at hq;rw[if_neg (by omega)]at hq;refine wpS.at hs zXN rfl rfl (zAy sl hl ?_);unfold zJN;by_cases hin:jJ l=true
 ·rw[if_pos hin]at hq ⊢
  have hw:=X3 hin;have hm:zT (ya l)<=20:=yE (by omega);have hlt:=ZA (ya l);have hp:2^zT (ya l)<=2^20:=Nat.pow_le_pow_right (by decide) hm;refine⟨(xM l:Nat),true,rfl,λ_=>zOa sl (by omega) hin ⟨_,rfl,KI (by omega) ?_⟩,λg=>(by cases g)⟩
  rw[kG];have e1:zN .u64 (max ((zT (ya l):Nat):Int) 0)=((zT (ya l):Nat):Int):=by
   rw[show max ((zT (ya l):Nat):Int) 0=((zT (ya l):Nat):Int)by omega,zP (by omega)]
  have e2:zL (((1*2^zT (ya l):Nat):Int)-(ya l:Nat))=((yk l:Nat):Int):=by
   rw[zH (by omega) (by omega)];unfold yk;omega
  have hr1:1<=yk l:=by unfold yk;omega
  have hr2:yk l<=2^20:=by unfold yk;omega
  have e3:zL (((yk l:Nat):Int)-1)=((yk l-1:Nat):Int):=by rw[zH (by omega) (by omega)];omega
  refine⟨_,rfl,((1*2^zT (ya l):Nat):Int),by rw[e1];exact zb (a:=1) (by omega) (by omega),λc3=>hs.on λtm2 hs2=>?_,λc3=>⟨λc4=>hs.on λtm2 hs2=>?_,λc4=>?_⟩⟩
  ·rw[if_neg (λg:wok l=>g.1 (by omega))]at hq
   exact endW.r3 (hs2.get rfl) (hs2.get rfl) (hs2.get rfl) hq
  ·rw[if_neg (λg:wok l=>by have:=g.2.1;omega)]at hq
   exact endW.r3 (hs2.get rfl) (hs2.get rfl) (hs2.get rfl) hq
  rw[e2];refine⟨λc5=>by omega,λ_=>⟨((yk l &&& (yk l-1):Nat):Int),by rw[e3];exact jx (by omega) (by omega),λc6=>hs.on λtm2 hs2=>?_,λc6=>hs.on λtm2 hs2=>?_⟩⟩
  ·rw[if_neg (λg:wok l=>c6 (by rw[(zER (by omega)).2 g.2.2];rfl))]at hq
   exact endW.r3 (hs2.get rfl) (hs2.get rfl) (hs2.get rfl) hq
  ·have hok:wok l:=⟨λg=>c3 (by omega),by omega,(zER (by omega)).1 (by omega)⟩
   rw[if_pos hok]at hq;refine wpS.at hs2 zXM rfl rfl (KI (by omega) ⟨_,rfl,hs2.on λtm3 hs3=>?_⟩)
   refine hs3.slt λtm4 hs4=>?_
   refine endW.r3 (hs4.get rfl) (hs4.get rfl) (hs4.get rfl) ?_;rw[kG];exact hq
 ·rw[if_neg hin]at hq ⊢
  refine⟨0,false,rfl,λg=>(by cases g),λ_=>hs.on λtm2 hs2=>endW.r3 (hs2.get rfl) (hs2.get rfl) (hs2.get rfl) hq⟩
def ZK (l:List Int):Int:=if l.length<1\/255<l.length then 4 else if jJ l=true then (if wok l then 0 else 21) else 2
theorem zE7 {v:V}{l:List Int}{h:H}{Q:V->H->Prop}(sl:Sl h v 1 l.length (zM l)) (hl:l.length<4611686018427387904) (hq:Q (.int .i64 (ZK l)) h):RF P zA 41 [v] h Q:=by
 refine RF.enterS zG z4b (ble _ _ rfl) (ble _ _ rfl) z5X (zGH sl hl ?_);unfold zL1;unfold ZK at hq;split at hq
 ·rename_i c;rw[if_pos c];exact⟨_,_,_,rfl,hq⟩
 ·rename_i c
  rw[if_neg c];split at hq
  ·rename_i c2
   rw[if_pos c2];split at hq
   ·rename_i c3;rw[if_pos c3];exact⟨_,_,_,rfl,hq⟩
   ·rename_i c3;rw[if_neg c3];exact⟨_,_,_,rfl,hq⟩
  ·rename_i c2;rw[if_neg c2];exact⟨_,_,_,rfl,hq⟩
end Go.Proofs.YtnpeieeomokomaaGreat
