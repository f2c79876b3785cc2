/- TI. No condition. -/
import Derived.Test.YtnpeieeomokomaaGreatZTH
import Derived.Test.YtnpeieeomokomaaGreatZTF
import Derived.Test.YtnpeieeomokomaaGreatZTG
set_option maxRecDepth 100000
set_option maxHeartbeats 1000000
namespace Go.Proofs.YtnpeieeomokomaaGreat
open Go.Sim
theorem zU6:∀{l:List Int},jJ l=true->(xM l=0↔ya l=0)
 | [],_=>⟨λ_=>rfl,λ_=>rfl⟩
 | x::l,h=>by
  have h2:jJ l=true:=by
   have:jJ ([x]++l)=true:=h;rw[jq,oG]at this;exact this.2
  have ih:=zU6 h2;have e1:ya (x::l)=Zd x+ya l:=by simp[ya]
  have e2:xM (x::l)=xM [x]+xM l:=KK [x] l;by_cases c:x≠0
  ·have a1:xM [x]=1:=by simp[xM,c]
   have a2:1<=Zd x:=by unfold Zd;rw[if_pos c];exact Nat.one_le_two_pow
   omega
  ·have hx:x=0:=by omega
   subst hx;have a1:xM [0]=0:=rfl;have a2:Zd 0=0:=rfl;omega
theorem zBD {n:Nat}(h:0<n):0<zT n:=by
 unfold zT;rw[if_neg (by omega)];exact Nat.succ_pos _
theorem zMo {n:Nat}(h:n≠0):2^(zT n-1)=2^n.log2:=by
 unfold zT;rw[if_neg h];rfl
theorem zQT {v:V}{l:List Int}{h:H}{Q:V->H->Prop}(sl:Sl h v 1 l.length (zM l)) (hl:l.length<=255) (hin:jJ l=true)
  (hq:Q (if wok l then .tuple [.int .i64 (zT (yk l):Nat),.int .i64 (zT (ya l):Nat)] else .tuple [.int .i64 0,.int .i64 0]) h):RF P zA 90 [v] h Q:=by
 refine RF.enterS zG z4n (ble _ _ rfl) (ble _ _ rfl) z5b (Has.nil.on λtm hs=>?_);refine wpC.round (λk tm h'=>∃i:Nat,i<=l.length/\k=l.length-i/\h'=h/\Has tm [(5,.int .i64 i),(0,v),(4,.int .i64 (ya (l.take i):Nat))]) l.length ⟨0,by omega,by omega,rfl,hs.sub (by kernel_rfl)⟩ ?_
 clear hs;rintro k tm h' ⟨i,h1,rfl,rfl,hs⟩;refine wpC.at hs zWx rfl rfl ⟨_,sl.len zQ rfl,λc=>?_,λc=>hs.on λtm' hs'=>?_⟩
 ·have hi:i<l.length:=by omega
  have hg:l[i]? = some l[i]:=oM hi;obtain⟨b,o,e1,e2⟩:=sl.at1 (u:=.int .i64 l[i]) hi zQ rfl zi rfl rfl (by rw[oU,hg];rfl);have ht:l.take (i+1)=l.take i++[l[i]]:=by rw[List.take_add_one,hg];rfl
  have hr:0<=l[i]/\l[i]<=11:=by
   have:=List.all_eq_true.1 hin l[i] (oQ hi);simpa using this
  generalize l[i]=x at hg e2 ht hr;have e:zL ((i:Int)+1)=((i+1:Nat):Int):=by rw[zH (by omega) (by omega)];rfl
  have hw:ya (l.take (i+1))=ya (l.take i)+Zd x:=by rw[ht,zFB];simp[ya]
  have hb:ya (l.take i)<=1024*i:=by
   have hh:jJ (l.take i)=true:=by
    have:=hin;rw[<-List.take_append_drop i l,jq,oG]at this;exact this.1
   have:=X3 hh;rw[List.length_take]at this;omega
  have hx:=zCo hr.2;refine⟨b,o,e1,x,e2,λc2=>⟨b,o,e1,x,e2,((1*2^(x.toNat-1):Nat):Int),?_,hs.on λtm' hs'=>⟨rfl,rfl,l.length-(i+1),by omega,i+1,by omega,rfl,rfl,?_⟩⟩,λc2=>hs.on λtm' hs'=>⟨rfl,rfl,l.length-(i+1),by omega,i+1,by omega,rfl,rfl,?_⟩⟩
  ·have:zN .u64 (zL (x-1))=((x.toNat-1:Nat):Int):=by rw[zH (by omega) (by omega),show x-1=((x.toNat-1:Nat):Int)by omega,zP (by omega)]
   rw[this];refine zb (a:=1) (by omega) ?_;have h3:2^(x.toNat-1)<=2^10:=Nat.pow_le_pow_right (by decide) (by omega);omega
  ·have ew:zL (((ya (l.take i):Nat):Int)+((1*2^(x.toNat-1):Nat):Int))=((ya (l.take (i+1)):Nat):Int):=by
    have hx2:Zd x=1*2^(x.toNat-1):=by unfold Zd;rw[if_pos (by omega),Nat.one_mul]
    rw[<-hx2,zH (by omega) (by omega),hw];rfl
   rw[<-ew,<-e];exact hs'.sub (by kernel_rfl)
  ·have:ya (l.take (i+1))=ya (l.take i):=by
    rw[hw];have:x=0:=by omega
    subst this;rfl
   rw[this,<-e];exact hs'.sub (by kernel_rfl)
 have hi:i=l.length:=by omega
 subst hi;rw[List.take_length]at hs';have hw:=X3 hin;have hm:zT (ya l)<=20:=yE (by omega);have hlt:=ZA (ya l);have hp:2^zT (ya l)<=2^20:=Nat.pow_le_pow_right (by decide) hm;have hr1:1<=yk l:=by unfold yk;omega
 have hr2:yk l<=2^20:=by unfold yk;omega
 have h0:=zU6 hin;refine thenC.left (wpS.at hs' zXS rfl rfl (JI (by omega) ⟨_,rfl,λc2=>hs'.on λtm2 hs2=>?_,λc2=>⟨λc3=>hs'.on λtm2 hs2=>?_,λc3=>hs'.on λtm2 hs2=>?_⟩⟩))
 ·rw[if_neg (λg:wok l=>g.1 (by omega))]at hq
  exact endW.r2 (hs2.get rfl) (hs2.get rfl) hq
 ·rw[if_neg (λg:wok l=>by have:=g.2.1;omega)]at hq
  exact endW.r2 (hs2.get rfl) (hs2.get rfl) hq
 have e1:zN .u64 ((zT (ya l):Nat):Int)=((zT (ya l):Nat):Int):=zP (by omega);have e2:zL (((1*2^zT (ya l):Nat):Int)-(ya l:Nat))=((yk l:Nat):Int):=by
  rw[zH (by omega) (by omega)];unfold yk;omega
 have hnb:zT (yk l)<=21:=yE (by omega);have hnp:=zBD (n:=yk l) (by omega);have hlg:=zMo (n:=yk l) (by omega);have h21:2^(zT (yk l)-1)<=2^20:=Nat.pow_le_pow_right (by decide) (by omega);refine wpS.at hs2 zXR rfl rfl ⟨((1*2^zT (ya l):Nat):Int),by rw[e1];exact zb (a:=1) (by omega) (by omega),?_⟩;rw[e2];refine OX (by omega) ⟨_,rfl,((1*2^(zT (yk l)-1):Nat):Int),?_,λc4=>hs2.on λtm3 hs3=>?_,λc4=>hs2.on λtm3 hs3=>?_⟩
 ·rw[show((zT (yk l):Nat)-1:Int)=((zT (yk l)-1:Nat):Int)by omega,zP (by omega)]
  exact zb (a:=1) (by omega) (by omega)
 ·rw[if_neg (λg:wok l=>c4 (by have:=g.2.2;omega))]at hq
  exact hs3.slt λtm4 hs4=>endW.r2 (hs4.get rfl) (hs4.get rfl) hq
 ·have hok:wok l:=⟨λg=>c2 (by omega),by omega,by omega⟩
  rw[if_pos hok]at hq;have e5:zL (((zT (yk l):Nat)-1:Int)+1)=((zT (yk l):Nat):Int):=by rw[zH (by omega) (by omega)];omega
  rw[e5]at hs3;exact hs3.slt λtm4 hs4=>endW.r2 (hs4.get rfl) (hs4.get rfl) hq
theorem zIA {v:V}{l:List Int}{h:H}{Q:V->H->Prop}(sl:Sl h v 1 l.length (zM l)) (hl:l.length<4611686018427387904) (hq:Q (.int .i64 (ZK l)) h):RF P zA 45 [v] h Q:=by
 unfold ZK at hq;refine RF.enterS zG z4c (ble _ _ rfl) (ble _ _ rfl) z5Y ⟨_,sl.len zQ rfl,λc=>?_,λc=>⟨_,sl.len zQ rfl,λc2=>?_,λc2=>Has.nil.on λtm hs=>?_⟩⟩
 ·rw[if_pos (.inl (by omega))]at hq
  exact hq
 ·rw[if_pos (.inr (by omega))]at hq
  exact hq
 rw[if_neg (by omega)]at hq;refine wpS.at hs zXI rfl rfl (hs.on λtm2 hs2=>?_);refine wpC.round (λk tm h'=>∃i:Nat,i<=l.length/\k=l.length-i/\h'=h/\jJ (l.take i)=true/\Has tm [(3,.int .i64 i),(0,v)]) l.length ⟨0,by omega,by omega,rfl,by simp[jJ],hs2.sub (by kernel_rfl)⟩ ?_
 clear hs hs2;rintro k tm h' ⟨i,h1,rfl,rfl,h2,hs⟩;refine wpC.at hs zWs rfl rfl ⟨_,sl.len zQ rfl,λc=>?_,λc=>hs.on λtm' hs'=>?_⟩
 ·have hi:i<l.length:=by omega
  have hg:l[i]? = some l[i]:=oM hi;obtain⟨b,o,e1,e2⟩:=sl.at1 (u:=.int .i64 l[i]) hi zQ rfl zi rfl rfl (by rw[oU,hg];rfl);have ht:l.take (i+1)=l.take i++[l[i]]:=by rw[List.take_add_one,hg];rfl
  have hall:¬(0<=l[i]/\l[i]<=11)->jJ l=false:=λhn=>by
   cases g:jJ l with
   | false=>rfl
   | true =>
    have:=List.all_eq_true.1 g l[i] (oQ hi);simp only[oG,decide_eq_true_eq]at this;exact absurd this hn
  generalize l[i]=x at hg e2 ht hall;have e:zL ((i:Int)+1)=((i+1:Nat):Int):=by rw[zH (by omega) (by omega)];rfl
  refine⟨b,o,e1,x,e2,λc2=>hs.on λtm' hs'=>?_,λc2=>⟨b,o,e1,x,e2,λc3=>hs.on λtm' hs'=>?_,λc3=>hs.on λtm' hs'=>⟨rfl,rfl,l.length-(i+1),by omega,i+1,by omega,rfl,rfl,?_,?_⟩⟩⟩
  ·rw[hall (by omega)]at hq
   exact thenC.rt (thenC.rt (hs'.slt λtm4 hs4=>endW.r1 (hs4.get rfl) hq))
  ·rw[hall (by omega)]at hq
   exact thenC.rt (thenC.rt (hs'.slt λtm4 hs4=>endW.r1 (hs4.get rfl) hq))
  ·rw[ht,jq,h2]
   simp only[jJ,List.all_cons,List.all_nil,Bool.and_true,Bool.true_and,oG,decide_eq_true_eq];omega
  ·rw[<-e]
   exact hs'.sub (by kernel_rfl)
 have hi:i=l.length:=by omega
 subst hi;rw[List.take_length]at h2;rw[if_pos h2]at hq;refine thenC.left (wpS.at hs' zXH rfl rfl (zQT sl (by omega) h2 ?_));by_cases c:wok l
 ·rw[if_pos c]at hq ⊢
  have hnp:=zBD (n:=yk l) (by have:=ZA (ya l);unfold yk;omega);refine⟨_,_,rfl,λq=>by omega,λ_=>hs'.on λtm2 hs2=>hs2.slt λtm4 hs4=>endW.r1 (hs4.get rfl) hq⟩
 ·rw[if_neg c]at hq ⊢
  refine⟨_,_,rfl,λ_=>hs'.on λtm2 hs2=>hs2.slt λtm4 hs4=>endW.r1 (hs4.get rfl) hq,λq=>absurd rfl q⟩
theorem xN {v w:V}{l:List Int}{h:H}{Q:V->H->Prop}(sl:Sl h v 1 l.length (zM l)) (sw:Sl h w 1 l.length (zM l)) (hl:l.length<4611686018427387904) (hn:h.next<=T.top) (hlow:h.low<=T.top) (hq:Q (.bool true) h) :
  RF P zA 12 [v,w] h Q:=by
 refine RF.enterS zG z4Y (ble _ _ rfl) (ble _ _ rfl) z5L ⟨_,sl.len zQ rfl,_,sw.len zQ rfl,λq=>absurd rfl q,λ_=>Has.nil.on λtm hs=>?_⟩
 refine wpC.round (λk tm h'=>∃i:Nat,i<=l.length/\k=l.length-i/\h'=h/\Has tm [(5,.int .i64 i),(0,v),(1,w)]) l.length ⟨0,by omega,by omega,rfl,hs.sub (by kernel_rfl)⟩ ?_
 clear hs;rintro k tm h' ⟨i,h1,rfl,rfl,hs⟩;refine wpC.at hs zWq rfl rfl ⟨_,sl.len zQ rfl,λc=>?_,λc=>hs.on λtm' hs'=>?_⟩
 ·have hi:i<l.length:=by omega
  have hg:l[i]? = some l[i]:=oM hi;obtain⟨b,o,e1,e2⟩:=sl.at1 (u:=.int .i64 l[i]) hi zQ rfl zi rfl rfl (by rw[oU,hg];rfl);obtain⟨b2,o2,e3,e4⟩:=sw.at1 (u:=.int .i64 l[i]) hi zQ rfl zi rfl rfl (by rw[oU,hg];rfl);have e:zL ((i:Int)+1)=((i+1:Nat):Int):=by rw[zH (by omega) (by omega)];rfl
  refine⟨⟨hn,hlow⟩,b,o,e1,_,e2,b2,o2,e3,_,e4,λq=>absurd rfl q,λ_=>hs.on λtm' hs'=>⟨rfl,rfl,l.length-(i+1),by omega,i+1,by omega,rfl,rfl,?_⟩⟩
  rw[<-e];exact hs'.sub (by kernel_rfl)
 ·refine thenC.left (wpS.at hs' zXE rfl rfl (hs'.on λtm2 hs2=>endW.r1 (hs2.get rfl) hq))
end Go.Proofs.YtnpeieeomokomaaGreat
