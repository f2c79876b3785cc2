/- TO. No condition. -/
import Derived.Test.YtnpeieeomokomaaGreatZTN
namespace Go.Proofs.YtnpeieeomokomaaGreat
open Go.Sim
theorem wsum0:∀ {l:List Int},inB l=true→(cnt l=0↔wsum l=0)
 | [],_=>⟨fun _=>rfl,fun _=>rfl⟩
 | x :: l,h=>by
  have h2:inB l=true:=by
   have:inB ([x]++l)=true:=h
   rw [inB_app,Bool.and_eq_true] at this
   exact this.2
  have ih:=wsum0 h2
  have e1:wsum (x :: l)=wone x+wsum l:=by simp [wsum]
  have e2:cnt (x :: l)=cnt [x]+cnt l:=cnt_app [x] l
  by_cases c:x≠0
  ·have a1:cnt [x]=1:=by simp [cnt,c]
   have a2:1≤wone x:=by unfold wone; rw [if_pos c]; exact Nat.one_le_two_pow
   omega
  ·have hx:x=0:=by omega
   subst hx
   have a1:cnt [0]=0:=rfl
   have a2:wone 0=0:=rfl
   omega
theorem nbits_pos {n:Nat} (h:0<n):0<nbits n:=by
 unfold nbits
 rw [if_neg (by omega)]
 exact Nat.succ_pos _
theorem pow2_log {n:Nat} (h:n≠0):2^(nbits n-1)=2^n.log2:=by
 unfold nbits
 rw [if_neg h]
 rfl
set_option maxRecDepth 100000 in
set_option maxHeartbeats 1000000 in
theorem rImp_ok {v:V} {l:List Int} {h:H} {Q:V→H→Prop} (sl:Sl h v 1 l.length (ints l)) (hl:l.length≤255) (hin:inB l=true)
  (hq:Q (if wok l then .tuple [.int .i64 (nbits (wrest l):Nat),.int .i64 (nbits (wsum l):Nat)] else .tuple [.int .i64 0,.int .i64 0]) h):RF P ctx 90 [v] h Q:=by
 refine RF.enterS ctx_ok fn90 (ble _ _ rfl) (ble _ _ rfl) vb90 (Has.nil.on fun tm hs=>?_)
 refine wpC.round (fun k tm h'=>∃ i:Nat,i≤l.length∧k=l.length-i∧h'=h∧Has tm [(5,.int .i64 i),(0,v),(4,.int .i64 (wsum (l.take i):Nat))]) l.length ⟨0,by omega,by omega,rfl,hs.sub (by kernel_rfl)⟩ ?_
 clear hs
 rintro k tm h' ⟨i,h1,rfl,rfl,hs⟩
 refine wpC.at hs vl90_0 rfl rfl ⟨_,sl.len ty23 rfl,fun c=>?_,fun c=>hs.on fun tm' hs'=>?_⟩
 ·have hi:i<l.length:=by omega
  have hg:l[i]? = some l[i]:=List.getElem?_eq_getElem hi
  obtain ⟨b,o,e1,e2⟩:=sl.at1 (u:=.int .i64 l[i]) hi ty23 rfl ty3 rfl rfl (by rw [List.getElem?_map,hg]; rfl)
  have ht:l.take (i+1)=l.take i++[l[i]]:=by rw [List.take_add_one,hg]; rfl
  have hr:0≤l[i]∧l[i]≤11:=by
   have:=List.all_eq_true.1 hin l[i] (List.getElem_mem hi)
   simpa using this
  generalize l[i]=x at hg e2 ht hr
  have e:w64 ((i:Int)+1)=((i+1:Nat):Int):=by rw [w64_id (by omega) (by omega)]; rfl
  have hw:wsum (l.take (i+1))=wsum (l.take i)+wone x:=by rw [ht,wsum_app]; simp [wsum]
  have hb:wsum (l.take i)≤1024*i:=by
   have hh:inB (l.take i)=true:=by
    have:=hin
    rw [← List.take_append_drop i l,inB_app,Bool.and_eq_true] at this
    exact this.1
   have:=wsum_le hh
   rw [List.length_take] at this
   omega
  have hx:=wone_le hr.2
  refine ⟨b,o,e1,x,e2,fun c2=>⟨b,o,e1,x,e2,((1*2^(x.toNat-1):Nat):Int),?_,hs.on fun tm' hs'=>⟨rfl,rfl,l.length-(i+1),by omega,i+1,by omega,rfl,rfl,?_⟩⟩,fun c2=>hs.on fun tm' hs'=>⟨rfl,rfl,l.length-(i+1),by omega,i+1,by omega,rfl,rfl,?_⟩⟩
  ·have:wrapF .u64 (w64 (x-1))=((x.toNat-1:Nat):Int):=by rw [w64_id (by omega) (by omega),show x-1=((x.toNat-1:Nat):Int) by omega,wrapN_u64 (by omega)]
   rw [this]
   refine shlN_i64 (a:=1) (by omega) ?_
   have h3:2^(x.toNat-1)≤2^10:=Nat.pow_le_pow_right (by decide) (by omega)
   omega
  ·have ew:w64 (((wsum (l.take i):Nat):Int)+((1*2^(x.toNat-1):Nat):Int))=((wsum (l.take (i+1)):Nat):Int):=by
    have hx2:wone x=1*2^(x.toNat-1):=by unfold wone; rw [if_pos (by omega),Nat.one_mul]
    rw [← hx2,w64_id (by omega) (by omega),hw]; rfl
   rw [← ew,← e]
   exact hs'.sub (by kernel_rfl)
  ·have:wsum (l.take (i+1))=wsum (l.take i):=by
    rw [hw]
    have:x=0:=by omega
    subst this
    rfl
   rw [this,← e]
   exact hs'.sub (by kernel_rfl)
 have hi:i=l.length:=by omega
 subst hi
 rw [List.take_length] at hs'
 have hw:=wsum_le hin
 have hm:nbits (wsum l)≤20:=nbits_bound (by omega)
 have hlt:=nbits_lt (wsum l)
 have hp:2^nbits (wsum l)≤2^20:=Nat.pow_le_pow_right (by decide) hm
 have hr1:1≤wrest l:=by unfold wrest; omega
 have hr2:wrest l≤2^20:=by unfold wrest; omega
 have h0:=wsum0 hin
 refine thenC.left (wpS.at hs' vr90_2 rfl rfl (rBitsN_ok (by omega) ⟨_,rfl,fun c2=>hs'.on fun tm2 hs2=>?_,fun c2=>⟨fun c3=>hs'.on fun tm2 hs2=>?_,fun c3=>hs'.on fun tm2 hs2=>?_⟩⟩))
 ·rw [if_neg (fun g:wok l=>g.1 (by omega))] at hq
  exact endW.r2 (hs2.get rfl) (hs2.get rfl) hq
 ·rw [if_neg (fun g:wok l=>by have:=g.2.1; omega)] at hq
  exact endW.r2 (hs2.get rfl) (hs2.get rfl) hq
 have e1:wrapF .u64 ((nbits (wsum l):Nat):Int)=((nbits (wsum l):Nat):Int):=wrapN_u64 (by omega)
 have e2:w64 (((1*2^nbits (wsum l):Nat):Int)-(wsum l:Nat))=((wrest l:Nat):Int):=by
  rw [w64_id (by omega) (by omega)]; unfold wrest; omega
 have hnb:nbits (wrest l)≤21:=nbits_bound (by omega)
 have hnp:=nbits_pos (n:=wrest l) (by omega)
 have hlg:=pow2_log (n:=wrest l) (by omega)
 have h21:2^(nbits (wrest l)-1)≤2^20:=Nat.pow_le_pow_right (by decide) (by omega)
 refine wpS.at hs2 vr90_1 rfl rfl ⟨((1*2^nbits (wsum l):Nat):Int),by rw [e1]; exact shlN_i64 (a:=1) (by omega) (by omega),?_⟩
 rw [e2]
 refine rHigh_ok (by omega) ⟨_,rfl,((1*2^(nbits (wrest l)-1):Nat):Int),?_,fun c4=>hs2.on fun tm3 hs3=>?_,fun c4=>hs2.on fun tm3 hs3=>?_⟩
 ·rw [show ((nbits (wrest l):Nat)-1:Int)=((nbits (wrest l)-1:Nat):Int) by omega,wrapN_u64 (by omega)]
  exact shlN_i64 (a:=1) (by omega) (by omega)
 ·rw [if_neg (fun g:wok l=>c4 (by have:=g.2.2; omega))] at hq
  exact hs3.slt fun tm4 hs4=>endW.r2 (hs4.get rfl) (hs4.get rfl) hq
 ·have hok:wok l:=⟨fun g=>c2 (by omega),by omega,by omega⟩
  rw [if_pos hok] at hq
  have e5:w64 (((nbits (wrest l):Nat)-1:Int)+1)=((nbits (wrest l):Nat):Int):=by rw [w64_id (by omega) (by omega)]; omega
  rw [e5] at hs3
  exact hs3.slt fun tm4 hs4=>endW.r2 (hs4.get rfl) (hs4.get rfl) hq
set_option maxRecDepth 100000 in
theorem rRgt_ok {v:V} {l:List Int} {h:H} {Q:V→H→Prop} (sl:Sl h v 1 l.length (ints l)) (hl:l.length<4611686018427387904) (hq:Q (.int .i64 (rgtV l)) h):RF P ctx 45 [v] h Q:=by
 unfold rgtV at hq
 refine RF.enterS ctx_ok fn45 (ble _ _ rfl) (ble _ _ rfl) vb45 ⟨_,sl.len ty23 rfl,fun c=>?_,fun c=>⟨_,sl.len ty23 rfl,fun c2=>?_,fun c2=>Has.nil.on fun tm hs=>?_⟩⟩
 ·rw [if_pos (.inl (by omega))] at hq
  exact hq
 ·rw [if_pos (.inr (by omega))] at hq
  exact hq
 rw [if_neg (by omega)] at hq
 refine wpS.at hs vr45_2 rfl rfl (hs.on fun tm2 hs2=>?_)
 refine wpC.round (fun k tm h'=>∃ i:Nat,i≤l.length∧k=l.length-i∧h'=h∧inB (l.take i)=true∧Has tm [(3,.int .i64 i),(0,v)]) l.length ⟨0,by omega,by omega,rfl,by simp [inB],hs2.sub (by kernel_rfl)⟩ ?_
 clear hs hs2
 rintro k tm h' ⟨i,h1,rfl,rfl,h2,hs⟩
 refine wpC.at hs vl45_0 rfl rfl ⟨_,sl.len ty23 rfl,fun c=>?_,fun c=>hs.on fun tm' hs'=>?_⟩
 ·have hi:i<l.length:=by omega
  have hg:l[i]? = some l[i]:=List.getElem?_eq_getElem hi
  obtain ⟨b,o,e1,e2⟩:=sl.at1 (u:=.int .i64 l[i]) hi ty23 rfl ty3 rfl rfl (by rw [List.getElem?_map,hg]; rfl)
  have ht:l.take (i+1)=l.take i++[l[i]]:=by rw [List.take_add_one,hg]; rfl
  have hall:¬ (0≤l[i]∧l[i]≤11)→inB l=false:=fun hn=>by
   cases g:inB l with
   | false=>rfl
   | true =>
    have:=List.all_eq_true.1 g l[i] (List.getElem_mem hi)
    simp only [Bool.and_eq_true,decide_eq_true_eq] at this
    exact absurd this hn
  generalize l[i]=x at hg e2 ht hall
  have e:w64 ((i:Int)+1)=((i+1:Nat):Int):=by rw [w64_id (by omega) (by omega)]; rfl
  refine ⟨b,o,e1,x,e2,fun c2=>hs.on fun tm' hs'=>?_,fun c2=>⟨b,o,e1,x,e2,fun c3=>hs.on fun tm' hs'=>?_,fun c3=>hs.on fun tm' hs'=>⟨rfl,rfl,l.length-(i+1),by omega,i+1,by omega,rfl,rfl,?_,?_⟩⟩⟩
  ·rw [hall (by omega)] at hq
   exact thenC.rt (thenC.rt (hs'.slt fun tm4 hs4=>endW.r1 (hs4.get rfl) hq))
  ·rw [hall (by omega)] at hq
   exact thenC.rt (thenC.rt (hs'.slt fun tm4 hs4=>endW.r1 (hs4.get rfl) hq))
  ·rw [ht,inB_app,h2]
   simp only [inB,List.all_cons,List.all_nil,Bool.and_true,Bool.true_and,Bool.and_eq_true,decide_eq_true_eq]
   omega
  ·rw [← e]
   exact hs'.sub (by kernel_rfl)
 have hi:i=l.length:=by omega
 subst hi
 rw [List.take_length] at h2
 rw [if_pos h2] at hq
 refine thenC.left (wpS.at hs' vr45_1 rfl rfl (rImp_ok sl (by omega) h2 ?_))
 by_cases c:wok l
 ·rw [if_pos c] at hq ⊢
  have hnp:=nbits_pos (n:=wrest l) (by have:=nbits_lt (wsum l); unfold wrest; omega)
  refine ⟨_,_,rfl,fun q=>by omega,fun _=>hs'.on fun tm2 hs2=>hs2.slt fun tm4 hs4=>endW.r1 (hs4.get rfl) hq⟩
 ·rw [if_neg c] at hq ⊢
  refine ⟨_,_,rfl,fun _=>hs'.on fun tm2 hs2=>hs2.slt fun tm4 hs4=>endW.r1 (hs4.get rfl) hq,fun q=>absurd rfl q⟩
theorem rImplied_ok {v:V} {l:List Int} {h:H} {Q:V→H→Prop} (sl:Sl h v 1 l.length (ints l)) (hl:l.length≤255) (hr:rgtV l=0) (hq:wok l→inB l=true→Q (.tuple [.int .i64 (nbits (wrest l):Nat),.int .i64 (nbits (wsum l):Nat),.int .i64 0]) h) :
  RF P ctx 92 [v] h Q:=by
 refine RF.enterS ctx_ok fn92 (ble _ _ rfl) (ble _ _ rfl) vb92 (rRgt_ok sl (by omega) ?_)
 rw [hr]
 unfold rgtV at hr
 have c1:¬ (l.length<1∨255<l.length):=fun g=>by rw [if_pos g] at hr; cases hr
 rw [if_neg c1] at hr
 have c2:inB l=true:=by
  by_cases g:inB l=true
  ·exact g
  ·rw [if_neg g] at hr; cases hr
 rw [if_pos c2] at hr
 have c3:wok l:=by
  by_cases g:wok l
  ·exact g
  ·rw [if_neg g] at hr; cases hr
 refine ⟨_,rfl,fun q=>absurd rfl q,fun _=>rImp_ok sl hl c2 ?_⟩
 rw [if_pos c3]
 exact ⟨_,_,rfl,hq c3 c2⟩
end Go.Proofs.YtnpeieeomokomaaGreat
namespace Go.Proofs.YtnpeieeomokomaaGreat
open Go.Sim
set_option maxRecDepth 100000 in
set_option maxHeartbeats 1000000 in
theorem rLengths_ok {v:V} {l:List Int} {h:H} {Q:V→H→Prop} (sl:Sl h v 1 l.length (ints l)) (hl:l.length≤255) (hr:rgtV l=0) (hn:h.next+600≤T.top)
  (hq:∀ h' v',Ext h h' 550→Ow h' v' tint (lens l).length (ints (lens l))→(∀ b,vblk v'=some b→h.next≤b)→Q (.tuple [v',.int .i64 0]) h'):RF P ctx 47 [v] h Q:=by
 refine RF.enterS ctx_ok fn47 (ble _ _ rfl) (ble _ _ rfl) vb47 (rImplied_ok sl hl hr fun hok hin=>⟨_,_,_,rfl,fun q=>absurd rfl q,fun _=>Has.nil.on fun tm hs=>?_⟩)
 have hm:=hok.2.1
 have hrr:1≤wrest l∧wrest l≤2^11:=by
  have:=nbits_lt (wsum l)
  have h2:2^nbits (wsum l)≤2^11:=Nat.pow_le_pow_right (by decide) hm
  unfold wrest
  omega
 have hnp:=nbits_pos (n:=wrest l) (by omega)
 have hnb:nbits (wrest l)≤12:=nbits_bound (by omega)
 have hlens:lens l=trn (nbits (wsum l)) l++[((nbits (wsum l):Nat):Int)+1-(nbits (wrest l):Nat)]:=by
  unfold lens trn
  rw [List.map_append]
  congr 1
  simp only [List.map_cons,List.map_nil]
  rw [if_pos (by omega)]
 generalize nbits (wsum l)=m at hm hlens hs
 generalize nbits (wrest l)=r at hnp hnb hlens hs
 have em:w64 ((m:Int)+1)=(m:Int)+1:=w64_id (by omega) (by omega)
 refine wpC.round (fun k tm h'=>∃ (i:Nat) (v7:V),i≤l.length∧k=l.length-i∧Vw none0 h h' (2*i) []∧Ow h' v7 tint (trn m (l.take i)).length (ints (trn m (l.take i)))∧Sep none0 h.next [] v7 ∧
  Has tm [(8,.int .i64 i),(0,v),(7,v7),(5,.int .i64 m),(4,.int .i64 r)]) l.length ⟨0,.nilslice,by omega,by omega,Vw.nil,Ow.nil _ _,fun b hb=>(by cases hb),hs.sub (by kernel_rfl)⟩ ?_
 clear hs
 rintro k tm h' ⟨i,v7,hi1,rfl,w,ow,sp,hs⟩
 have tw:=w.top
 have htl:(trn m (l.take i)).length=i:=by rw [trn_len,List.length_take]; omega
 have slk:=sl.ext w.ex0
 refine wpC.at hs vl47_0 rfl rfl ⟨_,slk.len ty23 rfl,fun c=>?_,fun c=>hs.on fun tm' hs'=>?_⟩
 ·have hil:i<l.length:=by omega
  have hg:l[i]? = some l[i]:=List.getElem?_eq_getElem hil
  obtain ⟨b,o,a1,a2⟩:=slk.at1 (u:=.int .i64 l[i]) hil ty23 rfl ty3 rfl rfl (by rw [List.getElem?_map,hg]; rfl)
  have hb:0≤l[i]∧l[i]≤11:=by
   have:=List.all_eq_true.1 hin l[i] (List.getElem_mem hil)
   simpa using this
  have htk:trn m (l.take (i+1))=trn m (l.take i)++[if l[i]≠0 then (m:Int)+1-l[i] else 0]:=by
   rw [List.take_add_one,hg]
   unfold trn
   rw [List.map_append]
   rfl
  generalize l[i]=x at a2 hb htk
  have e:w64 ((i:Int)+1)=((i+1:Nat):Int):=by rw [w64_id (by omega) (by omega)]; rfl
  have step:∀ y:Int,y=(if x≠0 then (m:Int)+1-x else 0)→∃ v4 h5,abuildSlice ctx 23 1 [(0,.int .i64 y)] h'=some (v4,h5)∧(True∧∃ v6 h7,aappend ctx 23 h5 v7 v4=some (v6,h7)∧Vw none0 h h7 (2*(i+1)) []∧Ow h7 v6 tint (trn m (l.take (i+1))).length (ints (trn m (l.take (i+1))))∧Sep none0 h.next [] v6):=fun y hy=>by
   rw [← hy] at htk
   obtain ⟨v4,h5,e5,sl5,x5⟩:=build1i (h:=h') y (by omega)
   have t5:=x5.top
   obtain ⟨v6,h7,e7,A⟩:=Ow.append (c:=ctx) (te:=tint) (m:=1) (ow.ext x5) sl5 (by decide) ty23 rfl ty3 rfl rfl (by rw [htl]; show (i+1)*1≤_; omega) (by rw [htl]; show (i+1)*8≤_; omega) (by omega)
   obtain ⟨w7,ow7,sp7⟩:=(w.ext x5).grow (k:=(trn m (l.take (i+1))).length) (xs:=ints (trn m (l.take (i+1)))) sp (by rw [htk,ints_app,List.length_append]; exact A)
   exact ⟨v4,h5,e5,trivial,v6,h7,e7,w7.more (by omega),ow7,sp7⟩
  refine ⟨b,o,a1,x,a2,fun c2=>?_,fun c2=>⟨b,o,a1,x,a2,?_⟩⟩
  ·obtain ⟨v4,h5,e5,_,v6,h7,e7,w7,ow7,sp7⟩:=step 0 (by rw [if_neg (by omega)])
   refine ⟨v4,h5,e5,trivial,v6,h7,e7,hs.on fun tm' hs'=>⟨rfl,rfl,l.length-(i+1),by omega,i+1,v6,by omega,rfl,w7,ow7,sp7,?_⟩⟩
   rw [← e]; exact hs'.sub (by kernel_rfl)
  ·obtain ⟨v4,h5,e5,_,v6,h7,e7,w7,ow7,sp7⟩:=step ((m:Int)+1-x) (by rw [if_pos c2])
   refine ⟨v4,h5,by rw [em,w64_id (by omega) (by omega)]; exact e5,trivial,v6,h7,e7,hs.on fun tm' hs'=>⟨rfl,rfl,l.length-(i+1),by omega,i+1,v6,by omega,rfl,w7,ow7,sp7,?_⟩⟩
   rw [← e]; exact hs'.sub (by kernel_rfl)
 have hil:i=l.length:=by omega
 subst hil
 rw [List.take_length] at ow htl
 obtain ⟨v4,h5,e5,sl5,x5⟩:=build1i (h:=h') ((m:Int)+1-r) (by omega)
 have t5:=x5.top
 obtain ⟨v6,h7,e7,A⟩:=Ow.append (c:=ctx) (te:=tint) (m:=1) (ow.ext x5) sl5 (by decide) ty23 rfl ty3 rfl rfl (by rw [htl]; show (l.length+1)*1≤_; omega) (by rw [htl]; show (l.length+1)*8≤_; omega) (by omega)
 obtain ⟨w7,ow7,sp7⟩:=(w.ext x5).grow (k:=(lens l).length) (xs:=ints (lens l)) sp (by rw [hlens,ints_app,List.length_append]; exact A)
 refine thenC.left (wpS.at hs' vr47_1 rfl rfl ⟨v4,h5,by rw [em,w64_id (by omega) (by omega)]; exact e5,trivial,v6,h7,e7,hs'.on fun tm2 hs2=>endW.r2 (hs2.get rfl) (hs2.get rfl) ?_⟩)
 exact hq h7 v6 (w7.ex0.mono (by omega)) ow7 fun b hb=>by
  rcases (sp7 b hb).1 with q | q
  ·exact q.elim
  ·exact q
end Go.Proofs.YtnpeieeomokomaaGreat
namespace Go.Proofs.YtnpeieeomokomaaGreat
open Go.Sim
set_option maxRecDepth 100000 in
set_option maxHeartbeats 2000000 in
theorem rDirect_ok {s:List UInt8} {a:Nat} {ch:UInt8} {h:H} {Q:V→H→Prop} (hs:s.length≤1000000) (ha:s[a]? = some ch) (hc:127<ch.toNat) (hn:h.next+400≤T.top)
  (hq:∀ h' v',Ext h h' 350→Ow h' v' tint (rdDirect s a ch.toNat).l.length (ints (rdDirect s a ch.toNat).l)→(∀ b,vblk v'=some b→h.next≤b) →
   Q (.tuple [v',.int .i64 ((rdDirect s a ch.toNat).next:Nat),flt (rdDirect s a ch.toNat).e (rdDirect s a ch.toNat).fat]) h') :
  RF P ctx 42 [.str s,.int .i64 a] h Q:=by
 have hal:=(List.getElem?_eq_some_iff.1 ha).1
 have hch:=ch.toNat_lt
 generalize hR:rdDirect s a ch.toNat=R at hq
 unfold rdDirect at hR
 generalize hmany:ch.toNat-127=many at hR
 have bad:∀ e fat,R=⟨[],0,e,fat⟩→∀ h',Ext h h' 350→Q (.tuple [.nilslice,.int .i64 0,flt e fat]) h':=fun e fat he h' x=>by
  subst he
  exact hq h' .nilslice x (Ow.nil _ _) fun b hb=>(by cases hb)
 refine RF.enterS ctx_ok fn42 (ble _ _ rfl) (ble _ _ rfl) vb42 ⟨by omega,?_⟩
 rintro pf h1 rfl e1
 have w1:=(Vw.nil (S:=none0) (h:=h)).new e1 (by omega)
 have t1:=w1.top
 refine ⟨fun c=>by omega,fun _=>⟨fun c=>absurd c (by show ¬ ((s.length:Int)<a); omega),fun _=>Has.nil.on fun tm hs0=>?_⟩⟩
 refine wpS.at hs0 vr42_0 rfl rfl ⟨fun c=>absurd c (by show ¬ ((a:Int)=(s.length:Int)); omega),fun _=>hs0.on fun tm1 hs1=>thenC.nx (hs1.sealK fun tm2 hs2=>?_)⟩
 clear hs0 hs1
 have em:w64 (w64 ((ch.toNat:Nat):Int)-127)=((many:Nat):Int):=by rw [w64n (by omega),w64_id (by omega) (by omega)]; omega
 have eh:w64 (Int.tdiv (w64 (((many:Nat):Int)+1)) 2)=(((many+1)/2:Nat):Int):=by
  rw [w64_id (n:=((many:Nat):Int)+1) (by omega) (by omega),show ((many:Nat):Int)+1=((many+1:Nat):Int) from rfl,show Int.tdiv ((many+1:Nat):Int) 2=(((many+1)/2:Nat):Int) from rfl,w64n (by omega)]
 have ea:w64 (((a:Nat):Int)+1)=((a+1:Nat):Int):=w64n (n:=a+1) (by omega)
 have ee:w64 (((a+1:Nat):Int)+(((many+1)/2:Nat):Int))=((a+1+(many+1)/2:Nat):Int):=w64n (n:=a+1+(many+1)/2) (by omega)
 refine wpS.at hs2 vr42_3 rfl rfl ⟨_,index_str ha,?_⟩
 rw [em,eh,ea,ee]
 refine ⟨fun c=>by omega,fun _=>⟨by decide,fun c=>?_,fun c=>hs2.on fun tm3 hs3=>?_⟩⟩
 ·obtain ⟨h9,e9,w9,n9,_⟩:=w1.st (cx:=ctx) 0 (f:=0) (u:=.agg [.int .i64 5,.int .i64 s.length]) rfl (by omega) ty26 rfl (Nat.zero_le _) rfl rfl
  refine ⟨h9,e9,hs2.on fun tm3 hs3=>endW.ok (leave.tmp (hs3.get rfl) (leave.tmp (hs3.get rfl) (leave.cell (hs3.get rfl) (w9.ldA 0 rfl ty26 rfl rfl) rfl))) ?_⟩
  refine bad 5 s.length ?_ h9 (w9.ex0.mono (by omega))
  have c:((s.length:Nat):Int)<((a+1+(many+1)/2:Nat):Int):=c
  rw [← hR,if_pos (by omega)]
 have c:¬ ((s.length:Nat):Int)<((a+1+(many+1)/2:Nat):Int):=c
 rw [if_neg (by omega)] at hR
 refine wpC.round (fun k tm h'=>∃ (i:Nat) (v':V),i≤many∧k=many-i∧Vw none0 h h' (1+2*i) [(h.next,oFl 0 0)]∧Ow h' v' tint (nibs s (a+1) i).length (ints (nibs s (a+1) i))∧Sep none0 h.next [(h.next,oFl 0 0)] v' ∧
  Has tm [(10,.int .i64 i),(7,.int .i64 (many:Nat)),(0,.str s),(1,.int .i64 a),(9,v'),(6,.ptr h.next 0),(8,.int .i64 (a+1+(many+1)/2:Nat))]) many ⟨0,.nilslice,by omega,rfl,w1,Ow.nil _ _,fun b hb=>(by cases hb),hs3.sub (by kernel_rfl)⟩ ?_
 clear hs2 hs3 w1 t1 e1
 rintro k tm h' ⟨i,v',hi1,rfl,w,ow,sp,hs0⟩
 have tw:=w.top
 have hnl:(nibs s (a+1) i).length=i:=nibs_len _ _ _
 refine wpC.at hs0 vl42_1 rfl rfl ⟨fun c1=>?_,fun c1=>hs0.on fun tm' hs'=>?_⟩
 ·have him:i<many:=by omega
  have hb:s[a+1+i/2]? = some s[a+1+i/2]:=List.getElem?_eq_getElem (by omega)
  have hns:=nibs_succ s (a+1) i
  rw [hb] at hns
  generalize s[a+1+i/2]=b at hb hns
  have hbt:=b.toNat_lt
  have e:w64 ((i:Int)+1)=((i+1:Nat):Int):=by rw [w64_id (by omega) (by omega)]; rfl
  have ei:w64 (w64 (((a:Nat):Int)+1)+w64 (Int.tdiv (i:Int) 2))=((a+1+i/2:Nat):Int):=by
   rw [ea,show Int.tdiv (i:Int) 2=((i/2:Nat):Int) from rfl,w64n (n:=i/2) (by omega)]
   exact w64n (n:=a+1+i/2) (by omega)
  have et:Int.tmod (i:Int) 2=((i % 2:Nat):Int):=rfl
  have eb:w64 ((b.toNat:Nat):Int)=((b.toNat:Nat):Int):=w64n (by omega)
  have step:∀ y:Int,nibs s (a+1) (i+1)=nibs s (a+1) i++[y]→∃ v4 h5,abuildSlice ctx 23 1 [(0,.int .i64 y)] h'=some (v4,h5)∧(True∧∃ v6 h7,aappend ctx 23 h5 v' v4=some (v6,h7)∧Vw none0 h h7 (1+2*(i+1)) [(h.next,oFl 0 0)]∧Ow h7 v6 tint (nibs s (a+1) (i+1)).length (ints (nibs s (a+1) (i+1)))∧Sep none0 h.next [(h.next,oFl 0 0)] v6):=fun y hy=>by
   obtain ⟨v4,h5,e5,sl5,x5⟩:=build1i (h:=h') y (by omega)
   have t5:=x5.top
   obtain ⟨v6,h7,e7,A⟩:=Ow.append (c:=ctx) (te:=tint) (m:=1) (ow.ext x5) sl5 (by decide) ty23 rfl ty3 rfl rfl (by rw [hnl]; show (i+1)*1≤_; omega) (by rw [hnl]; show (i+1)*8≤_; omega) (by omega)
   obtain ⟨w7,ow7,sp7⟩:=(w.ext x5).grow (k:=(nibs s (a+1) (i+1)).length) (xs:=ints (nibs s (a+1) (i+1))) sp (by rw [hy,ints_app,List.length_append]; exact A)
   exact ⟨v4,h5,e5,trivial,v6,h7,e7,w7.more (by omega),ow7,sp7⟩
  refine ⟨by decide,_,by rw [ei]; exact index_str hb,by decide,?_⟩
  rw [et,eb]
  refine ⟨fun c2=>⟨((b.toNat/2^4:Nat):Int),shrN_i64 (n:=4) (by decide),?_⟩,fun c2=>⟨((b.toNat % 16:Nat):Int),?_,?_⟩⟩
  ·rw [if_pos (by omega)] at hns
   obtain ⟨v4,h5,e5,_,v6,h7,e7,w7,ow7,sp7⟩:=step _ hns
   refine ⟨v4,h5,e5,trivial,v6,h7,e7,hs0.on fun tm' hs'=>⟨rfl,rfl,many-(i+1),by omega,i+1,v6,by omega,rfl,w7,ow7,sp7,?_⟩⟩
   rw [← e]; exact hs'.sub (by kernel_rfl)
  ·rw [show b.toNat % 16=b.toNat &&& 15 from (and_mask b.toNat 4).symm]
   exact andN_i64 (a:=b.toNat) (b:=15) (by omega) (by decide)
  ·rw [if_neg (by omega)] at hns
   obtain ⟨v4,h5,e5,_,v6,h7,e7,w7,ow7,sp7⟩:=step _ hns
   refine ⟨v4,h5,e5,trivial,v6,h7,e7,hs0.on fun tm' hs'=>⟨rfl,rfl,many-(i+1),by omega,i+1,v6,by omega,rfl,w7,ow7,sp7,?_⟩⟩
   rw [← e]; exact hs'.sub (by kernel_rfl)
 have him:i=many:=by omega
 subst him
 refine thenC.left (wpS.at hs' vr42_2 rfl rfl (rRgt_ok ow.sl (by rw [nibs_len]; omega) ⟨_,rfl,fun c2=>?_,fun c2=>?_⟩))
 ·rw [if_neg c2] at hR
  obtain ⟨h9,e9,w9,n9,_⟩:=w.st (cx:=ctx) 0 (f:=0) (u:=.agg [.int .i64 21,.int .i64 a]) rfl (by omega) ty26 rfl (Nat.zero_le _) rfl rfl
  refine ⟨h9,e9,hs'.on fun tm3 hs3=>hs3.slt fun tm4 hs4=>endW.ok (leave.tmp (hs4.get rfl) (leave.tmp (hs4.get rfl) (leave.cell (hs4.get rfl) (w9.ldA 0 rfl ty26 rfl rfl) rfl))) ?_⟩
  exact bad 21 a hR.symm h9 (w9.ex0.mono (by omega))
 ·rw [if_pos (by omega)] at hR
  obtain ⟨h9,e9,w9,n9,k9⟩:=w.st (cx:=ctx) 0 (f:=0) (u:=.agg [.int .i64 0,.int .i64 0]) rfl (by omega) ty26 rfl (Nat.zero_le _) rfl rfl
  refine ⟨h9,e9,hs'.on fun tm3 hs3=>hs3.slt fun tm4 hs4=>endW.ok (leave.tmp (hs4.get rfl) (leave.tmp (hs4.get rfl) (leave.cell (hs4.get rfl) (w9.ldA 0 rfl ty26 rfl rfl) rfl))) ?_⟩
  have:=hq h9 v' (w9.ex0.mono (by omega))
  rw [← hR] at this
  exact this (ow.keep (by omega) fun b hb=>k9 b fun q=>(sp b hb).2 _ (List.mem_cons_self ..) q.symm) fun b hb=>by
   rcases (sp b hb).1 with q | q
   ·exact q.elim
   ·exact q
end Go.Proofs.YtnpeieeomokomaaGreat
