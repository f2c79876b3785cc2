/- TE. No condition. -/
import Derived.Test.YtnpeieeomokomaaGreatZTD
namespace Go.Proofs.YtnpeieeomokomaaGreat
open Go.Sim
def inB (l:List Int):Bool:=l.all fun x=>decide (0≤x) && decide (x≤11)
def cnt (l:List Int):Nat:=(l.filter fun x=>decide (x≠0)).length
def insV (l:List Int):V:=if inB l=true then .tuple [.int .i64 (cnt l:Nat),.bool true] else .tuple [.int .i64 0,.bool false]
theorem inB_app (l m:List Int):inB (l++m)=(inB l && inB m):=List.all_append ..
theorem cnt_app (l m:List Int):cnt (l++m)=cnt l+cnt m:=by unfold cnt; rw [List.filter_append,List.length_append]
theorem cnt_le (l:List Int):cnt l≤l.length:=List.length_filter_le _ _
set_option maxRecDepth 100000 in
theorem inside_ok {v:V} {l:List Int} {h:H} {Q:V→H→Prop} (sl:Sl h v 1 l.length (ints l)) (hl:l.length<4611686018427387904) (hq:Q (insV l) h):RF P ctx 142 [v] h Q:=by
 refine RF.enterS ctx_ok fn142 (ble _ _ rfl) (ble _ _ rfl) vb142 ⟨_,sl.len ty23 rfl,Has.nil.on fun tm hs=>?_⟩
 refine wpC.round (fun k tm h'=>∃ i:Nat,i≤l.length∧k=l.length-i∧h'=h∧inB (l.take i)=true∧Has tm [(8,.int .i64 i),(7,.int .i64 l.length),(6,v),(2,.int .i64 (cnt (l.take i):Nat)),(3,.bool false)]) l.length ⟨0,by omega,by omega,rfl,by simp [inB],hs.sub rfl⟩ ?_
 rintro k tm h' ⟨i,h1,rfl,rfl,h2,hs⟩
 refine wpC.at hs vl142_2 rfl rfl ⟨fun c=>?_,fun c=>hs.on fun tm' hs'=>?_⟩
 ·have hi:i<l.length:=by omega
  have hg:l[i]? = some l[i]:=List.getElem?_eq_getElem hi
  obtain ⟨b,o,e1,e2⟩:=sl.at1 (u:=.int .i64 l[i]) hi ty23 rfl ty3 rfl rfl (by rw [List.getElem?_map,hg]; rfl)
  have ht:l.take (i+1)=l.take i++[l[i]]:=by rw [List.take_add_one,hg]; rfl
  have hall:∀ x,x∈[l[i]]→¬ (0≤x∧x≤11)→insV l = .tuple [.int .i64 0,.bool false]:=fun x hx hn=>by
   unfold insV
   rw [if_neg]
   intro g
   rw [← List.take_append_drop (i+1) l,inB_app,ht,inB_app] at g
   simp only [Bool.and_eq_true] at g
   have:=List.all_eq_true.1 g.1.2 x hx
   simp only [Bool.and_eq_true,decide_eq_true_eq] at this
   exact hn this
  generalize l[i]=x at hg e2 ht hall
  have e:w64 ((i:Int)+1)=((i+1:Nat):Int):=by rw [w64_id (by omega) (by omega)]; rfl
  refine ⟨b,o,e1,x,e2,fun c2=>hs.on fun tm' hs'=>?_,fun c2=>⟨fun c3=>hs.on fun tm' hs'=>?_,fun c3=>hs.on fun tm' hs'=>?_⟩⟩
  ·rw [hall x (List.mem_singleton.2 rfl) (fun g=>by omega)] at hq
   exact thenC.rt (thenC.rt (endW.r2 (hs'.get rfl) (hs'.get rfl) hq))
  ·rw [hall x (List.mem_singleton.2 rfl) (fun g=>by omega)] at hq
   exact thenC.rt (thenC.rt (endW.r2 (hs'.get rfl) (hs'.get rfl) hq))
  ·have hb:inB (l.take (i+1))=true:=by
    rw [ht,inB_app,h2]
    simp only [inB,List.all_cons,List.all_nil,Bool.and_true,Bool.true_and,Bool.and_eq_true,decide_eq_true_eq]
    omega
   have hc:=cnt_le (l.take i)
   rw [List.length_take] at hc
   refine wpS.at hs' vr142_0 rfl rfl ⟨fun c4=>hs'.on fun tm2 hs2=>?_,fun c4=>hs'.on fun tm2 hs2=>?_⟩
   ·refine thenC.nx (wpS.at hs2 vr142_1 rfl rfl (hs2.on fun tm3 hs3=>hs3.slt fun tm4 hs4=>⟨rfl,rfl,l.length-(i+1),by omega,i+1,by omega,rfl,rfl,hb,?_⟩))
    have ec:w64 (((cnt (l.take i):Nat):Int)+1)=((cnt (l.take (i+1)):Nat):Int):=by
     rw [w64_id (by omega) (by omega),ht,cnt_app]
     have:cnt [x]=1:=by simp [cnt,c4]
     omega
    rw [← ec,← e]
    exact hs4.sub rfl
   ·refine thenC.nx (wpS.at hs2 vr142_1 rfl rfl (hs2.on fun tm3 hs3=>hs3.slt fun tm4 hs4=>⟨rfl,rfl,l.length-(i+1),by omega,i+1,by omega,rfl,rfl,hb,?_⟩))
    have ec:cnt (l.take (i+1))=cnt (l.take i):=by
     rw [ht,cnt_app]
     have:x=0:=by omega
     subst this
     rfl
    rw [ec,← e]
    exact hs4.sub rfl
 ·have hi:i=l.length:=by omega
  subst hi
  rw [List.take_length] at h2 hs'
  unfold insV at hq
  rw [if_pos h2] at hq
  refine thenC.left (wpS.at hs' vr142_3 rfl rfl (hs'.on fun tm2 hs2=>?_))
  exact endW.r2 (hs2.get rfl) (hs2.get rfl) hq
end Go.Proofs.YtnpeieeomokomaaGreat
namespace Go.Proofs.YtnpeieeomokomaaGreat
open Go.Sim
def wone (x:Int):Nat:=if x≠0 then 2^(x.toNat-1) else 0
def wsum (l:List Int):Nat:=(l.map wone).sum
theorem wsum_app (l m:List Int):wsum (l++m)=wsum l+wsum m:=by unfold wsum; rw [List.map_append,List.sum_append]
theorem wone_le {x:Int} (h:x≤11):wone x≤1024:=by
 unfold wone
 split
 ·exact Nat.le_trans (Nat.pow_le_pow_right (by decide) (show x.toNat-1≤10 by omega)) (by decide)
 ·omega
theorem wsum_le:∀ {l:List Int},inB l=true→wsum l≤1024*l.length
 | [],_=>by simp [wsum]
 | x :: l,h=>by
  unfold inB at h
  rw [List.all_cons,Bool.and_eq_true,Bool.and_eq_true] at h
  have h1:=wone_le (of_decide_eq_true h.1.2)
  have h2:=wsum_le (l:=l) h.2
  have:wsum (x :: l)=wone x+wsum l:=by simp [wsum]
  rw [this,List.length_cons]
  omega
theorem one_ok {x:Int} {h:H} {Q:V→H→Prop} (h1:1≤x) (h2:x≤11) (hq:Q (.int .i64 (wone x:Nat)) h):RF P ctx 144 [.int .i64 x] h Q:=by
 have e:wrapF .u64 (w64 (x-1))=((x.toNat-1:Nat):Int):=by
  rw [w64_id (by omega) (by omega),show x-1=((x.toNat-1:Nat):Int) by omega,wrapN_u64 (by omega)]
 have hp:2^(x.toNat-1)≤2^10:=Nat.pow_le_pow_right (by decide) (by omega)
 refine RF.enterS ctx_ok fn144 (ble _ _ rfl) (ble _ _ rfl) vb144 ⟨((1*2^(x.toNat-1):Nat):Int),by rw [e]; exact shlN_i64 (a:=1) (by omega) (by omega),?_⟩
 unfold wone at hq
 rw [if_pos (by omega)] at hq
 rwa [Nat.one_mul]
set_option maxRecDepth 100000 in
theorem total_ok {v:V} {l:List Int} {h:H} {Q:V→H→Prop} (sl:Sl h v 1 l.length (ints l)) (hl:l.length≤1000) (hin:inB l=true) (hq:Q (.int .i64 (wsum l:Nat)) h) :
  RF P ctx 143 [v,.func (.func 144) [] []] h Q:=by
 refine RF.enterS ctx_ok fn143 (ble _ _ rfl) (ble _ _ rfl) vb143 ⟨_,sl.len ty23 rfl,Has.nil.on fun tm hs=>?_⟩
 refine wpC.round (fun k tm h'=>∃ i:Nat,i≤l.length∧k=l.length-i∧h'=h∧Has tm [(9,.int .i64 i),(8,.int .i64 l.length),(7,v),(4,.int .i64 (wsum (l.take i):Nat)),(1,.func (.func 144) [] [])]) l.length ⟨0,by omega,by omega,rfl,hs.sub rfl⟩ ?_
 rintro k tm h' ⟨i,h1,rfl,rfl,hs⟩
 refine wpC.at hs vl143_0 rfl rfl ⟨fun c=>?_,fun c=>hs.on fun tm' hs'=>?_⟩
 ·have hi:i<l.length:=by omega
  have hg:l[i]? = some l[i]:=List.getElem?_eq_getElem hi
  obtain ⟨b,o,e1,e2⟩:=sl.at1 (u:=.int .i64 l[i]) hi ty23 rfl ty3 rfl rfl (by rw [List.getElem?_map,hg]; rfl)
  have ht:l.take (i+1)=l.take i++[l[i]]:=by rw [List.take_add_one,hg]; rfl
  have hr:0≤l[i]∧l[i]≤11:=by
   have:=List.all_eq_true.1 hin l[i] (List.getElem_mem hi)
   simpa using this
  generalize l[i]=x at hg e2 ht hr
  have e:w64 ((i:Int)+1)=((i+1:Nat):Int):=by rw [w64_id (by omega) (by omega)]; rfl
  have hw:wsum (l.take (i+1))=wsum (l.take i)+wone x:=by rw [ht,wsum_app]; simp [wsum]
  have hb:wsum (l.take i)≤1024*i:=by
   have hh:inB (l.take i)=true:=by
    have:=hin
    rw [← List.take_append_drop i l,inB_app,Bool.and_eq_true] at this
    exact this.1
   have:=wsum_le hh
   rw [List.length_take] at this
   omega
  have hx:=wone_le hr.2
  refine ⟨b,o,e1,x,e2,fun c2=>?_,fun c2=>hs.on fun tm' hs'=>⟨rfl,rfl,l.length-(i+1),by omega,i+1,by omega,rfl,rfl,?_⟩⟩
  ·show RF P ctx 144 [.int .i64 x] h' _
   refine one_ok (by omega) hr.2 ?_
   refine ⟨((wone x:Nat):Int),rfl,hs.on fun tm' hs'=>⟨rfl,rfl,l.length-(i+1),by omega,i+1,by omega,rfl,rfl,?_⟩⟩
   have ew:w64 (((wsum (l.take i):Nat):Int)+(wone x:Nat))=((wsum (l.take (i+1)):Nat):Int):=by rw [w64_id (by omega) (by omega),hw]; rfl
   rw [← ew,← e]
   exact hs'.sub rfl
  ·have:wsum (l.take (i+1))=wsum (l.take i):=by
    rw [hw]
    have:x=0:=by omega
    subst this
    rfl
   rw [this,← e]
   exact hs'.sub rfl
 ·have hi:i=l.length:=by omega
  subst hi
  rw [List.take_length] at hs'
  refine thenC.left (wpS.at hs' vr143_1 rfl rfl (hs'.on fun tm2 hs2=>?_))
  exact endW.r1 (hs2.get rfl) hq
end Go.Proofs.YtnpeieeomokomaaGreat
namespace Go.Proofs.YtnpeieeomokomaaGreat
open Go.Sim
def wrest (l:List Int):Nat:=2^nbits (wsum l)-wsum l
def wok (l:List Int):Prop:=cnt l≠0∧nbits (wsum l)≤11∧wrest l=2^(wrest l).log2
instance (l:List Int):Decidable (wok l):=inferInstanceAs (Decidable (_∧_∧_))
def impV (l:List Int):V :=
 if l.length<1∨255<l.length then .tuple [.int .i64 0,.int .i64 0,.int .i64 4]
 else if inB l=true then
  (if wok l then .tuple [.int .i64 (nbits (wrest l):Nat),.int .i64 (nbits (wsum l):Nat),.int .i64 0] else .tuple [.int .i64 0,.int .i64 0,.int .i64 21])
 else .tuple [.int .i64 0,.int .i64 0,.int .i64 2]
set_option maxRecDepth 100000 in
set_option maxHeartbeats 1000000 in
theorem implied_ok {v:V} {l:List Int} {h:H} {Q:V→H→Prop} (sl:Sl h v 1 l.length (ints l)) (hl:l.length<4611686018427387904) (hq:Q (impV l) h):RF P ctx 82 [v] h Q:=by
 refine RF.enterS ctx_ok fn82 (ble _ _ rfl) (ble _ _ rfl) vb82 ⟨_,sl.len ty23 rfl,fun c=>?_,fun c=>⟨_,sl.len ty23 rfl,fun c2=>?_,fun c2=>Has.nil.on fun tm hs=>?_⟩⟩
 ·unfold impV at hq
  rw [if_pos (.inl (by omega))] at hq
  exact hq
 ·unfold impV at hq
  rw [if_pos (.inr (by omega))] at hq
  exact hq
 unfold impV at hq
 rw [if_neg (by omega)] at hq
 refine wpS.at hs vr82_1 rfl rfl (inside_ok sl hl ?_)
 unfold insV
 by_cases hin:inB l=true
 ·rw [if_pos hin] at hq ⊢
  have hw:=wsum_le hin
  have hm:nbits (wsum l)≤20:=nbits_bound (by omega)
  have hlt:=nbits_lt (wsum l)
  have hp:2^nbits (wsum l)≤2^20:=Nat.pow_le_pow_right (by decide) hm
  refine ⟨(cnt l:Nat),true,rfl,fun _=>total_ok sl (by omega) hin ⟨_,rfl,bits_ok (by omega) ?_⟩,fun g=>(by cases g)⟩
  rw [hi_nbits]
  have e1:wrapF .u64 (max ((nbits (wsum l):Nat):Int) 0)=((nbits (wsum l):Nat):Int):=by
   rw [show max ((nbits (wsum l):Nat):Int) 0=((nbits (wsum l):Nat):Int) by omega,wrapN_u64 (by omega)]
  have e2:w64 (((1*2^nbits (wsum l):Nat):Int)-(wsum l:Nat))=((wrest l:Nat):Int):=by
   rw [w64_id (by omega) (by omega)]; unfold wrest; omega
  have hr1:1≤wrest l:=by unfold wrest; omega
  have hr2:wrest l≤2^20:=by unfold wrest; omega
  have e3:w64 (((wrest l:Nat):Int)-1)=((wrest l-1:Nat):Int):=by rw [w64_id (by omega) (by omega)]; omega
  refine ⟨_,rfl,((1*2^nbits (wsum l):Nat):Int),by rw [e1]; exact shlN_i64 (a:=1) (by omega) (by omega),fun c3=>hs.on fun tm2 hs2=>?_,fun c3=>⟨fun c4=>hs.on fun tm2 hs2=>?_,fun c4=>?_⟩⟩
  ·rw [if_neg (fun g:wok l=>g.1 (by omega))] at hq
   exact endW.r3 (hs2.get rfl) (hs2.get rfl) (hs2.get rfl) hq
  ·rw [if_neg (fun g:wok l=>by have:=g.2.1; omega)] at hq
   exact endW.r3 (hs2.get rfl) (hs2.get rfl) (hs2.get rfl) hq
  rw [e2]
  refine ⟨fun c5=>by omega,fun _=>⟨((wrest l &&& (wrest l-1):Nat):Int),by rw [e3]; exact andN_i64 (by omega) (by omega),fun c6=>hs.on fun tm2 hs2=>?_,fun c6=>hs.on fun tm2 hs2=>?_⟩⟩
  ·rw [if_neg (fun g:wok l=>c6 (by rw [(pow2_iff (by omega)).2 g.2.2]; rfl))] at hq
   exact endW.r3 (hs2.get rfl) (hs2.get rfl) (hs2.get rfl) hq
  ·have hok:wok l:=⟨fun g=>c3 (by omega),by omega,(pow2_iff (by omega)).1 (by omega)⟩
   rw [if_pos hok] at hq
   refine wpS.at hs2 vr82_0 rfl rfl (bits_ok (by omega) ⟨_,rfl,hs2.on fun tm3 hs3=>?_⟩)
   refine hs3.slt fun tm4 hs4=>?_
   refine endW.r3 (hs4.get rfl) (hs4.get rfl) (hs4.get rfl) ?_
   rw [hi_nbits]
   exact hq
 ·rw [if_neg hin] at hq ⊢
  refine ⟨0,false,rfl,fun g=>(by cases g),fun _=>hs.on fun tm2 hs2=>endW.r3 (hs2.get rfl) (hs2.get rfl) (hs2.get rfl) hq⟩
def rgtV (l:List Int):Int:=if l.length<1∨255<l.length then 4 else if inB l=true then (if wok l then 0 else 21) else 2
theorem right_ok {v:V} {l:List Int} {h:H} {Q:V→H→Prop} (sl:Sl h v 1 l.length (ints l)) (hl:l.length<4611686018427387904) (hq:Q (.int .i64 (rgtV l)) h):RF P ctx 41 [v] h Q:=by
 refine RF.enterS ctx_ok fn41 (ble _ _ rfl) (ble _ _ rfl) vb41 (implied_ok sl hl ?_)
 unfold impV
 unfold rgtV at hq
 split at hq
 ·rename_i c; rw [if_pos c]; exact ⟨_,_,_,rfl,hq⟩
 ·rename_i c
  rw [if_neg c]
  split at hq
  ·rename_i c2
   rw [if_pos c2]
   split at hq
   ·rename_i c3; rw [if_pos c3]; exact ⟨_,_,_,rfl,hq⟩
   ·rename_i c3; rw [if_neg c3]; exact ⟨_,_,_,rfl,hq⟩
  ·rename_i c2; rw [if_neg c2]; exact ⟨_,_,_,rfl,hq⟩
end Go.Proofs.YtnpeieeomokomaaGreat
