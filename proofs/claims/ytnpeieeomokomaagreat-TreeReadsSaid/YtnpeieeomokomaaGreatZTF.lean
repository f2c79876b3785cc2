/- TF. No condition. -/
import Derived.Test.YtnpeieeomokomaaGreatZTA
import Derived.Test.YtnpeieeomokomaaGreatZTB
namespace Go.Proofs.YtnpeieeomokomaaGreat
open Go.Sim
theorem nbits_half {m:Nat} (h:0<m):nbits m=nbits (m/2)+1:=by
 unfold nbits
 rw [if_neg (by omega)]
 by_cases h2:m/2=0
 ·have:m=1:=by omega
  subst this
  rfl
 ·rw [if_neg h2,Nat.log2_def,if_pos (by omega)]
set_option maxRecDepth 100000 in
theorem rHigh_ok {n:Nat} {h:H} {Q:V→H→Prop} (hn:n<9223372036854775808) (hq:Q (.int .i64 ((nbits n:Nat)-1:Int)) h):RF P ctx 153 [.int .i64 n] h Q:=by
 have hb:nbits n≤63:=nbits_bound hn
 refine RF.enterS ctx_ok fn153 (ble _ _ rfl) (ble _ _ rfl) vb153 (Has.nil.on fun tm hs=>?_)
 refine wpC.round (fun k tm h'=>∃ m:Nat,m≤n∧nbits m≤nbits n∧k=m∧h'=h∧Has tm [(0,.int .i64 m),(3,.int .i64 ((nbits n:Nat)-(nbits m:Nat)-1:Int))]) n ⟨n,Nat.le_refl _,Nat.le_refl _,rfl,rfl,by rw [show ((nbits n:Nat)-(nbits n:Nat)-1:Int) = -1 by omega]; exact hs.sub rfl⟩ ?_
 rintro k tm h' ⟨m,h1,h2,rfl,rfl,hs⟩
 refine wpC.at hs vl153_0 rfl rfl ⟨fun c=>⟨by decide,hs.on fun tm' hs'=>?_⟩,fun c=>hs.on fun tm' hs'=>?_⟩
 ·have hk:0<k:=by omega
  have hh:=nbits_half hk
  refine ⟨rfl,rfl,k/2,by omega,k/2,by omega,by omega,rfl,rfl,?_⟩
  have e1:w64 (Int.tdiv (k:Int) 2)=((k/2:Nat):Int):=by rw [show Int.tdiv (k:Int) 2=((k/2:Nat):Int) from rfl,w64_id (by omega) (by omega)]
  have e2:w64 (((nbits n:Nat)-(nbits k:Nat)-1:Int)+1)=((nbits n:Nat)-(nbits (k/2):Nat)-1:Int):=by rw [w64_id (by omega) (by omega)]; omega
  rw [← e1,← e2]
  exact hs'.sub rfl
 ·have h0:k=0:=by omega
  subst h0
  have e0:((nbits n:Nat)-(nbits 0:Nat)-1:Int)=((nbits n:Nat)-1:Int):=by rw [show nbits 0=0 from rfl]; omega
  rw [e0] at hs'
  refine thenC.left (wpS.at hs' vr153_1 rfl rfl (hs'.on fun tm2 hs2=>?_))
  exact endW.r1 (hs2.get rfl) hq
theorem rBitsN_ok {n:Nat} {h:H} {Q:V→H→Prop} (hn:n<9223372036854775808) (hq:Q (.int .i64 (nbits n:Nat)) h):RF P ctx 156 [.int .i64 n] h Q:=by
 have hb:nbits n≤63:=nbits_bound hn
 refine RF.enterS ctx_ok fn156 (ble _ _ rfl) (ble _ _ rfl) vb156 (rHigh_ok hn ⟨_,rfl,?_⟩)
 rw [show w64 (((nbits n:Nat)-1:Int)+1)=((nbits n:Nat):Int) by rw [w64_id (by omega) (by omega)]; omega]
 exact hq
end Go.Proofs.YtnpeieeomokomaaGreat
namespace Go.Proofs.YtnpeieeomokomaaGreat
open Go.Sim
def pt (x:Int):Int:=if x<0 then 1 else x
def pts (l:List Int):Int:=(l.map pt).sum
theorem pts_app (l m:List Int):pts (l++m)=pts l+pts m:=by unfold pts; rw [List.map_append,List.sum_append]
theorem pts_one (x:Int):pts [x]=pt x:=by simp [pts]
theorem pt_bound {x:Int} (h:x≤1048576):0≤pt x∧pt x≤1048576:=by unfold pt; split <;> omega
theorem pts_bound:∀ {l:List Int},(∀ x∈l,x≤1048576)→0≤pts l∧pts l≤1048576*l.length
 | [],_=>by simp [pts]
 | x :: l,h=>by
  have h1:=pt_bound (h x (List.mem_cons_self ..))
  have h2:=pts_bound (l:=l) fun y hy=>h y (List.mem_cons_of_mem _ hy)
  have:pts (x :: l)=pt x+pts l:=by simp [pts]
  rw [this,List.length_cons]
  omega
set_option maxRecDepth 100000 in
theorem rPoints_ok {v:V} {l:List Int} {h:H} {Q:V→H→Prop} (sl:Sl h v 1 l.length (ints l)) (hl:l.length≤1000) (hx:∀ x∈l,x≤1048576) (hq:Q (.int .i64 (pts l)) h):RF P ctx 148 [v] h Q:=by
 refine RF.enterS ctx_ok fn148 (ble _ _ rfl) (ble _ _ rfl) vb148 (Has.nil.on fun tm hs=>?_)
 refine wpC.round (fun k tm h'=>∃ i:Nat,i≤l.length∧k=l.length-i∧h'=h∧Has tm [(4,.int .i64 i),(0,v),(3,.int .i64 (pts (l.take i)))]) l.length ⟨0,by omega,by omega,rfl,hs.sub rfl⟩ ?_
 rintro k tm h' ⟨i,h1,rfl,rfl,hs⟩
 refine wpC.at hs vl148_0 rfl rfl ⟨_,sl.len ty23 rfl,fun c=>?_,fun c=>hs.on fun tm' hs'=>?_⟩
 ·have hi:i<l.length:=by omega
  have hg:l[i]? = some l[i]:=List.getElem?_eq_getElem hi
  obtain ⟨b,o,e1,e2⟩:=sl.at1 (u:=.int .i64 l[i]) hi ty23 rfl ty3 rfl rfl (by rw [List.getElem?_map,hg]; rfl)
  have ht:l.take (i+1)=l.take i++[l[i]]:=by rw [List.take_add_one,hg]; rfl
  have hr:=hx l[i] (List.getElem_mem hi)
  generalize l[i]=x at hg e2 ht hr
  have e:w64 ((i:Int)+1)=((i+1:Nat):Int):=by rw [w64_id (by omega) (by omega)]; rfl
  have hb:=pts_bound (l:=l.take i) fun y hy=>hx y (List.mem_of_mem_take hy)
  rw [List.length_take] at hb
  have hw:pts (l.take (i+1))=pts (l.take i)+pt x:=by rw [ht,pts_app,pts_one]
  have hp:=pt_bound hr
  refine ⟨b,o,e1,x,e2,fun c2=>hs.on fun tm' hs'=>⟨rfl,rfl,l.length-(i+1),by omega,i+1,by omega,rfl,rfl,?_⟩,fun c2=>⟨b,o,e1,x,e2,hs.on fun tm' hs'=>⟨rfl,rfl,l.length-(i+1),by omega,i+1,by omega,rfl,rfl,?_⟩⟩⟩
  ·have ew:w64 (pts (l.take i)+1)=pts (l.take (i+1)):=by
    rw [w64_id (by omega) (by omega),hw]
    unfold pt
    rw [if_pos c2]
   rw [← ew,← e]
   exact hs'.sub rfl
  ·have ew:w64 (pts (l.take i)+x)=pts (l.take (i+1)):=by
    rw [w64_id (by omega) (by omega),hw]
    unfold pt
    rw [if_neg c2]
   rw [← ew,← e]
   exact hs'.sub rfl
 ·have hi:i=l.length:=by omega
  subst hi
  rw [List.take_length] at hs'
  refine thenC.left (wpS.at hs' vr148_1 rfl rfl (hs'.on fun tm2 hs2=>?_))
  exact endW.r1 (hs2.get rfl) hq
end Go.Proofs.YtnpeieeomokomaaGreat
namespace Go.Proofs.YtnpeieeomokomaaGreat
open Go.Sim
set_option maxRecDepth 100000 in
theorem rRightF_ok {s:List UInt8} {p:Nat} {h:H} {Q:V→H→Prop} (hs:s.length≤1048576) (hp:p≤8*s.length) (hq:Q (.int .i64 0) h):RF P ctx 150 [rdr s p] h Q:=by
 refine RF.plain ?_ (plainL_out rfl)
 refine RF.enterS ctx_ok fn150 (ble _ _ rfl) (ble _ _ rfl) vb150 ⟨by decide,?_⟩
 rintro q h1 rfl e1
 obtain ⟨n1,x1,g1⟩:=made_new e1 (by decide)
 refine ⟨s,ald_one ty9 rfl g1 rfl,fun c=>?_,fun c=>⟨p,ald_one ty3 rfl g1 rfl,fun c=>?_,fun c=>⟨p,ald_one ty3 rfl g1 rfl,s,ald_one ty9 rfl g1 rfl,fun c=>?_,fun c=>⟨plain_int _ _,hq⟩⟩⟩⟩
 ·have c':(1048576:Int)<(s.length:Int):=c
  omega
 ·omega
 ·have c':w64 (8*(s.length:Int))<(p:Int):=c
  rw [w64_id (by omega) (by omega)] at c'
  omega
set_option maxRecDepth 100000 in
theorem rNextF_ok {s:List UInt8} {p:Nat} {h:H} {Q:V→H→Prop} (hs:s.length≤1048576) (hp:p≤8*s.length) (hq:Q (.tuple [.int .i64 ((p+7)/8:Nat),.int .i64 0]) h):RF P ctx 85 [rdr s p] h Q:=by
 refine RF.plain ?_ (plainL_out rfl)
 refine RF.enterS ctx_ok fn85 (ble _ _ rfl) (ble _ _ rfl) vb85 ⟨by decide,?_⟩
 rintro q h1 rfl e1
 obtain ⟨n1,x1,g1⟩:=made_new e1 (by decide)
 refine ⟨s,p,ald_agg ty112 rfl g1 rfl,rRightF_ok hs hp ⟨0,rfl,fun c=>absurd rfl c,fun _=>⟨p,ald_one ty3 rfl g1 rfl,by decide,plainB_out rfl,?_⟩⟩⟩
 have e:w64 (Int.tdiv (w64 ((p:Int)+7)) 8)=(((p+7)/8:Nat):Int):=by
  rw [w64_id (n:=(p:Int)+7) (by omega) (by omega),show (p:Int)+7=((p+7:Nat):Int) from rfl,show Int.tdiv ((p+7:Nat):Int) 8=(((p+7)/8:Nat):Int) from rfl,w64_id (by omega) (by omega)]
 rw [e]
 exact hq
set_option maxRecDepth 100000 in
set_option maxHeartbeats 1000000 in
theorem rNumber_ok {s:List UInt8} {p n:Nat} {h:H} {Q:V→H→Prop} (hs:s.length≤1048576) (hp:p≤8*s.length) (hn:n≤32) (hq:Q (.int .i64 (fnum s p n:Nat)) h):RF P ctx 279 [rdr s p,.int .i64 n] h Q:=by
 refine RF.plain ?_ (plainL_out rfl)
 refine RF.enterS ctx_ok fn279 (ble _ _ rfl) (ble _ _ rfl) vb279 ⟨by decide,?_⟩
 rintro q h1 rfl e1
 obtain ⟨n1,x1,g1⟩:=made_new e1 (by decide)
 refine Has.nil.on fun tm hs0=>?_
 refine wpC.round (fun k tm h'=>∃ i:Nat,i≤n∧k=n-i∧h'=h1∧Has tm [(6,.int .i64 i),(1,.int .i64 n),(2,.ptr H0.next 0),(5,.int .i64 (fnum s p i:Nat))]) n ⟨0,by omega,rfl,rfl,hs0.sub rfl⟩ ?_
 rintro k tm h' ⟨i,hi,rfl,rfl,hs1⟩
 have hf:=fnum_lt s p i
 have hp32:2^i≤2^32:=Nat.pow_le_pow_right (by decide) (by omega)
 have e:w64 ((i:Int)+1)=((i+1:Nat):Int):=by rw [w64_id (by omega) (by omega)]; rfl
 have e8:w64 ((p:Int)+(i:Int))=((p+i:Nat):Int):=by rw [w64_id (by omega) (by omega)]; rfl
 have el:w64 (8*Int.ofNat s.length)=((8*s.length:Nat):Int):=by
  show w64 (8*(s.length:Int))=_
  rw [w64_id (by omega) (by omega)]; omega
 refine wpC.at hs1 vl279_0 rfl rfl ⟨fun c=>?_,fun c=>hs1.on fun tm' hs'=>?_⟩
 rotate_left
 ·have hin:i=n:=by omega
  subst hin
  refine thenC.left (wpS.at hs' vr279_1 rfl rfl (hs'.on fun tm2 hs2=>?_))
  exact endW.r1 (hs2.get rfl) ⟨plain_int _ _,hq⟩
 show ∃ x2,ald ctx 3 h' (.ptr H0.next (0+1))=some (.int .i64 x2)∧_
 refine ⟨p,ald_one ty3 rfl g1 rfl,?_⟩
 show ∃ l5,ald ctx 9 h' (.ptr H0.next (0+0))=some (.str l5)∧_
 refine ⟨s,ald_one ty9 rfl g1 rfl,fun c2=>?_,fun c2=>hs1.on fun tm' hs'=>?_⟩
 ·rw [e8,el] at c2
  have hlt:p+i<8*s.length:=by omega
  have hg:s[(p+i)/8]? = some s[(p+i)/8]:=List.getElem?_eq_getElem (by omega)
  have hb8:=(s[(p+i)/8]'(by omega)).toNat_lt
  generalize s[(p+i)/8]'(by omega)=b at hg hb8
  have hd:b.toNat/2^((p+i) % 8)≤b.toNat:=Nat.div_le_self _ _
  have hsb:=sbit_some hg
  have hs1':=sbit_lt s (p+i)
  have e1:w64 (Int.tdiv (w64 ((p:Int)+(i:Int))) 8)=(((p+i)/8:Nat):Int):=by
   rw [e8,show Int.tdiv ((p+i:Nat):Int) 8=(((p+i)/8:Nat):Int) from rfl,w64_id (by omega) (by omega)]
  have e2:Int.tmod (w64 ((p:Int)+(i:Int))) 8=(((p+i) % 8:Nat):Int):=by rw [e8]; rfl
  have hm:sbit s (p+i)*2^i≤1*2^i:=Nat.mul_le_mul_right _ (by omega)
  show ∃ l8,ald ctx 9 h' (.ptr H0.next (0+0))=some (.str l8)∧_
  refine ⟨s,ald_one ty9 rfl g1 rfl,by decide,(b.toNat:Int),by rw [e1]; exact index_str hg,by decide,((b.toNat/2^((p+i) % 8):Nat):Int),?_,((sbit s (p+i):Nat):Int),?_,((sbit s (p+i)*2^i:Nat):Int),?_,hs1.on fun tm' hs'=>?_⟩
  ·rw [e2,wrapN_u64 (by omega),w64_id (by omega) (by omega)]
   exact shrN_i64 (by omega)
  ·rw [hsb,← and_mask _ 1]
   exact andN_i64 (b:=1) (by omega) (by decide)
  ·rw [wrapN_u64 (by omega)]
   exact shlN_i64 (by omega) (by omega)
  ·refine ⟨rfl,rfl,n-(i+1),by omega,i+1,by omega,rfl,rfl,?_⟩
   have ew:w64 (((fnum s p i:Nat):Int)+((sbit s (p+i)*2^i:Nat):Int))=((fnum s p (i+1):Nat):Int):=by rw [w64_id (by omega) (by omega)]; rfl
   rw [← e,← ew]; exact hs'.sub rfl
 ·rw [e8,el] at c2
  have hz:fnum s p (i+1)=fnum s p i:=by
   show fnum s p i+sbit s (p+i)*2^i=_
   rw [sbit_none (by omega)]; omega
  refine ⟨rfl,rfl,n-(i+1),by omega,i+1,by omega,rfl,rfl,?_⟩
  rw [hz,← e]; exact hs'.sub rfl
end Go.Proofs.YtnpeieeomokomaaGreat
namespace Go.Proofs.YtnpeieeomokomaaGreat
open Go.Sim
set_option maxRecDepth 100000 in
theorem rPeekF_ok {s:List UInt8} {p n:Nat} {h:H} {Q:V→H→Prop} (hs:s.length≤1048576) (hp:p≤8*s.length) (hn:n≤32) (hq:Q (.tuple [.int .i64 (fnum s p n:Nat),.int .i64 0]) h):RF P ctx 217 [rdr s p,.int .i64 n] h Q:=by
 refine RF.plain ?_ (plainL_out rfl)
 refine RF.enterS ctx_ok fn217 (ble _ _ rfl) (ble _ _ rfl) vb217 ⟨by decide,?_⟩
 rintro q h1 rfl e1
 obtain ⟨n1,x1,g1⟩:=made_new e1 (by decide)
 refine ⟨s,p,ald_agg ty112 rfl g1 rfl,rRightF_ok hs hp ⟨0,rfl,fun _=>⟨fun c=>by omega,fun _=>⟨fun c=>by omega,fun _=>Has.nil.on fun tm hs0=>?_⟩⟩,fun c=>absurd rfl c⟩⟩
 refine wpS.at hs0 vr217_0 rfl rfl ⟨fun c=>absurd rfl c,fun _=>⟨s,p,ald_agg ty112 rfl g1 rfl,rNumber_ok hs hp hn ⟨_,rfl,hs0.on fun tm2 hs2=>?_⟩⟩⟩
 exact endW.r2 (hs2.get rfl) (hs2.get rfl) ⟨plainB_out rfl,hq⟩
set_option maxRecDepth 100000 in
theorem rTakeF_ok {s:List UInt8} {p n:Nat} {h:H} {Q:V→H→Prop} (hs:s.length≤1048576) (hp:p≤8*s.length) (hn:n≤32) (hq:Q (tkF s p n) h):RF P ctx 146 [rdr s p,.int .i64 n] h Q:=by
 refine RF.plain ?_ (plainL_out rfl)
 have hq:∀ h':H,Plain (tkF s p n)∧Q (tkF s p n) h:=fun _=>⟨plain_tkF _ _ _,hq⟩
 have hz:H0.next=0:=rfl
 have ht:=zt
 refine RF.enterS ctx_ok fn146 (ble _ _ rfl) (ble _ _ rfl) vb146 ⟨by decide,?_⟩
 rintro q0 h1 rfl e1
 obtain ⟨n1,x1,g1⟩:=made_new e1 (by decide)
 refine ⟨by omega,?_⟩
 rintro q2 h3 rfl e3
 obtain ⟨n3,x3,g3⟩:=made_new e3 (by omega)
 have g1':h3.get H0.next=some (.cells (.ls [.str s,.int .i64 p]) ⟨0,112+1,0⟩ true false):=by rw [x3.get _ (by omega)]; exact g1
 have el:w64 (8*Int.ofNat s.length)=((8*s.length:Nat):Int):=by
  show w64 (8*(s.length:Int))=_
  rw [w64_id (by omega) (by omega)]; omega
 have ep:w64 ((p:Int)+(n:Int))=((p+n:Nat):Int):=by rw [w64_id (by omega) (by omega)]; rfl
 refine ⟨s,p,ald_agg ty112 rfl g1' rfl,rPeekF_ok hs hp hn ⟨_,0,rfl,fun _=>⟨p,ald_one ty3 rfl g1' rfl,s,ald_one ty9 rfl g1' rfl,fun c=>Has.nil.on fun tm hs0=>?_,fun c=>Has.nil.on fun tm hs0=>?_⟩,fun c=>absurd rfl c⟩⟩
 ·rw [el,ep] at c
  have hlt:¬ p+n≤8*s.length:=by omega
  unfold tkF at hq
  rw [if_neg hlt] at hq
  refine wpS.at hs0 vr146_0 rfl rfl ⟨fun _=>⟨_,ast_at ty112 g3 rfl (Nat.zero_le _) rfl rfl,hs0.on fun tm' hs'=>?_⟩,fun g=>absurd g (by decide)⟩
  exact endW.ok (leave.cell (hs'.get rfl) (ald_agg ty112 rfl (get_upd_self _ (by omega)) rfl) (leave.tmp (hs'.get rfl) (leave.tmp (hs'.get rfl) rfl))) (hq H0)
 ·rw [el,ep] at c
  have hle:p+n≤8*s.length:=by omega
  unfold tkF at hq
  rw [if_pos hle] at hq
  refine wpS.at hs0 vr146_0 rfl rfl ⟨fun g=>absurd rfl g,fun _=>?_⟩
  show ∃ x3,ald ctx 3 h3 (.ptr H0.next (0+1))=some (.int .i64 x3)∧_
  refine ⟨p,ald_one ty3 rfl g1' rfl,?_⟩
  show ∃ h11,ast ctx 3 h3 (.ptr H0.next (0+1)) (.int .i64 (w64 ((p:Int)+(n:Int))))=some h11∧_
  rw [ep]
  obtain ⟨h11,e11,g11,k11,n11⟩:∃ h11,ast ctx 3 h3 (.ptr H0.next (0+1)) (.int .i64 ((p+n:Nat):Int))=some h11∧h11.get H0.next=some (.cells (.ls [.str s,.int .i64 ((p+n:Nat):Int)]) ⟨0,112+1,0⟩ true false)∧h11.get h1.next=h3.get h1.next∧h11.next=h3.next :=
   ⟨_,ast_at ty3 g1' rfl (Nat.zero_le _) rfl rfl,get_upd_self _ (by omega),get_upd_ne _ (by omega) (by omega),rfl⟩
  refine ⟨h11,e11,s,((p+n:Nat):Int),ald_agg ty112 rfl g11 rfl,_,ast_at ty112 (k11.trans g3) rfl (Nat.zero_le _) rfl rfl,hs0.on fun tm' hs'=>?_⟩
  exact endW.ok (leave.cell (hs'.get rfl) (ald_agg ty112 rfl (get_upd_self _ (by omega)) rfl) (leave.tmp (hs'.get rfl) (leave.tmp (hs'.get rfl) rfl))) (hq H0)
end Go.Proofs.YtnpeieeomokomaaGreat
namespace Go.Proofs.YtnpeieeomokomaaGreat
open Go.Sim
def oRr (s:List UInt8) (p:Nat) (e:Int):O:=.cells (.ls [.str s,.int .i64 p,.int .i64 e]) ⟨0,114+1,0⟩ true false
set_option maxRecDepth 100000 in
theorem rTake_ok {s:List UInt8} {r p n:Nat} {e:Int} {h:H} {Q:V→H→Prop} (hg:h.get r=some (oRr s p e)) (hr:r<h.next) (hnx:h.next+1≤T.top) (hs:s.length≤1048576) (hp:p≤8*s.length) (hn:n≤32)
  (hq1:p+n≤8*s.length→∀ h',ExtX (· = r) h h' 1→h'.get r=some (oRr s (p+n) e)→Q (.int .i64 (fnum s p n:Nat)) h')
  (hq2:¬ p+n≤8*s.length→∀ h',ExtX (· = r) h h' 1→h'.get r=some (oRr s p 23)→Q (.int .i64 0) h'):RF P ctx 83 [.ptr r 0,.int .i64 n] h Q:=by
 refine RF.enterS ctx_ok fn83 (ble _ _ rfl) (ble _ _ rfl) vb83 ⟨.ptr r 0,h,rfl,?_⟩
 show ∃ l4 x5,ald ctx 112 h (.ptr r (0+0))=some (.agg [.str l4,.int .i64 x5])∧_
 refine ⟨s,p,ald_agg ty112 rfl hg rfl,rTakeF_ok hs hp hn ?_⟩
 unfold tkF
 by_cases c:p+n≤8*s.length
 ·rw [if_pos c]
  refine ⟨s,((p+n:Nat):Int),_,_,rfl,by omega,?_⟩
  rintro q h1 rfl e1
  obtain ⟨n1,x1,g1⟩:=made_new e1 (by omega)
  obtain ⟨h2,e2,g2,k2,x2,n2⟩:∃ h2,ast ctx 112 h1 (.ptr h.next 0) (.agg [.str s,.int .i64 ((p+n:Nat):Int)])=some h2∧h2.get h.next=some (oRd s (p+n))∧h2.get r=some (oRr s p e)∧Ext h h2 1∧h2.next=h1.next :=
   ⟨_,ast_at ty112 g1 rfl (Nat.zero_le _) rfl rfl,get_upd_self _ (by omega),by rw [get_upd_ne _ (by omega) (by omega),x1.get _ hr]; exact hg,x1.upd _ (by omega) (Nat.le_refl _),rfl⟩
  refine ⟨h2,e2,fun g=>absurd rfl g,fun _=>⟨s,((p+n:Nat):Int),ald_agg ty112 rfl g2 rfl,.ptr r 0,h2,rfl,?_⟩⟩
  show ∃ h26,ast ctx 112 h2 (.ptr r (0+0)) _=some h26∧_
  exact ⟨_,ast_at ty112 k2 rfl (Nat.zero_le _) rfl rfl,hq1 c _ ((ExtX.of x2).upd _ (by omega) (.inl rfl)) (get_upd_self _ (by omega))⟩
 ·rw [if_neg c]
  refine ⟨[],0,_,_,rfl,by omega,?_⟩
  rintro q h1 rfl e1
  obtain ⟨n1,x1,g1⟩:=made_new e1 (by omega)
  obtain ⟨h2,e2,k2,x2,n2⟩:∃ h2,ast ctx 112 h1 (.ptr h.next 0) (.agg [.str [],.int .i64 0])=some h2∧h2.get r=some (oRr s p e)∧Ext h h2 1∧h2.next=h1.next :=
   ⟨_,ast_at ty112 g1 rfl (Nat.zero_le _) rfl rfl,by rw [get_upd_ne _ (by omega) (by omega),x1.get _ hr]; exact hg,x1.upd _ (by omega) (Nat.le_refl _),rfl⟩
  refine ⟨h2,e2,fun _=>⟨.ptr r 0,h2,rfl,?_⟩,fun g=>absurd (show (5:Int)≠0 by decide) g⟩
  show ∃ h19,ast ctx 24 h2 (.ptr r (0+2)) (.int .i64 23)=some h19∧_
  exact ⟨_,ast_at ty24 k2 rfl (Nat.zero_le _) rfl rfl,hq2 c _ ((ExtX.of x2).upd _ (by omega) (.inl rfl)) (get_upd_self _ (by omega))⟩
end Go.Proofs.YtnpeieeomokomaaGreat
namespace Go.Proofs.YtnpeieeomokomaaGreat
open Go.Sim
set_option maxRecDepth 100000 in
set_option maxHeartbeats 1000000 in
theorem rTimes_ok {v:V} {l:List Int} {k:Nat} {h:H} {Q:V→H→Prop} (ow:Ow h v tint l.length (ints l)) (hl:l.length≤1000) (hk:k≤1000) (hn:h.next+2*k≤T.top)
  (hq:∀ v' h',Ow h' v' tint (l.length+k) (ints (l++List.replicate k 0))→ExtX (fun b=>vblk v=some b) h h' (2*k)→(∀ b,vblk v'=some b→vblk v=some b∨h.next≤b)→Q v' h'):RF P ctx 149 [v,.int .i64 k,.int .i64 0] h Q:=by
 refine RF.enterS ctx_ok fn149 (ble _ _ rfl) (ble _ _ rfl) vb149 (Has.nil.on fun tm hs=>?_)
 refine wpC.round (fun j tm h'=>∃ (i:Nat) (v':V),i≤k∧j=k-i∧Ow h' v' tint (l.length+i) (ints (l++List.replicate i 0))∧ExtX (fun b=>vblk v=some b) h h' (2*i)∧(∀ b,vblk v'=some b→vblk v=some b∨h.next≤b) ∧
  Has tm [(7,.int .i64 i),(1,.int .i64 k),(0,v'),(2,.int .i64 0)]) k ⟨0,v,by omega,by omega,by simpa using ow,⟨Nat.le_refl _,Nat.le_refl _,fun _ _ _=>rfl,Nat.le_refl _,fun _ h1 _ _=>h1⟩,fun b e=>.inl e,hs.sub rfl⟩ ?_
 rintro j tm h' ⟨i,v',h1,rfl,o,x,hb,hs⟩
 refine wpC.at hs vl149_0 rfl rfl ⟨fun c=>?_,fun c=>hs.on fun tm' hs'=>?_⟩
 ·have hi:i<k:=by omega
  have xt:=x.top
  have xl:=x.le
  obtain ⟨v9,h2,e1,s1,x1⟩:=build1 (n:=0) (h:=h') (by omega)
  have t1:=x1.top
  have t1':=x1.le
  have o1:=o.ext x1
  obtain ⟨v2,h3,e2,a1,a2,a3,a4,a5,a6,a7⟩:=Ow.append (c:=ctx) (te:=tint) (m:=1) o1 s1 (by decide) ty23 rfl ty3 rfl rfl (by show (l.length+i+1)*1≤_; omega) (by show (l.length+i+1)*8≤_; omega) (by omega)
  have e:w64 ((i:Int)+1)=((i+1:Nat):Int):=by rw [w64_id (by omega) (by omega)]; rfl
  refine ⟨v9,h2,e1,trivial,v2,h3,e2,hs.on fun tm' hs'=>⟨rfl,rfl,k-(i+1),by omega,i+1,v2,by omega,rfl,?_,?_,fun b g=>.inr ?_,?_⟩⟩
  ·have:ints (l++List.replicate (i+1) 0)=ints (l++List.replicate i 0)++[.int .i64 0]:=by
    rw [List.replicate_succ',← List.append_assoc,ints_app (l++List.replicate i 0)]
    rfl
   rw [this]
   exact a1
  ·have y1:=x.andThen (ExtX.of (S:=fun _=>False) x1) (fun _ g=>g.elim)
   have y2:=y1.andThen (ExtX.append a2 a3 a4 a6 a7) (fun b g=>hb b g)
   exact y2.more (by omega)
  ·rw [a5] at g
   cases g
   omega
  ·rw [← e]; exact hs'.sub rfl
 ·have hi:i=k:=by omega
  subst hi
  refine thenC.left (wpS.at hs' vr149_1 rfl rfl (hs'.on fun tm2 hs2=>?_))
  exact endW.r1 (hs2.get rfl) (hq v' h' o x hb)
end Go.Proofs.YtnpeieeomokomaaGreat
