/- TM. No condition. -/
import Derived.Test.YtnpeieeomokomaaGreatZTL
namespace Go.Proofs.YtnpeieeomokomaaGreat
open Go.Sim
theorem bsize_some {s:List UInt8} {b:UInt8} (h:s.getLast? = some b) (h0:b.toNat≠0):bsize s=((8*(s.length-1)+nbits b.toNat-1:Nat):Int):=by
 unfold bsize
 rw [h]
 simp only
 rw [if_neg h0]
theorem last_at {s:List UInt8} {b:UInt8} (h:s.getLast? = some b):0<s.length∧s[s.length-1]? = some b:=by
 rw [List.getLast?_eq_getElem?] at h
 exact ⟨by have:=(List.getElem?_eq_some_iff.1 h).1; omega,h⟩
theorem top_bits {s:List UInt8} {b:UInt8} (h:s.getLast? = some b) (h0:b.toNat≠0) {i:Nat} (h1:bsize s≤i) (h2:i<8*s.length):s[i/8]? = some b∧(b.toNat/2^(i % 8) % 2=0↔bsize s≠i):=by
 rw [bsize_some h h0] at h1 ⊢
 obtain ⟨hl,hg⟩:=last_at h
 have a:=nbits_le (n:=b.toNat) h0
 have c:=nbits_lt b.toNat
 have hn1:1≤nbits b.toNat:=nbits_mono1 (by omega)
 have hbt:=b.toNat_lt
 have e8:i/8=s.length-1:=by omega
 refine ⟨by rw [e8]; exact hg,?_⟩
 have ej:i % 8=i-8*(s.length-1):=by omega
 by_cases q:i % 8=nbits b.toNat-1
 ·have e2:2^nbits b.toNat=2*2^(i % 8):=by rw [q,← Nat.pow_succ']; congr 1; omega
  have e1:b.toNat/2^(i % 8)=1:=by
   rw [q] at e2 ⊢
   rw [e2] at c
   have hp:0<2^(nbits b.toNat-1):=Nat.pow_pos (by decide)
   refine Nat.le_antisymm ?_ ?_
   ·have:=(Nat.div_lt_iff_lt_mul hp).2 c; omega
   ·exact (Nat.le_div_iff_mul_le hp).2 (by omega)
  rw [e1]
  exact ⟨fun g=>by omega,fun g=>by exfalso; exact g (by omega)⟩
 ·have hge:nbits b.toNat≤i % 8:=by omega
  have hle:2^nbits b.toNat≤2^(i % 8):=Nat.pow_le_pow_right (by decide) hge
  rw [Nat.div_eq_of_lt (by omega)]
  exact ⟨fun _=>by omega,fun _=>rfl⟩
set_option maxRecDepth 100000 in
theorem rBitsB_ok {s:List UInt8} {h:H} {Q:V→H→Prop} (hs:s.length≤2000) (hq:Q (bitsV s) h):RF P ctx 151 [.str s] h Q:=by
 refine RF.enterS ctx_ok fn151 (ble _ _ rfl) (ble _ _ rfl) vb151 ⟨fun c=>absurd c (by show ¬ ((1048576:Int)<(s.length:Int)); omega),fun _=>⟨fun c=>?_,fun c=>?_⟩⟩
 ·subst c; exact hq
 have hl0:0<s.length:=List.length_pos_iff.2 c
 obtain ⟨b,hb⟩:∃ b,s.getLast? = some b:=by
  cases h:s.getLast? with
  | none=>exact absurd (List.getLast?_eq_none_iff.1 h) c
  | some b=>exact ⟨b,rfl⟩
 obtain ⟨_,hg⟩:=last_at hb
 have hbt:=b.toNat_lt
 have el:w64 (Int.ofNat s.length-1)=((s.length-1:Nat):Int):=by rw [show Int.ofNat s.length=(s.length:Int) from rfl,w64_id (by omega) (by omega)]; omega
 refine ⟨_,by rw [el]; exact index_str hg,fun c2=>?_,fun c2=>Has.nil.on fun tm hs0=>?_⟩
 ·have:bitsV s = .tuple [.int .i64 0,.int .i64 22]:=by
   unfold bitsV bsize
   rw [hb]
   simp only
   rw [if_pos (show b.toNat=0 by omega)]
   rfl
  rw [this] at hq
  exact hq
 have h0:b.toNat≠0:=by omega
 have hz:=bsize_some hb h0
 have hzl:=bsize_lt s
 refine wpS.at hs0 vr151_2 rfl rfl (hs0.on fun tm1 hs1=>?_)
 have e8:w64 (w64 (8*Int.ofNat s.length)-1)=((8*s.length-1:Nat):Int):=by
  rw [show Int.ofNat s.length=(s.length:Int) from rfl,w64_id (n:=8*(s.length:Int)) (by omega) (by omega),w64_id (by omega) (by omega)]; omega
 rw [e8] at hs1
 refine wpC.round (fun k tm h'=>∃ i:Nat,h'=h∧bsize s≤i∧i<8*s.length∧k=i∧Has tm [(0,.str s),(4,.int .i64 i)]) (8*s.length-1) ⟨_,rfl,by omega,by omega,rfl,hs1.sub (by kernel_rfl)⟩ ?_
 rintro k tm h' ⟨i,rfl,h1,h2,rfl,hs2⟩
 obtain ⟨hgi,hiff⟩:=top_bits hb h0 h1 h2
 have hd:b.toNat/2^(k % 8)≤b.toNat:=Nat.div_le_self _ _
 have e1:w64 (Int.tdiv (k:Int) 8)=((k/8:Nat):Int):=by rw [show Int.tdiv (k:Int) 8=((k/8:Nat):Int) from rfl,w64n (by omega)]
 have e2:wrapF .u64 (Int.tmod (k:Int) 8)=((k % 8:Nat):Int):=by rw [show Int.tmod (k:Int) 8=((k % 8:Nat):Int) from rfl,wrapN_u64 (by omega)]
 refine wpC.at hs2 vl151_0 rfl rfl ⟨by decide,(b.toNat:Int),by rw [e1]; exact index_str hgi,by decide,((b.toNat/2^(k % 8):Nat):Int),by rw [e2]; exact shrN_u8 (by omega),((b.toNat/2^(k % 8) % 2:Nat):Int),?_,fun c3=>hs2.on fun tm3 hs3=>?_,fun c3=>hs2.on fun tm3 hs3=>?_⟩
 ·rw [← and_mask _ 1]
  exact andN_u8 (b:=1) (by omega) (by decide)
 ·have c4:=hiff.1 (by omega)
  have ek:w64 ((k:Int)-1)=((k-1:Nat):Int):=by rw [w64_id (by omega) (by omega)]; omega
  refine ⟨rfl,rfl,k-1,by omega,k-1,rfl,by omega,by omega,rfl,?_⟩
  rw [← ek]; exact hs3.sub (by kernel_rfl)
 ·have c4:bsize s=k:=by
   by_cases g:bsize s=k
   ·exact g
   ·exact absurd (by rw [hiff.2 g]; rfl) c3
  refine thenC.left (wpS.at hs3 vr151_1 rfl rfl (hs3.on fun tm4 hs4=>hs4.slt fun tm5 hs5=>endW.r2 (hs5.get rfl) (hs5.get rfl) ?_))
  unfold bitsV at hq
  rw [if_neg (by omega),c4] at hq
  exact hq
set_option maxRecDepth 100000 in
theorem rReadB_ok {s:List UInt8} {h:H} {Q:V→H→Prop} (hs:s.length≤2000) (hq:Q (rdB s) h):RF P ctx 87 [.str s] h Q:=by
 refine RF.plain ?_ (plainL_out rfl)
 have hq:∀ h':H,Plain (rdB s)∧Q (rdB s) h:=fun _=>⟨plain_rdB _,hq⟩
 refine RF.enterS ctx_ok fn87 (ble _ _ rfl) (ble _ _ rfl) vb87 ⟨by decide,?_⟩
 rintro p0 h1 rfl e1
 have w1:=(Vw.nil (S:=none0) (h:=H0)).new e1 (by decide)
 have ht:h1.next≤T.top:=Nat.le_trans w1.top (by decide)
 refine rBitsB_ok hs ?_
 unfold bitsV
 unfold rdB at hq
 by_cases c:bsize s<0
 ·rw [if_pos c] at hq ⊢
  obtain ⟨h6,e6,w6,n6,_⟩:=w1.st (cx:=ctx) 0 (f:=0) (u:=.agg [.str [],.int .i64 0]) rfl ht ty120 rfl (Nat.zero_le _) rfl rfl
  exact ⟨0,22,rfl,fun _=>⟨h6,e6,endL.ok (leaveL.cell (a:=2) (w6.ldA 0 rfl ty120 rfl rfl) rfl) (hq h6)⟩,fun g=>absurd (show (22:Int)≠0 by decide) g⟩
 ·rw [if_neg c] at hq ⊢
  obtain ⟨h6,e6,w6,n6,_⟩:=w1.st (cx:=ctx) 0 (f:=0) (u:=.agg [.str s,.int .i64 (bsize s)]) rfl ht ty120 rfl (Nat.zero_le _) rfl rfl
  exact ⟨bsize s,0,rfl,fun g=>absurd rfl g,fun _=>⟨h6,e6,endL.ok (leaveL.cell (a:=2) (w6.ldA 0 rfl ty120 rfl rfl) rfl) (hq h6)⟩⟩
set_option maxRecDepth 100000 in
theorem rRightB_ok {s:List UInt8} {left:Nat} {h:H} {Q:V→H→Prop} (hs:s.length≤2000) (hl:(left:Int)≤bsize s) (hq:Q (.int .i64 0) h):RF P ctx 280 [brd s left] h Q:=by
 refine RF.plain ?_ (plainL_out rfl)
 refine RF.enterS ctx_ok fn280 (ble _ _ rfl) (ble _ _ rfl) vb280 ⟨by decide,?_⟩
 rintro p0 h1 rfl e1
 have w1:=(Vw.nil (S:=none0) (h:=H0)).new e1 (by decide)
 refine ⟨s,w1.ld1 0 rfl ty9 rfl rfl,rBitsB_ok hs ?_⟩
 unfold bitsV
 rw [if_neg (by omega)]
 exact ⟨_,_,rfl,fun g=>absurd rfl g,fun _=>⟨_,w1.ld1 0 rfl ty3 rfl rfl,fun c=>by omega,fun _=>⟨_,w1.ld1 0 rfl ty3 rfl rfl,fun c=>by omega,fun _=>⟨plain_int _ _,hq⟩⟩⟩⟩
set_option maxRecDepth 100000 in
theorem rAskedB_ok {s:List UInt8} {left n:Nat} {h:H} {Q:V→H→Prop} (hs:s.length≤2000) (hl:(left:Int)≤bsize s) (hn:n≤32) (hq:Q (.int .i64 0) h):RF P ctx 219 [brd s left,.int .i64 n] h Q:=by
 refine RF.plain ?_ (plainL_out rfl)
 refine RF.enterS ctx_ok fn219 (ble _ _ rfl) (ble _ _ rfl) vb219 ⟨by decide,?_⟩
 rintro p0 h1 rfl e1
 have w1:=(Vw.nil (S:=none0) (h:=H0)).new e1 (by decide)
 exact ⟨s,left,w1.ldA 0 rfl ty120 rfl rfl,rRightB_ok hs hl ⟨0,rfl,fun _=>⟨fun c=>by omega,fun _=>⟨fun c=>by omega,fun _=>⟨plain_int _ _,hq⟩⟩⟩,fun c=>absurd rfl c⟩⟩
theorem fa_back0 {p o:Nat} {h:H} {k:V→H→Prop}:wpFA ctx 120 0 h (.ptr p o) k=k (.ptr p (o+0)) h:=by kernel_rfl
set_option maxRecDepth 100000 in
set_option maxHeartbeats 1000000 in
theorem rPeekB_ok {s:List UInt8} {left n:Nat} {h:H} {Q:V→H→Prop} (hs:s.length≤2000) (hl:(left:Int)≤bsize s) (hn:n≤32) (hq:Q (.tuple [.int .u64 (bnum s left n:Nat),.int .i64 0]) h):RF P ctx 155 [brd s left,.int .i64 n] h Q:=by
 refine RF.plain ?_ (plainL_out rfl)
 have hz:=bsize_lt s
 refine RF.enterS ctx_ok fn155 (ble _ _ rfl) (ble _ _ rfl) vb155 ⟨by decide,?_⟩
 rintro p0 h1 rfl e1
 have w1:=(Vw.nil (S:=none0) (h:=H0)).new e1 (by decide)
 refine ⟨s,left,w1.ldA 0 rfl ty120 rfl rfl,rAskedB_ok hs hl hn ⟨0,rfl,fun c=>absurd rfl c,fun _=>Has.nil.on fun tm hs0=>?_⟩⟩
 refine wpC.round (fun k tm h'=>∃ i:Nat,i≤n∧k=n-i∧h'=h1∧Has tm [(8,.int .i64 i),(1,.int .i64 n),(7,.int .u64 (bnum s left i:Nat)),(2,.ptr H0.next 0)]) n ⟨0,by omega,rfl,rfl,hs0.sub (by kernel_rfl)⟩ ?_
 rintro k tm h' ⟨i,hi,rfl,rfl,hs1⟩
 have hb:=bnum_lt s left i
 have hp32:2^i≤2^32:=Nat.pow_le_pow_right (by decide) (by omega)
 have e:w64 ((i:Int)+1)=((i+1:Nat):Int):=by rw [w64_id (by omega) (by omega)]; rfl
 have el:w64 (w64 ((left:Int)-1)-(i:Int))=(left:Int)-1-i:=by
  rw [w64_id (n:=(left:Int)-1) (by omega) (by omega),w64_id (by omega) (by omega)]
 refine wpC.at hs1 vl155_0 rfl rfl ⟨fun c=>?_,fun c=>hs1.on fun tm' hs'=>?_⟩
 rotate_left
 ·have hin:i=n:=by omega
  subst hin
  exact thenC.left (wpS.at hs' vr155_1 rfl rfl (hs'.on fun tm2 hs2=>endW.r2 (hs2.get rfl) (hs2.get rfl) ⟨plainB_out rfl,hq⟩))
 have hin:i<n:=by omega
 have hp31:2^i≤2^31:=Nat.pow_le_pow_right (by decide) (by omega)
 refine ⟨((bnum s left i*2^1:Nat):Int),shlN_u64 (n:=1) (by decide) (by omega),?_⟩
 rw [fa_back1]
 refine ⟨left,w1.ld1 0 rfl ty3 rfl rfl,?_⟩
 rw [el]
 refine ⟨fun c2=>?_,fun c2=>hs1.on fun tm' hs'=>?_⟩
 ·have hlt:i<left:=by omega
  rw [fa_back0,show (left:Int)-1-i=((left-1-i:Nat):Int) by omega]
  obtain ⟨b,hgi⟩:∃ b,s[(left-1-i)/8]? = some b:=⟨_,List.getElem?_eq_getElem (by omega)⟩
  have hbt:=b.toNat_lt
  have hd:b.toNat/2^((left-1-i) % 8)≤b.toNat:=Nat.div_le_self _ _
  have hsb:=sbit_some (s:=s) (i:=left-1-i) hgi
  have hsl:=sbit_lt s (left-1-i)
  have e1:w64 (Int.tdiv ((left-1-i:Nat):Int) 8)=(((left-1-i)/8:Nat):Int):=by rw [show Int.tdiv ((left-1-i:Nat):Int) 8=(((left-1-i)/8:Nat):Int) from rfl,w64n (by omega)]
  have e2:wrapF .u64 (Int.tmod ((left-1-i:Nat):Int) 8)=(((left-1-i) % 8:Nat):Int):=by rw [show Int.tmod ((left-1-i:Nat):Int) 8=(((left-1-i) % 8:Nat):Int) from rfl,wrapN_u64 (by omega)]
  refine ⟨s,w1.ld1 0 rfl ty9 rfl rfl,by decide,(b.toNat:Int),by rw [e1]; exact index_str hgi,by decide,((b.toNat/2^((left-1-i) % 8):Nat):Int),by rw [e2]; exact shrN_u8 (by omega),((sbit s (left-1-i):Nat):Int),?_,hs1.on fun tm' hs'=>⟨rfl,rfl,n-(i+1),by omega,i+1,by omega,rfl,rfl,?_⟩⟩
  ·rw [hsb,← and_mask _ 1]
   exact andN_u8 (b:=1) (by omega) (by decide)
  ·have ew:wrapF .u64 (((bnum s left i*2^1:Nat):Int)+wrapF .u64 ((sbit s (left-1-i):Nat):Int))=((bnum s left (i+1):Nat):Int):=by
    rw [wrapN_u64 (n:=sbit s (left-1-i)) (by omega),show ((bnum s left i*2^1:Nat):Int)+((sbit s (left-1-i):Nat):Int)=((bnum s left i*2^1+sbit s (left-1-i):Nat):Int) from rfl,wrapN_u64 (by omega),bnum_succ,if_pos hlt]
    congr 2
    omega
   rw [← e,← ew]; exact hs'.sub (by kernel_rfl)
 ·have hz:bnum s left (i+1)=bnum s left i*2^1:=by rw [bnum_succ,if_neg (by omega)]; omega
  refine ⟨rfl,rfl,n-(i+1),by omega,i+1,by omega,rfl,rfl,?_⟩
  rw [hz,← e]; exact hs'.sub (by kernel_rfl)
def skB (s:List UInt8) (left n:Nat):V:=if n≤left then .tuple [brd s (left-n),.int .i64 0] else .tuple [.agg [.str [],.int .i64 0],.int .i64 5]
theorem plain_skB (s:List UInt8) (left n:Nat):Plain (skB s left n):=by
 unfold skB
 split <;> exact plainB_out rfl
set_option maxRecDepth 100000 in
theorem rSkipB_ok {s:List UInt8} {left n:Nat} {h:H} {Q:V→H→Prop} (hs:s.length≤2000) (hl:(left:Int)≤bsize s) (hn:n≤32) (hq:Q (skB s left n) h):RF P ctx 154 [brd s left,.int .i64 n] h Q:=by
 refine RF.plain ?_ (plainL_out rfl)
 have hq:∀ h':H,Plain (skB s left n)∧Q (skB s left n) h:=fun _=>⟨plain_skB _ _ _,hq⟩
 have hz:=bsize_lt s
 have zt:=zt
 have z0:H0.next=0:=rfl
 refine RF.enterS ctx_ok fn154 (ble _ _ rfl) (ble _ _ rfl) vb154 ⟨by decide,?_⟩
 rintro p0 h1 rfl e1
 have w1:=(Vw.nil (S:=none0) (h:=H0)).new e1 (by decide)
 have t1:=w1.top
 refine ⟨by omega,?_⟩
 rintro p2 h3 rfl e3
 have w3:=w1.new e3 (by omega)
 have t3:=w3.top
 refine ⟨s,left,w3.ldA 1 rfl ty120 rfl rfl,rAskedB_ok hs hl hn ⟨0,rfl,fun _=>⟨left,w3.ld1 1 rfl ty3 rfl rfl,fun c=>Has.nil.on fun tm hs0=>?_,fun c=>Has.nil.on fun tm hs0=>?_⟩,fun c=>absurd rfl c⟩⟩
 ·unfold skB at hq
  rw [if_neg (by omega)] at hq
  obtain ⟨h6,e6,w6,n6,_⟩:=w3.st (cx:=ctx) 0 (f:=0) (u:=.agg [.str [],.int .i64 0]) rfl (by omega) ty120 rfl (Nat.zero_le _) rfl rfl
  refine wpS.at hs0 vr154_0 rfl rfl ⟨fun _=>⟨h6,e6,hs0.on fun tm2 hs2=>endW.ok (leave.cell (hs2.get rfl) (w6.ldA 0 rfl ty120 rfl rfl) (leave.tmp (hs2.get rfl) rfl)) (hq h6)⟩,fun g=>absurd (show (5:Int)≠0 by decide) g⟩
 ·unfold skB at hq
  rw [if_pos (by omega)] at hq
  refine wpS.at hs0 vr154_0 rfl rfl ⟨fun g=>absurd rfl g,fun _=>?_⟩
  rw [fa_back1]
  refine ⟨left,w3.ld1 1 rfl ty3 rfl rfl,?_⟩
  rw [fa_back1,show w64 ((left:Int)-(n:Int))=((left-n:Nat):Int) by rw [w64_id (by omega) (by omega)]; omega]
  obtain ⟨h6,e6,w6,n6,_⟩:=w3.st (cx:=ctx) 1 (f:=0+1) (u:=.int .i64 (left-n:Nat)) rfl (by omega) ty3 rfl (Nat.zero_le _) rfl rfl
  obtain ⟨h7,e7,w7,n7,_⟩:=w6.st (cx:=ctx) 0 (f:=0) (u:=.agg [.str s,.int .i64 (left-n:Nat)]) rfl (by omega) ty120 rfl (Nat.zero_le _) rfl rfl
  exact ⟨h6,e6,s,_,w6.ldA 1 rfl ty120 rfl rfl,h7,e7,hs0.on fun tm2 hs2=>endW.ok (leave.cell (hs2.get rfl) (w7.ldA 0 rfl ty120 rfl rfl) (leave.tmp (hs2.get rfl) rfl)) (hq h7)⟩
set_option maxRecDepth 100000 in
theorem rTakeB_ok {s:List UInt8} {left n:Nat} {h:H} {Q:V→H→Prop} (hs:s.length≤2000) (hl:(left:Int)≤bsize s) (hn:n≤32) (hq:Q (tkB s left n) h):RF P ctx 89 [brd s left,.int .i64 n] h Q:=by
 refine RF.plain ?_ (plainL_out rfl)
 have hq:∀ h':H,Plain (tkB s left n)∧Q (tkB s left n) h:=fun _=>⟨plain_tkB _ _ _,hq⟩
 have zt:=zt
 have z0:H0.next=0:=rfl
 refine RF.enterS ctx_ok fn89 (ble _ _ rfl) (ble _ _ rfl) vb89 ⟨by decide,?_⟩
 rintro p0 h1 rfl e1
 have w1:=(Vw.nil (S:=none0) (h:=H0)).new e1 (by decide)
 have t1:=w1.top
 refine ⟨by omega,?_⟩
 rintro p2 h3 rfl e3
 have w3:=w1.new e3 (by omega)
 have t3:=w3.top
 refine ⟨s,left,w3.ldA 1 rfl ty120 rfl rfl,rSkipB_ok hs hl hn ?_⟩
 unfold skB
 unfold tkB at hq
 by_cases c:n≤left
 ·rw [if_pos c] at hq ⊢
  refine ⟨_,_,_,rfl,by omega,?_⟩
  rintro p11 h12 rfl e12
  have w12:=w3.new e12 (by omega)
  have t12:=w12.top
  obtain ⟨h13,e13,w13,n13,_⟩:=w12.st (cx:=ctx) 0 (f:=0) (u:=.agg [.str s,.int .i64 (left-n:Nat)]) rfl (by omega) ty120 rfl (Nat.zero_le _) rfl rfl
  obtain ⟨h23,e23,w23,n23,_⟩:=w13.st (cx:=ctx) 1 (f:=0) (u:=.agg [.str s,.int .i64 (left-n:Nat)]) rfl (by omega) ty120 rfl (Nat.zero_le _) rfl rfl
  exact ⟨h13,e13,fun g=>absurd rfl g,fun _=>⟨s,left,w13.ldA 2 rfl ty120 rfl rfl,rPeekB_ok hs hl hn ⟨_,_,rfl,s,_,w13.ldA 0 rfl ty120 rfl rfl,h23,e23,endL.ok (leaveL.cell (a:=4) (w23.ldA 1 rfl ty120 rfl rfl) rfl) (hq h23)⟩⟩⟩
 ·rw [if_neg c] at hq ⊢
  refine ⟨_,_,_,rfl,by omega,?_⟩
  rintro p11 h12 rfl e12
  have w12:=w3.new e12 (by omega)
  have t12:=w12.top
  obtain ⟨h13,e13,w13,n13,_⟩:=w12.st (cx:=ctx) 0 (f:=0) (u:=.agg [.str [],.int .i64 0]) rfl (by omega) ty120 rfl (Nat.zero_le _) rfl rfl
  obtain ⟨h23,e23,w23,n23,_⟩:=w13.st (cx:=ctx) 1 (f:=0) (u:=.agg [.str [],.int .i64 0]) rfl (by omega) ty120 rfl (Nat.zero_le _) rfl rfl
  exact ⟨h13,e13,fun _=>⟨h23,e23,endL.ok (leaveL.cell (a:=4) (w23.ldA 1 rfl ty120 rfl rfl) rfl) (hq h23)⟩,fun g=>absurd (show (5:Int)≠0 by decide) g⟩
end Go.Proofs.YtnpeieeomokomaaGreat
namespace Go.Proofs.YtnpeieeomokomaaGreat
open Go.Sim
set_option maxRecDepth 100000 in
theorem rDistCheck_ok {v:V} {log:Nat} {l:List Int} {h:H} {Q:V→H→Prop} (sl:Sl h v 1 l.length (ints l)) (g:GD log l) (hq:Q (.int .i64 0) h):RF P ctx 86 [.agg [.int .i64 log,v]] h Q:=by
 show RF P ctx 86 ((fun v=>V.agg ([.int .i64 log]++[v]) :: []) v) h Q
 refine RF.ro (One.struct (plainL_out rfl) (fun a ha=>(by cases ha))) sl (plain_ints l) (plain_int _ _) (fun v0 h0 s0 hn0 hl0=>?_) hq
 clear sl hq h Q v
 have ht:=zt
 have hpos:=g.pos
 have hlen:=g.len
 have hlg:=g.lg
 have hp:=g.pts
 have hpw:=pow_log g.lg
 have hpc:((2^log:Nat):Int)=2^log:=by simp
 show RF P ctx 86 [.agg [.int .i64 log,v0]] h0 _
 refine RF.enterS ctx_ok fn86 (ble _ _ rfl) (ble _ _ rfl) vb86 (wpCs_two s0 ⟨by omega,?_⟩)
 rintro p0 h1 rfl e1
 have w1:=(Vw.nil (S:=none0) (h:=h0)).new e1 (by omega)
 have t1:=w1.top
 have l1:=w1.low
 have hn1:h1.next≤T.top:=by omega
 have hl1:h1.low≤T.top:=by omega
 refine ⟨_,w1.ld1 0 rfl ty3 rfl rfl,fun c=>by omega,fun _=>⟨_,w1.ld1 0 rfl ty3 rfl rfl,fun c=>by omega,fun _=>Has.nil.on fun tm hs=>?_⟩⟩
 have s1:=s0.ext w1.ex0
 have shl:intB .shl .i64 1 (wrapF .u64 ((log:Nat):Int))=some (.int .i64 ((2^log:Nat):Int)):=by
  rw [wrapN_u64 (by omega)]
  have:=shlN_i64 (a:=1) (n:=log) (by omega) (by omega)
  rw [Nat.one_mul] at this
  exact this
 refine wpS.at hs vr86_3 rfl rfl ?_
 rw [fa_dist1]
 refine ⟨v0,w1.ld1 0 rfl ty23 rfl rfl,_,s1.len ty23 rfl,fun c=>by omega,fun _=>?_⟩
 rw [fa_dist1]
 refine ⟨v0,w1.ld1 0 rfl ty23 rfl rfl,_,s1.len ty23 rfl,fun c=>by omega,fun _=>?_⟩
 rw [fa_dist1]
 refine ⟨v0,w1.ld1 0 rfl ty23 rfl rfl,?_⟩
 rw [fa_dist1]
 have hlast:l[l.length-1]? = some l[l.length-1]:=List.getElem?_eq_getElem (by omega)
 obtain ⟨b,o,a1,a2⟩:=s1.at1 (u:=.int .i64 l[l.length-1]) (i:=l.length-1) (by omega) ty23 rfl ty3 rfl rfl (by rw [List.getElem?_map,hlast]; rfl)
 have hne:l[l.length-1]≠0:=fun e=>g.last (by rw [List.getLast?_eq_getElem?,hlast,e])
 refine ⟨v0,w1.ld1 0 rfl ty23 rfl rfl,_,s1.len ty23 rfl,b,o,?_,_,a2,fun c=>absurd c hne,fun _=>hs.on fun tm1 hs1=>?_⟩
 ·rw [w64_id (by omega) (by omega),show ((l.length:Nat):Int)-1=((l.length-1:Nat):Int) by omega]; exact a1
 refine wpS.at hs1 vr86_2 rfl rfl (hs1.on fun tm2 hs2=>?_)
 refine wpC.round (fun k tm h'=>∃ i:Nat,i≤l.length∧k=l.length-i∧h'=h1∧Has tm [(3,.int .i64 i),(1,.ptr h0.next 0)]) l.length ⟨0,by omega,by omega,rfl,hs2.sub (by kernel_rfl)⟩ ?_
 clear hs hs1 hs2
 rintro k tm h' ⟨i,hi1,rfl,rfl,hs⟩
 refine wpC.at hs vl86_0 rfl rfl ?_
 rw [fa_dist1]
 refine ⟨v0,w1.ld1 0 rfl ty23 rfl rfl,_,s1.len ty23 rfl,fun c=>⟨⟨hn1,hl1⟩,?_⟩,fun c=>hs.on fun tm' hs'=>?_⟩
 ·have hil:i<l.length:=by omega
  obtain ⟨b,o,a1,a2⟩:=s1.at1 (u:=.int .i64 l[i]) hil ty23 rfl ty3 rfl rfl (by rw [List.getElem?_map,List.getElem?_eq_getElem hil]; rfl)
  have hlo:=g.low _ (List.getElem_mem hil)
  have hhi:=pts_mem g.low (List.getElem_mem hil)
  rw [hp,← hpc] at hhi
  have e:w64 ((i:Int)+1)=((i+1:Nat):Int):=by rw [w64_id (by omega) (by omega)]; rfl
  rw [fa_dist1]
  refine ⟨v0,w1.ld1 0 rfl ty23 rfl rfl,b,o,a1,_,a2,fun c2=>by omega,fun _=>?_⟩
  rw [fa_dist1]
  refine ⟨v0,w1.ld1 0 rfl ty23 rfl rfl,b,o,a1,_,a2,?_⟩
  rw [fa_dist0]
  refine ⟨_,w1.ld1 0 rfl ty3 rfl rfl,_,shl,fun c3=>by omega,fun _=>hs.on fun tm' hs'=>⟨rfl,rfl,l.length-(i+1),by omega,i+1,by omega,rfl,rfl,?_⟩⟩
  rw [← e]; exact hs'.sub (by kernel_rfl)
 ·refine thenC.left (wpS.at hs' vr86_1 rfl rfl ⟨⟨hn1,hl1⟩,?_⟩)
  rw [fa_dist1]
  have sT:Sl (topH h') v0 1 l.length (ints l):=s1
  refine ⟨v0,w1.ld1 0 rfl ty23 rfl rfl,rPoints_ok sT (by omega) (fun x hx=>?_) ⟨_,rfl,(low_id hn1 hl1).1,nilDr hn1 hl1 ?_⟩⟩
  ·have:=pts_mem g.low hx
   rw [hp,← hpc] at this
   omega
  rw [fa_dist0]
  refine ⟨_,w1.ld1 0 rfl ty3 rfl rfl,_,shl,fun c=>absurd ?_ c,fun _=>hs'.on fun tm2 hs2=>hs2.slt fun tm3 hs3=>hs3.slt fun tm4 hs4=>endW.r1 (hs4.get rfl) rfl⟩
  rw [hp,hpc]
set_option maxRecDepth 100000 in
theorem rStep_ok {log:Nat} (hl:log=5∨log=6) {h:H} {Q:V→H→Prop} (hq:Q (.tuple [.int .i64 (stp log:Nat),.int .i64 0]) h):RF P ctx 218 [.int .i64 log] h Q:=by
 have hp:=pow_log hl
 refine RF.enterS ctx_ok fn218 (ble _ _ rfl) (ble _ _ rfl) vb218 ⟨fun c=>by omega,fun _=>⟨fun c=>by omega,fun _=>Has.nil.on fun tm hs=>?_⟩⟩
 refine wpS.at hs vr218_0 rfl rfl ⟨((1*2^log:Nat):Int),by rw [wrapN_u64 (by omega)]; exact shlN_i64 (a:=1) (by omega) (by omega),by decide,by decide,hs.on fun tm2 hs2=>endW.r2 (hs2.get rfl) (hs2.get rfl) ?_⟩
 have e:w64 (w64 (w64 (Int.tdiv ((1*2^log:Nat):Int) 2)+w64 (Int.tdiv ((1*2^log:Nat):Int) 8))+3)=((stp log:Nat):Int):=by
  rw [Nat.one_mul,show Int.tdiv ((2^log:Nat):Int) 2=((2^log/2:Nat):Int) from rfl,show Int.tdiv ((2^log:Nat):Int) 8=((2^log/8:Nat):Int) from rfl,w64n (n:=2^log/2) (by omega),w64n (n:=2^log/8) (by omega),
   w64_id (n:=((2^log/2:Nat):Int)+((2^log/8:Nat):Int)) (by omega) (by omega),w64_id (by omega) (by omega)]
  unfold stp
  omega
 rw [e]
 exact hq
def tkL (size n:Nat):List V:=(List.range size).map fun q=>V.bool (decide (n≤q))
theorem tkL_full (size:Nat):List.replicate size (V.bool false)=tkL size size:=by
 apply List.ext_getElem?
 intro i
 unfold tkL
 rw [List.getElem?_replicate,List.getElem?_map]
 by_cases h:i<size
 ·rw [if_pos h,List.getElem?_range h]
  simp; omega
 ·rw [if_neg h,List.getElem?_eq_none (by simp; omega)]
  rfl
theorem tkL_set {size n:Nat} (h0:0<n) (hn:n≤size):(tkL size n).set (n-1) (.bool true)=tkL size (n-1):=by
 apply List.ext_getElem?
 intro i
 unfold tkL
 by_cases c:i=n-1
 ·subst c
  rw [List.getElem?_set_self (by simp; omega),List.getElem?_map,List.getElem?_range (by omega)]
  simp only [Option.map_some]
  rw [decide_eq_true (Nat.le_refl _)]
 ·rw [List.getElem?_set_ne (fun q=>c q.symm),List.getElem?_map,List.getElem?_map]
  by_cases h:i<size
  ·rw [List.getElem?_range h]
   simp only [Option.map_some]
   congr 2
   by_cases g:n≤i
   ·rw [decide_eq_true g,decide_eq_true (by omega)]
   ·rw [decide_eq_false g,decide_eq_false (by omega)]
  ·rw [List.getElem?_eq_none (by simp; omega)]
   rfl
theorem tkL_at {size n p:Nat} (h:p<size):(tkL size n)[p]? = some (.bool (decide (n≤p))):=by
 unfold tkL
 rw [List.getElem?_map,List.getElem?_range h]
 rfl
structure RsI (hb h:H) (b9 b8 p0 size log:Nat) (v:V) (n:Nat) (xs:List Int):Prop where
 vw:∃ c9 c8,Vw none0 hb h 3 [(b9,oRow c9),(b8,oRow c8),(p0,oD log v)]∧Row c9 size (tkL size n)∧Row c8 size (ints xs)
theorem RsI.ex {hb h:H} {b9 b8 p0 size log n:Nat} {v:V} {xs:List Int} (i:RsI hb h b9 b8 p0 size log v n xs):Ext hb h 3:=by
 obtain ⟨c9,c8,w,_⟩:=i
 exact w.ex0
theorem RsI.dist {hb h:H} {b9 b8 p0 size log n:Nat} {v:V} {xs:List Int} (i:RsI hb h b9 b8 p0 size log v n xs):ald ctx 23 h (.ptr p0 (0+1))=some v:=by
 obtain ⟨c9,c8,w,_⟩:=i
 exact w.ld1 2 rfl ty23 rfl rfl
theorem RsI.put {hb h:H} {b9 b8 p0 size log n j:Nat} {v:V} {xs:List Int} (i:RsI hb h b9 b8 p0 size log v n xs) (s:Int) (hj:j<size) (hn:hb.next+3≤T.top):∃ h',ast ctx 3 h (.ptr b8 j) (.int .i64 s)=some h'∧RsI hb h' b9 b8 p0 size log v n (xs.set j s):=by
 obtain ⟨c9,c8,w,r9,r8⟩:=i
 have tw:=w.top
 obtain ⟨h2,cs2,e2,row2,w2,n2⟩:=w.set (cx:=ctx) 1 (j:=j) (u:=.int .i64 s) r8 rfl (by omega) hj ty3 rfl rfl rfl rfl
 exact ⟨h2,e2,⟨c9,cs2,w2,r9,by rw [ints_set]; exact row2⟩⟩
theorem RsI.mark {hb h:H} {b9 b8 p0 size log n:Nat} {v:V} {xs:List Int} (i:RsI hb h b9 b8 p0 size log v n xs) (h0:0<n) (hns:n≤size) (hn:hb.next+3≤T.top):∃ h',ast ctx 4 h (.ptr b9 (n-1)) (.bool true)=some h'∧RsI hb h' b9 b8 p0 size log v (n-1) xs:=by
 obtain ⟨c9,c8,w,r9,r8⟩:=i
 have tw:=w.top
 obtain ⟨h2,cs2,e2,row2,w2,n2⟩:=w.set (cx:=ctx) 0 (j:=n-1) (u:=.bool true) r9 rfl (by omega) (by omega) ty4 rfl rfl rfl rfl
 exact ⟨h2,e2,⟨cs2,c8,w2,by rw [← tkL_set h0 hns]; exact row2,r8⟩⟩
theorem RsI.taken {hb h:H} {b9 b8 p0 size log n p:Nat} {v:V} {xs:List Int} (i:RsI hb h b9 b8 p0 size log v n xs) (hp:p<size):ald ctx 4 h (.ptr b9 p)=some (.bool (decide (n≤p))):=by
 obtain ⟨c9,c8,w,r9,_⟩:=i
 exact w.ld1 0 rfl ty4 rfl ((r9.2.2.2 p hp).trans (tkL_at hp))
end Go.Proofs.YtnpeieeomokomaaGreat
namespace Go.Proofs.YtnpeieeomokomaaGreat
open Go.Sim
theorem advR {log p:Nat} (hl:log=5∨log=6) (hp:p<2^log):Int.tmod (w64 ((p:Int)+(stp log:Nat))) ((2^log:Nat):Int)=(((p+stp log) % 2^log:Nat):Int):=by
 have h1:=pow_log hl
 have h2:stp log≤2^log+3:=by unfold stp; omega
 rw [w64_id (by omega) (by omega)]
 rfl
set_option maxRecDepth 100000 in
theorem rWalk_ok {hb h:H} {b9 b8 p0 m log:Nat} {v:V} {xs:List Int} {f p tgt:Nat} {tm:Tm} {R:AX→St→Prop} {y1 y8 y14 y13:V} (hl:log=5∨log=6) (i:RsI hb h b9 b8 p0 (2^log) log v (2^log-m) xs) (hp:p<2^log) (hx:nxt log m f p=tgt) (ht:tgt<2^log-m)
  (hs:Has tm [(9,.slice b9 0 (2^log) (.exact (2^log))),(12,.int .i64 p),(6,.int .i64 (stp log:Nat)),(5,.int .i64 (2^log:Nat)),(1,y1),(8,y8),(14,y14),(13,y13)])
  (hq:∀ tm',Has tm' [(9,.slice b9 0 (2^log) (.exact (2^log))),(12,.int .i64 tgt),(6,.int .i64 (stp log:Nat)),(5,.int .i64 (2^log:Nat)),(1,y1),(8,y8),(14,y14),(13,y13)]→R (.exit 6) ⟨93,tm',[],h⟩) :
  wpC P ctx false (.loop l152_1) ⟨93,tm,[],h⟩ R:=by
 have hpw:=pow_log hl
 refine wpC.round (fun k tm h'=>h'=h∧∃ p,p<2^log∧nxt log m k p=tgt∧Has tm [(9,.slice b9 0 (2^log) (.exact (2^log))),(12,.int .i64 p),(6,.int .i64 (stp log:Nat)),(5,.int .i64 (2^log:Nat)),(1,y1),(8,y8),(14,y14),(13,y13)]) f ⟨rfl,p,hp,hx,hs⟩ ?_
 clear hs hp hx
 rintro k tm h' ⟨rfl,p,hp,hx,hs⟩
 refine wpC.at hs vl152_1 rfl rfl ⟨b9,p,aidx_row ty277 rfl ty4 rfl hp,_,i.taken hp,fun c=>?_,fun c=>hs.on fun tm' hs'=>?_⟩
 ·have c:=of_decide_eq_true c
  cases k with
  | zero=>have:p=tgt:=hx; omega
  | succ k =>
   unfold nxt at hx
   rw [if_neg (by omega)] at hx
   refine ⟨by omega,hs.on fun tm' hs'=>⟨rfl,rfl,k,Nat.lt_succ_self k,rfl,(p+stp log) % 2^log,Nat.mod_lt _ (Nat.pow_pos (by decide)),hx,?_⟩⟩
   rw [← advR hl hp]
   exact hs'.sub (by kernel_rfl)
 ·have c:=of_decide_eq_false c
  have:p=tgt:=by
   cases k with
   | zero=>exact hx
   | succ k =>
    unfold nxt at hx
    rw [if_pos (by omega)] at hx
    exact hx
  subst this
  exact hq tm' (hs'.sub (by kernel_rfl))
set_option maxRecDepth 100000 in
set_option maxHeartbeats 2000000 in
theorem rSpread_ok {v:V} {log:Nat} {l:List Int} {h:H} {Q:V→H→Prop} (sl:Sl h v 1 l.length (ints l)) (g:GD log l) (hn:h.next+10≤T.top)
  (hq:∀ h' v',Ext h h' 7→Sl h' v' 1 (2^log) (ints (sprd log l))→Q (.tuple [v',.int .i64 0]) h'):RF P ctx 152 [.agg [.int .i64 log,v]] h Q:=by
 have hpw:=pow_log g.lg
 have hlg:=g.lg
 have hlen:=g.len
 have hcells:=g.cells
 have hr12:nrare l≤12:=Nat.le_trans (nrare_le l) g.len
 refine RF.enterS ctx_ok fn152 (ble _ _ rfl) (ble _ _ rfl) vb152 (wpCs_two sl ⟨by omega,?_⟩)
 rintro p0 h1 rfl e1
 have w1:=(Vw.nil (S:=none0) (h:=h)).new e1 (by omega)
 have t1:=w1.top
 refine ⟨_,_,w1.ldA 0 rfl ty59 rfl rfl,rDistCheck_ok (sl.ext w1.ex0) g ⟨0,rfl,fun c=>absurd rfl c,fun _=>⟨_,w1.ld1 0 rfl ty3 rfl rfl,((1*2^log:Nat):Int),by rw [wrapN_u64 (by omega)]; exact shlN_i64 (a:=1) (by omega) (by omega),_,w1.ld1 0 rfl ty3 rfl rfl,rStep_ok hlg ⟨_,_,rfl,?_⟩⟩⟩⟩
 rw [Nat.one_mul]
 obtain ⟨cs,e2,row⟩:=Row.make (cx:=ctx) (k:=2^log) (h:=h1) ty23 rfl ty3 rfl rfl rfl (by omega) (by show 8*2^log≤_; omega) (by omega)
 obtain ⟨h11,e11⟩:∃ h11,h11=h1.new (oRow cs):=⟨_,rfl⟩
 rw [← e11] at e2
 have w11:=w1.new e11 (by omega)
 have t11:=w11.top
 obtain ⟨cs9,e3,row9⟩:=Row.make (cx:=ctx) (k:=2^log) (h:=h11) ty277 rfl ty4 rfl rfl rfl (by omega) (by show 1*2^log≤_; omega) (by omega)
 obtain ⟨h12,e12⟩:∃ h12,h12=h11.new (oRow cs9):=⟨_,rfl⟩
 rw [← e12] at e3
 have w12:=w11.new e12 (by omega)
 have t12:=w12.top
 have el:w64 (((2^log:Nat):Int)-1)=((2^log:Nat):Int)-1:=w64_id (by omega) (by omega)
 rw [el]
 refine ⟨_,h11,e2,_,h12,e3,Has.nil.on fun tm hs=>?_⟩
 have ix:RsI h h12 h11.next h1.next h.next (2^log) log v (2^log) (List.replicate (2^log) 0):=⟨cs9,cs,w12,by rw [← tkL_full]; exact row9,by rw [ints_repl]; exact row⟩
 clear w12 w11 row row9 e2 e3 e11 e12 t11 t12
 generalize h11.next=b9 at hs ix
 generalize h1.next=b8 at hs ix
 refine wpC.round (fun k tm h'=>∃ (i n:Nat) (xs:List Int),i≤l.length∧k=l.length-i∧RsI h h' b9 b8 h.next (2^log) log v n xs ∧
  rare (l.drop i) i n xs=rare l 0 (2^log) (List.replicate (2^log) 0)∧n+nrare l=2^log+nrare (l.drop i)∧n≤2^log ∧
  Has tm [(11,.int .i64 i),(1,.ptr h.next 0),(8,.slice b8 0 (2^log) (.exact (2^log))),(10,.int .i64 ((n:Int)-1)),(9,.slice b9 0 (2^log) (.exact (2^log))),(6,.int .i64 (stp log:Nat)),(5,.int .i64 (2^log:Nat))]) l.length
  ⟨0,2^log,_,by omega,by omega,ix,rfl,rfl,Nat.le_refl _,hs.sub (by kernel_rfl)⟩ ?_
 clear hs ix
 rintro k tm h' ⟨i,n,xs,hi1,rfl,ix,hR,hN,hnl,hs⟩
 have slk:=sl.ext ix.ex
 refine wpC.at hs vl152_0 rfl rfl ?_
 rw [fa_dist1]
 refine ⟨v,ix.dist,_,slk.len ty23 rfl,fun c1=>?_,fun c1=>hs.on fun tm' hs'=>?_⟩
 ·rw [fa_dist1]
  have hil:i<l.length:=by omega
  have hd:=drop_cons hil
  have hnr:=nrare_take hil
  obtain ⟨pb,po,a1,a2⟩:=slk.at1 (u:=.int .i64 l[i]) hil ty23 rfl ty3 rfl rfl (by rw [List.getElem?_map,List.getElem?_eq_getElem hil]; rfl)
  have e:w64 ((i:Int)+1)=((i+1:Nat):Int):=by rw [w64_id (by omega) (by omega)]; rfl
  refine ⟨v,ix.dist,pb,po,a1,_,a2,fun c2=>?_,fun c2=>hs.on fun tm' hs'=>?_⟩
  ·rw [if_pos c2] at hnr
   have en:(n:Int)-1=((n-1:Nat):Int):=by omega
   obtain ⟨h3,e3,i3⟩:=ix.put (i:Int) (j:=n-1) (by omega) (by omega)
   obtain ⟨h4,e4,i4⟩:=i3.mark (by omega) hnl (by omega)
   rw [en] at hs ⊢
   refine ⟨b8,n-1,aidx_row ty23 rfl ty3 rfl (by omega),h3,e3,b9,n-1,aidx_row ty277 rfl ty4 rfl (by omega),h4,e4,hs.on fun tm' hs'=>⟨rfl,rfl,l.length-(i+1),by omega,i+1,n-1,_,by omega,rfl,i4,?_,by omega,by omega,?_⟩⟩
   ·rw [← hR,hd]
    exact (if_pos c2).symm
   ·have e2:w64 (((n-1:Nat):Int)-1)=((n-1:Nat):Int)-1:=w64_id (by omega) (by omega)
    have q:=hs'.sub (l':=[(11,.int .i64 (w64 ((i:Int)+1))),(1,.ptr h.next 0),(8,.slice b8 0 (2^log) (.exact (2^log))),(10,.int .i64 (w64 (((n-1:Nat):Int)-1))),(9,.slice b9 0 (2^log) (.exact (2^log))),(6,.int .i64 (stp log:Nat)),(5,.int .i64 (2^log:Nat))]) (by kernel_rfl)
    rw [e,e2] at q
    exact q
  ·rw [if_neg c2] at hnr
   refine ⟨rfl,rfl,l.length-(i+1),by omega,i+1,n,xs,by omega,rfl,ix,?_,by omega,hnl,?_⟩
   ·rw [← hR,hd]
    exact (if_neg c2).symm
   ·rw [← e]; exact hs'.sub (by kernel_rfl)
 have hil:i=l.length:=by omega
 subst hil
 rw [List.drop_length] at hR hN
 have hn9:n=2^log-nrare l:=by have:nrare []=0:=rfl; omega
 subst hn9
 have hx0:xs=rare l 0 (2^log) (List.replicate (2^log) 0):=hR
 subst hx0
 refine thenC.left (wpS.at hs' vr152_7 rfl rfl (hs'.on fun tm2 hs2=>?_))
 refine wpC.round (fun k tm h'=>∃ (i n:Nat) (xs:List Int),i≤l.length∧k=l.length-i∧RsI h h' b9 b8 h.next (2^log) log v (2^log-nrare l) xs ∧
  puts log (nrare l) (l.drop i) i n xs=sprd log l ∧
  Has tm [(13,.int .i64 i),(1,.ptr h.next 0),(12,.int .i64 (plc log (nrare l) n:Nat)),(8,.slice b8 0 (2^log) (.exact (2^log))),(9,.slice b9 0 (2^log) (.exact (2^log))),(6,.int .i64 (stp log:Nat)),(5,.int .i64 (2^log:Nat))]) l.length
  ⟨0,0,_,by omega,by omega,ix,rfl,hs2.sub (by kernel_rfl)⟩ ?_
 clear hs hs2 hs' ix hR hN hnl slk
 rintro k tm h' ⟨i,n,xs,hi1,rfl,ix,hR,hs⟩
 have slk:=sl.ext ix.ex
 refine wpC.at hs vl152_5 rfl rfl ?_
 rw [fa_dist1]
 refine ⟨v,ix.dist,_,slk.len ty23 rfl,fun c1=>hs.on fun tm1 hs1=>?_,fun c1=>hs.on fun tm' hs'=>?_⟩
 rotate_left
 ·have hil:i=l.length:=by omega
  subst hil
  rw [List.drop_length] at hR
  have hx:xs=sprd log l:=hR
  subst hx
  obtain ⟨c9,c8,w,r9,r8⟩:=ix
  refine thenC.left (wpS.at hs' vr152_6 rfl rfl (hs'.on fun tm3 hs3=>hs3.slt fun tm4 hs4=>endW.r2 (hs4.get rfl) (hs4.get rfl) ?_))
  exact hq h' _ (w.ex0.mono (by omega)) (r8.sl (w.lt 1 rfl) (w.get 1 rfl))
 have hil:i<l.length:=by omega
 have hd:=drop_cons hil
 have e:w64 ((i:Int)+1)=((i+1:Nat):Int):=by rw [w64_id (by omega) (by omega)]; rfl
 have hb64:=pts_mem g.low (List.getElem_mem hil)
 rw [g.pts] at hb64
 have hpc:((2^log:Nat):Int)=2^log:=by simp
 rw [hd] at hR
 unfold puts at hR
 have hgi:l[i]? = some l[i]:=List.getElem?_eq_getElem hil
 generalize l[i]=x at hgi hR hb64
 refine wpC.round (fun k tm h'=>∃ (j:Nat) (xs1:List Int),j≤x.toNat∧k=x.toNat-j∧RsI h h' b9 b8 h.next (2^log) log v (2^log-nrare l) xs1 ∧
  putn log (nrare l) i (x.toNat-j) (n+j) xs1=putn log (nrare l) i x.toNat n xs ∧
  Has tm [(14,.int .i64 j),(1,.ptr h.next 0),(13,.int .i64 i),(8,.slice b8 0 (2^log) (.exact (2^log))),(12,.int .i64 (plc log (nrare l) (n+j):Nat)),(6,.int .i64 (stp log:Nat)),(5,.int .i64 (2^log:Nat)),(9,.slice b9 0 (2^log) (.exact (2^log)))]) x.toNat
  ⟨0,xs,by omega,by omega,ix,rfl,hs1.sub (by kernel_rfl)⟩ ?_
 clear hs hs1 ix slk
 rintro k tm h' ⟨j,xs1,hj1,rfl,ix,hP,hs⟩
 have slk:=sl.ext ix.ex
 obtain ⟨pb,po,a1,a2⟩:=slk.at1 (u:=.int .i64 x) hil ty23 rfl ty3 rfl rfl (by rw [List.getElem?_map,hgi]; rfl)
 refine wpC.at hs vl152_3 rfl rfl ?_
 rw [fa_dist1]
 refine ⟨v,ix.dist,pb,po,a1,x,a2,fun c1=>?_,fun c1=>hs.on fun tm' hs'=>?_⟩
 ·have hj:j<x.toNat:=by omega
  have hpl:=plc_lt hlg hr12 (n+j)
  have e2:w64 ((j:Int)+1)=((j+1:Nat):Int):=by rw [w64_id (by omega) (by omega)]; rfl
  obtain ⟨h3,e3,i3⟩:=ix.put (i:Int) (j:=plc log (nrare l) (n+j)) (by omega) (by omega)
  refine ⟨b8,plc log (nrare l) (n+j),aidx_row ty23 rfl ty3 rfl (by omega),h3,e3,by omega,hs.on fun tm1 hs1=>?_⟩
  rw [advR hlg (by omega)] at hs1
  refine rWalk_ok (log:=log) (y1:=.ptr h.next 0) (y8:=.slice b8 0 (2^log) (.exact (2^log))) (y14:=.int .i64 j) (y13:=.int .i64 i) (f:=13) (tgt:=plc log (nrare l) (n+(j+1))) hlg i3 (Nat.mod_lt _ (Nat.pow_pos (by decide))) rfl (plc_lt hlg hr12 _) (hs1.sub (by kernel_rfl)) fun tm2 hs2=>?_
  refine thenC.out2 ?_
  refine wpS.at hs2 vr152_2 rfl rfl (hs2.on fun tm3 hs3=>hs3.slt fun tm4 hs4=>⟨rfl,rfl,x.toNat-(j+1),by omega,j+1,_,by omega,rfl,i3,?_,?_⟩)
  ·rw [← hP,show x.toNat-j=(x.toNat-(j+1))+1 by omega]
   rfl
  ·rw [← e2]; exact hs4.sub (by kernel_rfl)
 ·have hj:j=x.toNat:=by omega
  subst hj
  rw [Nat.sub_self] at hP
  have hx1:xs1=putn log (nrare l) i x.toNat n xs:=hP
  subst hx1
  refine thenC.left2 ?_
  refine wpS.at hs' vr152_4 rfl rfl (hs'.on fun tm3 hs3=>hs3.slt fun tm4 hs4=>⟨rfl,rfl,l.length-(i+1),by omega,i+1,n+x.toNat,_,by omega,rfl,ix,hR,?_⟩)
  rw [← e]; exact hs4.sub (by kernel_rfl)
end Go.Proofs.YtnpeieeomokomaaGreat
namespace Go.Proofs.YtnpeieeomokomaaGreat
open Go.Sim
theorem _root_.Go.Sim.Ow.set {cx:Ctx} {h:H} {v u:V} {te ti:TI} {n t e j:Nat} {xs:List V} (s:Ow h v te n xs) (hj:j<n) (ht:cx.ty.get t=some ti) (hd:ti.desc = .slice e) (he:cx.ty.get e=some te) (hs:te.size=1) (hu:u.cells=[u]) (ho:u.one=true) (hn:h.next≤T.top) :
  ∃ b h',vblk v=some b∧aidx cx t v (.int .i64 j)=some (.ptr b j)∧ast cx e h (.ptr b j) u=some h'∧Ow h' v te n (xs.set j u)∧h'.next=h.next∧ExtX (fun i=>vblk v=some i) h h' 0:=by
 obtain ⟨h0,⟨rfl,hz⟩ | ⟨b,cs,rfl,hb,hg,hw,hl,hc⟩⟩:=s
 ·omega
 ·obtain ⟨cs',p1,p2⟩:=Cs.put_some (cs:=cs) hw (o:=j) (vs:=[u]) (by rw [hl,hs]; simp; omega)
  obtain ⟨_,p3,p4⟩:=Cs.put_eq p1
  have hbt:b<T.top:=by omega
  refine ⟨b,h.upd b (some (.cells cs' (rkOf te) true true)),rfl,aidx_row ht hd he hs hj,ast_at he hg (lenIs_iff.2 (by rw [hu,hs]; rfl)) (Nat.zero_le _) (by rw [hu]; simp [allOne,ho]) (by rw [hu]; exact p1),⟨by rw [List.length_set]; exact h0,.inr ⟨b,cs',rfl,hb,get_upd_self _ hbt,p2,by rw [p3,hl],fun i hi=>?_⟩⟩,rfl,(ExtX.refl0 _ _).upd _ hbt (.inl rfl)⟩
  rw [p4]
  by_cases c1:i=j
  ·subst c1
   rw [if_pos ⟨Nat.le_refl _,by simp⟩,Nat.sub_self,List.getElem?_set_self (by rw [h0,hs]; omega)]
   rfl
  ·rw [if_neg (by simp; omega),List.getElem?_set_ne (fun q=>c1 q.symm)]
   exact hc i hi
def nxL (n:Nat) (nx:Int→Nat):List Int:=(List.range n).map fun i=>((nx ((i:Nat):Int):Nat):Int)
theorem nxL_len (n:Nat) (nx:Int→Nat):(nxL n nx).length=n:=by simp [nxL]
theorem nxL_at {n s:Nat} {nx:Int→Nat} (h:s<n):(nxL n nx)[s]? = some ((nx (s:Int):Nat):Int):=by
 unfold nxL
 rw [List.getElem?_map,List.getElem?_range h]
 rfl
theorem nxL_set {n s:Nat} {nx:Int→Nat} (h:s<n):(nxL n nx).set s ((nx (s:Int)+1:Nat):Int)=nxL n (fun j=>if j=(s:Int) then nx (s:Int)+1 else nx j):=by
 apply List.ext_getElem?
 intro i
 unfold nxL
 by_cases c:i=s
 ·subst c
  rw [List.getElem?_set_self (by simp; exact h),List.getElem?_map,List.getElem?_range h]
  simp
 ·rw [List.getElem?_set_ne (fun q=>c q.symm),List.getElem?_map,List.getElem?_map]
  by_cases hi:i<n
  ·rw [List.getElem?_range hi]
   simp only [Option.map_some]
   rw [if_neg (by omega)]
  ·rw [List.getElem?_eq_none (by simp; omega)]
   rfl
theorem nxL_snoc (n:Nat) (nx:Int→Nat):nxL (n+1) nx=nxL n nx++[((nx (n:Int):Nat):Int)]:=by
 unfold nxL
 rw [List.range_succ,List.map_append]
 rfl
set_option maxRecDepth 100000 in
set_option maxHeartbeats 4000000 in
theorem rDecode_ok {v:V} {log:Nat} {l:List Int} {h:H} {Q:V→H→Prop} (sl:Sl h v 1 l.length (ints l)) (g:GD log l) (hn:h.next+300≤T.top) (hlow:h.low≤T.top)
  (hq:∀ h' v',Ext h h' 250→Sl h' v' 3 (2^log) (cellsV (dtab log l))→(∀ b,vblk v'=some b→h.next≤b)→Q (.tuple [v',.int .i64 0]) h'):RF P ctx 88 [.agg [.int .i64 log,v]] h Q:=by
 have hpw:=pow_log g.lg
 have hlg:=g.lg
 have hlen:=g.len
 refine RF.enterS ctx_ok fn88 (ble _ _ rfl) (ble _ _ rfl) vb88 (wpCs_two sl ⟨by omega,?_⟩)
 rintro p0 h1 rfl e1
 have w1:=(Vw.nil (S:=none0) (h:=h)).new e1 (by omega)
 have t1:=w1.top
 have s1:=sl.ext w1.ex0
 refine ⟨_,_,w1.ldA 0 rfl ty59 rfl rfl,rDistCheck_ok s1 g ⟨0,rfl,fun c=>absurd rfl c,fun _=>⟨_,_,w1.ldA 0 rfl ty59 rfl rfl,?_⟩⟩⟩
 refine rSpread_ok s1 g (by omega) fun h2 v12 x2 s12=>⟨_,_,rfl,fun c=>absurd rfl c,fun _=>Has.nil.on fun tm hs=>?_⟩
 have x02:=w1.ex0.trans x2
 have t2:=x02.top
 have lw2:=x02.low
 have g0:h2.get h.next=some (oD log v):=(x2.get _ (w1.lt 0 rfl)).trans (w1.get 0 rfl)
 have l0:h.next<h2.next:=Nat.lt_of_lt_of_le (w1.lt 0 rfl) x2.le
 have s2:=sl.ext x02
 clear w1 t1 s1 e1 x2
 refine wpC.round (fun k tm h'=>∃ (i:Nat) (v7:V),i≤l.length∧k=l.length-i∧Vw none0 h2 h' (2*i) []∧Ow h' v7 tint (nxL i (num0 l)).length (ints (nxL i (num0 l)))∧Sep none0 h2.next [] v7 ∧
  Has tm [(8,.int .i64 i),(1,.ptr h.next 0),(7,v7),(5,v12)]) l.length ⟨0,.nilslice,by omega,by omega,Vw.nil,Ow.nil _ _,fun b hb=>(by cases hb),hs.sub (by kernel_rfl)⟩ ?_
 clear hs
 rintro k tm h' ⟨i,v7,hi1,rfl,w,ow,sp,hs⟩
 have tw:=w.top
 have lww:=w.low
 have hld:ald ctx 23 h' (.ptr h.next (0+1))=some v:=ald_one ty23 rfl ((w.ex0.get _ l0).trans g0) rfl
 have slk:=s2.ext w.ex0
 refine wpC.at hs vl88_0 rfl rfl ?_
 rw [fa_dist1]
 refine ⟨v,hld,_,slk.len ty23 rfl,fun c1=>⟨⟨by omega,by omega⟩,?_⟩,fun c1=>hs.on fun tm' hs'=>?_⟩
 ·rw [fa_dist1]
  have hil:i<l.length:=by omega
  have hgi:l[i]? = some l[i]:=List.getElem?_eq_getElem hil
  obtain ⟨pb,po,a1,a2⟩:=slk.at1 (u:=.int .i64 l[i]) hil ty23 rfl ty3 rfl rfl (by rw [List.getElem?_map,hgi]; rfl)
  have hlo:=g.low _ (List.getElem_mem hil)
  have hhi:=pts_mem g.low (List.getElem_mem hil)
  rw [g.pts] at hhi
  have hpc:((2^log:Nat):Int)=2^log:=by simp
  have hnum:num0 l (i:Int)=(l[i]).natAbs:=by unfold num0; rw [Int.toNat_natCast,hgi]; rfl
  generalize l[i]=x at a2 hlo hhi hnum
  refine ⟨v,hld,pb,po,a1,x,a2,?_⟩
  rw [fa_dist1]
  have em:max x (w64 (0-x))=((num0 l (i:Int):Nat):Int):=by rw [hnum,w64_id (by omega) (by omega)]; omega
  obtain ⟨v16,h17,e16,sl17,x17⟩:=build1i (h:=h') ((num0 l (i:Int):Nat):Int) (by omega)
  have t17:=x17.top
  obtain ⟨v18,h19,e18,A⟩:=Ow.append (c:=ctx) (te:=tint) (m:=1) (ow.ext x17) sl17 (by decide) ty23 rfl ty3 rfl rfl (by rw [nxL_len]; show (i+1)*1≤_; omega) (by rw [nxL_len]; show (i+1)*8≤_; omega) (by omega)
  obtain ⟨w19,ow19,sp19⟩:=(w.ext x17).grow (k:=(nxL (i+1) (num0 l)).length) (xs:=ints (nxL (i+1) (num0 l))) sp (by rw [nxL_snoc,ints_app,List.length_append]; exact A)
  have e:w64 ((i:Int)+1)=((i+1:Nat):Int):=by rw [w64_id (by omega) (by omega)]; rfl
  refine ⟨v,hld,pb,po,a1,x,a2,v16,h17,by rw [em]; exact e16,trivial,v18,h19,e18,hs.on fun tm' hs'=>⟨rfl,rfl,l.length-(i+1),by omega,i+1,v18,by omega,rfl,w19.more (by omega),ow19,sp19,?_⟩⟩
  rw [← e]; exact hs'.sub (by kernel_rfl)
 have hil:i=l.length:=by omega
 subst hil
 have hdl:=dtab_len log l
 refine thenC.left (wpS.at hs' vr88_3 rfl rfl (hs'.on fun tm2 hs2=>?_))
 refine wpC.round (fun k tm h'=>∃ (i:Nat) (nx:Int→Nat) (v9:V),i≤2^log∧k=2^log-i∧Vw none0 h2 h' (2*l.length+2*i) []∧Ow h' v7 tint (nxL l.length nx).length (ints (nxL l.length nx)) ∧
  Ow h' v9 ⟨131,(.struct #[⟨"Symbol",3,0,false, "", "",0⟩,⟨"Bits",3,1,false, "", "",8⟩,⟨"Base",3,2,false, "", "",16⟩]),3,24,some (.agg [(.int .i64 0),(.int .i64 0),(.int .i64 0)]),true,false,false,[]⟩ i (cellsV ((dtab log l).take i))∧Sep none0 h2.next [] v9∧(∀ b,vblk v7=some b→vblk v9≠some b) ∧
  cels log nx ((sprd log l).drop i)=(dtab log l).drop i∧(∀ s,num0 l s≤nx s∧nx s≤2^log+i) ∧
  Has tm [(10,.int .i64 i),(5,v12),(1,.ptr h.next 0),(7,v7),(9,v9)]) (2^log)
  ⟨0,num0 l,.nilslice,by omega,by omega,w.more (by omega),ow,Ow.nil _ _,fun b hb=>(by cases hb),fun b _ hb=>(by cases hb),rfl,fun s=>⟨Nat.le_refl _,by have:=num0_le g s; omega⟩,hs2.sub (by kernel_rfl)⟩ ?_
 clear hs hs' hs2 w ow hld slk tw lww hi1
 rintro k tm h' ⟨i,nx,v9,hi1,rfl,w,ow,ow9,sp9,hne,hce,hnx,hs⟩
 have tw:=w.top
 have lww:=w.low
 have hldl:ald ctx 3 h' (.ptr h.next (0+0))=some (.int .i64 log):=ald_one ty3 rfl ((w.ex0.get _ l0).trans g0) rfl
 have ssk:=s12.ext w.ex0
 refine wpC.at hs vl88_1 rfl rfl ⟨_,ssk.len ty23 rfl,fun c1=>?_,fun c1=>hs.on fun tm' hs'=>?_⟩
 rotate_left
 ·have hil:i=2^log:=by omega
  subst hil
  rw [List.take_of_length_le (by omega)] at ow9
  refine thenC.left (wpS.at hs' vr88_2 rfl rfl (hs'.on fun tm2 hs2=>hs2.slt fun tm3 hs3=>endW.r2 (hs3.get rfl) (hs3.get rfl) ?_))
  exact hq h' v9 ((x02.trans w.ex0).mono (by omega)) ow9.sl fun b hb=>by
   have:=x02.le
   rcases (sp9 b hb).1 with q | q
   ·exact q.elim
   ·omega
 have hil:i<(sprd log l).length:=by rw [sprd_len]; omega
 have hsi:(sprd log l)[i]? = some (sprd log l)[i]:=List.getElem?_eq_getElem hil
 have hocc:=sprd_occ g hsi
 obtain ⟨pb,po,a1,a2⟩:=ssk.at1 (i:=i) (u:=.int .i64 (sprd log l)[i]) (show i<2^log by omega) ty23 rfl ty3 rfl rfl (by rw [List.getElem?_map,hsi]; rfl)
 have hcd:=hce
 rw [List.drop_eq_getElem_cons hil] at hcd
 unfold cels at hcd
 have hid:i<(dtab log l).length:=by omega
 rw [List.drop_eq_getElem_cons hid] at hcd
 obtain ⟨hc1,hc2⟩:=List.cons.inj hcd
 have htk:(dtab log l).take (i+1)=(dtab log l).take i++[cel log (sprd log l)[i] (nx (sprd log l)[i])]:=by
  rw [List.take_add_one,List.getElem?_eq_getElem hid,← hc1]; rfl
 clear hcd hce hc1 hsi
 generalize (sprd log l)[i]=sy at hocc a2 hc2 htk
 have hx1:=num0_occ hocc
 have hxs:=hnx sy
 obtain ⟨s,rfl,pr,hpr,_⟩:=hocc
 have hsl:s<l.length:=(List.getElem?_eq_some_iff.1 hpr).1
 obtain ⟨b1,b2,b3,b4,b5⟩:=cel_facts (log:=log) (x:=nx (s:Int)) (by omega) (by rw [Nat.pow_succ]; omega)
 have e:w64 ((i:Int)+1)=((i+1:Nat):Int):=by rw [w64_id (by omega) (by omega)]; rfl
 have hnb:=nbits_mono1 (x:=nx (s:Int)) (by omega)
 have e2p:2^(log+1)=2*2^log:=Nat.pow_succ'
 obtain ⟨pn,on,n1,n2⟩:=ow.sl.at1 (c:=ctx) (i:=s) (u:=.int .i64 (nx (s:Int):Nat)) (by rw [nxL_len]; exact hsl) ty23 rfl ty3 rfl rfl (by rw [List.getElem?_map,nxL_at hsl]; rfl)
 have hn1:h'.next≤T.top:=by omega
 have hl1:h'.low≤T.top:=by omega
 refine ⟨pb,po,a1,_,a2,⟨hn1,hl1⟩,?_⟩
 rw [fa_dist0]
 refine ⟨_,hldl,pn,on,n1,_,n2,rHigh_ok (by omega) ⟨_,rfl,(low_id hn1 hl1).1,nilDr hn1 hl1 ⟨⟨hn1,hl1⟩,pn,on,n1,_,n2,?_⟩⟩⟩
 have eb:w64 ((log:Int)-((nbits (nx (s:Int)):Nat)-1:Int))=((cbits log (nx (s:Int)):Nat):Int):=by
  rw [w64_id (by omega) (by omega)]
  unfold cbits
  omega
 rw [eb]
 refine ⟨((nx (s:Int)*2^cbits log (nx (s:Int)):Nat):Int),by rw [wrapN_u64 (by omega)]; exact shlN_i64 (by omega) (by omega),?_⟩
 rw [fa_dist0]
 refine ⟨_,hldl,((1*2^log:Nat):Int),by rw [wrapN_u64 (by omega)]; exact shlN_i64 (a:=1) (by omega) (by omega),?_⟩
 have eba:w64 (((nx (s:Int)*2^cbits log (nx (s:Int)):Nat):Int)-((1*2^log:Nat):Int))=((cbase log (nx (s:Int)):Nat):Int):=by
  rw [w64_id (by omega) (by omega)]
  unfold cbase
  omega
 rw [eba]
 obtain ⟨v22,h23,e22,sl23,x23,_⟩:=buildSlice1 (c:=ctx) (h:=h') (u:=.agg (cellV (cel log (s:Int) (nx (s:Int))))) (ys:=cellV (cel log (s:Int) (nx (s:Int)))) ty123 rfl ty131 rfl rfl rfl rfl (Nat.le_of_ble_eq_true rfl) rfl (by omega)
 have t23:=x23.top
 obtain ⟨v24,h25,e24,A⟩:=Ow.append (c:=ctx) (m:=1) (ow9.ext x23) sl23 (by decide) ty123 rfl ty131 rfl rfl (by show (i+1)*3≤_; omega) (by show (i+1)*24≤_; omega) (by omega)
 have hcv:cellsV ((dtab log l).take (i+1))=cellsV ((dtab log l).take i)++cellV (cel log (s:Int) (nx (s:Int))):=by
  rw [htk,cellsV_app]
  rfl
 obtain ⟨w25,ow25,sp25⟩:=(w.ext x23).grow (k:=i+1) (xs:=cellsV ((dtab log l).take (i+1))) sp9 (by rw [hcv]; exact A)
 obtain ⟨_,A2,A3,A4,A5,_⟩:=A
 have t25:=w25.top
 have owN:=(ow.ext x23).keep (h':=h25) A2 fun b hb=>A4 b ((ow.ext x23).blk hb) (hne b hb)
 obtain ⟨b7,h31,hb7,i7,e31,ow31,n31,x31⟩:=owN.set (cx:=ctx) (j:=s) (u:=.int .i64 (nx (s:Int)+1:Nat)) (by rw [nxL_len]; exact hsl) ty23 rfl ty3 rfl rfl rfl (by omega)
 obtain ⟨pn2,on2,m1,m2⟩:=owN.sl.at1 (c:=ctx) (i:=s) (u:=.int .i64 (nx (s:Int):Nat)) (by rw [nxL_len]; exact hsl) ty23 rfl ty3 rfl rfl (by rw [List.getElem?_map,nxL_at hsl]; rfl)
 have exx:w64 (((nx (s:Int):Nat):Int)+1)=((nx (s:Int)+1:Nat):Int):=by rw [w64_id (by omega) (by omega)]; rfl
 have w31:Vw none0 h2 h31 (2*l.length+2*i+1+1+0) []:=w25.apart x31 (fun b hb=>(sp b hb).1) (fun q hq=>(by cases hq))
 rw [← ints_set,nxL_set hsl] at ow31
 have ow931:=ow25.keep (h':=h31) (by omega) fun b hb=>x31.get _ (ow25.blk hb) fun q=>by
  rw [A5] at hb
  cases hb
  have:=(ow.ext x23).blk q
  omega
 refine ⟨v22,h23,e22,trivial,v24,h25,e24,pn2,on2,m1,_,m2,b7,s,i7,h31,by rw [exx]; exact e31,hs.on fun tm' hs'=>⟨rfl,rfl,2^log-(i+1),by omega,i+1,fun j=>if j=(s:Int) then nx (s:Int)+1 else nx j,v24,by omega,rfl,w31.more (by omega),?_,ow931,sp25,fun b hb q=>?_,hc2,fun j=>?_,?_⟩⟩
 ·rw [nxL_len] at ow31 ⊢
  exact ow31
 ·rw [A5] at q
  cases q
  have:=(ow.ext x23).blk hb
  omega
 ·have:=hnx j
  show num0 l j≤(if j=(s:Int) then nx (s:Int)+1 else nx j)∧(if j=(s:Int) then nx (s:Int)+1 else nx j)≤_
  by_cases c:j=(s:Int)
  ·subst c
   rw [if_pos rfl]; omega
  ·rw [if_neg c]; omega
 ·rw [← e]; exact hs'.sub (by kernel_rfl)
end Go.Proofs.YtnpeieeomokomaaGreat
