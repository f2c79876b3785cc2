/- TA. No condition. -/
import Derived.Test.YtnpeieeomokomaaGreatZCE
import Derived.Test.YtnpeieeomokomaaGreatZW
import Derived.Test.YtnpeieeomokomaaGreatZZ
namespace Go.Proofs.YtnpeieeomokomaaGreat
open Go.Sim
noncomputable abbrev P:=Tryz.prog
theorem ble (a b:Nat) (h:Nat.ble a b=true):a≤b:=Nat.le_of_ble_eq_true h
theorem low_id {h:H} (hn:h.next≤T.top) (hl:h.low≤T.top):(h.next≤(topH h).low∧(topH h).next≤T.top)∧lowM h (topH h)=h:=by
 refine ⟨⟨hn,hn⟩,?_⟩
 show (⟨h.tbl,h.next,cond (Nat.ble h.low T.top) h.low T.top⟩:H)=h
 rw [Nat.ble_eq_true_of_le hl,cond_true]
theorem byteAt_get:∀ (l:List UInt8) (i:Nat),byteAt l i=l[i]?
 | [],_=>rfl
 | _ :: _,0=>rfl
 | _ :: l,i+1=>by rw [byteAt,byteAt_get l i]; rfl
theorem index_str {k:IntKind} {l:List UInt8} {i:Nat} {b:UInt8} (h:l[i]? = some b):aindex ctx 9 (.str l) (.int k (i:Int))=some (.int .u8 ((b.toNat:Nat):Int)):=by
 unfold aindex
 have e1:asNatI (i:Int)=some i:=rfl
 simp only [e1,ty9,byteAt_get,h]
 rfl
theorem lenB_eq:∀ (l:List UInt8) (n:Nat),lenB l n=n+l.length
 | [],n=>by simp [lenB]
 | _ :: l,n=>by rw [lenB,lenB_eq l]; simp; omega
theorem slice_str {s:List UInt8} {x y:Nat} {h:H} (h1:x≤y) (h2:y≤s.length) :
  aslice ctx 9 h (.str s) (some (.int .i64 x)) (some (.int .i64 y)) none=some (.str (sliceS s x y)):=by
 unfold aslice
 have e1:asNatI (x:Int)=some x:=rfl
 have e2:asNatI (y:Int)=some y:=rfl
 have e3:lenB s 0=s.length:=by rw [lenB_eq]; omega
 simp only [ty9,Go.Sim.bnd,e1,e2,e3]
 rw [Nat.ble_eq_true_of_le h2,cond_true]
 simp only
 rw [Nat.ble_eq_true_of_le h1,cond_true]
theorem zt:200000<T.top:=by decide
end Go.Proofs.YtnpeieeomokomaaGreat
namespace Go.Proofs.YtnpeieeomokomaaGreat
open Go.Sim
set_option maxRecDepth 100000 in
theorem high_ok {n:Int} {h:H} {Q:V→H→Prop} (hn:n<9223372036854775808) (hq:Q (.int .i64 (hi n)) h):RF P ctx 216 [.int .i64 n] h Q:=by
 refine RF.enterS ctx_ok fn216 (ble _ _ rfl) (ble _ _ rfl) vb216 (Has.nil.on fun tm hs=>?_)
 refine wpC.round (fun k tm h'=>∃ i:Nat,i≤63∧k=63-i∧h'=h∧Has tm [(5,.int .i64 i),(0,.int .i64 n),(3,.int .i64 (hiU n i))]) 63 ⟨0,by omega,rfl,rfl,by rw [show hiU n 0 = -1 by unfold hiU; rw [if_neg (by omega)]]; exact hs.sub rfl⟩ ?_
 rintro k tm h' ⟨i,h1,rfl,rfl,hs⟩
 refine wpC.at hs vl216_0 rfl rfl ⟨fun c=>⟨_,shrI_i64 (by omega),fun c2=>hs.on fun tm' hs'=>?_,fun c2=>hs.on fun tm' hs'=>?_⟩,fun c=>hs.on fun tm' hs'=>?_⟩
 ·have c3:=(div_pos_iff (pow_pos2 i)).1 c2
  have e:w64 ((i:Int)+1)=((i+1:Nat):Int):=by rw [w64_id (by omega) (by omega)]; rfl
  refine ⟨rfl,rfl,63-(i+1),by omega,i+1,by omega,rfl,rfl,?_⟩
  rw [hiU_step,if_pos c3,← e]
  exact hs'.sub rfl
 ·have c3:¬ ((2^i:Nat):Int)≤n:=fun g=>c2 ((div_pos_iff (pow_pos2 i)).2 g)
  have e:w64 ((i:Int)+1)=((i+1:Nat):Int):=by rw [w64_id (by omega) (by omega)]; rfl
  refine ⟨rfl,rfl,63-(i+1),by omega,i+1,by omega,rfl,rfl,?_⟩
  rw [hiU_step,if_neg c3,← e]
  exact hs'.sub rfl
 ·have hi63:i=63:=by omega
  subst hi63
  rw [hiU_63 hn] at hs'
  refine thenC.left (wpS.at hs' vr216_1 rfl rfl (hs'.on fun tm2 hs2=>?_))
  exact endW.r1 (hs2.get rfl) hq
theorem bits_ok {n:Int} {h:H} {Q:V→H→Prop} (hn:n<9223372036854775808) (hq:Q (.int .i64 (hi n+1)) h):RF P ctx 145 [.int .i64 n] h Q:=by
 have h1 : -1≤hi n∧hi n<63:=by
  unfold hi
  split
  ·rename_i h0
   have:n.toNat.log2<63:=(Nat.log2_lt (by omega)).2 (by omega)
   omega
  ·omega
 refine RF.enterS ctx_ok fn145 (ble _ _ rfl) (ble _ _ rfl) vb145 (high_ok hn ⟨_,rfl,?_⟩)
 rwa [w64_id (by omega) (by omega)]
theorem when_ok {b:Bool} {e:Int} {h:H} {Q:V→H→Prop} (hq:Q (.int .i64 (if b=true then e else 0)) h):RF P ctx 250 [.bool b,.int .i64 e] h Q:=by
 refine RF.enterS ctx_ok fn250 (ble _ _ rfl) (ble _ _ rfl) vb250 ?_
 cases b
 ·exact hq
 ·exact hq
def fst0:List Int→Int
 | []=>0
 | x :: l=>if x≠0 then x else fst0 l
theorem fst0_drop {l:List Int} {i:Nat} (h:fst0 (l.take i)=0):fst0 l=fst0 (l.drop i):=by
 induction l generalizing i with
 | nil=>simp
 | cons x l ih =>
  cases i with
  | zero=>rfl
  | succ i =>
   simp only [List.take_succ_cons,fst0] at h
   split at h
   ·rename_i hx; exact absurd h hx
   ·rename_i hx
    show (if x≠0 then x else fst0 l)=fst0 (l.drop i)
    rw [if_neg hx]; exact ih h
set_option maxRecDepth 100000 in
theorem first_ok {v:V} {l:List Int} {h:H} {Q:V→H→Prop} (sl:Sl h v 1 l.length (l.map fun n=>V.int .i64 n)) (hl:l.length<4611686018427387904) (hq:Q (.int .i64 (fst0 l)) h):RF P ctx 248 [v] h Q:=by
 refine RF.enterS ctx_ok fn248 (ble _ _ rfl) (ble _ _ rfl) vb248 ⟨_,sl.len ty343 rfl,Has.nil.on fun tm hs=>?_⟩
 refine wpC.round (fun k tm h'=>∃ i:Nat,i≤l.length∧k=l.length-i∧h'=h∧fst0 (l.take i)=0∧Has tm [(8,.int .i64 i),(7,.int .i64 l.length),(6,v),(3,.int .i64 0)]) l.length ⟨0,by omega,by omega,rfl,by simp [fst0],hs.sub rfl⟩ ?_
 rintro k tm h' ⟨i,h1,rfl,rfl,h2,hs⟩
 refine wpC.at hs vl248_0 rfl rfl ⟨fun c=>?_,fun c=>hs.on fun tm' hs'=>?_⟩
 ·have hi:i<l.length:=by omega
  have hg:l[i]? = some l[i]:=List.getElem?_eq_getElem hi
  obtain ⟨b,o,e1,e2⟩:=sl.at1 (u:=.int .i64 l[i]) hi ty343 rfl ty24 rfl rfl (by rw [List.getElem?_map,hg]; rfl)
  have ed:fst0 l=if l[i]≠0 then l[i] else fst0 (l.drop (i+1)):=by
   rw [fst0_drop h2,List.drop_eq_getElem_cons hi]
   rfl
  refine ⟨b,o,e1,l[i],e2,fun c2=>hs.on fun tm' hs'=>?_,fun c2=>hs.on fun tm' hs'=>?_⟩
  ·rw [ed,if_pos c2] at hq
   refine thenC.left (wpS.at hs' vr248_1 rfl rfl (hs'.on fun tm2 hs2=>?_))
   exact endW.r1 (hs2.get rfl) hq
  ·have e:w64 ((i:Int)+1)=((i+1:Nat):Int):=by rw [w64_id (by omega) (by omega)]; rfl
   refine ⟨rfl,rfl,l.length-(i+1),by omega,i+1,by omega,rfl,rfl,?_,?_⟩
   ·rw [List.take_add_one,hg]
    clear ed hq hs sl
    generalize l.take i=z at h2 ⊢
    induction z with
    | nil=>simp only [List.nil_append,Option.toList_some,fst0]; rw [if_neg c2]
    | cons x z ih =>
     simp only [List.cons_append,fst0] at h2 ⊢
     split at h2
     ·rename_i hx; exact absurd h2 hx
     ·rename_i hx; rw [if_neg hx]; exact ih h2
   ·rw [← e]; exact hs'.sub rfl
 ·have hi:i=l.length:=by omega
  subst hi
  rw [List.take_length] at h2
  rw [h2] at hq
  refine thenC.left (wpS.at hs' vr248_1 rfl rfl (hs'.on fun tm2 hs2=>?_))
  exact endW.r1 (hs2.get rfl) hq
theorem shape_ok {left:Nat} {h:H} {Q:V→H→Prop} (hl:left≤1048576) (hn:h.next≤T.top) (hw:h.low≤T.top) (hq:Q (.tuple [.int .i64 (nbits (left+1):Nat),.int .i64 ((2^nbits (left+1)-2-left:Nat):Int)]) h):RF P ctx 209 [.int .i64 left] h Q:=by
 have hb:nbits (left+1)≤21:=nbits_bound (by omega)
 have h2:=nbits_lt (left+1)
 have hp:2^nbits (left+1)≤2^21:=Nat.pow_le_pow_right (by decide) hb
 have e1:w64 ((left:Int)+1)=((left+1:Nat):Int):=by rw [w64_id (by omega) (by omega)]; rfl
 refine RF.enterS ctx_ok fn209 (ble _ _ rfl) (ble _ _ rfl) vb209 ?_
 rw [e1]
 refine bits_ok (by omega) ⟨_,rfl,⟨hn,hw⟩,((1*2^nbits (left+1):Nat):Int),?_,?_⟩
 ·rw [hi_nbits]; exact shlN_i64 (a:=1) (by omega) (by omega)
 ·rw [hi_nbits]
  have e2:w64 (w64 (((1*2^nbits (left+1):Nat):Int)-1)-((left+1:Nat):Int))=((2^nbits (left+1)-2-left:Nat):Int):=by
   rw [w64_id (n:=((1*2^nbits (left+1):Nat):Int)-1) (by omega) (by omega),w64_id (by omega) (by omega)]
   omega
  rw [e2]
  exact hq
end Go.Proofs.YtnpeieeomokomaaGreat
namespace Go.Proofs.YtnpeieeomokomaaGreat
open Go.Sim
def bsize (s:List UInt8):Int:=match s.getLast? with
 | none=>-1
 | some b=>if b.toNat=0 then -1 else ((8*(s.length-1)+nbits b.toNat-1:Nat):Int)
theorem bsize_lt (s:List UInt8):bsize s<8*s.length:=by
 unfold bsize
 cases h:s.getLast? with
 | none=>simp only; omega
 | some b =>
  simp only
  have hl:s≠[]:=fun g=>by rw [g] at h; cases h
  have:0<s.length:=List.length_pos_iff.2 hl
  have hb:nbits b.toNat≤8:=nbits_bound (by have:=b.toNat_lt; omega)
  split <;> omega
set_option maxRecDepth 100000 in
theorem long_ok {s:List UInt8} {h:H} {Q:V→H→Prop} (hq:Q (.bool (decide (1048576<s.length))) h):RF P ctx 305 [.agg [.str s]] h Q:=by
 refine RF.plain ?_ (plainL_out rfl)
 refine RF.enterS ctx_ok fn305 (ble _ _ rfl) (ble _ _ rfl) vb305 ⟨by decide,?_⟩
 rintro p h1 rfl e1
 obtain ⟨n1,x1,g1⟩:=made_new e1 (by decide)
 refine ⟨s,ald_one ty9 rfl g1 rfl,fun c=>⟨plain_bool _,?_⟩,fun c=>⟨plain_bool _,?_⟩⟩
 ·have c':(1048576:Int)<(s.length:Int):=c
  rwa [decide_eq_true (by omega)] at hq
 ·have c':¬ (1048576:Int)<(s.length:Int):=c
  rwa [decide_eq_false (by omega)] at hq
set_option maxRecDepth 100000 in
theorem len8_ok {b:Nat} {h:H} {Q:V→H→Prop} (hb:b<256) (hq:Q (.int .i64 (nbits b:Nat)) h):RF P ctx 322 [.int .u8 b] h Q:=by
 refine RF.enterS ctx_ok fn322 (ble _ _ rfl) (ble _ _ rfl) vb322 ⟨(nbits b:Nat),?_,?_⟩
 ·have hn:nbits b≤8:=nbits_bound (by omega)
  have e:(UInt8.ofNat (nbits b)).toNat=nbits b:=by rw [UInt8.toNat_ofNat']; omega
  rw [← e]
  refine index_str ?_
  clear hq e hn Q h
  revert b
  decide +kernel
 ·have hn:nbits b≤8:=nbits_bound (by omega)
  rwa [w64_id (by omega) (by omega)]
set_option maxRecDepth 100000 in
theorem size_ok {s:List UInt8} {h:H} {Q:V→H→Prop} (hs:s.length≤4611686018427387) (hq:Q (.int .i64 (bsize s)) h):RF P ctx 306 [.agg [.str s]] h Q:=by
 refine RF.plain ?_ (plainL_out rfl)
 have hq:∀ h':H,Plain (.int .i64 (bsize s))∧Q (.int .i64 (bsize s)) h:=fun _=>⟨plain_int _ _,hq⟩
 refine RF.enterS ctx_ok fn306 (ble _ _ rfl) (ble _ _ rfl) vb306 ⟨by decide,?_⟩
 rintro p h1 rfl e1
 obtain ⟨n1,x1,g1⟩:=made_new e1 (by decide)
 have hz:H0.next=0:=rfl
 have nn1:h1.next≤T.top:=by have:=zt; omega
 have l1:h1.low≤T.top:=Nat.le_trans x1.low (Nat.le_refl _)
 obtain ⟨k1,k2⟩:=low_id nn1 l1
 refine ⟨s,ald_one ty9 rfl g1 rfl,fun c=>?_,fun c=>?_⟩
 ·have:=hq H0
  rwa [show bsize s = -1 by rw [c]; rfl] at this
 obtain ⟨b,hb⟩:∃ b,s.getLast? = some b:=by
  cases hg:s.getLast? with
  | none=>exact absurd (List.getLast?_eq_none_iff.1 hg) c
  | some b=>exact ⟨b,rfl⟩
 have hp:0<s.length:=List.length_pos_iff.2 c
 have hi:s[s.length-1]? = some b:=by rw [← List.getLast?_eq_getElem?]; exact hb
 have ew:w64 (Int.ofNat s.length-1)=((s.length-1:Nat):Int):=by
  show w64 ((s.length:Int)-1)=_
  rw [w64_id (by omega) (by omega)]; omega
 have hx:aindex ctx 9 (.str s) (.int .i64 (w64 (Int.ofNat s.length-1)))=some (.int .u8 ((b.toNat:Nat):Int)):=by rw [ew]; exact index_str hi
 refine ⟨s,ald_one ty9 rfl g1 rfl,s,ald_one ty9 rfl g1 rfl,_,hx,fun c2=>?_,fun c2=>Has.nil.on fun tm hs=>?_⟩
 ·have:=hq H0
  rwa [show bsize s = -1 by unfold bsize; rw [hb]; simp only; rw [if_pos (by omega)]] at this
 have hb8:=b.toNat_lt
 have hn8:nbits b.toNat≤8:=nbits_bound (by omega)
 have hn1:0<nbits b.toNat:=by
  unfold nbits
  rw [if_neg (by omega)]; omega
 have eb:bsize s=((8*(s.length-1)+nbits b.toNat-1:Nat):Int):=by unfold bsize; rw [hb]; simp only; rw [if_neg (by omega)]
 refine wpS.at hs vr306_0 rfl rfl ⟨⟨nn1,l1⟩,?_⟩
 refine ⟨s,ald_one ty9 rfl g1 rfl,s,ald_one ty9 rfl g1 rfl,s,ald_one ty9 rfl g1 rfl,_,hx,len8_ok hb8 ⟨_,rfl,k1,?_⟩⟩
 rw [k2]
 rintro h13 rfl
 refine hs.on fun tm' hs'=>endW.r1 (hs'.get rfl) ?_
 have ev:w64 (w64 (w64 (8*w64 (Int.ofNat s.length-1))+(nbits b.toNat:Nat))-1)=bsize s:=by
  rw [ew,eb,w64_id (n:=8*((s.length-1:Nat):Int)) (by omega) (by omega),w64_id (n:=8*((s.length-1:Nat):Int)+(nbits b.toNat:Nat)) (by omega) (by omega),w64_id (by omega) (by omega)]
  omega
 have:=hq H0
 rwa [← ev] at this
set_option maxRecDepth 100000 in
theorem bit_ok {s:List UInt8} {i:Nat} {h:H} {Q:V→H→Prop} (hi:i<8*s.length) (hs:s.length≤1048576) (hq:Q (.int .u64 (sbit s i:Nat)) h):RF P ctx 325 [.agg [.str s],.int .i64 i] h Q:=by
 refine RF.plain ?_ (plainL_out rfl)
 refine RF.enterS ctx_ok fn325 (ble _ _ rfl) (ble _ _ rfl) vb325 ⟨by decide,?_⟩
 rintro p h1 rfl e1
 obtain ⟨n1,x1,g1⟩:=made_new e1 (by decide)
 have hg:s[i/8]? = some s[i/8]:=List.getElem?_eq_getElem (by omega)
 have hb8:=(s[i/8]'(by omega)).toNat_lt
 generalize s[i/8]'(by omega)=b at hg hb8
 have e1:w64 (Int.tdiv (i:Int) 8)=((i/8:Nat):Int):=by
  rw [show Int.tdiv (i:Int) 8=((i/8:Nat):Int) from rfl,w64_id (by omega) (by omega)]
 have e2:Int.tmod (i:Int) 8=((i % 8:Nat):Int):=rfl
 have hd:b.toNat/2^(i % 8)≤b.toNat:=Nat.div_le_self _ _
 refine ⟨s,ald_one ty9 rfl g1 rfl,by decide,(b.toNat:Int),by rw [e1]; exact index_str hg,by decide,((b.toNat/2^(i % 8):Nat):Int),?_,((sbit s i:Nat):Int),?_,plain_int _ _,hq⟩
 ·rw [e2,wrapN_u64 (by omega),wrapN_u64 (by omega)]
  exact shrN_u64 (by omega)
 ·rw [sbit_some hg,← and_mask _ 1]
  exact andN_u64 (b:=1) (by omega) (by decide)
end Go.Proofs.YtnpeieeomokomaaGreat
namespace Go.Proofs.YtnpeieeomokomaaGreat
open Go.Sim
abbrev rdr (s:List UInt8) (p:Nat):V:=.agg [.str s,.int .i64 p]
def oRd (s:List UInt8) (p:Nat):O:=.cells (.ls [.str s,.int .i64 p]) ⟨0,112+1,0⟩ true false
set_option maxRecDepth 100000 in
theorem rightF_ok {s:List UInt8} {p:Nat} {h:H} {Q:V→H→Prop} (hs:s.length≤1048576) (hp:p≤8*s.length) (hq:Q (.int .i64 0) h):RF P ctx 212 [rdr s p] h Q:=by
 refine RF.plain ?_ (plainL_out rfl)
 refine RF.enterS ctx_ok fn212 (ble _ _ rfl) (ble _ _ rfl) vb212 ⟨by decide,?_⟩
 rintro q h1 rfl e1
 obtain ⟨n1,x1,g1⟩:=made_new e1 (by decide)
 refine ⟨s,ald_one ty9 rfl g1 rfl,fun c=>?_,fun c=>⟨p,ald_one ty3 rfl g1 rfl,fun c=>?_,fun c=>⟨p,ald_one ty3 rfl g1 rfl,s,ald_one ty9 rfl g1 rfl,fun c=>?_,fun c=>⟨plain_int _ _,hq⟩⟩⟩⟩
 ·have c':(1048576:Int)<(s.length:Int):=c
  omega
 ·omega
 ·have c':w64 (8*(s.length:Int))<(p:Int):=c
  rw [w64_id (by omega) (by omega)] at c'
  omega
set_option maxRecDepth 100000 in
theorem nextF_ok {s:List UInt8} {p:Nat} {h:H} {Q:V→H→Prop} (hs:s.length≤1048576) (hp:p≤8*s.length) (hq:Q (.tuple [.int .i64 ((p+7)/8:Nat),.int .i64 0]) h):RF P ctx 139 [rdr s p] h Q:=by
 refine RF.plain ?_ (plainL_out rfl)
 refine RF.enterS ctx_ok fn139 (ble _ _ rfl) (ble _ _ rfl) vb139 ⟨by decide,?_⟩
 rintro q h1 rfl e1
 obtain ⟨n1,x1,g1⟩:=made_new e1 (by decide)
 refine ⟨s,p,ald_agg ty112 rfl g1 rfl,rightF_ok hs hp ⟨0,rfl,fun c=>absurd rfl c,fun _=>⟨p,ald_one ty3 rfl g1 rfl,by decide,plainB_out rfl,?_⟩⟩⟩
 have e:w64 (Int.tdiv (w64 ((p:Int)+7)) 8)=(((p+7)/8:Nat):Int):=by
  rw [w64_id (n:=(p:Int)+7) (by omega) (by omega),show (p:Int)+7=((p+7:Nat):Int) from rfl,show Int.tdiv ((p+7:Nat):Int) 8=(((p+7)/8:Nat):Int) from rfl,w64_id (by omega) (by omega)]
 rw [e]
 exact hq
set_option maxRecDepth 100000 in
theorem askedF_ok {s:List UInt8} {p n:Nat} {h:H} {Q:V→H→Prop} (hs:s.length≤1048576) (hp:p≤8*s.length) (hn:n≤32) (hq:Q (.int .i64 0) h):RF P ctx 303 [rdr s p,.int .i64 n] h Q:=by
 refine RF.plain ?_ (plainL_out rfl)
 refine RF.enterS ctx_ok fn303 (ble _ _ rfl) (ble _ _ rfl) vb303 ⟨by decide,?_⟩
 rintro q h1 rfl e1
 obtain ⟨n1,x1,g1⟩:=made_new e1 (by decide)
 exact ⟨s,p,ald_agg ty112 rfl g1 rfl,rightF_ok hs hp ⟨0,rfl,fun _=>⟨fun c=>by omega,fun _=>⟨fun c=>by omega,fun _=>⟨plain_int _ _,hq⟩⟩⟩,fun c=>absurd rfl c⟩⟩
set_option maxRecDepth 100000 in
theorem peekF_ok {s:List UInt8} {p n:Nat} {h:H} {Q:V→H→Prop} (hs:s.length≤1048576) (hp:p≤8*s.length) (hn:n≤32) (hq:Q (.int .i64 (fnum s p n:Nat)) h):RF P ctx 304 [rdr s p,.int .i64 n] h Q:=by
 refine RF.plain ?_ (plainL_out rfl)
 refine RF.enterS ctx_ok fn304 (ble _ _ rfl) (ble _ _ rfl) vb304 ⟨by decide,?_⟩
 rintro q h1 rfl e1
 obtain ⟨n1,x1,g1⟩:=made_new e1 (by decide)
 refine Has.nil.on fun tm hs0=>?_
 refine wpC.round (fun k tm h'=>∃ i:Nat,i≤n∧k=n-i∧h'=h1∧Has tm [(9,.int .i64 i),(8,.int .i64 n),(2,.ptr H0.next 0),(5,.int .i64 (fnum s p i:Nat))]) n ⟨0,by omega,rfl,rfl,hs0.sub rfl⟩ ?_
 rintro k tm h' ⟨i,hi,rfl,rfl,hs1⟩
 have hf:=fnum_lt s p i
 have hp32:2^i≤2^32:=Nat.pow_le_pow_right (by decide) (by omega)
 have e:w64 ((i:Int)+1)=((i+1:Nat):Int):=by rw [w64_id (by omega) (by omega)]; rfl
 have e8:w64 ((p:Int)+(i:Int))=((p+i:Nat):Int):=by rw [w64_id (by omega) (by omega)]; rfl
 have el:w64 (8*Int.ofNat s.length)=((8*s.length:Nat):Int):=by
  show w64 (8*(s.length:Int))=_
  rw [w64_id (by omega) (by omega)]; omega
 refine wpC.at hs1 vl304_0 rfl rfl ⟨fun c=>?_,fun c=>hs1.on fun tm' hs'=>?_⟩
 rotate_left
 ·have hin:i=n:=by omega
  subst hin
  refine thenC.left (wpS.at hs' vr304_1 rfl rfl (hs'.on fun tm2 hs2=>?_))
  exact endW.r1 (hs2.get rfl) ⟨plain_int _ _,hq⟩
 show ∃ x2,ald ctx 3 h' (.ptr H0.next (0+1))=some (.int .i64 x2)∧_
 refine ⟨p,ald_one ty3 rfl g1 rfl,?_⟩
 show ∃ l5,ald ctx 9 h' (.ptr H0.next (0+0))=some (.str l5)∧_
 refine ⟨s,ald_one ty9 rfl g1 rfl,fun c2=>?_,fun c2=>hs1.on fun tm' hs'=>?_⟩
 ·rw [e8,el] at c2
  have hlt:p+i<8*s.length:=by omega
  have hg:s[(p+i)/8]? = some s[(p+i)/8]:=List.getElem?_eq_getElem (by omega)
  have hb8:=(s[(p+i)/8]'(by omega)).toNat_lt
  generalize s[(p+i)/8]'(by omega)=b at hg hb8
  have hd:b.toNat/2^((p+i) % 8)≤b.toNat:=Nat.div_le_self _ _
  have hsb:=sbit_some hg
  have hs1':=sbit_lt s (p+i)
  have e1:w64 (Int.tdiv (w64 ((p:Int)+(i:Int))) 8)=(((p+i)/8:Nat):Int):=by
   rw [e8,show Int.tdiv ((p+i:Nat):Int) 8=(((p+i)/8:Nat):Int) from rfl,w64_id (by omega) (by omega)]
  have e2:Int.tmod (w64 ((p:Int)+(i:Int))) 8=(((p+i) % 8:Nat):Int):=by rw [e8]; rfl
  have hm:sbit s (p+i)*2^i≤1*2^i:=Nat.mul_le_mul_right _ (by omega)
  show ∃ l8,ald ctx 9 h' (.ptr H0.next (0+0))=some (.str l8)∧_
  refine ⟨s,ald_one ty9 rfl g1 rfl,by decide,(b.toNat:Int),by rw [e1]; exact index_str hg,by decide,((b.toNat/2^((p+i) % 8):Nat):Int),?_,((sbit s (p+i):Nat):Int),?_,((sbit s (p+i)*2^i:Nat):Int),?_,((fnum s p (i+1):Nat):Int),?_,hs1.on fun tm' hs'=>?_⟩
  ·rw [e2,wrapN_u64 (by omega)]
   exact shrN_u8 (by omega)
  ·rw [hsb,← and_mask _ 1]
   exact andN_u8 (b:=1) (by omega) (by decide)
  ·rw [w64_id (by omega) (by omega),wrapN_u64 (by omega)]
   exact shlN_i64 (by omega) (by omega)
  ·rw [orN_i64 (by omega) (by omega),or_add hf]
   rfl
  ·refine ⟨rfl,rfl,n-(i+1),by omega,i+1,by omega,rfl,rfl,?_⟩
   rw [← e]; exact hs'.sub rfl
 ·rw [e8,el] at c2
  have hz:fnum s p (i+1)=fnum s p i:=by
   show fnum s p i+sbit s (p+i)*2^i=_
   rw [sbit_none (by omega)]; omega
  refine ⟨rfl,rfl,n-(i+1),by omega,i+1,by omega,rfl,rfl,?_⟩
  rw [hz,← e]; exact hs'.sub rfl
def tkF (s:List UInt8) (p n:Nat):V:=if p+n≤8*s.length then .tuple [rdr s (p+n),.int .i64 (fnum s p n:Nat),.int .i64 0] else .tuple [rdr [] 0,.int .i64 0,.int .i64 5]
theorem plain_tkF (s:List UInt8) (p n:Nat):Plain (tkF s p n):=by
 unfold tkF
 split <;> exact plainB_out rfl
set_option maxRecDepth 100000 in
theorem takeF_ok {s:List UInt8} {p n:Nat} {h:H} {Q:V→H→Prop} (hs:s.length≤1048576) (hp:p≤8*s.length) (hn:n≤32) (hq:Q (tkF s p n) h):RF P ctx 272 [rdr s p,.int .i64 n] h Q:=by
 refine RF.plain ?_ (plainL_out rfl)
 have hq:∀ h':H,Plain (tkF s p n)∧Q (tkF s p n) h:=fun _=>⟨plain_tkF _ _ _,hq⟩
 have hz:H0.next=0:=rfl
 have ht:=zt
 refine RF.enterS ctx_ok fn272 (ble _ _ rfl) (ble _ _ rfl) vb272 ⟨by decide,?_⟩
 rintro q0 h1 rfl e1
 obtain ⟨n1,x1,g1⟩:=made_new e1 (by decide)
 refine ⟨by omega,?_⟩
 rintro q2 h3 rfl e3
 obtain ⟨n3,x3,g3⟩:=made_new e3 (by omega)
 have g1':h3.get H0.next=some (.cells (.ls [.str s,.int .i64 p]) ⟨0,112+1,0⟩ true false):=by rw [x3.get _ (by omega)]; exact g1
 have el:w64 (w64 (8*Int.ofNat s.length)-(p:Int))=((8*s.length-p:Nat):Int):=by
  show w64 (w64 (8*(s.length:Int))-(p:Int))=_
  rw [w64_id (n:=8*(s.length:Int)) (by omega) (by omega),w64_id (by omega) (by omega)]; omega
 refine ⟨s,p,ald_agg ty112 rfl g1' rfl,askedF_ok hs hp hn ⟨0,rfl,fun _=>⟨s,ald_one ty9 rfl g1' rfl,p,ald_one ty3 rfl g1' rfl,fun c=>Has.nil.on fun tm hs0=>?_,fun c=>Has.nil.on fun tm hs0=>?_⟩,fun c=>absurd rfl c⟩⟩
 ·rw [el] at c
  have hlt:¬ p+n≤8*s.length:=by omega
  unfold tkF at hq
  rw [if_neg hlt] at hq
  refine wpS.at hs0 vr272_0 rfl rfl ⟨fun _=>⟨_,ast_at ty112 g3 rfl (Nat.zero_le _) rfl rfl,hs0.on fun tm' hs'=>?_⟩,fun g=>absurd g (by decide)⟩
  refine endW.ok (leave.cell (hs'.get rfl) (ald_agg ty112 rfl (get_upd_self _ (by omega)) rfl) (leave.tmp (hs'.get rfl) (leave.tmp (hs'.get rfl) rfl))) (hq H0)
 ·rw [el] at c
  have hle:p+n≤8*s.length:=by omega
  unfold tkF at hq
  rw [if_pos hle] at hq
  refine wpS.at hs0 vr272_0 rfl rfl ⟨fun g=>absurd rfl g,fun _=>⟨s,p,ald_agg ty112 rfl g1' rfl,peekF_ok hs hp hn ⟨_,rfl,?_⟩⟩⟩
  show ∃ x8,ald ctx 3 h3 (.ptr H0.next (0+1))=some (.int .i64 x8)∧_
  refine ⟨p,ald_one ty3 rfl g1' rfl,?_⟩
  have ep:w64 ((p:Int)+(n:Int))=((p+n:Nat):Int):=by rw [w64_id (by omega) (by omega)]; rfl
  show ∃ h11,ast ctx 3 h3 (.ptr H0.next (0+1)) (.int .i64 (w64 ((p:Int)+(n:Int))))=some h11∧_
  rw [ep]
  obtain ⟨h11,e11,g11,k11,n11⟩:∃ h11,ast ctx 3 h3 (.ptr H0.next (0+1)) (.int .i64 ((p+n:Nat):Int))=some h11∧h11.get H0.next=some (.cells (.ls [.str s,.int .i64 ((p+n:Nat):Int)]) ⟨0,112+1,0⟩ true false)∧h11.get h1.next=h3.get h1.next∧h11.next=h3.next :=
   ⟨_,ast_at ty3 g1' rfl (Nat.zero_le _) rfl rfl,get_upd_self _ (by omega),get_upd_ne _ (by omega) (by omega),rfl⟩
  refine ⟨h11,e11,s,((p+n:Nat):Int),ald_agg ty112 rfl g11 rfl,_,ast_at ty112 (k11.trans g3) rfl (Nat.zero_le _) rfl rfl,hs0.on fun tm' hs'=>?_⟩
  exact endW.ok (leave.cell (hs'.get rfl) (ald_agg ty112 rfl (get_upd_self _ (by omega)) rfl) (leave.tmp (hs'.get rfl) (leave.tmp (hs'.get rfl) rfl))) (hq H0)
end Go.Proofs.YtnpeieeomokomaaGreat
namespace Go.Proofs.YtnpeieeomokomaaGreat
open Go.Sim
def shB (left:Nat):Nat:=nbits (left+1)
def shT (left:Nat):Nat:=2^shB left-2-left
theorem shB_pos (left:Nat):0<shB left:=by unfold shB nbits; rw [if_neg (by omega)]; omega
theorem sh_facts (left:Nat):2^(shB left-1)≤left+1∧left+1<2^shB left∧2^shB left=2*2^(shB left-1):=by
 have h1:=shB_pos left
 refine ⟨nbits_le (by omega),nbits_lt _,?_⟩
 rw [← Nat.pow_succ']
 congr 1
theorem shT_le {left:Nat} (h:0<left):shT left≤left:=by
 obtain ⟨h1,h2,h3⟩:=sh_facts left
 unfold shT
 omega
def rdOne (s:List UInt8) (left p:Nat):Option (Nat×Nat) :=
 if 8*s.length<p+(shB left-1) then none
 else if fnum s p (shB left-1)<shT left then some (fnum s p (shB left-1),p+(shB left-1))
 else if 8*s.length<p+shB left then none
 else some (if 2^(shB left-1)≤fnum s p (shB left) then fnum s p (shB left)-shT left else fnum s p (shB left),p+shB left)
theorem fnum_last (s:List UInt8) (p:Nat) {n:Nat} (h:0<n):fnum s p n=fnum s p (n-1)+sbit s (p+(n-1))*2^(n-1):=by
 obtain ⟨m,rfl⟩:∃ m,n=m+1:=⟨n-1,by omega⟩
 rfl
theorem rdOne_le {s:List UInt8} {left p v q:Nat} (hl:0<left) (h:rdOne s left p=some (v,q)):v≤left+1∧q≤8*s.length:=by
 obtain ⟨h1,h2,h3⟩:=sh_facts left
 have h4:=shT_le hl
 have h5:=fnum_lt s p (shB left)
 unfold rdOne at h
 split at h
 ·cases h
 ·split at h
  ·cases h; exact ⟨by omega,by omega⟩
  ·split at h
   ·cases h
   ·cases h
    refine ⟨?_,by omega⟩
    split
    ·unfold shT; omega
    ·omega
def rdZeros (s:List UInt8) (symbols:Nat):Nat→Nat→Nat→Option (Nat×Nat)
 | 0,_,_=>none
 | f+1,p,n =>
  if 8*s.length<p+2 then none
  else if symbols<n+fnum s p 2 then none
  else if fnum s p 2=3 then rdZeros s symbols f (p+2) (n+3)
  else some (n+fnum s p 2,p+2)
def rdProbs (s:List UInt8) (symbols:Nat):Nat→Nat→Nat→List Int→Option (List Int×Nat)
 | 0,_,_,_=>none
 | f+1,left,p,l =>
  if left=0 then some (l,p)
  else match rdOne s left p with
  | none=>none
  | some (v,q) =>
   if l.length=symbols then none
   else if v=1 then
    match rdZeros s symbols (symbols+1) q (l.length+1) with
    | none=>none
    | some (n,r)=>rdProbs s symbols f left r (l++List.replicate (n-l.length) 0)
   else rdProbs s symbols f (left-max (v-1) 1) q (l++[(v:Int)-1])
end Go.Proofs.YtnpeieeomokomaaGreat
namespace Go.Proofs.YtnpeieeomokomaaGreat
open Go.Sim
abbrev brk (e:Int):V:=.iface 269 (.agg [.iface 24 (.int .i64 e)])
set_option maxRecDepth 100000 in
theorem wpOpt_brk {e:Int} {k:V→Prop} (hk:k (.agg [.iface 24 (.int .i64 e)])):wpOpt ctx 269 (abuild ctx 269 [(0,.iface 24 (.int .i64 e))]) k:=by
 have h1:abuild ctx 269 [(0,.iface 24 (.int .i64 e))]=some (.agg [.iface 24 (.int .i64 e)]):=by kernel_rfl
 have h2:boolT ctx 269=false:=by kernel_rfl
 unfold wpOpt
 rw [h1]
 simp only [h2]
 exact hk
set_option maxRecDepth 100000 in
theorem distTake_ok {s:List UInt8} {r p n:Nat} {h:H} {Q:V→H→Prop} (hg:h.get r=some (oRd s p)) (hr:r<h.next) (hnx:h.next+1≤T.top) (hs:s.length≤1048576) (hp:p≤8*s.length) (hn:n≤32)
  (hq1:p+n≤8*s.length→∀ h',ExtX (· = r) h h' 1→h'.get r=some (oRd s (p+n))→Q (.tuple [.int .i64 (fnum s p n:Nat),.nilIface]) h')
  (hq2:¬ p+n≤8*s.length→∀ h',Ext h h' 1→Q (.tuple [.int .i64 0,brk 5]) h'):RF P ctx 208 [.ptr r 0,.int .i64 n] h Q:=by
 refine RF.enterS ctx_ok fn208 (ble _ _ rfl) (ble _ _ rfl) vb208 ⟨.ptr r 0,h,rfl,s,p,ald_agg ty112 rfl hg rfl,takeF_ok hs hp hn ?_⟩
 unfold tkF
 by_cases c:p+n≤8*s.length
 ·rw [if_pos c]
  refine ⟨s,((p+n:Nat):Int),_,_,rfl,by omega,?_⟩
  rintro q h1 rfl e1
  obtain ⟨n1,x1,g1⟩:=made_new e1 (by omega)
  obtain ⟨h2,e2,g2,k2,x2,n2⟩:∃ h2,ast ctx 112 h1 (.ptr h.next 0) (.agg [.str s,.int .i64 ((p+n:Nat):Int)])=some h2∧h2.get h.next=some (oRd s (p+n))∧h2.get r=some (oRd s p)∧Ext h h2 1∧h2.next=h1.next :=
   ⟨_,ast_at ty112 g1 rfl (Nat.zero_le _) rfl rfl,get_upd_self _ (by omega),by rw [get_upd_ne _ (by omega) (by omega),x1.get _ hr]; exact hg,x1.upd _ (by omega) (Nat.le_refl _),rfl⟩
  refine ⟨h2,e2,fun g=>absurd rfl g,fun _=>⟨s,((p+n:Nat):Int),ald_agg ty112 rfl g2 rfl,.ptr r 0,h2,rfl,?_⟩⟩
  exact ⟨_,ast_at ty112 k2 rfl (Nat.zero_le _) rfl rfl,hq1 c _ ((ExtX.of x2).upd _ (by omega) (.inl rfl)) (get_upd_self _ (by omega))⟩
 ·rw [if_neg c]
  refine ⟨[],0,_,_,rfl,by omega,?_⟩
  rintro q h1 rfl e1
  obtain ⟨n1,x1,g1⟩:=made_new e1 (by omega)
  obtain ⟨h2,e2,x2⟩:∃ h2,ast ctx 112 h1 (.ptr h.next 0) (.agg [.str [],.int .i64 0])=some h2∧Ext h h2 1 :=
   ⟨_,ast_at ty112 g1 rfl (Nat.zero_le _) rfl rfl,x1.upd _ (by omega) (Nat.le_refl _)⟩
  exact ⟨h2,e2,fun _=>wpOpt_brk (hq2 c _ x2),fun g=>absurd (show (5:Int)≠0 by decide) g⟩
end Go.Proofs.YtnpeieeomokomaaGreat
