/- TD. No condition. -/
import Derived.Test.YtnpeieeomokomaaGreatZTC
import Derived.Test.YtnpeieeomokomaaGreatZTA
import Derived.Test.YtnpeieeomokomaaGreatZZ
namespace Go.Proofs.YtnpeieeomokomaaGreat
open Go.Sim
abbrev tl (s:List UInt8):V:=.agg [.str s]
def hBits (s:List UInt8):H:=(H0.new (.cells (.ls [.str []]) ⟨0,298+1,0⟩ true false)).upd H0.next (some (.cells (.ls [.str s]) ⟨0,298+1,0⟩ true false))
def tBits (s:List UInt8):Tm:=Tb.set (Tb.set (Tb.set (Tb.set (Tb.set (Tb.set (Tb.leaf undefV) 0 (.str s)) 2 (.int .i64 0)) 3 (.int .i64 0)) 6 (.str s)) 7 (.agg [.str s])) 4 (.ptr H0.next 0)
noncomputable def mBits:Nat:=(drawOk d273_0.toList).getD 0
noncomputable def rBits (s:List UInt8) (z a e:Int):Option (List Qy×St) :=
 drawG ctx d273_0.toList (befores d273_0.toList []) mBits mBits 0 d273_0.toList ⟨22,tBits s,[],hBits s⟩ [.bool false,.int .i64 0,.int .i64 z,.int .i64 a,.int .i64 e]
theorem mBits_is:drawOk d273_0.toList=some mBits:=by kernel_rfl
theorem rBits_is (s:List UInt8) (z a e:Int):(rBits s z a e).isSome=true:=by kernel_rfl
theorem rBits_qs (s:List UInt8) (z a e:Int):(rBits s z a e).map (fun x=>x.1.map fun q=>(q.1,q.2.2)) =
  some [((305,[tl s]),.bool false),((250,[.bool false,.int .i64 4]),.int .i64 0),((306,[tl s]),.int .i64 z),((250,[.bool (ltF z 0),.int .i64 22]),.int .i64 a),((248,[.slice 1 0 2 (.exact 2)]),.int .i64 e)]:=by kernel_rfl
theorem rBits_h (s:List UInt8) (z a e:Int):((rBits s z a e).bind fun x=>(x.1[4]?).map fun q=>(q.2.1.next,q.2.1.get 1))=some (2,some (.cells (.ls [.int .i64 0,.int .i64 a]) ⟨0,24+1,0⟩ true false)):=by kernel_rfl
theorem rBits_s (s:List UInt8) (z a e:Int):(rBits s z a e).map (fun x=>(x.2.n,x.2.dfr,getV x.2.tm 5,getV x.2.tm 4,x.2.heap.get 0))=some (22,[],.int .i64 e,.ptr 0 0,some (.cells (.ls [.str s]) ⟨0,298+1,0⟩ true false)):=by kernel_rfl
theorem _root_.Go.Sim.thenC.rt {K:St→Prop} {R:AX→St→Prop} {s:St} (h:R .ret s):thenC K R .ret s:=h
theorem len5 {α:Type}:∀ {l:List α},l.length=5→∃ a b c d e,l=[a,b,c,d,e]
 | [a,b,c,d,e],_=>⟨a,b,c,d,e,rfl⟩
theorem len4 {α:Type}:∀ {l:List α},l.length=4→∃ a b c d,l=[a,b,c,d]
 | [a,b,c,d],_=>⟨a,b,c,d,rfl⟩
def bitsV (s:List UInt8):V:=if bsize s<0 then .tuple [.int .i64 0,.int .i64 22] else .tuple [.int .i64 (bsize s),.int .i64 0]
theorem plain_bitsV (s:List UInt8):Plain (bitsV s):=by
 unfold bitsV
 split <;> exact plainB_out rfl
theorem _root_.Go.Sim.qs_at {r:Option (List Qy×St)} {qs:List Qy} {s:St} {l:List ((Nat×List V)×V)} (e:r=some (qs,s)) (h:r.map (fun x=>x.1.map fun q=>(q.1,q.2.2))=some l):qs.map (fun q=>(q.1,q.2.2))=l:=by
 subst e; exact Option.some.inj h
set_option maxRecDepth 100000 in
theorem backBits_ok {s:List UInt8} {h:H} {Q:V→H→Prop} (hs:s.length≤2000) (hq:Q (bitsV s) h):RF P ctx 273 [.str s] h Q:=by
 refine RF.plain ?_ (plainL_out rfl)
 have hq:∀ h':H,Plain (bitsV s)∧Q (bitsV s) h:=fun _=>⟨plain_bitsV _,hq⟩
 refine RF.enterS ctx_ok fn273 (ble _ _ rfl) (ble _ _ rfl) vb273 ⟨by decide,?_⟩
 rintro p0 h1 rfl rfl
 refine ⟨hBits s,ast_at ty298 (get_new_self _ (by decide)) rfl (Nat.zero_le _) rfl rfl,?_⟩
 obtain ⟨⟨qs,s'⟩,e⟩:=Option.isSome_iff_exists.1 (rBits_is s (bsize s) (if bsize s<0 then 22 else 0) (if bsize s<0 then 22 else 0))
 have k:=qs_at e (rBits_qs _ _ _ _)
 have eh:=rBits_h s (bsize s) (if bsize s<0 then 22 else 0) (if bsize s<0 then 22 else 0)
 have es:=rBits_s s (bsize s) (if bsize s<0 then 22 else 0) (if bsize s<0 then 22 else 0)
 rw [e] at eh es
 obtain ⟨q0,q1,q2,q3,q4,rfl⟩:∃ q0 q1 q2 q3 q4,qs=[q0,q1,q2,q3,q4]:=by
  exact len5 (by have:=congrArg List.length k; simpa using this)
 simp only [List.map_cons,List.map_nil,List.cons.injEq,Prod.mk.injEq,and_true] at k
 obtain ⟨⟨k0,v0⟩,⟨k1,v1⟩,⟨k2,v2⟩,⟨k3,v3⟩,⟨k4,v4⟩⟩:=k
 obtain ⟨⟨f0,a0⟩,⟨w0,x0⟩⟩:=q0
 obtain ⟨⟨f1,a1⟩,⟨w1,x1⟩⟩:=q1
 obtain ⟨⟨f2,a2⟩,⟨w2,x2⟩⟩:=q2
 obtain ⟨⟨f3,a3⟩,⟨w3,x3⟩⟩:=q3
 obtain ⟨⟨f4,a4⟩,⟨w4,x4⟩⟩:=q4
 simp only at k0 v0 k1 v1 k2 v2 k3 v3 k4 v4
 obtain ⟨rfl,rfl⟩:=k0
 obtain ⟨rfl,rfl⟩:=k1
 obtain ⟨rfl,rfl⟩:=k2
 obtain ⟨rfl,rfl⟩:=k3
 obtain ⟨rfl,rfl⟩:=k4
 subst v0 v1 v2 v3 v4
 refine wpDr.ans mBits_is e ?_ ?_ ?_
 ·intro q hq
  simp only [List.mem_cons,List.not_mem_nil,or_false] at hq
  rcases hq with rfl | rfl | rfl | rfl | rfl
  ·refine RF.same (long_ok ⟨?_,rfl⟩)
   rw [decide_eq_false (by omega)]
  ·exact RF.same (when_ok ⟨rfl,rfl⟩)
  ·exact RF.same (size_ok (by omega) ⟨rfl,rfl⟩)
  ·refine RF.same (when_ok ⟨?_,rfl⟩)
   rw [ltF_eq]
   by_cases c:bsize s<0
   ·rw [if_pos c,decide_eq_true c]; rfl
   ·rw [if_neg c,decide_eq_false c]; rfl
  ·simp only [List.getElem?_cons_succ,List.getElem?_cons_zero,Option.bind_some,Option.map_some,Option.some.injEq,Prod.mk.injEq] at eh
   refine RF.same (first_ok (l:=[0,if bsize s<0 then 22 else 0]) ⟨rfl,.inr ⟨1,0,_,_,_,_,_,rfl,by rw [eh.1]; decide,eh.2,?_⟩⟩ (by simp) ⟨?_,rfl⟩)
   ·intro i hi
    rcases i with _ | _ | i
    ·rfl
    ·rfl
    ·exact absurd hi (by show ¬ i+1+1<2*1; omega)
   ·simp only [fst0]
    by_cases c:bsize s<0
    ·rw [if_pos c]; rfl
    ·rw [if_neg c]; rfl
 ·intro a ha b hb hab
  simp only [List.mem_cons,List.not_mem_nil,or_false] at ha hb
  rcases ha with rfl | rfl | rfl | rfl | rfl <;> rcases hb with rfl | rfl | rfl | rfl | rfl <;> first | rfl | (simp at hab)
 ·obtain ⟨n,tm,d,hp⟩:=s'
  simp only [Option.map_some,Option.some.injEq,Prod.mk.injEq] at es
  obtain ⟨rfl,rfl,g5,g4,gh⟩:=es
  have hs0:Has tm [(5,.int .i64 (if bsize s<0 then 22 else 0)),(4,.ptr 0 0)]:=⟨g5,g4,trivial⟩
  refine wpS.at hs0 vr273_1 rfl rfl ⟨fun c=>?_,fun c=>?_⟩
  ·have c1:bsize s<0:=by
    by_cases c1:bsize s<0
    ·exact c1
    ·rw [if_neg c1] at c; exact absurd rfl c
   rw [if_pos c1] at *
   refine hs0.on fun tm' hs'=>?_
   refine thenC.rt (endW.r2 (hs'.get rfl) (hs'.get rfl) ?_)
   have:=hq hp
   unfold bitsV at this
   rw [if_pos c1] at this
   exact this
  ·have c1:¬ bsize s<0:=fun c1=>c (by rw [if_pos c1]; decide)
   refine hs0.on fun tm' hs'=>thenC.nx (wpS.at hs' vr273_2 rfl rfl ⟨s,ald_agg ty298 rfl gh rfl,size_ok (by omega) ⟨_,rfl,hs'.on fun tm2 hs2=>endW.r2 (hs2.get rfl) (hs2.get rfl) ?_⟩⟩)
   have:=hq hp
   unfold bitsV at this
   rw [if_neg c1] at this
   exact this
end Go.Proofs.YtnpeieeomokomaaGreat
namespace Go.Proofs.YtnpeieeomokomaaGreat
open Go.Sim
abbrev brd (s:List UInt8) (left:Nat):V:=.agg [.str s,.int .i64 left]
def hRight (s:List UInt8) (left:Nat):H:=((H0.new (.cells (.ls [.str s,.int .i64 left]) ⟨0,120+1,0⟩ true false)).new (.cells (.ls [.str []]) ⟨0,298+1,0⟩ true false)).upd 1 (some (.cells (.ls [.str s]) ⟨0,298+1,0⟩ true false))
def tRight (s:List UInt8) (left:Nat):Tm:=Tb.set (Tb.set (Tb.set (Tb.set (Tb.set (Tb.set (Tb.set (Tb.leaf undefV) 0 (brd s left)) 1 (.ptr 0 0)) 2 (.int .i64 0)) 4 (.ptr 0 (0+0))) 5 (.str s)) 6 (.agg [.str s])) 3 (.ptr 1 0)
noncomputable def mRight:Nat:=(drawOk d308_0.toList).getD 0
noncomputable def rRight (s:List UInt8) (left z:Nat):Option (List Qy×St) :=
 drawG ctx d308_0.toList (befores d308_0.toList []) mRight mRight 0 d308_0.toList ⟨27,tRight s left,[],hRight s left⟩ [.bool false,.int .i64 z,.int .i64 z,.int .i64 0]
theorem mRight_is:drawOk d308_0.toList=some mRight:=by kernel_rfl
theorem rRight_is (s:List UInt8) (left z:Nat):(rRight s left z).isSome=true:=by kernel_rfl
theorem rRight_qs (s:List UInt8) (left z:Nat):(rRight s left z).map (fun x=>x.1.map fun q=>(q.1,q.2.2)) =
  some [((305,[tl s]),.bool false),((306,[tl s]),.int .i64 z),((306,[tl s]),.int .i64 z),((250,[.bool (ltF (z:Nat) (left:Nat)),.int .i64 10]),.int .i64 0)]:=by kernel_rfl
theorem rRight_s (s:List UInt8) (left z:Nat):(rRight s left z).map (fun x=>(x.2.n,x.2.dfr,getV x.2.tm 2))=some (27,[],.int .i64 0):=by kernel_rfl
set_option maxRecDepth 100000 in
theorem backRight_ok {s:List UInt8} {left:Nat} {h:H} {Q:V→H→Prop} (hs:s.length≤2000) (hl:(left:Int)≤bsize s) (hq:Q (.int .i64 0) h):RF P ctx 308 [brd s left] h Q:=by
 refine RF.plain ?_ (plainL_out rfl)
 have hq:∀ h':H,Plain (.int .i64 0)∧Q (.int .i64 0) h:=fun _=>⟨plain_int _ _,hq⟩
 obtain ⟨z,hz⟩:∃ z:Nat,bsize s=z:=⟨(bsize s).toNat,by omega⟩
 refine RF.enterS ctx_ok fn308 (ble _ _ rfl) (ble _ _ rfl) vb308 ⟨by decide,?_⟩
 rintro p0 h1 rfl rfl
 refine ⟨s,ald_one ty9 rfl (get_new_self _ (by decide)) rfl,(show 1<T.top by decide),?_⟩
 rintro p3 h4 rfl rfl
 refine ⟨hRight s left,ast_at ty298 (get_new_self _ (show 1<T.top by decide)) rfl (Nat.zero_le _) rfl rfl,?_⟩
 obtain ⟨⟨qs,s'⟩,e⟩:=Option.isSome_iff_exists.1 (rRight_is s left z)
 have k:=qs_at e (rRight_qs _ _ _)
 have es:=rRight_s s left z
 rw [e] at es
 obtain ⟨q0,q1,q2,q3,rfl⟩:∃ q0 q1 q2 q3,qs=[q0,q1,q2,q3]:=len4 (by have:=congrArg List.length k; simpa using this)
 simp only [List.map_cons,List.map_nil,List.cons.injEq,Prod.mk.injEq,and_true] at k
 obtain ⟨⟨k0,v0⟩,⟨k1,v1⟩,⟨k2,v2⟩,⟨k3,v3⟩⟩:=k
 obtain ⟨⟨f0,a0⟩,⟨w0,x0⟩⟩:=q0
 obtain ⟨⟨f1,a1⟩,⟨w1,x1⟩⟩:=q1
 obtain ⟨⟨f2,a2⟩,⟨w2,x2⟩⟩:=q2
 obtain ⟨⟨f3,a3⟩,⟨w3,x3⟩⟩:=q3
 simp only at k0 v0 k1 v1 k2 v2 k3 v3
 obtain ⟨rfl,rfl⟩:=k0
 obtain ⟨rfl,rfl⟩:=k1
 obtain ⟨rfl,rfl⟩:=k2
 obtain ⟨rfl,rfl⟩:=k3
 subst v0 v1 v2 v3
 refine wpDr.ans mRight_is e ?_ ?_ ?_
 ·intro q hq
  simp only [List.mem_cons,List.not_mem_nil,or_false] at hq
  rcases hq with rfl | rfl | rfl | rfl
  ·refine RF.same (long_ok ⟨?_,rfl⟩)
   rw [decide_eq_false (by omega)]
  ·exact RF.same (size_ok (by omega) ⟨by rw [hz],rfl⟩)
  ·exact RF.same (size_ok (by omega) ⟨by rw [hz],rfl⟩)
  ·refine RF.same (when_ok ⟨?_,rfl⟩)
   rw [ltF_eq,decide_eq_false (by omega)]
   rfl
 ·intro a ha b hb hab
  simp only [List.mem_cons,List.not_mem_nil,or_false] at ha hb
  rcases ha with rfl | rfl | rfl | rfl <;> rcases hb with rfl | rfl | rfl | rfl <;> first | rfl | (simp at hab)
 ·obtain ⟨n,tm,d,hp⟩:=s'
  simp only [Option.map_some,Option.some.injEq,Prod.mk.injEq] at es
  obtain ⟨rfl,rfl,g2⟩:=es
  have hs0:Has tm [(2,.int .i64 0)]:=⟨g2,trivial⟩
  exact wpS.at hs0 vr308_1 rfl rfl (hs0.on fun tm' hs'=>endW.r1 (hs'.get rfl) (hq hp))
end Go.Proofs.YtnpeieeomokomaaGreat
namespace Go.Proofs.YtnpeieeomokomaaGreat
open Go.Sim
def oBk (s:List UInt8) (left:Nat):O:=.cells (.ls [.str s,.int .i64 left]) ⟨0,360+1,0⟩ true false
theorem bnum_succ (s:List UInt8) (left n:Nat):bnum s left (n+1)=2*bnum s left n+(if n<left then sbit s (left-1-n) else 0):=rfl
set_option maxRecDepth 100000 in
set_option maxHeartbeats 1000000 in
theorem number_ok {s:List UInt8} {p left n:Nat} {h:H} {Q:V→H→Prop} (hg:h.get p=some (oBk s left)) (hs:s.length≤2000) (hl:left≤8*s.length) (hn:n≤32) (hq:Q (.int .u64 (bnum s left n:Nat)) h) :
  RF P ctx 309 [.ptr p 0,.int .i64 n] h Q:=by
 refine RF.enterS ctx_ok fn309 (ble _ _ rfl) (ble _ _ rfl) vb309 (Has.nil.on fun tm hs0=>?_)
 refine wpC.round (fun k tm h'=>∃ i:Nat,i≤n∧k=n-i∧h'=h∧Has tm [(9,.int .i64 i),(8,.int .i64 n),(5,.int .u64 (bnum s left i:Nat)),(0,.ptr p 0)]) n ⟨0,by omega,rfl,rfl,hs0.sub rfl⟩ ?_
 rintro k tm h' ⟨i,hi,rfl,rfl,hs1⟩
 have hb:=bnum_lt s left i
 have hp32:2^i≤2^32:=Nat.pow_le_pow_right (by decide) (by omega)
 have e:w64 ((i:Int)+1)=((i+1:Nat):Int):=by rw [w64_id (by omega) (by omega)]; rfl
 have el:w64 (w64 ((left:Int)-1)-(i:Int))=(left:Int)-1-i:=by
  rw [w64_id (n:=(left:Int)-1) (by omega) (by omega),w64_id (by omega) (by omega)]
 refine wpC.at hs1 vl309_0 rfl rfl ⟨fun c=>?_,fun c=>hs1.on fun tm' hs'=>?_⟩
 rotate_left
 ·have hin:i=n:=by omega
  subst hin
  refine thenC.left (wpS.at hs' vr309_1 rfl rfl (hs'.on fun tm2 hs2=>?_))
  exact endW.r1 (hs2.get rfl) hq
 have hin:i<n:=by omega
 have hp31:2^i≤2^31:=Nat.pow_le_pow_right (by decide) (by omega)
 refine ⟨((bnum s left i*2^1:Nat):Int),shlN_u64 (n:=1) (by decide) (by omega),.ptr p 0,h',rfl,?_⟩
 show ∃ x5,ald ctx 3 h' (.ptr p (0+1))=some (.int .i64 x5)∧_
 refine ⟨left,ald_one ty3 rfl hg rfl,fun c2=>⟨.ptr p 0,h',rfl,?_⟩,fun c2=>hs1.on fun tm' hs'=>?_⟩
 ·rw [el] at c2
  have hlt:i<left:=by omega
  have hi8:left-1-i<8*s.length:=by omega
  have hsb:=sbit_lt s (left-1-i)
  show ∃ l10,ald ctx 298 h' (.ptr p (0+0))=some (.agg [.str l10])∧_
  refine ⟨s,ald_agg ty298 rfl hg rfl,?_⟩
  rw [el,show (left:Int)-1-i=((left-1-i:Nat):Int) by omega]
  refine bit_ok hi8 (by omega) ⟨_,rfl,((bnum s left (i+1):Nat):Int),?_,hs1.on fun tm' hs'=>?_⟩
  ·rw [orN_u64 (by omega) (by omega),Nat.or_comm,or_add (a:=sbit s (left-1-i)) (i:=1) (by omega),bnum_succ,if_pos hlt]
   congr 3
   omega
  ·refine ⟨rfl,rfl,n-(i+1),by omega,i+1,by omega,rfl,rfl,?_⟩
   rw [← e]; exact hs'.sub rfl
 ·rw [el] at c2
  have hz:bnum s left (i+1)=bnum s left i*2^1:=by rw [bnum_succ,if_neg (by omega)]; omega
  refine ⟨rfl,rfl,n-(i+1),by omega,i+1,by omega,rfl,rfl,?_⟩
  rw [hz,← e]; exact hs'.sub rfl
end Go.Proofs.YtnpeieeomokomaaGreat
namespace Go.Proofs.YtnpeieeomokomaaGreat
open Go.Sim
def hPeek (s:List UInt8) (left:Nat):H:=H0.new (.cells (.ls [.str s,.int .i64 left]) ⟨0,120+1,0⟩ true false)
abbrev oErr (a b:Int):O:=.cells (.ls [.int .i64 a,.int .i64 b]) ⟨0,24+1,0⟩ true false
theorem build_peek (s:List UInt8) (left:Nat) (a b:Int):abuildSlice ctx 343 2 [(0,.int .i64 a),(1,.int .i64 b)] (hPeek s left)=some (.slice 1 0 2 (.exact 2),(hPeek s left).new (oErr a b)):=by kernel_rfl
def hTake (s:List UInt8) (left:Nat):H:=(hPeek s left).new (.cells (.ls [.str [],.int .i64 0]) ⟨0,120+1,0⟩ true false)
theorem build_take (s:List UInt8) (left:Nat) (a b:Int):abuildSlice ctx 343 2 [(0,.int .i64 a),(1,.int .i64 b)] (hTake s left)=some (.slice 2 0 2 (.exact 2),(hTake s left).new (oErr a b)):=by kernel_rfl
theorem sl_err {h:H} {b:Nat} {x y:Int} (hb:b<h.next) (hg:h.get b=some (oErr x y)):Sl h (.slice b 0 2 (.exact 2)) 1 [x,y].length ([x,y].map fun n=>V.int .i64 n) :=
 ⟨rfl,.inr ⟨b,0,_,_,_,_,_,rfl,hb,hg,fun i hi=>by
  rcases i with _ | _ | i
  ·rfl
  ·rfl
  ·exact absurd hi (by show ¬ i+1+1<2*1; omega)⟩⟩
set_option maxRecDepth 100000 in
theorem peekB_ok {s:List UInt8} {left n:Nat} {h:H} {Q:V→H→Prop} (hs:s.length≤2000) (hl:(left:Int)≤bsize s) (hn:n≤32) (hq:Q (.tuple [.int .u64 (bnum s left n:Nat),.int .i64 0]) h):RF P ctx 278 [brd s left,.int .i64 n] h Q:=by
 refine RF.plain ?_ (plainL_out rfl)
 have hz:=bsize_lt s
 refine RF.enterS ctx_ok fn278 (ble _ _ rfl) (ble _ _ rfl) vb278 ⟨by decide,?_⟩
 rintro p0 h1 rfl rfl
 have g1:(hPeek s left).get 0=some (.cells (.ls [.str s,.int .i64 left]) ⟨0,120+1,0⟩ true false):=get_new_self _ (by decide)
 have g2:((hPeek s left).new (oErr 0 0)).get 1=some (oErr 0 0):=get_new_self _ (show 1<T.top by decide)
 have g3:((hPeek s left).new (oErr 0 0)).get 0=some (.cells (.ls [.str s,.int .i64 left]) ⟨0,120+1,0⟩ true false):=(get_new_old _ (show 1<T.top by decide) (show 0<1 by decide)).trans g1
 refine ⟨s,left,ald_agg ty120 rfl g1 rfl,backRight_ok hs hl ⟨0,rfl,fun c=>by omega,fun _=>⟨fun c=>by omega,fun _=>when_ok ⟨0,rfl,_,_,build_peek s left 0 0,first_ok (sl_err (show 1<2 by decide) g2) (by decide) ⟨0,rfl,Has.nil.on fun tm hs0=>?_⟩⟩⟩⟩⟩
 refine wpS.at hs0 vr278_0 rfl rfl ⟨fun c=>absurd rfl c,fun _=>hs0.on fun tm1 hs1=>thenC.nx (hs1.sealK fun tm2 hs2=>?_)⟩
 refine wpS.at hs2 vr278_1 rfl rfl ?_
 show ∃ l2,ald ctx 9 ((hPeek s left).new (oErr 0 0)) (.ptr 0 (0+0))=some (.str l2)∧_
 refine ⟨s,ald_one ty9 rfl g3 rfl,?_⟩
 show ∃ x5,ald ctx 3 ((hPeek s left).new (oErr 0 0)) (.ptr 0 (0+1))=some (.int .i64 x5)∧_
 refine ⟨left,ald_one ty3 rfl g3 rfl,(show 2<T.top by decide),?_⟩
 rintro p6 h7 rfl e7
 obtain ⟨n7,x7,g7⟩:=made_new e7 (show 2<T.top by decide)
 refine number_ok g7 hs (by omega) hn ⟨_,rfl,hs2.on fun tm3 hs3=>endW.r2 (hs3.get rfl) (hs3.get rfl) ⟨plainB_out rfl,hq⟩⟩
def tkB (s:List UInt8) (left n:Nat):V:=if n≤left then .tuple [brd s (left-n),.int .u64 (bnum s left n:Nat),.int .i64 0] else .tuple [.agg [.str [],.int .i64 0],.int .u64 0,.int .i64 5]
theorem plain_tkB (s:List UInt8) (left n:Nat):Plain (tkB s left n):=by
 unfold tkB
 split <;> exact plainB_out rfl
set_option maxRecDepth 100000 in
theorem takeB_ok {s:List UInt8} {left n:Nat} {h:H} {Q:V→H→Prop} (hs:s.length≤2000) (hl:(left:Int)≤bsize s) (hn:n≤32) (hq:Q (tkB s left n) h):RF P ctx 215 [brd s left,.int .i64 n] h Q:=by
 refine RF.plain ?_ (plainL_out rfl)
 have hq:∀ h':H,Plain (tkB s left n)∧Q (tkB s left n) h:=fun _=>⟨plain_tkB _ _ _,hq⟩
 have hz:=bsize_lt s
 refine RF.enterS ctx_ok fn215 (ble _ _ rfl) (ble _ _ rfl) vb215 ⟨by decide,?_⟩
 rintro p0 h1 rfl rfl
 refine ⟨(show 1<T.top by decide),?_⟩
 rintro p2 h3 rfl rfl
 have g0:(hTake s left).get 0=some (.cells (.ls [.str s,.int .i64 left]) ⟨0,120+1,0⟩ true false):=(get_new_old _ (show 1<T.top by decide) (show 0<1 by decide)).trans (get_new_self _ (by decide))
 have g1:(hTake s left).get 1=some (.cells (.ls [.str [],.int .i64 0]) ⟨0,120+1,0⟩ true false):=get_new_self _ (show 1<T.top by decide)
 have k0:∀ a b,((hTake s left).new (oErr a b)).get 0=some (.cells (.ls [.str s,.int .i64 left]) ⟨0,120+1,0⟩ true false):=fun a b=>(get_new_old _ (show 2<T.top by decide) (show 0<2 by decide)).trans g0
 have k1:∀ a b,((hTake s left).new (oErr a b)).get 1=some (.cells (.ls [.str [],.int .i64 0]) ⟨0,120+1,0⟩ true false):=fun a b=>(get_new_old _ (show 2<T.top by decide) (show 1<2 by decide)).trans g1
 have k2:∀ a b,((hTake s left).new (oErr a b)).get 2=some (oErr a b):=fun a b=>get_new_self _ (show 2<T.top by decide)
 refine ⟨s,left,ald_agg ty120 rfl g0 rfl,peekB_ok hs hl hn ⟨_,_,rfl,left,ald_one ty3 rfl g0 rfl,fun c=>?_,fun c=>?_⟩⟩
 ·have hlt:¬ n≤left:=by omega
  unfold tkB at hq
  rw [if_neg hlt] at hq
  refine when_ok ⟨5,rfl,_,_,build_take s left 0 5,first_ok (sl_err (show 2<3 by decide) (k2 0 5)) (by decide) ⟨5,rfl,fun _=>?_,fun g=>absurd (show (5:Int)≠0 by decide) g⟩⟩
  exact ⟨_,ast_at ty120 (k1 0 5) rfl (Nat.zero_le _) rfl rfl,endL.ok (leaveL.cell (ald_agg ty120 rfl (get_upd_self _ (show 1<T.top by decide)) rfl) rfl) (hq H0)⟩
 ·have hle:n≤left:=by omega
  unfold tkB at hq
  rw [if_pos hle] at hq
  refine when_ok ⟨0,rfl,_,_,build_take s left 0 0,first_ok (sl_err (show 2<3 by decide) (k2 0 0)) (by decide) ⟨0,rfl,fun g=>absurd rfl g,fun _=>?_⟩⟩
  have ew:w64 ((left:Int)-n)=((left-n:Nat):Int):=by rw [w64_id (by omega) (by omega)]; omega
  refine ⟨left,ald_one ty3 rfl (k0 0 0) rfl,?_⟩
  rw [ew]
  obtain ⟨h21,e21,g21,k21⟩:∃ h21,ast ctx 3 ((hTake s left).new (oErr 0 0)) (.ptr 0 (0+1)) (.int .i64 ((left-n:Nat):Int))=some h21∧h21.get 0=some (.cells (.ls [.str s,.int .i64 ((left-n:Nat):Int)]) ⟨0,120+1,0⟩ true false)∧h21.get 1=some (.cells (.ls [.str [],.int .i64 0]) ⟨0,120+1,0⟩ true false) :=
   ⟨_,ast_at ty3 (k0 0 0) rfl (Nat.zero_le _) rfl rfl,get_upd_self _ (by decide),(get_upd_ne _ (by decide) (by decide)).trans (k1 0 0)⟩
  exact ⟨h21,e21,s,((left-n:Nat):Int),ald_agg ty120 rfl g21 rfl,_,ast_at ty120 k21 rfl (Nat.zero_le _) rfl rfl,endL.ok (leaveL.cell (ald_agg ty120 rfl (get_upd_self _ (show 1<T.top by decide)) rfl) rfl) (hq H0)⟩
def rdB (s:List UInt8):V:=if bsize s<0 then .tuple [.agg [.str [],.int .i64 0],.int .i64 22] else .tuple [.agg [.str s,.int .i64 (bsize s)],.int .i64 0]
theorem plain_rdB (s:List UInt8):Plain (rdB s):=by
 unfold rdB
 split <;> exact plainB_out rfl
set_option maxRecDepth 100000 in
theorem readB_ok {s:List UInt8} {h:H} {Q:V→H→Prop} (hs:s.length≤2000) (hq:Q (rdB s) h):RF P ctx 213 [.str s] h Q:=by
 refine RF.plain ?_ (plainL_out rfl)
 have hq:∀ h':H,Plain (rdB s)∧Q (rdB s) h:=fun _=>⟨plain_rdB _,hq⟩
 refine RF.enterS ctx_ok fn213 (ble _ _ rfl) (ble _ _ rfl) vb213 ⟨by decide,?_⟩
 rintro p0 h1 rfl e1
 obtain ⟨n1,x1,g1⟩:=made_new e1 (by decide)
 refine backBits_ok hs ?_
 unfold bitsV
 unfold rdB at hq
 by_cases c:bsize s<0
 ·rw [if_pos c] at hq ⊢
  exact ⟨0,22,rfl,fun _=>⟨_,ast_at ty120 g1 rfl (Nat.zero_le _) rfl rfl,endL.ok (leaveL.cell (ald_agg ty120 rfl (get_upd_self _ (by decide)) rfl) rfl) (hq H0)⟩,fun g=>absurd (show (22:Int)≠0 by decide) g⟩
 ·rw [if_neg c] at hq ⊢
  exact ⟨bsize s,0,rfl,fun g=>absurd rfl g,fun _=>⟨_,ast_at ty120 g1 rfl (Nat.zero_le _) rfl rfl,endL.ok (leaveL.cell (ald_agg ty120 rfl (get_upd_self _ (by decide)) rfl) rfl) (hq H0)⟩⟩
end Go.Proofs.YtnpeieeomokomaaGreat
