/- TI. No condition. -/
import Derived.Test.YtnpeieeomokomaaGreatZTH
namespace Go.Proofs.YtnpeieeomokomaaGreat
open Go.Sim
abbrev oPair (x y:Int):O:=.cells (.ls [.int .i64 x,.int .i64 y]) ⟨0,126+1,0⟩ true false
theorem aidx_pair {p k:Nat} (hk:k<2):aidx ctx 126 (.ptr p 0) (.int .i64 k)=some (.ptr p k):=by
 rcases k with _ | _ | k
 ·kernel_rfl
 ·kernel_rfl
 ·omega
def arr (i a b:Nat):Nat×Nat:=if i % 2=0 then (a,b) else (b,a)
theorem arr_next (i a b x:Nat):arr (i+1) b x=if i % 2=0 then (x,(arr i a b).2) else ((arr i a b).1,x):=by
 unfold arr
 by_cases c:i % 2=0
 ·rw [if_neg (by omega),if_pos c,if_pos c]
 ·rw [if_pos (by omega),if_neg c,if_neg c]
theorem build1i {h:H} (x:Int) (hn:h.next<T.top):∃ v h',abuildSlice ctx 23 1 [(0,.int .i64 x)] h=some (v,h')∧Sl h' v 1 1 [.int .i64 x]∧Ext h h' 1:=by
 obtain ⟨v,h',e,s,x,_⟩:=buildSlice1 (c:=ctx) (h:=h) (u:=.int .i64 x) (ys:=[.int .i64 x]) ty23 rfl ty3 rfl rfl rfl rfl (Nat.le_of_ble_eq_true rfl) rfl hn
 exact ⟨v,h',e,s,x⟩
theorem _root_.Go.Sim.Sep.more {S:Nat→Prop} {b0:Nat} {l:List (Nat×O)} {v:V} (s:Sep S b0 l v) {p:Nat} {o:O} (h:∀ b,vblk v=some b→b<p):Sep S b0 ((p,o) :: l) v:=fun b hb=>⟨(s b hb).1,fun q hq=>by
 rcases List.mem_cons.1 hq with rfl | hq
 ·exact Nat.ne_of_gt (h b hb)
 ·exact (s b hb).2 q hq⟩
theorem _root_.Go.Sim.Sep.less {S:Nat→Prop} {b0:Nat} {l l':List (Nat×O)} {v:V} (s:Sep S b0 l v) (h:∀ q∈l',∃ q'∈l,q'.1=q.1):Sep S b0 l' v:=fun b hb=>⟨(s b hb).1,fun q hq=>by
 obtain ⟨q',h1,h2⟩:=h q hq
 rw [← h2]
 exact (s b hb).2 q' h1⟩
structure TwI (hb h:H) (c p9 ps:Nat) (s:List UInt8) (v8:V) (log left i a b:Nat) (v:V) (out:List Int):Prop where
 vw:Vw none0 hb h c [(p9,oPair (arr i a b).1 (arr i a b).2),(ps,oSt s left v8 log)]
 ow:Ow h v tint out.length (ints out)
 sp:Sep none0 hb.next [(p9,oPair (arr i a b).1 (arr i a b).2),(ps,oSt s left v8 log)] v
theorem cellsV_at {cs:List Cl} {a:Nat} {c:Cl} (h:cs[a]? = some c) {hp:H} {v:V} {n:Nat} (sl:Sl hp v 3 n (cellsV cs)) (ha:a<n) :
  ∃ b o,aidx ctx 123 v (.int .i64 a)=some (.ptr b o)∧ald ctx 131 hp (.ptr b o)=some (.agg (cellV c))∧ald ctx 3 hp (.ptr b (o+0))=some (.int .i64 c.1):=by
 obtain ⟨b,o,h1,h2,h3⟩:=sl.atA (cx:=ctx) (i:=a) ha ty123 rfl ty131 rfl rfl (by decide) (ys:=cellV c) rfl (cellsV_get h)
 exact ⟨b,o,h1,h2,h3 _ _ _ ty3 rfl 0 (by decide) rfl⟩
end Go.Proofs.YtnpeieeomokomaaGreat
namespace Go.Proofs.YtnpeieeomokomaaGreat
open Go.Sim
theorem arr_cur (i a b:Nat):(Cs.ls [.int .i64 ((arr i a b).1:Nat),.int .i64 ((arr i a b).2:Nat)]).get? (i % 2)=some (.int .i64 a):=by
 unfold arr
 by_cases c:i % 2=0
 ·rw [c,if_pos rfl]; rfl
 ·have:i % 2=1:=by omega
  rw [this,if_neg (by decide)]; rfl
theorem arr_oth (i a b:Nat):(Cs.ls [.int .i64 ((arr i a b).1:Nat),.int .i64 ((arr i a b).2:Nat)]).get? (1-i % 2)=some (.int .i64 b):=by
 unfold arr
 by_cases c:i % 2=0
 ·rw [c,if_pos rfl]; rfl
 ·have:i % 2=1:=by omega
  rw [this,if_neg (by decide)]; rfl
theorem arr_put (i a b x:Nat):(Cs.ls [.int .i64 ((arr i a b).1:Nat),.int .i64 ((arr i a b).2:Nat)]).put (i % 2) [.int .i64 x]=some (Cs.ls [.int .i64 ((arr (i+1) b x).1:Nat),.int .i64 ((arr (i+1) b x).2:Nat)]):=by
 rw [arr_next]
 by_cases c:i % 2=0
 ·rw [c,if_pos rfl]; rfl
 ·have:i % 2=1:=by omega
  rw [this,if_neg (by decide)]; rfl
theorem w64n {n:Nat} (h:n<9223372036854775808):w64 (n:Int)=n:=w64_id (by omega) (by omega)
set_option maxRecDepth 100000 in
set_option maxHeartbeats 4000000 in
theorem twoLoop_ok {hb h:H} {c0 p9 ps:Nat} {s:List UInt8} {v8:V} {log left a b:Nat} {l:List Int} {tm:Tm} {R:AX→St→Prop} (g:GD log l) (hs:s.length≤2000) (sl8:Sl hb v8 3 (2^log) (cellsV (dtab log l))) (hl:(left:Int)≤bsize s)
  (hab:a<2^log∧b<2^log) (I:TwI hb h c0 p9 ps s v8 log left 0 a b .nilslice []) (hn:hb.next+c0+1100≤T.top) (hlow:hb.low≤T.top) (ht:Has tm [(6,.ptr ps 0),(13,.int .i64 0),(8,.ptr p9 0),(12,.nilslice)])
  (hex:∀ tm' h' left' i' a' b' v' out',TwI hb h' (c0+1100) p9 ps s v8 log left' i' a' b' v' out'→(255<out'.length∨0<left'→two (dtab log l) s 255 left a b []=none)→(¬ (255<out'.length∨0<left')→two (dtab log l) s 255 left a b []=some out') →
   out'.length≤300→Has tm' [(6,.ptr ps 0),(12,v')]→R (.exit 2) ⟨105,tm',[],h'⟩):wpC P ctx false (.loop l81_1) ⟨105,tm,[],h⟩ R:=by
 generalize hR0:two (dtab log l) s 255 left a b []=R0 at hex
 have hpw:=pow_log g.lg
 have hlg:=g.lg
 have hbz:=bsize_lt s
 refine wpC.round (fun k tm h=>∃ (i f left a b:Nat) (v:V) (out:List Int),k=256-i∧i+f=255∧out.length=i∧(left:Int)≤bsize s∧a<2^log∧b<2^log∧TwI hb h (c0+4*i) p9 ps s v8 log left i a b v out∧two (dtab log l) s f left a b out=R0 ∧
  Has tm [(6,.ptr ps 0),(13,.int .i64 i),(8,.ptr p9 0),(12,v)]) 256 ⟨0,255,left,a,b,.nilslice,[],rfl,rfl,rfl,hl,hab.1,hab.2,I,hR0,ht.sub (by kernel_rfl)⟩ ?_
 clear I ht hR0 hl hab
 rintro k tm h ⟨i,f,left,a,b,v,out,rfl,hif,hol,hl,ha,hb2,I,hR0,hs1⟩
 obtain ⟨w,ow,sp⟩:=I
 have tw:=w.top
 have lw:=w.low
 have hle:=w.le
 have hi2:i % 2<2:=Nat.mod_lt _ (by decide)
 obtain ⟨c,hc⟩:∃ c,(dtab log l)[a]? = some c:=⟨_,List.getElem?_eq_getElem (by rw [dtab_len]; exact ha)⟩
 have hcm:=List.mem_of_getElem? hc
 obtain ⟨_,hcb,hcs⟩:=dtab_facts g c hcm
 have hsym:=dtab_sym g hcm
 obtain ⟨b1,o1,a1,a2,_⟩:=cellsV_at hc (sl8.ext w.ex0) ha
 have e13:Int.tmod (i:Int) 2=((i % 2:Nat):Int):=rfl
 have ei:w64 ((i:Int)+1)=((i+1:Nat):Int):=by rw [w64_id (by omega) (by omega)]; rfl
 have hlid:=low_id (h:=h) (by omega) (by omega)
 refine wpC.at hs1 vl81_1 rfl rfl ⟨⟨by omega,by omega⟩,.ptr ps 0,topH h,rfl,hlid.1,?_⟩
 intro h2 e2
 rw [hlid.2] at e2
 subst h2
 rw [fa_stream1,e13]
 refine ⟨v8,w.ld1 1 rfl ty123 rfl rfl,by decide,p9,i % 2,aidx_pair hi2,a,w.ld1 0 rfl ty3 rfl (arr_cur i a b),b1,o1,a1,_,_,_,a2,by omega,?_⟩
 rintro p14 h15 rfl e15
 obtain ⟨_,x15,_⟩:=made_new e15 (by omega)
 have w15:=w.new e15 (by omega)
 have t15:=w15.top
 obtain ⟨h16,e16,w16,n16,k16⟩:=w15.st (cx:=ctx) 0 (f:=0) (u:=.agg (cellV c)) rfl (by omega) ty131 rfl (Nat.zero_le _) rfl rfl
 have ow16:=(ow.ext x15).keep (h':=h16) (by omega) fun b' hb'=>k16 b' (by have:=ow.blk hb'; omega)
 have sp16:Sep none0 hb.next [(h.next,.cells (.ls (cellV c)) ⟨0,131+1,0⟩ true false),(p9,oPair (arr i a b).1 (arr i a b).2),(ps,oSt s left v8 log)] v:=sp.more fun b' hb'=>ow.blk hb'
 obtain ⟨v18,h19,e19,sl19,x19⟩:=build1i (h:=h16) c.1 (by omega)
 have w19:=w16.ext x19
 have t19:=w19.top
 obtain ⟨v20,h21,e21,A⟩:=Ow.append (c:=ctx) (te:=tint) (m:=1) (ow16.ext x19) sl19 (by decide) ty23 rfl ty3 rfl rfl (by show (out.length+1)*1≤_; omega) (by show (out.length+1)*8≤_; omega) (by omega)
 obtain ⟨w21,ow21,sp21⟩:=w19.grow (k:=(out++[c.1]).length) (xs:=ints (out++[c.1])) sp16 (by rw [ints_app,List.length_append]; exact A)
 have t21:=w21.top
 refine ⟨h16,e16,_,w16.ld1 0 rfl ty3 rfl rfl,v18,h19,e19,trivial,v20,h21,e21,_,w21.ld1 0 rfl ty3 rfl rfl,?_⟩
 refine streamTake_ok (n:=c.2.1) (w21.get 2 rfl) (w21.lt 2 rfl) hs hl (by omega) (by omega) (fun c1 h24 x24 g24=>?_) (fun c1 h24 x24 g24=>?_)
 ·-- bits enough
  have w24:=w21.extX 2 rfl x24 g24
  have t24:=w24.top
  have ow24:=ow21.keep (h':=h24) x24.le fun b' hb'=>x24.get _ (ow21.blk hb') fun q=>(sp21 b' hb').2 _ (List.mem_cons_of_mem _ (List.mem_cons_of_mem _ (List.mem_cons_self ..))) q.symm
  have hbn:=bnum_lt s left c.2.1
  have ex:w64 (((c.2.2:Nat):Int)+((bnum s left c.2.1:Nat):Int))=((c.2.2+bnum s left c.2.1:Nat):Int):=w64n (n:=c.2.2+bnum s left c.2.1) (by omega)
  obtain ⟨h30,e30,w30,n30,k30⟩:=w24.st (cx:=ctx) 1 (f:=i % 2) (u:=.int .i64 (c.2.2+bnum s left c.2.1:Nat)) rfl (by omega) ty3 rfl (Nat.zero_le _) rfl (arr_put i a b _)
  have ow30:=ow24.keep (h':=h30) (by omega) fun b' hb'=>k30 b' fun q=>(sp21 b' hb').2 _ (List.mem_cons_of_mem _ (List.mem_cons_self ..)) q.symm
  refine ⟨_,true,rfl,fun _=>⟨by decide,_,w24.ld1 0 rfl ty3 rfl rfl,p9,i % 2,aidx_pair hi2,h30,by rw [ex]; exact e30,_,ow30.sl.len ty23 rfl,fun c2=>?_,fun c2=>?_⟩,fun g=>(by cases g)⟩
  ·have hf0:f=0:=by rw [List.length_append] at c2; simp at c2; omega
   subst hf0
   have hn:R0=none:=hR0.symm
   refine hs1.on fun tm' hs'=>hex tm' h30 (left-c.2.1) (i+1) b (c.2.2+bnum s left c.2.1) v20 (out++[c.1]) ⟨(w30.drop 1).more (by omega),ow30,?_⟩ (fun _=>hn) (fun q=>absurd (.inl (by omega)) q) (by rw [List.length_append]; simp; omega) (hs'.sub (by kernel_rfl))
   exact sp21.less fun q hq=>by
    simp only [List.mem_cons,List.not_mem_nil,or_false] at hq
    rcases hq with rfl | rfl
    ·exact ⟨_,List.mem_cons_of_mem _ (List.mem_cons_self ..),rfl⟩
    ·exact ⟨_,List.mem_cons_of_mem _ (List.mem_cons_of_mem _ (List.mem_cons_self ..)),rfl⟩
  ·obtain ⟨f,rfl⟩:∃ f',f=f'+1:=⟨f-1,by rw [List.length_append] at c2; simp at c2; omega⟩
   refine hs1.on fun tm' hs'=>⟨rfl,rfl,256-(i+1),by omega,i+1,f,left-c.2.1,b,c.2.2+bnum s left c.2.1,v20,out++[c.1],rfl,by omega,by rw [List.length_append]; simp; omega,by omega,hb2,by omega,⟨(w30.drop 1).more (by omega),ow30,?_⟩,?_,?_⟩
   ·exact sp21.less fun q hq=>by
     simp only [List.mem_cons,List.not_mem_nil,or_false] at hq
     rcases hq with rfl | rfl
     ·exact ⟨_,List.mem_cons_of_mem _ (List.mem_cons_self ..),rfl⟩
     ·exact ⟨_,List.mem_cons_of_mem _ (List.mem_cons_of_mem _ (List.mem_cons_self ..)),rfl⟩
   ·rw [← hR0]
    conv=>rhs; unfold two
    rw [hc]
    simp only
    rw [if_neg (by omega)]
   ·rw [← ei]; exact hs'.sub (by kernel_rfl)
 ·-- too few bits
  have w24:=w21.extX 2 rfl x24 g24
  have t24:=w24.top
  have l24:=w24.low
  have ow24:=ow21.keep (h':=h24) x24.le fun b' hb'=>x24.get _ (ow21.blk hb') fun q=>(sp21 b' hb').2 _ (List.mem_cons_of_mem _ (List.mem_cons_of_mem _ (List.mem_cons_self ..))) q.symm
  have hlid2:=low_id (h:=h24) (by omega) (by omega)
  obtain ⟨d,hd⟩:∃ d,(dtab log l)[b]? = some d:=⟨_,List.getElem?_eq_getElem (by rw [dtab_len]; exact hb2)⟩
  obtain ⟨b3,o3,a3,_,a5⟩:=cellsV_at hd (sl8.ext w24.ex0) hb2
  have e1m:w64 (1-((i % 2:Nat):Int))=((1-i % 2:Nat):Int):=by rw [w64_id (by omega) (by omega)]; omega
  refine ⟨_,false,rfl,fun g=>(by cases g),fun _=>⟨⟨by omega,by omega⟩,.ptr ps 0,topH h24,rfl,hlid2.1,?_⟩⟩
  intro h34 e34
  rw [hlid2.2] at e34
  subst h34
  rw [fa_stream1,e1m]
  obtain ⟨v44,h45,e45,sl45,x45⟩:=build1i (h:=h24) d.1 (by omega)
  have w45:=w24.ext x45
  have t45:=w45.top
  obtain ⟨v46,h47,e47,A2⟩:=Ow.append (c:=ctx) (te:=tint) (m:=1) (ow24.ext x45) sl45 (by decide) ty23 rfl ty3 rfl rfl (by rw [List.length_append]; show (out.length+1+1)*1≤_; omega) (by rw [List.length_append]; show (out.length+1+1)*8≤_; omega) (by omega)
  obtain ⟨w47,ow47,sp47⟩:=w45.grow (k:=(out++[c.1,d.1]).length) (xs:=ints (out++[c.1,d.1])) sp21 (by
   have e1:out++[c.1,d.1]=(out++[c.1])++[d.1]:=by simp
   rw [e1,ints_app,List.length_append]; exact A2)
  have hol2:(out++[c.1,d.1]).length=i+2:=by rw [List.length_append]; simp; omega
  refine ⟨v8,w24.ld1 2 rfl ty123 rfl rfl,by decide,p9,1-i % 2,aidx_pair (by omega),b,w24.ld1 1 rfl ty3 rfl (arr_oth i a b),b3,o3,a3,d.1,a5,v44,h45,e45,trivial,v46,h47,e47,?_⟩
  refine hs1.on fun tm' hs'=>hex tm' h47 left i a b v46 (out++[c.1,d.1]) ⟨(w47.drop 1).more (by omega),ow47,?_⟩ (fun q=>?_) (fun q=>?_) (by omega) (hs'.sub (by kernel_rfl))
  ·exact sp47.less fun q hq=>by
    simp only [List.mem_cons,List.not_mem_nil,or_false] at hq
    rcases hq with rfl | rfl
    ·exact ⟨_,List.mem_cons_of_mem _ (List.mem_cons_self ..),rfl⟩
    ·exact ⟨_,List.mem_cons_of_mem _ (List.mem_cons_of_mem _ (List.mem_cons_self ..)),rfl⟩
  ·rw [← hR0]
   cases f with
   | zero=>rfl
   | succ f =>
    unfold two
    rw [hc]
    simp only
    rw [if_pos (by omega),if_pos (by omega)]
  ·rw [← hR0]
   cases f with
   | zero=>exact absurd (.inl (by omega)) q
   | succ f =>
    unfold two
    rw [hc]
    simp only
    rw [if_pos (by omega),if_neg (by omega),hd]
end Go.Proofs.YtnpeieeomokomaaGreat
namespace Go.Proofs.YtnpeieeomokomaaGreat
open Go.Sim
set_option maxRecDepth 100000 in
set_option maxHeartbeats 4000000 in
theorem readTwo_ok {v:V} {log:Nat} {l:List Int} {s:List UInt8} {h:H} {Q:V→H→Prop} (sl:Sl h v 1 l.length (ints l)) (g:GD log l) (hs:s.length≤2000) (hn:h.next+1300≤T.top) (hlow:h.low≤T.top)
  (hq:∀ h' v',Ext h h' 1250→Ow h' v' tint (rdTwo log l s).2.length (ints (rdTwo log l s).2)→(∀ b,vblk v'=some b→h.next≤b)→Q (.tuple [v',.int .i64 (rdTwo log l s).1]) h'):RF P ctx 81 [.agg [.int .i64 log,v],.str s] h Q:=by
 have hpw:=pow_log g.lg
 have hlg:=g.lg
 have hbz:=bsize_lt s
 have bad:∀ e,rdTwo log l s=(e,[])→∀ h',Ext h h' 1250→Q (.tuple [.nilslice,.int .i64 e]) h':=fun e he h' x=>by
  have:=hq h' .nilslice x
  rw [he] at this
  exact this (Ow.nil _ _) fun b hb=>(by cases hb)
 refine RF.enterS ctx_ok fn81 (ble _ _ rfl) (ble _ _ rfl) vb81 (wpCs_two sl ⟨by omega,?_⟩)
 rintro p0 h1 rfl e1
 have w1:=(Vw.nil (S:=none0) (h:=h)).new e1 (by omega)
 have t1:=w1.top
 refine ⟨_,_,w1.ldA 0 rfl ty59 rfl rfl,opened_ok (sl.ext w1.ex0) g hs (by omega) (fun c h6 x6=>?_) (fun c h4 h6 v8 x4 s8 w6=>?_)⟩
 ·refine ⟨_,_,rfl,fun _=>bad 22 ?_ h6 ((w1.ex0.trans x6).mono (by omega)),fun q=>absurd (show (22:Int)≠0 by decide) q⟩
  unfold rdTwo
  rw [if_pos c]
 have xh4:Ext h h4 91:=(w1.ex0.trans x4).mono (by omega)
 have g0:h4.get h.next=some (oD log v):=(x4.get _ (w1.lt 0 rfl)).trans (w1.get 0 rfl)
 have l0:h.next<h4.next:=Nat.lt_of_lt_of_le (w1.lt 0 rfl) x4.le
 have t4:=xh4.top
 have t6:=w6.top
 have lo4:=xh4.low
 obtain ⟨B,hB⟩:∃ B:Nat,bsize s=B:=⟨(bsize s).toNat,by omega⟩
 have hun:rdTwo log l s=if bsize s<log then ((21:Int),[]) else if bsize s<2*log then (21,[]) else match two (dtab log l) s 255 (B-log-log) (bnum s B log) (bnum s (B-log) log) [] with
   | none=>((21:Int),[])
   | some out=>((0:Int),out):=by
  conv=>lhs; unfold rdTwo
  rw [if_neg c,hB,Int.toNat_natCast]
  rfl
 rw [hB,Int.toNat_natCast] at w6
 refine ⟨_,_,rfl,fun q=>absurd rfl q,fun _=>⟨by omega,?_⟩⟩
 rintro p9 h10 rfl e10
 have w10:=w6.new e10 (by omega)
 have t10:=w10.top
 refine Has.nil.on fun tm hs0=>?_
 refine wpC.round (fun k tm h'=>∃ j:Nat,j≤2∧k=2-j∧j*log≤B∧Vw none0 h4 h' (2+j) [(h6.next,oPair (if 0<j then ((bnum s B log:Nat):Int) else 0) (if 1<j then ((bnum s (B-log) log:Nat):Int) else 0)),(h4.next,oSt s (B-j*log) v8 log)] ∧
  Has tm [(26,.int .i64 j),(6,.ptr h4.next 0),(2,.ptr h.next 0),(8,.ptr h6.next 0)]) 2 ⟨0,by omega,rfl,by omega,by rw [Nat.zero_mul]; exact w10,hs0.sub (by kernel_rfl)⟩ ?_
 clear hs0 w10 t10 e10 tm
 rintro k tm h' ⟨j,hj2,rfl,hjl,w,hs0⟩
 have tw:=w.top
 refine wpC.at hs0 vl81_0 rfl rfl ⟨fun c1=>?_,fun c1=>hs0.on fun tm' hs'=>?_⟩
 ·rw [fa_dist0]
  refine ⟨_,ald_one ty3 rfl ((w.ex0.get _ l0).trans g0) rfl,streamTake_ok (n:=log) (w.get 1 rfl) (w.lt 1 rfl) hs (by omega) (by omega) (by omega) (fun c2 h4' x4' g4'=>?_) (fun c2 h4' x4' g4'=>?_)⟩
  ·have w2:=w.extX 1 rfl x4' g4'
   have t2:=w2.top
   have ej:w64 ((j:Int)+1)=((j+1:Nat):Int):=by rw [w64_id (by omega) (by omega)]; rfl
   have e2:B-j*log-log=B-(j+1)*log:=by rw [Nat.add_mul]; omega
   rw [e2] at w2
   have hj:j=0∨j=1:=by omega
   rcases hj with rfl | rfl
   ·obtain ⟨h9,e9,w9,n9,_⟩:=w2.st (cx:=ctx) 0 (f:=0) (u:=.int .i64 (bnum s (B-0*log) log:Nat)) rfl (by omega) ty3 rfl (Nat.zero_le _) rfl rfl
    rw [Nat.zero_mul] at w9 e9 ⊢
    refine ⟨_,true,rfl,fun _=>⟨h6.next,0,aidx_pair (k:=0) (by decide),h9,e9,hs0.on fun tm' hs'=>⟨rfl,rfl,1,by omega,1,by omega,rfl,by omega,w9,?_⟩⟩,fun q=>(by cases q)⟩
    have q:=hs'.sub (l':=[(26,.int .i64 (w64 (((0:Nat):Int)+1))),(6,.ptr h4.next 0),(2,.ptr h.next 0),(8,.ptr h6.next 0)]) (by kernel_rfl)
    rw [ej] at q
    exact q
   ·obtain ⟨h9,e9,w9,n9,_⟩:=w2.st (cx:=ctx) 0 (f:=1) (u:=.int .i64 (bnum s (B-1*log) log:Nat)) rfl (by omega) ty3 rfl (Nat.zero_le _) rfl rfl
    rw [Nat.one_mul] at w9 e9 ⊢
    refine ⟨_,true,rfl,fun _=>⟨h6.next,1,aidx_pair (k:=1) (by decide),h9,e9,hs0.on fun tm' hs'=>⟨rfl,rfl,0,by omega,2,by omega,rfl,by omega,w9,?_⟩⟩,fun q=>(by cases q)⟩
    have q:=hs'.sub (l':=[(26,.int .i64 (w64 (((1:Nat):Int)+1))),(6,.ptr h4.next 0),(2,.ptr h.next 0),(8,.ptr h6.next 0)]) (by kernel_rfl)
    rw [ej] at q
    exact q
  ·have w2:=w.extX 1 rfl x4' g4'
   refine ⟨_,false,rfl,fun q=>(by cases q),fun _=>hs0.on fun tm' hs'=>thenC.rt (thenC.rt (endW.r2 (hs'.get rfl) (hs'.get rfl) (bad 21 ?_ h4' ((xh4.trans w2.ex0).mono (by omega)))))⟩
   rw [hun]
   have hj:j=0∨j=1:=by omega
   rcases hj with rfl | rfl
   ·rw [if_pos (by omega)]
   ·rw [if_neg (by omega),if_pos (by omega)]
 have hj:j=2:=by omega
 subst hj
 rw [if_neg (by omega),if_neg (by omega)] at hun
 have e2:B-2*log=B-log-log:=by omega
 rw [e2] at w
 have hb1:=bnum_lt s B log
 have hb2:=bnum_lt s (B-log) log
 refine thenC.left (wpS.at hs' vr81_3 rfl rfl (hs'.on fun tm2 hs2=>?_))
 have I:TwI h4 h' 4 h6.next h4.next s v8 log (B-log-log) 0 (bnum s B log) (bnum s (B-log) log) .nilslice []:=⟨w,Ow.nil _ _,fun b hb=>(by cases hb)⟩
 refine twoLoop_ok g hs s8 (by omega) ⟨hb1,hb2⟩ I (by omega) (by omega) (hs2.sub (by kernel_rfl)) fun tm3 h3 left i a b v' out I3 hno hyes hlen hs3=>?_
 obtain ⟨w3,ow3,sp3⟩:=I3
 have t3:=w3.top
 refine thenC.out (wpS.at hs3 vr81_2 rfl rfl ⟨_,ow3.sl.len ty23 rfl,fun c2=>?_,fun c2=>⟨.ptr h4.next 0,h3,rfl,?_⟩⟩)
 ·refine hs3.on fun tm4 hs4=>hs4.slt fun tm5 hs5=>endW.r2 (hs5.get rfl) (hs5.get rfl) (bad 21 ?_ h3 ((xh4.trans w3.ex0).mono (by omega)))
  rw [hun,hno (.inl (by omega))]
 ·rw [fa_stream0,fa_back1]
  refine ⟨_,w3.ld1 1 rfl ty3 rfl rfl,fun c3=>?_,fun c3=>?_⟩
  ·refine hs3.on fun tm4 hs4=>hs4.slt fun tm5 hs5=>endW.r2 (hs5.get rfl) (hs5.get rfl) (bad 21 ?_ h3 ((xh4.trans w3.ex0).mono (by omega)))
   rw [hun,hno (.inr (by omega))]
  ·refine hs3.on fun tm4 hs4=>hs4.slt fun tm5 hs5=>endW.r2 (hs5.get rfl) (hs5.get rfl) ?_
   have:=hq h3 v' ((xh4.trans w3.ex0).mono (by omega))
   rw [hun,hyes (by omega)] at this
   exact this ow3 fun b hb=>by
    rcases (sp3 b hb).1 with q | q
    ·exact q.elim
    ·omega
end Go.Proofs.YtnpeieeomokomaaGreat
