/- TH. No condition. -/
import Derived.Test.YtnpeieeomokomaaGreatZTG
set_option maxRecDepth 100000
set_option maxHeartbeats 2000000
namespace Go.Proofs.YtnpeieeomokomaaGreat
open Go.Sim
section
variable (tm:Tm) (a b r p:Nat) (y x:Int)
variable (h:H)
end
end Go.Proofs.YtnpeieeomokomaaGreat
namespace Go.Proofs.YtnpeieeomokomaaGreat
open Go.Sim
theorem jV {v:V}{log:Nat}{l:List Int}{h:H}{Q:V->H->Prop}(sl:Sl h v 1 l.length (zM l)) (g:GD log l) (hq:Q (.int .i64 0) h):RF P zA 86 [.agg [.int .i64 log,v]] h Q:=by
 show RF P zA 86 ((λv=>V.agg ([.int .i64 log]++[v])::[]) v) h Q
 refine RF.ro (One.struct (zy rfl) (λa ha=>(by cases ha))) sl (qS l) (xG _ _) (λv0 h0 s0 hn0 hl0=>?_) hq
 clear sl hq h Q v;have ht:=zt;have hpos:=g.pos;have hlen:=g.len;have hlg:=g.lg;have hp:=g.pts;have hpw:=yc g.lg;have hpc:((2^log:Nat):Int)=2^log:=by simp
 show RF P zA 86 [.agg [.int .i64 log,v0]] h0 _;refine RF.enterS zG z4m (ble _ _ rfl) (ble _ _ rfl) z5a (yM s0 ⟨by omega,?_⟩);rintro p0 h1 rfl e1;have w1:=(Vw.nil (S:=zW) (h:=h0)).new e1 (by omega);have t1:=w1.top;have l1:=w1.low;have hn1:h1.next<=T.top:=by omega
 have hl1:h1.low<=T.top:=by omega
 refine⟨_,w1.ld1 0 rfl zi rfl rfl,λc=>by omega,λ_=>⟨_,w1.ld1 0 rfl zi rfl rfl,λc=>by omega,λ_=>Has.nil.on λtm hs=>?_⟩⟩
 have s1:=s0.ext w1.ex0;have shl:zj .shl .i64 1 (zN .u64 ((log:Nat):Int))=some (.int .i64 ((2^log:Nat):Int)):=by
  rw[zP (by omega)];have:=zb (a:=1) (n:=log) (by omega) (by omega);rw[Nat.one_mul]at this;exact this
 refine wpS.at hs zXQ rfl rfl ?_;rw[zm];refine⟨v0,w1.ld1 0 rfl zQ rfl rfl,_,s1.len zQ rfl,λc=>by omega,λ_=>?_⟩
 rw[zm];refine⟨v0,w1.ld1 0 rfl zQ rfl rfl,_,s1.len zQ rfl,λc=>by omega,λ_=>?_⟩
 rw[zm];refine⟨v0,w1.ld1 0 rfl zQ rfl rfl,?_⟩;rw[zm];have hlast:l[l.length-1]? = some l[l.length-1]:=oM (by omega);obtain⟨b,o,a1,a2⟩:=s1.at1 (u:=.int .i64 l[l.length-1]) (i:=l.length-1) (by omega) zQ rfl zi rfl rfl (by rw[oU,hlast];rfl);have hne:l[l.length-1]≠0:=λe=>g.last (by rw[List.getLast?_eq_getElem?,hlast,e])
 refine⟨v0,w1.ld1 0 rfl zQ rfl rfl,_,s1.len zQ rfl,b,o,?_,_,a2,λc=>absurd c hne,λ_=>hs.on λtm1 hs1=>?_⟩
 ·rw[zH (by omega) (by omega),show((l.length:Nat):Int)-1=((l.length-1:Nat):Int)by omega];exact a1
 refine wpS.at hs1 zXP rfl rfl (hs1.on λtm2 hs2=>?_);refine wpC.round (λk tm h'=>∃i:Nat,i<=l.length/\k=l.length-i/\h'=h1/\Has tm [(3,.int .i64 i),(1,.ptr h0.next 0)]) l.length ⟨0,by omega,by omega,rfl,hs2.sub (by kernel_rfl)⟩ ?_
 clear hs hs1 hs2;rintro k tm h' ⟨i,hi1,rfl,rfl,hs⟩;refine wpC.at hs zWw rfl rfl ?_;rw[zm];refine⟨v0,w1.ld1 0 rfl zQ rfl rfl,_,s1.len zQ rfl,λc=>⟨⟨hn1,hl1⟩,?_⟩,λc=>hs.on λtm' hs'=>?_⟩
 ·have hil:i<l.length:=by omega
  obtain⟨b,o,a1,a2⟩:=s1.at1 (u:=.int .i64 l[i]) hil zQ rfl zi rfl rfl (by rw[oU,oM hil];rfl);have hlo:=g.low _ (oQ hil);have hhi:=XG g.low (oQ hil);rw[hp,<-hpc]at hhi;have e:zL ((i:Int)+1)=((i+1:Nat):Int):=by rw[zH (by omega) (by omega)];rfl
  rw[zm];refine⟨v0,w1.ld1 0 rfl zQ rfl rfl,b,o,a1,_,a2,λc2=>by omega,λ_=>?_⟩
  rw[zm];refine⟨v0,w1.ld1 0 rfl zQ rfl rfl,b,o,a1,_,a2,?_⟩;rw[wo];refine⟨_,w1.ld1 0 rfl zi rfl rfl,_,shl,λc3=>by omega,λ_=>hs.on λtm' hs'=>⟨rfl,rfl,l.length-(i+1),by omega,i+1,by omega,rfl,rfl,?_⟩⟩
  rw[<-e];exact hs'.sub (by kernel_rfl)
 ·refine thenC.left (wpS.at hs' zXO rfl rfl ⟨⟨hn1,hl1⟩,?_⟩)
  rw[zm];have sT:Sl (za h') v0 1 l.length (zM l):=s1;refine⟨v0,w1.ld1 0 rfl zQ rfl rfl,O3 sT (by omega) (λx hx=>?_) ⟨_,rfl,(yb hn1 hl1).1,qb hn1 hl1 ?_⟩⟩
  ·have:=XG g.low hx
   rw[hp,<-hpc]at this;omega
  rw[wo];refine⟨_,w1.ld1 0 rfl zi rfl rfl,_,shl,λc=>absurd ?_ c,λ_=>hs'.on λtm2 hs2=>hs2.slt λtm3 hs3=>hs3.slt λtm4 hs4=>endW.r1 (hs4.get rfl) rfl⟩
  rw[hp,hpc]
theorem zOH {log:Nat}(hl:log=5\/log=6) {h:H}{Q:V->H->Prop}(hq:Q (.tuple [.int .i64 (Y2 log:Nat),.int .i64 0]) h):RF P zA 218 [.int .i64 log] h Q:=by
 have hp:=yc hl;refine RF.enterS zG zYr (ble _ _ rfl) (ble _ _ rfl) z1E ⟨λc=>by omega,λ_=>⟨λc=>by omega,λ_=>Has.nil.on λtm hs=>?_⟩⟩
 refine wpS.at hs zSX rfl rfl ⟨((1*2^log:Nat):Int),by rw[zP (by omega)];exact zb (a:=1) (by omega) (by omega),by decide,by decide,hs.on λtm2 hs2=>endW.r2 (hs2.get rfl) (hs2.get rfl) ?_⟩
 have e:zL (zL (zL (Int.tdiv ((1*2^log:Nat):Int) 2)+zL (Int.tdiv ((1*2^log:Nat):Int) 8))+3)=((Y2 log:Nat):Int):=by
  rw[Nat.one_mul,show Int.tdiv ((2^log:Nat):Int) 2=((2^log/2:Nat):Int)from rfl,show Int.tdiv ((2^log:Nat):Int) 8=((2^log/8:Nat):Int)from rfl,zTR (n:=2^log/2) (by omega),zTR (n:=2^log/8) (by omega),
   zH (n:=((2^log/2:Nat):Int)+((2^log/8:Nat):Int)) (by omega) (by omega),zH (by omega) (by omega)]
  unfold Y2;omega
 rw[e];exact hq
def tkL (size n:Nat):List V:=(List.range size).map λq=>V.bool (decide (n<=q))
theorem zO7 (size:Nat):List.replicate size (V.bool false)=tkL size size:=by
 apply List.ext_getElem?;intro i;unfold tkL;rw[List.getElem?_replicate,oU];by_cases h:i<size
 ·rw[if_pos h,List.getElem?_range h]
  simp;omega
 ·rw[if_neg h,oa (by simp;omega)]
  rfl
theorem zQX {size n:Nat}(h0:0<n) (hn:n<=size):(tkL size n).set (n-1) (.bool true)=tkL size (n-1):=by
 apply List.ext_getElem?;intro i;unfold tkL;by_cases c:i=n-1
 ·subst c
  rw[List.getElem?_set_self (by simp;omega),oU,List.getElem?_range (by omega)];simp only[oX];rw[decide_eq_true (oO _)]
 ·rw[oW (λq=>c q.symm),oU,oU]
  by_cases h:i<size
  ·rw[List.getElem?_range h]
   simp only[oX]
   congr 2
   by_cases g:n<=i
   ·rw[decide_eq_true g,decide_eq_true (by omega)]
   ·rw[decide_eq_false g,decide_eq_false (by omega)]
  ·rw[oa (by simp;omega)]
   rfl
theorem zWl {size n p:Nat}(h:p<size):(tkL size n)[p]? = some (.bool (decide (n<=p))):=by
 unfold tkL;rw[oU,List.getElem?_range h];rfl
structure RsI (hb h:H) (b9 b8 p0 size log:Nat) (v:V) (n:Nat) (xs:List Int):Prop where
 vw:∃c9 c8,Vw zW hb h 3 [(b9,yv c9),(b8,yv c8),(p0,oD log v)]/\Row c9 size (tkL size n)/\Row c8 size (zM xs)
theorem RsI.ex {hb h:H}{b9 b8 p0 size log n:Nat}{v:V}{xs:List Int}(i:RsI hb h b9 b8 p0 size log v n xs):Ext hb h 3:=by
 obtain⟨c9,c8,w,_⟩:=i;exact w.ex0
theorem RsI.dist {hb h:H}{b9 b8 p0 size log n:Nat}{v:V}{xs:List Int}(i:RsI hb h b9 b8 p0 size log v n xs):zO zA 23 h (.ptr p0 (0+1))=some v:=by
 obtain⟨c9,c8,w,_⟩:=i;exact w.ld1 2 rfl zQ rfl rfl
theorem RsI.put {hb h:H}{b9 b8 p0 size log n j:Nat}{v:V}{xs:List Int}(i:RsI hb h b9 b8 p0 size log v n xs) (s:Int) (hj:j<size) (hn:hb.next+3<=T.top):∃h',yA zA 3 h (.ptr b8 j) (.int .i64 s)=some h'/\RsI hb h' b9 b8 p0 size log v n (xs.set j s):=by
 obtain⟨c9,c8,w,r9,r8⟩:=i;have tw:=w.top;obtain⟨h2,cs2,e2,row2,w2,n2⟩:=w.set (cx:=zA) 1 (j:=j) (u:=.int .i64 s) r8 rfl (by omega) hj zi rfl rfl rfl rfl;exact⟨h2,e2,⟨c9,cs2,w2,r9,by rw[yS];exact row2⟩⟩
theorem RsI.mark {hb h:H}{b9 b8 p0 size log n:Nat}{v:V}{xs:List Int}(i:RsI hb h b9 b8 p0 size log v n xs) (h0:0<n) (hns:n<=size) (hn:hb.next+3<=T.top):∃h',yA zA 4 h (.ptr b9 (n-1)) (.bool true)=some h'/\RsI hb h' b9 b8 p0 size log v (n-1) xs:=by
 obtain⟨c9,c8,w,r9,r8⟩:=i;have tw:=w.top;obtain⟨h2,cs2,e2,row2,w2,n2⟩:=w.set (cx:=zA) 0 (j:=n-1) (u:=.bool true) r9 rfl (by omega) (by omega) ty4 rfl rfl rfl rfl;exact⟨h2,e2,⟨cs2,c8,w2,by rw[<-zQX h0 hns];exact row2,r8⟩⟩
theorem RsI.taken {hb h:H}{b9 b8 p0 size log n p:Nat}{v:V}{xs:List Int}(i:RsI hb h b9 b8 p0 size log v n xs) (hp:p<size):zO zA 4 h (.ptr b9 p)=some (.bool (decide (n<=p))):=by
 obtain⟨c9,c8,w,r9,_⟩:=i;exact w.ld1 0 rfl ty4 rfl ((r9.2.2.2 p hp).trans (zWl hp))
theorem zYB {log p:Nat}(hl:log=5\/log=6) (hp:p<2^log):Int.tmod (zL ((p:Int)+(Y2 log:Nat))) ((2^log:Nat):Int)=(((p+Y2 log) % 2^log:Nat):Int):=by
 have h1:=yc hl;have h2:Y2 log<=2^log+3:=by unfold Y2;omega
 rw[zH (by omega) (by omega)];rfl
theorem zOI {hb h:H}{b9 b8 p0 m log:Nat}{v:V}{xs:List Int}{f p tgt:Nat}{tm:Tm}{R:AX->St->Prop}{y1 y8 y14 y13:V}(hl:log=5\/log=6) (i:RsI hb h b9 b8 p0 (2^log) log v (2^log-m) xs) (hp:p<2^log) (hx:nxt log m f p=tgt) (ht:tgt<2^log-m)
  (hs:Has tm [(9,.slice b9 0 (2^log) (.exact (2^log))),(12,.int .i64 p),(6,.int .i64 (Y2 log:Nat)),(5,.int .i64 (2^log:Nat)),(1,y1),(8,y8),(14,y14),(13,y13)])
  (hq:∀tm',Has tm' [(9,.slice b9 0 (2^log) (.exact (2^log))),(12,.int .i64 tgt),(6,.int .i64 (Y2 log:Nat)),(5,.int .i64 (2^log:Nat)),(1,y1),(8,y8),(14,y14),(13,y13)]->R (.exit 6) ⟨93,tm',[],h⟩) :
  wpC P zA false (.loop zGK) ⟨93,tm,[],h⟩ R:=by
 have hpw:=yc hl;refine wpC.round (λk tm h'=>h'=h/\∃p,p<2^log/\nxt log m k p=tgt/\Has tm [(9,.slice b9 0 (2^log) (.exact (2^log))),(12,.int .i64 p),(6,.int .i64 (Y2 log:Nat)),(5,.int .i64 (2^log:Nat)),(1,y1),(8,y8),(14,y14),(13,y13)]) f ⟨rfl,p,hp,hx,hs⟩ ?_
 clear hs hp hx;rintro k tm h' ⟨rfl,p,hp,hx,hs⟩;refine wpC.at hs zQf rfl rfl ⟨b9,p,zr zBR rfl ty4 rfl hp,_,i.taken hp,λc=>?_,λc=>hs.on λtm' hs'=>?_⟩
 ·have c:=of_decide_eq_true c
  cases k with
  | zero=>have:p=tgt:=hx;omega
  | succ k =>
   unfold nxt at hx;rw[if_neg (by omega)]at hx;refine⟨by omega,hs.on λtm' hs'=>⟨rfl,rfl,k,Nat.lt_succ_self k,rfl,(p+Y2 log) % 2^log,Nat.mod_lt _ (Nat.pow_pos (by decide)),hx,?_⟩⟩
   rw[<-zYB hl hp];exact hs'.sub (by kernel_rfl)
 ·have c:=of_decide_eq_false c
  have:p=tgt:=by
   cases k with
   | zero=>exact hx
   | succ k =>
    unfold nxt at hx;rw[if_pos (by omega)]at hx;exact hx
  subst this;exact hq tm' (hs'.sub (by kernel_rfl))
theorem zGl {v:V}{log:Nat}{l:List Int}{h:H}{Q:V->H->Prop}(sl:Sl h v 1 l.length (zM l)) (g:GD log l) (hn:h.next+10<=T.top)
  (hq:∀h' v',Ext h h' 7->Sl h' v' 1 (2^log) (zM (zh log l))->Q (.tuple [v',.int .i64 0]) h'):RF P zA 152 [.agg [.int .i64 log,v]] h Q:=by
 have hpw:=yc g.lg;have hlg:=g.lg;have hlen:=g.len;have hcells:=g.cells;have hr12:zz l<=12:=oP (XA l) g.len;refine RF.enterS zG zY0 (ble _ _ rfl) (ble _ _ rfl) z0d (yM sl ⟨by omega,?_⟩);rintro p0 h1 rfl e1;have w1:=(Vw.nil (S:=zW) (h:=h)).new e1 (by omega);have t1:=w1.top;refine⟨_,_,w1.ldA 0 rfl xo rfl rfl,jV (sl.ext w1.ex0) g ⟨0,rfl,λc=>absurd rfl c,λ_=>⟨_,w1.ld1 0 rfl zi rfl rfl,((1*2^log:Nat):Int),by rw[zP (by omega)];exact zb (a:=1) (by omega) (by omega),_,w1.ld1 0 rfl zi rfl rfl,zOH hlg ⟨_,_,rfl,?_⟩⟩⟩⟩
 rw[Nat.one_mul];obtain⟨cs,e2,row⟩:=Row.make (cx:=zA) (k:=2^log) (h:=h1) zQ rfl zi rfl rfl rfl (by omega) (by show 8*2^log<=_;omega) (by omega);obtain⟨h11,e11⟩:∃h11,h11=h1.new (yv cs):=⟨_,rfl⟩;rw[<-e11]at e2;have w11:=w1.new e11 (by omega);have t11:=w11.top;obtain⟨cs9,e3,row9⟩:=Row.make (cx:=zA) (k:=2^log) (h:=h11) zBR rfl ty4 rfl rfl rfl (by omega) (by show 1*2^log<=_;omega) (by omega);obtain⟨h12,e12⟩:∃h12,h12=h11.new (yv cs9):=⟨_,rfl⟩;rw[<-e12]at e3;have w12:=w11.new e12 (by omega);have t12:=w12.top;have el:zL (((2^log:Nat):Int)-1)=((2^log:Nat):Int)-1:=zH (by omega) (by omega);rw[el];refine⟨_,h11,e2,_,h12,e3,Has.nil.on λtm hs=>?_⟩
 have ix:RsI h h12 h11.next h1.next h.next (2^log) log v (2^log) (List.replicate (2^log) 0):=⟨cs9,cs,w12,by rw[<-zO7];exact row9,by rw[wV];exact row⟩;clear w12 w11 row row9 e2 e3 e11 e12 t11 t12;generalize h11.next=b9 at hs ix;generalize h1.next=b8 at hs ix;refine wpC.round (λk tm h'=>∃(i n:Nat) (xs:List Int),i<=l.length/\k=l.length-i/\RsI h h' b9 b8 h.next (2^log) log v n xs /\
  qX (l.drop i) i n xs=qX l 0 (2^log) (List.replicate (2^log) 0)/\n+zz l=2^log+zz (l.drop i)/\n<=2^log /\
  Has tm [(11,.int .i64 i),(1,.ptr h.next 0),(8,.slice b8 0 (2^log) (.exact (2^log))),(10,.int .i64 ((n:Int)-1)),(9,.slice b9 0 (2^log) (.exact (2^log))),(6,.int .i64 (Y2 log:Nat)),(5,.int .i64 (2^log:Nat))]) l.length
  ⟨0,2^log,_,by omega,by omega,ix,rfl,rfl,oO _,hs.sub (by kernel_rfl)⟩ ?_
 clear hs ix;rintro k tm h' ⟨i,n,xs,hi1,rfl,ix,hR,hN,hnl,hs⟩;have slk:=sl.ext ix.ex;refine wpC.at hs zQe rfl rfl ?_;rw[zm];refine⟨v,ix.dist,_,slk.len zQ rfl,λc1=>?_,λc1=>hs.on λtm' hs'=>?_⟩
 ·rw[zm]
  have hil:i<l.length:=by omega
  have hd:=xW hil;have hnr:=OH hil;obtain⟨pb,po,a1,a2⟩:=slk.at1 (u:=.int .i64 l[i]) hil zQ rfl zi rfl rfl (by rw[oU,oM hil];rfl);have e:zL ((i:Int)+1)=((i+1:Nat):Int):=by rw[zH (by omega) (by omega)];rfl
  refine⟨v,ix.dist,pb,po,a1,_,a2,λc2=>?_,λc2=>hs.on λtm' hs'=>?_⟩
  ·rw[if_pos c2]at hnr
   have en:(n:Int)-1=((n-1:Nat):Int):=by omega
   obtain⟨h3,e3,i3⟩:=ix.put (i:Int) (j:=n-1) (by omega) (by omega);obtain⟨h4,e4,i4⟩:=i3.mark (by omega) hnl (by omega);rw[en]at hs ⊢;refine⟨b8,n-1,zr zQ rfl zi rfl (by omega),h3,e3,b9,n-1,zr zBR rfl ty4 rfl (by omega),h4,e4,hs.on λtm' hs'=>⟨rfl,rfl,l.length-(i+1),by omega,i+1,n-1,_,by omega,rfl,i4,?_,by omega,by omega,?_⟩⟩
   ·rw[<-hR,hd]
    exact(if_pos c2).symm
   ·have e2:zL (((n-1:Nat):Int)-1)=((n-1:Nat):Int)-1:=zH (by omega) (by omega)
    have q:=hs'.sub (l':=[(11,.int .i64 (zL ((i:Int)+1))),(1,.ptr h.next 0),(8,.slice b8 0 (2^log) (.exact (2^log))),(10,.int .i64 (zL (((n-1:Nat):Int)-1))),(9,.slice b9 0 (2^log) (.exact (2^log))),(6,.int .i64 (Y2 log:Nat)),(5,.int .i64 (2^log:Nat))]) (by kernel_rfl);rw[e,e2]at q;exact q
  ·rw[if_neg c2]at hnr
   refine⟨rfl,rfl,l.length-(i+1),by omega,i+1,n,xs,by omega,rfl,ix,?_,by omega,hnl,?_⟩
   ·rw[<-hR,hd]
    exact(if_neg c2).symm
   ·rw[<-e];exact hs'.sub (by kernel_rfl)
 have hil:i=l.length:=by omega
 subst hil;rw[List.drop_length]at hR hN;have hn9:n=2^log-zz l:=by have:zz []=0:=rfl;omega
 subst hn9;have hx0:xs=qX l 0 (2^log) (List.replicate (2^log) 0):=hR;subst hx0;refine thenC.left (wpS.at hs' zRj rfl rfl (hs'.on λtm2 hs2=>?_));refine wpC.round (λk tm h'=>∃(i n:Nat) (xs:List Int),i<=l.length/\k=l.length-i/\RsI h h' b9 b8 h.next (2^log) log v (2^log-zz l) xs /\
  ZE log (zz l) (l.drop i) i n xs=zh log l /\
  Has tm [(13,.int .i64 i),(1,.ptr h.next 0),(12,.int .i64 (YR log (zz l) n:Nat)),(8,.slice b8 0 (2^log) (.exact (2^log))),(9,.slice b9 0 (2^log) (.exact (2^log))),(6,.int .i64 (Y2 log:Nat)),(5,.int .i64 (2^log:Nat))]) l.length
  ⟨0,0,_,by omega,by omega,ix,rfl,hs2.sub (by kernel_rfl)⟩ ?_
 clear hs hs2 hs' ix hR hN hnl slk;rintro k tm h' ⟨i,n,xs,hi1,rfl,ix,hR,hs⟩;have slk:=sl.ext ix.ex;refine wpC.at hs zQh rfl rfl ?_;rw[zm];refine⟨v,ix.dist,_,slk.len zQ rfl,λc1=>hs.on λtm1 hs1=>?_,λc1=>hs.on λtm' hs'=>?_⟩
 rotate_left
 ·have hil:i=l.length:=by omega
  subst hil;rw[List.drop_length]at hR;have hx:xs=zh log l:=hR;subst hx;obtain⟨c9,c8,w,r9,r8⟩:=ix;refine thenC.left (wpS.at hs' zRi rfl rfl (hs'.on λtm3 hs3=>hs3.slt λtm4 hs4=>endW.r2 (hs4.get rfl) (hs4.get rfl) ?_))
  exact hq h' _ (w.ex0.mono (by omega)) (r8.sl (w.lt 1 rfl) (w.get 1 rfl))
 have hil:i<l.length:=by omega
 have hd:=xW hil;have e:zL ((i:Int)+1)=((i+1:Nat):Int):=by rw[zH (by omega) (by omega)];rfl
 have hb64:=XG g.low (oQ hil);rw[g.pts]at hb64;have hpc:((2^log:Nat):Int)=2^log:=by simp
 rw[hd]at hR;unfold ZE at hR;have hgi:l[i]? = some l[i]:=oM hil;generalize l[i]=x at hgi hR hb64;refine wpC.round (λk tm h'=>∃(j:Nat) (xs1:List Int),j<=x.toNat/\k=x.toNat-j/\RsI h h' b9 b8 h.next (2^log) log v (2^log-zz l) xs1 /\
  ZD log (zz l) i (x.toNat-j) (n+j) xs1=ZD log (zz l) i x.toNat n xs /\
  Has tm [(14,.int .i64 j),(1,.ptr h.next 0),(13,.int .i64 i),(8,.slice b8 0 (2^log) (.exact (2^log))),(12,.int .i64 (YR log (zz l) (n+j):Nat)),(6,.int .i64 (Y2 log:Nat)),(5,.int .i64 (2^log:Nat)),(9,.slice b9 0 (2^log) (.exact (2^log)))]) x.toNat
  ⟨0,xs,by omega,by omega,ix,rfl,hs1.sub (by kernel_rfl)⟩ ?_
 clear hs hs1 ix slk;rintro k tm h' ⟨j,xs1,hj1,rfl,ix,hP,hs⟩;have slk:=sl.ext ix.ex;obtain⟨pb,po,a1,a2⟩:=slk.at1 (u:=.int .i64 x) hil zQ rfl zi rfl rfl (by rw[oU,hgi];rfl);refine wpC.at hs zQg rfl rfl ?_;rw[zm];refine⟨v,ix.dist,pb,po,a1,x,a2,λc1=>?_,λc1=>hs.on λtm' hs'=>?_⟩
 ·have hj:j<x.toNat:=by omega
  have hpl:=ZB hlg hr12 (n+j);have e2:zL ((j:Int)+1)=((j+1:Nat):Int):=by rw[zH (by omega) (by omega)];rfl
  obtain⟨h3,e3,i3⟩:=ix.put (i:Int) (j:=YR log (zz l) (n+j)) (by omega) (by omega);refine⟨b8,YR log (zz l) (n+j),zr zQ rfl zi rfl (by omega),h3,e3,by omega,hs.on λtm1 hs1=>?_⟩
  rw[zYB hlg (by omega)]at hs1;refine zOI (log:=log) (y1:=.ptr h.next 0) (y8:=.slice b8 0 (2^log) (.exact (2^log))) (y14:=.int .i64 j) (y13:=.int .i64 i) (f:=13) (tgt:=YR log (zz l) (n+(j+1))) hlg i3 (Nat.mod_lt _ (Nat.pow_pos (by decide))) rfl (ZB hlg hr12 _) (hs1.sub (by kernel_rfl)) λtm2 hs2=>?_
  refine thenC.out2 ?_;refine wpS.at hs2 zRg rfl rfl (hs2.on λtm3 hs3=>hs3.slt λtm4 hs4=>⟨rfl,rfl,x.toNat-(j+1),by omega,j+1,_,by omega,rfl,i3,?_,?_⟩)
  ·rw[<-hP,show x.toNat-j=(x.toNat-(j+1))+1 by omega]
   rfl
  ·rw[<-e2];exact hs4.sub (by kernel_rfl)
 ·have hj:j=x.toNat:=by omega
  subst hj;rw[Nat.sub_self]at hP;have hx1:xs1=ZD log (zz l) i x.toNat n xs:=hP;subst hx1;refine thenC.left2 ?_;refine wpS.at hs' zRh rfl rfl (hs'.on λtm3 hs3=>hs3.slt λtm4 hs4=>⟨rfl,rfl,l.length-(i+1),by omega,i+1,n+x.toNat,_,by omega,rfl,ix,hR,?_⟩)
  rw[<-e];exact hs4.sub (by kernel_rfl)
theorem _root_.Go.Sim.Ow.set {cx:Ctx}{h:H}{v u:V}{te ti:TI}{n t e j:Nat}{xs:List V}(s:Ow h v te n xs) (hj:j<n) (ht:cx.ty.get t=some ti) (hd:ti.desc = .slice e) (he:cx.ty.get e=some te) (hs:te.size=1) (hu:u.cells=[u]) (ho:u.one=true) (hn:h.next<=T.top) :
  ∃b h',ym v=some b/\zV cx t v (.int .i64 j)=some (.ptr b j)/\yA cx e h (.ptr b j) u=some h'/\Ow h' v te n (xs.set j u)/\h'.next=h.next/\ExtX (λi=>ym v=some i) h h' 0:=by
 obtain⟨h0,⟨rfl,hz⟩|⟨b,cs,rfl,hb,hg,hw,hl,hc⟩⟩:=s
 ·omega
 ·obtain⟨cs',p1,p2⟩:=Cs.put_some (cs:=cs) hw (o:=j) (vs:=[u]) (by rw[hl,hs];simp;omega)
  obtain⟨_,p3,p4⟩:=Cs.put_eq p1;have hbt:b<T.top:=by omega
  refine⟨b,h.upd b (some (.cells cs' (wv te) true true)),rfl,zr ht hd he hs hj,k9 he hg (yO.2 (by rw[hu,hs];rfl)) (oJ _) (by rw[hu];simp[zU,ho]) (by rw[hu];exact p1),⟨by rw[oc];exact h0,.inr ⟨b,cs',rfl,hb,xp _ hbt,p2,by rw[p3,hl],λi hi=>?_⟩⟩,rfl,(ExtX.refl0 _ _).upd _ hbt (.inl rfl)⟩
  rw[p4];by_cases c1:i=j
  ·subst c1
   rw[if_pos ⟨oO _,by simp⟩,Nat.sub_self,List.getElem?_set_self (by rw[h0,hs];omega)];rfl
  ·rw[if_neg (by simp;omega),oW (λq=>c1 q.symm)]
   exact hc i hi
open Go (Oper)
theorem _root_.Go.Sim.aop_idx {c:Ctx}{o:Oper}{t:Nat}{a x:Go.Operand}{e:Go.Operand->Option V}{h:H}{p v w:V}(ho:o.op = .indexAddr t a x) (he:e a=some p) (hx:e x=some v) (hs:zV c t p v=some w):yD c o e h=some (.val w h):=by
 unfold yD;simp only[ho,he,hx,hs];rfl
section
variable (tm:Tm) (y16 y9 v62 v66 v67 v68 v69 v71 v72 v73 v74 v75 v76 v77 v78 v81 v82 v83 v84 v85 v86 v87:V) (j x:Int) (pa ps pq pr:Nat)
variable (t0:Tm) (s:List UInt8) (left:Nat) (z w:Int)
variable (h:H)
end
end Go.Proofs.YtnpeieeomokomaaGreat
