/- TH. No condition. -/
import Derived.Test.YtnpeieeomokomaaGreatZTG
import Derived.Test.YtnpeieeomokomaaGreatZCF
import Derived.Test.YtnpeieeomokomaaGreatZZ
namespace Go.Proofs.YtnpeieeomokomaaGreat
open Go.Sim
theorem fa_dist0 {p o:Nat} {h:H} {k:V→H→Prop}:wpFA ctx 59 0 h (.ptr p o) k=k (.ptr p (o+0)) h:=by kernel_rfl
theorem fa_dist1 {p o:Nat} {h:H} {k:V→H→Prop}:wpFA ctx 59 1 h (.ptr p o) k=k (.ptr p (o+1)) h:=by kernel_rfl
set_option maxRecDepth 100000 in
theorem resK0 {k:V→H→Prop} {h:H} (hk:k (.tuple []) h):resK ctx 0 k (.tuple []) h:=⟨rfl,hk⟩
theorem wpCs_two {h:H} {v:V} {e n:Nat} {xs:List V} (s:Sl h v e n xs) {a:Int} {k:Cs→Prop} (hk:k (.ls [.int .i64 a,v])):wpCs (cond (allOne (V.cells (.agg [(.int .i64 a),v]))) (Cs.ofL (V.cells (.agg [(.int .i64 a),v]))) none) k:=by
 obtain ⟨_,⟨rfl,_⟩ | ⟨b,o,cp,cs,k,w,op,rfl,_⟩⟩:=s
 ·exact hk
 ·exact hk
set_option maxRecDepth 100000 in
theorem minInts_ok {v:V} {l:List Int} {m:Int} {h:H} {Q:V→H→Prop} (sl:Sl h v 1 l.length (ints l)) (hl:l.length≤1000) (h0:1≤l.length) (hx:∀ x∈l,m≤x) (hq:∀ x,m≤x→Q (.int .i64 x) h):RF P ctx 242 [v] h Q:=by
 refine RF.enterS ctx_ok fn242 (ble _ _ rfl) (ble _ _ rfl) vb242 ⟨_,sl.len ty23 rfl,fun c=>by omega,fun _=>Has.nil.on fun tm hs=>?_⟩
 have at':∀ i,i<l.length→∃ x b o,m≤x∧aidx ctx 23 v (.int .i64 (i:Nat))=some (.ptr b o)∧ald ctx 3 h (.ptr b o)=some (.int .i64 x):=fun i hi=>by
  obtain ⟨b,o,e1,e2⟩:=sl.at1 (u:=.int .i64 l[i]) hi ty23 rfl ty3 rfl rfl (by rw [List.getElem?_map,List.getElem?_eq_getElem hi]; rfl)
  exact ⟨_,b,o,hx _ (List.getElem_mem hi),e1,e2⟩
 obtain ⟨x,b,o,hx0,e1,e2⟩:=at' 0 (by omega)
 refine wpS.at hs vr242_2 rfl rfl ⟨b,o,e1,x,e2,hs.on fun tm' hs'=>?_⟩
 clear hs
 refine wpC.round (fun k tm h'=>∃ (i:Nat) (x:Int),i≤l.length∧k=l.length-i∧h'=h∧m≤x∧Has tm [(4,.int .i64 i),(0,v),(3,.int .i64 x)]) (l.length-1) ⟨1,x,by omega,rfl,rfl,hx0,hs'.sub rfl⟩ ?_
 rintro k tm h' ⟨i,x,h1,rfl,rfl,h2,hs⟩
 refine wpC.at hs vl242_0 rfl rfl ⟨_,sl.len ty23 rfl,fun c=>?_,fun c=>hs.on fun tm' hs'=>?_⟩
 ·obtain ⟨y,b,o,hy,e1,e2⟩:=at' i (by omega)
  have e:w64 ((i:Int)+1)=((i+1:Nat):Int):=by rw [w64_id (by omega) (by omega)]; rfl
  refine ⟨b,o,e1,y,e2,hs.on fun tm' hs'=>⟨rfl,rfl,l.length-(i+1),by omega,i+1,min x y,by omega,rfl,rfl,Int.le_min.2 ⟨h2,hy⟩,?_⟩⟩
  rw [← e]; exact hs'.sub rfl
 ·refine thenC.left (wpS.at hs' vr242_1 rfl rfl (hs'.on fun tm2 hs2=>hs2.slt fun tm3 hs3=>?_))
  exact endW.r1 (hs3.get rfl) (hq x h2)
theorem pts_nonneg {l:List Int} (h:∀ x∈l,-1≤x):0≤pts l:=by
 have:=nput_pts h
 omega
theorem pts_take {l:List Int} (h:∀ x∈l,-1≤x) (i:Nat):0≤pts (l.take i)∧pts (l.take i)≤pts l:=by
 have h1:=pts_nonneg (l:=l.take i) fun x hx=>h x (List.mem_of_mem_take hx)
 have h2:=pts_nonneg (l:=l.drop i) fun x hx=>h x (List.mem_of_mem_drop hx)
 have h3:=pts_app (l.take i) (l.drop i)
 rw [List.take_append_drop] at h3
 omega
set_option maxRecDepth 100000 in
theorem points_ok {v:V} {log:Int} {l:List Int} {h:H} {Q:V→H→Prop} (sl:Sl h v 1 l.length (ints l)) (hl:l.length≤1000) (hx:∀ x∈l,-1≤x) (hp:pts l≤1048576) (hn:h.next+2≤T.top)
  (hq:∀ h',Ext h h' 2→Q (.int .i64 (pts l)) h'):RF P ctx 243 [.agg [.int .i64 log,v]] h Q:=by
 refine RF.enterS ctx_ok fn243 (ble _ _ rfl) (ble _ _ rfl) vb243 (wpCs_two sl ⟨by omega,?_⟩)
 rintro p0 h1 rfl e1
 have w1:=(Vw.nil (S:=none0) (h:=h)).new e1 (by omega)
 have t1:=w1.top
 refine ⟨rfl,by omega,?_⟩
 rintro p3 h4 rfl e4
 have w4:=w1.new e4 (by omega)
 have t4:=w4.top
 obtain ⟨h5,e5,w5,n5,_⟩:=w4.st (cx:=ctx) 0 (f:=0) (u:=.int .i64 0) rfl (by omega) ty3 rfl (Nat.zero_le _) rfl rfl
 refine ⟨h5,e5,v,w5.ld1 1 rfl ty23 rfl rfl,_,(sl.ext w5.ex0).len ty23 rfl,Has.nil.on fun tm hs=>?_⟩
 refine wpC.round (fun k tm h'=>∃ i:Nat,i≤l.length∧k=l.length-i∧Vw none0 h h' 2 [(h1.next,.cells (.ls [.int .i64 (pts (l.take i))]) ⟨0,3+1,0⟩ true false),(h.next,.cells (.ls [.int .i64 log,v]) ⟨0,59+1,0⟩ true false)] ∧
  Has tm [(11,.int .i64 i),(10,.int .i64 l.length),(9,v),(4,.func (.func 286) [] [.ptr h1.next 0]),(3,.ptr h1.next 0)]) l.length ⟨0,by omega,by omega,w5,hs.sub rfl⟩ ?_
 clear hs w5 e5 n5
 rintro k tm h' ⟨i,hi1,rfl,w,hs⟩
 have tw:=w.top
 refine wpC.at hs vl243_0 rfl rfl ⟨fun c=>?_,fun c=>hs.on fun tm' hs'=>?_⟩
 ·have hi:i<l.length:=by omega
  have hg:l[i]? = some l[i]:=List.getElem?_eq_getElem hi
  obtain ⟨b,o,e1,e2⟩:=(sl.ext w.ex0).at1 (u:=.int .i64 l[i]) hi ty23 rfl ty3 rfl rfl (by rw [List.getElem?_map,hg]; rfl)
  have ht:l.take (i+1)=l.take i++[l[i]]:=by rw [List.take_add_one,hg]; rfl
  have hr:=hx l[i] (List.getElem_mem hi)
  have hb:=pts_take hx i
  have hb2:=pts_take hx (i+1)
  generalize l[i]=x at hg e2 ht hr
  have e:w64 ((i:Int)+1)=((i+1:Nat):Int):=by rw [w64_id (by omega) (by omega)]; rfl
  have hw:pts (l.take (i+1))=pts (l.take i)+pt x:=by rw [ht,pts_app,pts_one]
  refine ⟨b,o,e1,x,e2,fun c2=>?_,fun c2=>?_⟩
  ·show RF P ctx 286 [.int .i64 1,.ptr h1.next 0] h' _
   have hp1:pt x=1:=by unfold pt; rw [if_pos c2]
   have es:min (w64 (pts (l.take i)+1)) 1048576=pts (l.take (i+1)):=by rw [w64_id (by omega) (by omega)]; omega
   obtain ⟨h6,e6,w6,n6,_⟩:=w.st (cx:=ctx) 0 (f:=0) (u:=.int .i64 (pts (l.take (i+1)))) rfl (by omega) ty3 rfl (Nat.zero_le _) rfl rfl
   refine RF.enterS ctx_ok fn286 (ble _ _ rfl) (ble _ _ rfl) vb286 ⟨_,w.ld1 0 rfl ty3 rfl rfl,h6,by rw [es]; exact e6,?_⟩
   refine resK0 (hs.on fun tm' hs'=>⟨rfl,rfl,l.length-(i+1),by omega,i+1,by omega,rfl,w6,?_⟩)
   rw [← e]; exact hs'.sub rfl
  ·show RF P ctx 286 [.int .i64 (min x 1048576),.ptr h1.next 0] h' _
   have hp1:pt x=x:=by unfold pt; rw [if_neg c2]
   have es:min (w64 (pts (l.take i)+min x 1048576)) 1048576=pts (l.take (i+1)):=by rw [w64_id (by omega) (by omega)]; omega
   obtain ⟨h6,e6,w6,n6,_⟩:=w.st (cx:=ctx) 0 (f:=0) (u:=.int .i64 (pts (l.take (i+1)))) rfl (by omega) ty3 rfl (Nat.zero_le _) rfl rfl
   refine RF.enterS ctx_ok fn286 (ble _ _ rfl) (ble _ _ rfl) vb286 ⟨_,w.ld1 0 rfl ty3 rfl rfl,h6,by rw [es]; exact e6,?_⟩
   refine resK0 (hs.on fun tm' hs'=>⟨rfl,rfl,l.length-(i+1),by omega,i+1,by omega,rfl,w6,?_⟩)
   rw [← e]; exact hs'.sub rfl
 ·have hi:i=l.length:=by omega
  subst hi
  rw [List.take_length] at w
  refine thenC.left (wpS.at hs' vr243_1 rfl rfl ⟨_,w.ld1 0 rfl ty3 rfl rfl,hs'.on fun tm2 hs2=>?_⟩)
  exact endW.r1 (hs2.get rfl) (hq _ w.ex0)
set_option maxRecDepth 100000 in
theorem distCheck_ok {v:V} {log:Nat} {l:List Int} {h:H} {Q:V→H→Prop} (sl:Sl h v 1 l.length (ints l)) (g:GD log l) (hq:Q (.int .i64 0) h):RF P ctx 173 [.agg [.int .i64 log,v]] h Q:=by
 show RF P ctx 173 ((fun v=>V.agg ([.int .i64 log]++[v]) :: []) v) h Q
 refine RF.ro (One.struct (plainL_out rfl) (fun a ha=>(by cases ha))) sl (plain_ints l) (plain_int _ _) (fun v0 h0 s0 hn0 hl0=>?_) hq
 clear sl hq h Q v
 have ht:=zt
 have hpos:=g.pos
 have hlen:=g.len
 have hlg:=g.lg
 have hp:=g.pts
 have hpw:=pow_log g.lg
 have hpc:((2^log:Nat):Int)=2^log:=by simp
 show RF P ctx 173 [.agg [.int .i64 log,v0]] h0 _
 refine RF.enterS ctx_ok fn173 (ble _ _ rfl) (ble _ _ rfl) vb173 (wpCs_two s0 ⟨by omega,?_⟩)
 rintro p0 h1 rfl e1
 have w1:=(Vw.nil (S:=none0) (h:=h0)).new e1 (by omega)
 have t1:=w1.top
 refine ⟨_,w1.ld1 0 rfl ty3 rfl rfl,fun c=>by omega,fun _=>⟨_,w1.ld1 0 rfl ty3 rfl rfl,fun c=>by omega,fun _=>Has.nil.on fun tm hs=>?_⟩⟩
 refine wpS.at hs vr173_0 rfl rfl ?_
 rw [fa_dist1]
 have s1:=s0.ext w1.ex0
 refine ⟨v0,w1.ld1 0 rfl ty23 rfl rfl,_,s1.len ty23 rfl,⟨by omega,by have:=w1.low; omega⟩,fun c=>by omega,fun _=>⟨fun c=>by omega,fun _=>?_⟩⟩
 rw [fa_dist1]
 have hlast:l[l.length-1]? = some l[l.length-1]:=List.getElem?_eq_getElem (by omega)
 obtain ⟨b,o,a1,a2⟩:=s1.at1 (u:=.int .i64 l[l.length-1]) (i:=l.length-1) (by omega) ty23 rfl ty3 rfl rfl (by rw [List.getElem?_map,hlast]; rfl)
 have hne:l[l.length-1]≠0:=fun e=>g.last (by rw [List.getLast?_eq_getElem?,hlast,e])
 refine ⟨v0,w1.ld1 0 rfl ty23 rfl rfl,b,o,?_,_,a2,fun c=>absurd c hne,fun _=>?_⟩
 ·rw [w64_id (by omega) (by omega),show ((l.length:Nat):Int)-1=((l.length-1:Nat):Int) by omega]; exact a1
 rw [fa_dist1]
 have sT:Sl (topH h1) v0 1 l.length (ints l):=s1
 refine ⟨v0,w1.ld1 0 rfl ty23 rfl rfl,minInts_ok sT (by omega) hpos g.low fun x hx=>⟨x,rfl,(show h1.next≤T.top by omega),?_⟩⟩
 intro h16 e16
 have hx2:=low_id (h:=h1) (by omega) (by have:=w1.low; omega)
 rw [hx2.2] at e16
 subst h16
 refine ⟨fun c=>by omega,fun _=>⟨_,_,w1.ldA 0 rfl ty59 rfl rfl,?_⟩⟩
 refine points_ok sT (by omega) g.low (by omega) (show h1.next+2≤T.top by omega) fun h20 x20=>⟨_,rfl,?_⟩
 have xd:=Ext.drawn x20 (by omega)
 have t20:=x20.top
 refine ⟨⟨xd.1,(show h20.next≤T.top by have:(topH h1).next=h1.next:=rfl; omega)⟩,?_⟩
 intro h22 e22
 rw [← e22] at xd
 have w2:=w1.ext xd.2
 rw [fa_dist0]
 refine ⟨_,w2.ld1 0 rfl ty3 rfl rfl,((1*2^log:Nat):Int),shlN_i64 (a:=1) (by omega) (by omega),fun c=>absurd ?_ c,fun _=>hs.on fun tm2 hs2=>?_⟩
 ·rw [hp,Nat.one_mul,hpc]
 ·exact endW.r1 (hs2.get rfl) rfl
end Go.Proofs.YtnpeieeomokomaaGreat
namespace Go.Proofs.YtnpeieeomokomaaGreat
open Go.Sim
theorem step_ok {log:Nat} (hl:log=5∨log=6) {h:H} {Q:V→H→Prop} (hq:Q (.int .i64 (stp log:Nat)) h):RF P ctx 324 [.int .i64 log] h Q:=by
 have hp:=pow_log hl
 refine RF.enterS ctx_ok fn324 (ble _ _ rfl) (ble _ _ rfl) vb324 ⟨((1*2^log:Nat):Int),shlN_i64 (a:=1) (by omega) (by omega),((1*2^log/2^1:Nat):Int),shrN_i64 (n:=1) (by decide),((1*2^log/2^3:Nat):Int),shrN_i64 (n:=3) (by decide),?_⟩
 have e:w64 (w64 (((1*2^log/2^1:Nat):Int)+((1*2^log/2^3:Nat):Int))+3)=((stp log:Nat):Int):=by
  rw [Nat.one_mul]
  unfold stp
  rw [w64_id (n:=((2^log/2^1:Nat):Int)+((2^log/2^3:Nat):Int)) (by omega) (by omega),w64_id (by omega) (by omega)]
  omega
 rw [e]
 exact hq
set_option maxRecDepth 100000 in
theorem resKb {k:V→H→Prop} {h:H} (hk:k (.bool true) h):resK ctx 4 k (.bool true) h:=⟨true,rfl,fun _=>hk,fun g=>(by cases g)⟩
theorem notTrue {k:Bool→Prop} (hk:k false):wpUn .not (.bool true) (fun v=>wpPick v k):=hk
theorem exitB_n (i:Nat):exitB i .normal = .normal:=rfl
theorem thenC.left2 {i j:Nat} {K I:St→Prop} {R:AX→St→Prop} {s:St} (h:K s):thenC I (fun e s1=>(fun e s1=>(fun e s1=>thenC K R (exitB j e) s1) (exitB i e) s1) e s1) (.exit i) s:=by
 show thenC K R (exitB j (exitB i (.exit i))) s
 rw [exitB_it]
 exact h
theorem thenC.out2 {i j:Nat} {K:St→Prop} {R:AX→St→Prop} {s:St} (h:K s):thenC K R (exitB j (exitB i (.exit i))) s:=by
 rw [exitB_it]
 exact h
noncomputable abbrev oLp (tm:Tm) (df:Nat):O:=.loop .ready none 26 tm #[19,20] a274_0 g274_1 df
noncomputable abbrev oLpB (tm:Tm) (df:Nat):O:=.loop .busy none 26 tm #[19,20] a274_0 g274_1 df
abbrev oVar (v:V):O:=.cells (.ls [v]) ⟨0,23+1,0⟩ true false
theorem ints_set (l:List Int) (j:Nat) (x:Int):ints (l.set j x)=(ints l).set j (.int .i64 x):=by simp [ints,List.map_set]
theorem ints_repl (n:Nat):ints (List.replicate n 0)=List.replicate n (.int .i64 0):=by simp [ints]
structure SpI (hb h:H) (c r l df pc p12 b p0 n:Nat) (tm:Tm) (dc:O) (f:Int→Option V) (xs:List Int):Prop where
 vw:∃ o cs,Vw none0 hb h c [(r,o),(l,oLp tm df),(df,.deferred true),(pc,dc),(p12,oVar (.slice b 0 n (.exact n))),(b,oRow cs),(p0,dc)]∧Row cs n (ints xs)
 mp:MapI h r f
set_option maxRecDepth 100000 in
theorem SpI.round {hb h:H} {c r l df pc p12 b p0 n:Nat} {tm:Tm} {dc:O} {f:Int→Option V} {xs:List Int} {j:Nat} {s:Int} {Q:V→H→Prop} (i:SpI hb h c r l df pc p12 b p0 n tm dc f xs) (ht:Has tm [(5,.ptr p12 0)]) (hj:j<n) (hn:h.next≤T.top)
  (hq:∀ h',SpI hb h' c r l df pc p12 b p0 n tm dc f (xs.set j s)→h'.next=h.next→Q (.bool true) h'):RR P l [.int .i64 j,.int .i64 s] h Q:=by
 obtain ⟨⟨o,cs,w,row⟩,mp⟩:=i
 have hl:l<T.top:=Nat.lt_of_lt_of_le (w.lt 1 rfl) hn
 refine RR.intro hl (w.get 1 rfl) rfl (RC.of_wp ctx_ok a274_0 ?_)
 refine wpC.sealS va274_0 (ht.on fun tm1 hs1=>?_)
 refine ⟨rfl,_,_,_,_,_,_,_,w.get 1 rfl,RC.of_wp ctx_ok g274_1 ?_⟩
 have w1:=w.upd 1 (o':=oLpB tm df) rfl hn
 show wpC P ctx true (slim g274_1) ⟨26,tm1,[],h.upd l (some (oLpB tm df))⟩ _
 have n1:(h.upd l (some (oLpB tm df))).next=h.next:=rfl
 generalize h.upd l (some (oLpB tm df))=h1 at w1 n1 ⊢
 obtain ⟨h2,cs2,e2,row2,w2,n2⟩:=w1.set (cx:=ctx) 5 (j:=j) (u:=.int .i64 s) row rfl (by omega) hj ty3 rfl rfl rfl rfl
 refine wpC.at hs1 vg274_1 rfl rfl ⟨_,w1.ld1 4 rfl ty23 rfl rfl,b,j,aidx_row ty23 rfl ty3 rfl hj,h2,e2,hs1.on fun tm2 hs2=>?_⟩
 have g2:=w2.get 1 rfl
 show (match roundEnd l .normal ⟨26,tm2,[],h2⟩ with | some (.ret v h')=>Q v h' | _=>False)
 simp only [roundEnd,g2]
 have w3:=w2.upd 1 (o':=oLp tm df) rfl (by omega)
 refine hq _ ⟨⟨o,cs2,w3,by rw [ints_set]; exact row2⟩,mp.mono ((w3.get 0 rfl).trans (w.get 0 rfl).symm)⟩ ?_
 show h2.next=h.next
 omega
def tkn (size n:Nat):Int→Option V:=fun k=>if (n:Int)≤k∧k<size then some (.bool true) else none
theorem tkn_none (size:Nat):tkn size size=fun _=>none:=by
 funext k
 unfold tkn
 rw [if_neg (by omega)]
theorem tkn_next {size n:Nat} (h:n≤size) (h0:0<n):(fun j=>if j=((n-1:Nat):Int) then some (.bool true) else tkn size n j)=tkn size (n-1):=by
 funext k
 unfold tkn
 by_cases c:k=((n-1:Nat):Int)
 ·rw [if_pos c,if_pos (by omega)]
 ·rw [if_neg c]
  by_cases c2:(n:Int)≤k∧k<size
  ·rw [if_pos c2,if_pos (by omega)]
  ·rw [if_neg c2,if_neg (by omega)]
set_option maxRecDepth 100000 in
theorem SpI.taken {hb h:H} {c r l df pc p12 b p0 n size m:Nat} {tm:Tm} {dc:O} {xs:List Int} {p:Nat} (i:SpI hb h c r l df pc p12 b p0 n tm dc (tkn size m) xs) (hp:p<size) :
  alook ctx 377 h (.map r) (.int .i64 p) false=some (.bool (decide (m≤p))):=by
 rw [i.mp.look ty377 rfl ty3 rfl ty4 rfl]
 unfold tkn
 by_cases c:m≤p
 ·rw [if_pos (by omega),decide_eq_true c]; rfl
 ·rw [if_neg (by omega),decide_eq_false c]; rfl
theorem SpI.top {hb h:H} {c r l df pc p12 b p0 n:Nat} {tm:Tm} {dc:O} {f:Int→Option V} {xs:List Int} (i:SpI hb h c r l df pc p12 b p0 n tm dc f xs):h.next≤hb.next+c:=by
 obtain ⟨⟨o,cs,w,row⟩,mp⟩:=i
 exact w.top
theorem SpI.ex {hb h:H} {c r l df pc p12 b p0 n:Nat} {tm:Tm} {dc:O} {f:Int→Option V} {xs:List Int} (i:SpI hb h c r l df pc p12 b p0 n tm dc f xs):Ext hb h c:=by
 obtain ⟨⟨o,cs,w,row⟩,mp⟩:=i
 exact w.ex0
theorem adv_i64 {log p:Nat} (hl:log=5∨log=6) (hp:p<2^log):intB .and .i64 (w64 ((p:Int)+(stp log:Nat))) (w64 (((2^log:Nat):Int)-1))=some (.int .i64 (((p+stp log) % 2^log:Nat):Int)):=by
 have h1:=pow_log hl
 have h2:stp log≤2^log+3:=by unfold stp; omega
 rw [w64_id (n:=(p:Int)+(stp log:Nat)) (by omega) (by omega),w64_id (by omega) (by omega),show ((2^log:Nat):Int)-1=((2^log-1:Nat):Int) by omega,show (p:Int)+(stp log:Nat)=((p+stp log:Nat):Int) from rfl,andN_i64 (by omega) (by omega),and_mask]
set_option maxRecDepth 100000 in
theorem walk_ok {hb h:H} {c r l df pc p12 b p0 n m log:Nat} {tm0:Tm} {v:V} {xs:List Int} {f p tgt:Nat} {tm:Tm} {R:AX→St→Prop} {y0 x47 x46 x9 x40 x39 x38:V} (hl:log=5∨log=6) (i:SpI hb h c r l df pc p12 b p0 n tm0 (oD log v) (tkn (2^log) (2^log-m)) xs) (hp:p<2^log) (hx:nxt log m f p=tgt) (ht:tgt<2^log-m)
  (hs:Has tm [(4,.map r),(8,.int .i64 p),(1,.ptr pc 0),(3,.int .i64 (2^log:Nat)),(0,y0),(47,x47),(46,x46),(9,x9),(40,x40),(39,x39),(38,x38)])
  (hq:∀ tm',Has tm' [(4,.map r),(8,.int .i64 tgt),(1,.ptr pc 0),(3,.int .i64 (2^log:Nat)),(0,y0),(47,x47),(46,x46),(9,x9),(40,x40),(39,x39),(38,x38)]→R (.exit 6) ⟨75,tm',[],h⟩) :
  wpC P ctx false (.loop l323_1) ⟨75,tm,[],h⟩ R:=by
 refine wpC.round (fun k tm h'=>h'=h∧∃ p,p<2^log∧nxt log m k p=tgt∧Has tm [(4,.map r),(8,.int .i64 p),(1,.ptr pc 0),(3,.int .i64 (2^log:Nat)),(0,y0),(47,x47),(46,x46),(9,x9),(40,x40),(39,x39),(38,x38)]) f ⟨rfl,p,hp,hx,hs⟩ ?_
 clear hs hp hx
 rintro k tm h' ⟨rfl,p,hp,hx,hs⟩
 refine wpC.at hs vl323_1 rfl rfl ⟨_,i.taken hp,fun c=>?_,fun c=>hs.on fun tm' hs'=>?_⟩
 ·have c:=of_decide_eq_true c
  cases k with
  | zero=>have:p=tgt:=hx; omega
  | succ k =>
   unfold nxt at hx
   rw [if_neg (by omega)] at hx
   obtain ⟨⟨o,cs,w,row⟩,mp⟩:=i
   rw [fa_dist0]
   refine ⟨_,w.ld1 3 rfl ty3 rfl rfl,step_ok hl ⟨_,rfl,_,adv_i64 hl hp,hs.on fun tm' hs'=>⟨rfl,rfl,k,Nat.lt_succ_self k,rfl,(p+stp log) % 2^log,Nat.mod_lt _ (Nat.pow_pos (by decide)),hx,hs'.sub rfl⟩⟩⟩
 ·have c:=of_decide_eq_false c
  have:p=tgt:=by
   cases k with
   | zero=>exact hx
   | succ k =>
    unfold nxt at hx
    rw [if_pos (by omega)] at hx
    exact hx
  subst this
  exact hq tm' (hs'.sub rfl)
end Go.Proofs.YtnpeieeomokomaaGreat
namespace Go.Proofs.YtnpeieeomokomaaGreat
open Go.Sim
theorem drop_cons {l:List Int} {i:Nat} (hi:i<l.length):l.drop i=l[i] :: l.drop (i+1):=List.drop_eq_getElem_cons hi
theorem nrare_take {l:List Int} {i:Nat} (hi:i<l.length):nrare (l.drop i)=(if l[i] = -1 then 1 else 0)+nrare (l.drop (i+1)):=by rw [drop_cons hi,nrare_cons]
set_option maxRecDepth 100000 in
set_option maxHeartbeats 4000000 in
theorem given1_ok {hb h:H} {c l df pc p12 b p0 log:Nat} {tm0:Tm} {v:V} {probs:List Int} {cs:Cs} {Q:V→H→Prop} (g:GD log probs) (t5:Has tm0 [(5,.ptr p12 0)])
  (w:Vw none0 hb h c [(l,oLp tm0 df),(df,.deferred true),(pc,oD log v),(p12,oVar (.slice b 0 (2^log) (.exact (2^log)))),(b,oRow cs),(p0,oD log v)])
  (row:Row cs (2^log) (ints (List.replicate (2^log) 0))) (sl:Sl hb v 1 probs.length (ints probs)) (hn:h.next+1≤T.top)
  (hq:∀ h' r f,SpI hb h' (c+1) r l df pc p12 b p0 (2^log) tm0 (oD log v) f (sprd log probs)→Q (.tuple []) h'):RF P ctx 323 [.yield l,.ptr pc 0] h Q:=by
 have hl:=g.lg
 have hlen:=g.len
 have hpw:=pow_log g.lg
 have hcells:=g.cells
 have hr12:nrare probs≤12:=Nat.le_trans (nrare_le probs) g.len
 refine RF.enterS ctx_ok fn323 (ble _ _ rfl) (ble _ _ rfl) vb323 ?_
 rw [fa_dist0]
 obtain ⟨h5,e5⟩:∃ h5,h5=h.new (.map [] 0):=⟨_,rfl⟩
 have w5:=w.new e5 (by omega)
 have m5:MapI h5 h.next (fun _=>none):=by rw [e5]; exact MapI.new (by omega)
 have t5':=w5.top
 refine ⟨_,w.ld1 2 rfl ty3 rfl rfl,((1*2^log:Nat):Int),shlN_i64 (a:=1) (by omega) (by omega),.map h.next,h5,by rw [e5]; exact aop_makeMap rfl (by omega),?_⟩
 rw [fa_dist1]
 have e1:w64 (((1*2^log:Nat):Int)-1)=((2^log:Nat):Int)-1:=by rw [w64_id (by omega) (by omega)]; omega
 rw [e1,Nat.one_mul]
 refine ⟨_,w5.ld1 3 rfl ty23 rfl rfl,_,(sl.ext w5.ex0).len ty23 rfl,Has.nil.on fun tm hs=>?_⟩
 have ix:SpI hb h5 (c+1) h.next l df pc p12 b p0 (2^log) tm0 (oD log v) (tkn (2^log) (2^log)) (List.replicate (2^log) 0):=⟨⟨_,cs,w5,row⟩,by rw [tkn_none]; exact m5⟩
 have n5:h5.next≤T.top:=by rw [e5,new_next]; omega
 clear w5 m5 e5 t5'
 generalize h.next=r at hs ix n5
 refine wpC.round (fun k tm h'=>∃ (i n:Nat) (xs:List Int),i≤probs.length∧k=probs.length-i∧h'.next=h5.next∧SpI hb h' (c+1) r l df pc p12 b p0 (2^log) tm0 (oD log v) (tkn (2^log) n) xs ∧
  rare (probs.drop i) i n xs=rare probs 0 (2^log) (List.replicate (2^log) 0)∧n+nrare probs=2^log+nrare (probs.drop i)∧n≤2^log ∧
  Has tm [(20,.int .i64 i),(19,.int .i64 probs.length),(18,v),(4,.map r),(5,.int .i64 ((n:Int)-1)),(0,.yield l),(1,.ptr pc 0),(3,.int .i64 (2^log:Nat))]) probs.length
  ⟨0,2^log,_,by omega,by omega,rfl,ix,rfl,rfl,Nat.le_refl _,hs.sub rfl⟩ ?_
 clear hs ix
 rintro k tm h' ⟨i,n,xs,hi1,rfl,hnx,ix,hR,hN,hnl,hs⟩
 have slk:=sl.ext ix.ex
 refine wpC.at hs vl323_0 rfl rfl ⟨fun c1=>?_,fun c1=>hs.on fun tm' hs'=>?_⟩
 ·have hi:i<probs.length:=by omega
  have hd:=drop_cons hi
  have hnr:=nrare_take hi
  obtain ⟨pb,po,a1,a2⟩:=slk.at1 (u:=.int .i64 probs[i]) hi ty23 rfl ty3 rfl rfl (by rw [List.getElem?_map,List.getElem?_eq_getElem hi]; rfl)
  have e:w64 ((i:Int)+1)=((i+1:Nat):Int):=by rw [w64_id (by omega) (by omega)]; rfl
  refine ⟨pb,po,a1,_,a2,fun c2=>?_,fun c2=>hs.on fun tm' hs'=>?_⟩
  ·rw [if_pos c2] at hnr
   have hn1:1≤n:=by omega
   have en:(n:Int)-1=((n-1:Nat):Int):=by omega
   obtain ⟨⟨o,cs',w',row'⟩,mp⟩:=ix
   have hrt:r<T.top:=Nat.lt_of_lt_of_le (w'.lt 0 rfl) (by omega)
   obtain ⟨es,ck,eu,mu⟩:=mp.upd (c:=ctx) ty377 rfl ty3 rfl hrt ((n-1:Nat):Int) (.bool true)
   rw [tkn_next hnl (by omega)] at mu
   have w2:=w'.upd 0 (o':=.map es ck) rfl (by omega)
   rw [en]
   refine ⟨_,eu,?_⟩
   have n2:(h'.upd r (some (.map es ck))).next=h'.next:=rfl
   generalize h'.upd r (some (.map es ck))=h2 at w2 mu n2 ⊢
   have i2:SpI hb h2 (c+1) r l df pc p12 b p0 (2^log) tm0 (oD log v) (tkn (2^log) (n-1)) xs:=⟨⟨_,cs',w2,row'⟩,mu⟩
   show RR P l [.int .i64 ((n-1:Nat):Int),.int .i64 (i:Nat)] h2 _
   refine i2.round (s:=(i:Int)) t5 (by omega) (by omega) fun h3 i3 n3=>resKb (notTrue ?_)
   refine hs.on fun tm' hs'=>⟨rfl,rfl,probs.length-(i+1),by omega,i+1,n-1,_,by omega,rfl,(show h3.next=h5.next by omega),i3,?_,by omega,by omega,?_⟩
   ·rw [← hR,hd]
    exact (if_pos c2).symm
   ·have e2:w64 ((n:Int)-1-1)=((n-1:Nat):Int)-1:=by rw [w64_id (by omega) (by omega)]; omega
    have q:=hs'.sub (l':=[(20,.int .i64 (w64 ((i:Int)+1))),(19,.int .i64 probs.length),(18,v),(4,.map r),(5,.int .i64 (w64 (((n-1:Nat):Int)-1))),(0,.yield l),(1,.ptr pc 0),(3,.int .i64 (2^log:Nat))]) rfl
    rw [e,← en,e2] at q
    exact q
  ·rw [if_neg c2] at hnr
   refine ⟨rfl,rfl,probs.length-(i+1),by omega,i+1,n,xs,by omega,rfl,hnx,ix,?_,by omega,hnl,?_⟩
   ·rw [← hR,hd]
    exact (if_neg c2).symm
   ·rw [← e]; exact hs'.sub (by kernel_rfl)
 have hi:i=probs.length:=by omega
 subst hi
 rw [List.drop_length] at hR hN
 have hn9:n=2^log-nrare probs:=by have:nrare []=0:=rfl; omega
 subst hn9
 have hx0:xs=rare probs 0 (2^log) (List.replicate (2^log) 0):=hR
 subst hx0
 refine thenC.left (wpS.at hs' vr323_6 rfl rfl ?_)
 rw [fa_dist1]
 obtain ⟨⟨o,cs',w',row'⟩,mp⟩:=ix
 refine ⟨_,w'.ld1 3 rfl ty23 rfl rfl,_,slk.len ty23 rfl,hs'.on fun tm2 hs2=>?_⟩
 have ix:SpI hb h' (c+1) r l df pc p12 b p0 (2^log) tm0 (oD log v) (tkn (2^log) (2^log-nrare probs)) (rare probs 0 (2^log) (List.replicate (2^log) 0)):=⟨⟨o,cs',w',row'⟩,mp⟩
 refine wpC.round (fun k tm h'=>∃ (i n:Nat) (xs:List Int),i≤probs.length∧k=probs.length-i∧h'.next=h5.next∧SpI hb h' (c+1) r l df pc p12 b p0 (2^log) tm0 (oD log v) (tkn (2^log) (2^log-nrare probs)) xs ∧
  puts log (nrare probs) (probs.drop i) i n xs=sprd log probs ∧
  Has tm [(40,.int .i64 i),(39,.int .i64 probs.length),(38,v),(4,.map r),(8,.int .i64 (plc log (nrare probs) n:Nat)),(0,.yield l),(1,.ptr pc 0),(3,.int .i64 (2^log:Nat))]) probs.length
  ⟨0,0,_,by omega,by omega,hnx,ix,rfl,hs2.sub rfl⟩ ?_
 clear hs hs2 hs' ix w' mp row' hR hN hnl slk hnx
 rintro k tm h' ⟨i,n,xs,hi1,rfl,hnx,ix,hR,hs⟩
 have slk:=sl.ext ix.ex
 refine wpC.at hs vl323_5 rfl rfl ⟨fun c1=>?_,fun c1=>hs.on fun tm' hs'=>?_⟩
 rotate_left
 ·have hi:i=probs.length:=by omega
  subst hi
  rw [List.drop_length] at hR
  have hx:xs=sprd log probs:=hR
  subst hx
  show sealQ L323 (endW ctx ⟨75,[],b323⟩ Q) (exitB 2 (.exit 2)) _
  rw [exitB_it]
  exact hs'.slt fun tm3 _=>hq h' _ _ ix
 have hi:i<probs.length:=by omega
 have hd:=drop_cons hi
 obtain ⟨pb,po,a1,a2⟩:=slk.at1 (u:=.int .i64 probs[i]) hi ty23 rfl ty3 rfl rfl (by rw [List.getElem?_map,List.getElem?_eq_getElem hi]; rfl)
 have e:w64 ((i:Int)+1)=((i+1:Nat):Int):=by rw [w64_id (by omega) (by omega)]; rfl
 have hb64:=pts_mem g.low (List.getElem_mem hi)
 rw [g.pts] at hb64
 have hpc:((2^log:Nat):Int)=2^log:=by simp
 rw [hd] at hR
 unfold puts at hR
 generalize probs[i]=x at a2 hR hb64
 have ex:max x 0=((x.toNat:Nat):Int):=by omega
 refine ⟨pb,po,a1,x,a2,hs.on fun tm' hs'=>?_⟩
 rw [ex] at hs'
 refine wpC.round (fun k tm h'=>∃ (j:Nat) (xs1:List Int),j≤x.toNat∧k=x.toNat-j∧h'.next=h5.next∧SpI hb h' (c+1) r l df pc p12 b p0 (2^log) tm0 (oD log v) (tkn (2^log) (2^log-nrare probs)) xs1 ∧
  putn log (nrare probs) i (x.toNat-j) (n+j) xs1=putn log (nrare probs) i x.toNat n xs ∧
  Has tm [(47,.int .i64 j),(46,.int .i64 x.toNat),(9,.int .i64 i),(40,.int .i64 i),(39,.int .i64 probs.length),(38,v),(4,.map r),(8,.int .i64 (plc log (nrare probs) (n+j):Nat)),(0,.yield l),(1,.ptr pc 0),(3,.int .i64 (2^log:Nat))]) x.toNat
  ⟨0,xs,by omega,by omega,hnx,ix,rfl,hs'.sub rfl⟩ ?_
 clear hs hs' ix slk a2 hnx
 rintro k tm h' ⟨j,xs1,hj1,rfl,hnx,ix,hP,hs⟩
 refine wpC.at hs vl323_3 rfl rfl ⟨fun c1=>?_,fun c1=>hs.on fun tm' hs'=>?_⟩
 ·have hj:j<x.toNat:=by omega
  have hpl:=plc_lt hl hr12 (n+j)
  have e2:w64 ((j:Int)+1)=((j+1:Nat):Int):=by rw [w64_id (by omega) (by omega)]; rfl
  show RR P l [.int .i64 (plc log (nrare probs) (n+j):Nat),.int .i64 (i:Nat)] h' _
  refine ix.round (s:=(i:Int)) t5 (by omega) (by omega) fun h3 i3 n3=>resKb (notTrue ?_)
  show wpFA ctx 59 0 h3 (.ptr pc 0) _
  rw [fa_dist0]
  have i3':=i3
  obtain ⟨⟨o,cs',w',row'⟩,mp⟩:=i3
  refine ⟨_,w'.ld1 3 rfl ty3 rfl rfl,step_ok hl ⟨_,rfl,_,adv_i64 hl (by omega),hs.on fun tm' hs'=>?_⟩⟩
  refine walk_ok (f:=13) (tgt:=plc log (nrare probs) (n+(j+1))) hl i3' (Nat.mod_lt _ (Nat.pow_pos (by decide))) rfl (plc_lt hl hr12 _) (hs'.sub rfl) fun tm2 hs2=>?_
  refine thenC.out2 ?_
  refine wpS.at hs2 vr323_2 rfl rfl (hs2.on fun tm3 hs3=>hs3.slt fun tm4 hs4=>⟨rfl,rfl,x.toNat-(j+1),by omega,j+1,_,by omega,rfl,(show h3.next=h5.next by omega),i3',?_,?_⟩)
  ·rw [← hP,show x.toNat-j=(x.toNat-(j+1))+1 by omega]
   rfl
  ·rw [← e2]; exact hs4.sub (by kernel_rfl)
 ·have hj:j=x.toNat:=by omega
  subst hj
  rw [Nat.sub_self] at hP
  have hx1:xs1=putn log (nrare probs) i x.toNat n xs:=hP
  subst hx1
  refine thenC.left2 ?_
  refine wpS.at hs' vr323_4 rfl rfl (hs'.on fun tm3 hs3=>hs3.slt fun tm4 hs4=>⟨rfl,rfl,probs.length-(i+1),by omega,i+1,n+x.toNat,_,by omega,rfl,hnx,ix,hR,?_⟩)
  rw [← e]; exact hs4.sub (by kernel_rfl)
end Go.Proofs.YtnpeieeomokomaaGreat
namespace Go.Proofs.YtnpeieeomokomaaGreat
open Go.Sim
theorem _root_.Go.Sim.exitB_nm (i:Nat):exitB i .normal = .normal:=rfl
set_option maxRecDepth 100000 in
set_option maxHeartbeats 1000000 in
theorem spreadOf_ok {v:V} {log:Nat} {l:List Int} {h:H} {Q:V→H→Prop} (sl:Sl h v 1 l.length (ints l)) (g:GD log l) (hn:h.next+10≤T.top)
  (hq:∀ h' v',Ext h h' 7→Sl h' v' 1 (2^log) (ints (sprd log l))→Q (.tuple [v',.int .i64 0]) h'):RF P ctx 274 [.agg [.int .i64 log,v]] h Q:=by
 have hpw:=pow_log g.lg
 have hlg:=g.lg
 refine RF.enterS ctx_ok fn274 (ble _ _ rfl) (ble _ _ rfl) vb274 (wpCs_two sl ⟨by omega,?_⟩)
 rintro p0 h1 rfl e1
 have w1:=(Vw.nil (S:=none0) (h:=h)).new e1 (by omega)
 have t1:=w1.top
 refine ⟨_,_,w1.ldA 0 rfl ty59 rfl rfl,distCheck_ok (sl.ext w1.ex0) g ⟨0,rfl,fun c=>absurd rfl c,fun _=>⟨_,w1.ld1 0 rfl ty3 rfl rfl,((1*2^log:Nat):Int),shlN_i64 (a:=1) (by omega) (by omega),?_⟩⟩⟩
 rw [Nat.one_mul]
 obtain ⟨cs,e2,row⟩:=Row.make (cx:=ctx) (k:=2^log) (h:=h1) ty23 rfl ty3 rfl rfl rfl (by omega) (by show 8*2^log≤_; omega) (by omega)
 obtain ⟨h11,e11⟩:∃ h11,h11=h1.new (oRow cs):=⟨_,rfl⟩
 rw [← e11] at e2
 have w11:=w1.new e11 (by omega)
 have t11:=w11.top
 refine ⟨_,h11,e2,rfl,by omega,?_⟩
 rintro p12 h13 rfl e13
 have w13:=w11.new e13 (by omega)
 have t13:=w13.top
 obtain ⟨h14,e14,w14,n14,_⟩:=w13.st (cx:=ctx) 0 (f:=0) (u:=.slice h1.next 0 (2^log) (.exact (2^log))) rfl (by omega) ty23 rfl (Nat.zero_le _) rfl rfl
 refine ⟨h14,e14,_,_,w14.ldA 2 rfl ty59 rfl rfl,?_⟩
 have sl14:=sl.ext w14.ex0
 have t14:=w14.top
 refine RF.enterS ctx_ok fn307 (ble _ _ rfl) (ble _ _ rfl) vb307 (wpCs_two sl14 ⟨by omega,?_⟩)
 rintro p18 h18 rfl e18
 have w18:=w14.new e18 (by omega)
 have t18:=w18.top
 refine ⟨_,rfl,Has.nil.on fun tm hs=>?_⟩
 refine RC.rangeFunc ctx_ok (g:=323) (first:=[]) (captured:=[.ptr h14.next 0]) (show evx tm (t 18)=_ from congrArg some (hs.get rfl)) (by show h18.next+1<_; omega) ?_
 show RF P ctx 323 [.yield (h18.next+1),.ptr h14.next 0] ((h18.new (.deferred true)).new (oLp tm h18.next)) _
 obtain ⟨h19,e19⟩:∃ h19,h19=h18.new (.deferred true):=⟨_,rfl⟩
 have w19:=w18.new e19 (by omega)
 have t19:=w19.top
 have n19:h19.next=h18.next+1:=by rw [e19,new_next]
 obtain ⟨h20,e20⟩:∃ h20,h20=h19.new (oLp tm h18.next):=⟨_,rfl⟩
 have w20:=w19.new e20 (by omega)
 have t20:=w20.top
 rw [← e19,← e20,← n19]
 refine given1_ok g (hs.sub (by kernel_rfl)) w20 (by rw [ints_repl]; exact row) sl (by omega) fun h21 r f i=>?_
 have t21:=i.top
 obtain ⟨⟨o,cs2,w21,row2⟩,_⟩:=i
 have gl:=w21.get 1 rfl
 simp only [rangeEnd,gl]
 have w22:=w21.upd 1 (o':=.loop .exhausted none 26 tm #[19,20] a274_0 g274_1 h18.next) rfl (by omega)
 have n22:(h21.upd h19.next (some (.loop .exhausted none 26 tm #[19,20] a274_0 g274_1 h18.next))).next=h21.next:=rfl
 generalize h21.upd h19.next (some (.loop .exhausted none 26 tm #[19,20] a274_0 g274_1 h18.next))=h22 at w22 n22 ⊢
 show W274 false r274_3 ⟨26,tm,[.coll h18.next],h22⟩ (endW ctx ⟨26,[.tmp 2,.tmp 3],b274⟩ Q)
 refine wpS.at hs vr274_3 rfl rfl ?_
 refine ⟨_,w22.ld1 4 rfl ty23 rfl rfl,hs.on fun tm2 hs2=>?_⟩
 show wpD [.coll h18.next] h22 _
 simp only [wpD,w22.get 2 rfl]
 have w23:=w22.upd 2 (o':=.deferred false) rfl (by omega)
 have n23:(h22.upd h18.next (some (.deferred false))).next=h22.next:=rfl
 generalize h22.upd h18.next (some (.deferred false))=h23 at w23 n23 ⊢
 show Q (.tuple [getV tm2 2,getV tm2 3]) h23
 rw [hs2.get (t:=2) rfl,hs2.get (t:=3) rfl]
 exact hq h23 _ w23.ex0 (row2.sl (w23.lt 5 rfl) (w23.get 5 rfl))
end Go.Proofs.YtnpeieeomokomaaGreat
namespace Go.Proofs.YtnpeieeomokomaaGreat
open Go.Sim
abbrev cellV (c:Cl):List V:=[.int .i64 c.1,.int .i64 (c.2.1:Nat),.int .i64 (c.2.2:Nat)]
def cellsV (l:List Cl):List V:=l.flatMap cellV
theorem cellsV_app (l m:List Cl):cellsV (l++m)=cellsV l++cellsV m:=List.flatMap_append ..
theorem cellsV_get:∀ {l:List Cl} {i:Nat} {c:Cl},l[i]? = some c→∀ j,j<3→(cellsV l)[i*3+j]? = (cellV c)[j]?
 | [],_,_,h=>by cases h
 | d :: l,0,c,h=>by
  cases h
  intro j hj
  show (cellV d++cellsV l)[0*3+j]? = _
  rw [Nat.zero_mul,Nat.zero_add,List.getElem?_append_left (by show j<3; exact hj)]
 | d :: l,i+1,c,h=>by
  intro j hj
  have:=cellsV_get (l:=l) (i:=i) h j hj
  show (cellV d++cellsV l)[(i+1)*3+j]? = _
  rw [List.getElem?_append_right (by show 3≤_; omega),← this]
  congr 1
  show (i+1)*3+j-3=_
  omega
theorem number_is {x:Int} (h : -1≤x) {hp:H} {Q:V→H→Prop} (hq:Q (.int .i64 (x.natAbs:Nat)) hp):RF P ctx 277 [.int .i64 x] hp Q:=by
 refine RF.enterS ctx_ok fn277 (ble _ _ rfl) (ble _ _ rfl) vb277 ⟨fun c=>?_,fun c=>?_⟩
 ·have:x = -1:=by omega
  subst this
  exact hq
 ·rwa [show ((x.natAbs:Nat):Int)=x by omega] at hq
set_option maxRecDepth 100000 in
theorem prob_ok {v:V} {pd:Nat} {log:Int} {l:List Int} {s:Int} {h:H} {Q:V→H→Prop} (hg:h.get pd=some (oD log v)) (sl:Sl h v 1 l.length (ints l)) (hx:∀ x∈l,-1≤x) (ho:Occ l s) (hq:Q (.int .i64 (num0 l s:Nat)) h):RF P ctx 276 [.int .i64 s,.ptr pd 0] h Q:=by
 obtain ⟨n,rfl,p,hp,hne⟩:=ho
 have hn:=(List.getElem?_eq_some_iff.1 hp).1
 obtain ⟨b,o,a1,a2⟩:=sl.at1 (u:=.int .i64 p) hn ty23 rfl ty3 rfl rfl (by rw [List.getElem?_map,hp]; rfl)
 have e:num0 l (n:Int)=p.natAbs:=by unfold num0; rw [Int.toNat_natCast,hp]; rfl
 rw [e] at hq
 refine RF.enterS ctx_ok fn276 (ble _ _ rfl) (ble _ _ rfl) vb276 ?_
 rw [fa_dist1]
 exact ⟨v,ald_one ty23 rfl hg rfl,b,o,a1,p,a2,number_is (hx p (List.mem_of_getElem? hp)) ⟨_,rfl,hq⟩⟩
set_option maxRecDepth 100000 in
theorem resKi {k:V→H→Prop} {h:H} {x:Int} (hk:k (.int .i64 x) h):resK ctx 3 k (.int .i64 x) h:=⟨x,rfl,hk⟩
theorem room_is:∃ cs,cond (allOne (V.cells (.agg (List.replicate 1536 (.int .i64 (0:Int)))))) (Cs.ofL (V.cells (.agg (List.replicate 1536 (.int .i64 (0:Int)))))) none=some cs∧RowE cs 3 0 512 []:=by
 obtain ⟨cs,h1,h2⟩:=Cs.ofL_some (l:=List.replicate 1536 (.int .i64 (0:Int))) (by rw [List.length_replicate]; decide)
 obtain ⟨h3,_⟩:=Cs.ofL_eq h1
 have e1:V.cells (.agg (List.replicate 1536 (.int .i64 (0:Int))))=List.replicate 1536 (.int .i64 (0:Int)):=by kernel_rfl
 have e2:allOne (List.replicate 1536 (.int .i64 (0:Int)))=true:=by kernel_rfl
 refine ⟨cs,by rw [e1,e2,cond_true,h1],h2,by rw [h3,List.length_replicate],rfl,by decide,fun i hi=>by omega⟩
theorem wpCs_some {cs:Cs} {r:Option Cs} {k:Cs→Prop} (e:r=some cs) (hk:k cs):wpCs r k:=by subst e; exact hk
theorem hi_nb {x:Nat} (h:1≤x):hi (x:Int)=((nbits x-1:Nat):Int):=by
 have:=hi_nbits x
 have:=nbits_mono1 h
 omega
set_option maxRecDepth 100000 in
set_option maxHeartbeats 1000000 in
theorem decodeof_ok {v vs:V} {log:Nat} {l:List Int} {pd:Nat} {h:H} {Q:V→H→Prop} (g:GD log l) (hg:h.get pd=some (oD log v)) (hpd:pd<h.next) (sl:Sl h v 1 l.length (ints l)) (ss:Sl h vs 1 (2^log) (ints (sprd log l))) (hn:h.next+70≤T.top)
  (hq:∀ h' v',Ext h h' 66→Sl h' v' 3 (2^log) (cellsV (dtab log l))→Q v' h'):RF P ctx 275 [.int .i64 log,.func (.func 276) [] [.ptr pd 0],vs] h Q:=by
 have hpw:=pow_log g.lg
 have hlg:=g.lg
 obtain ⟨cs0,er,row0⟩:=room_is
 refine RF.enterS ctx_ok fn275 (ble _ _ rfl) (ble _ _ rfl) vb275 (wpCs_some er ⟨by omega,?_⟩)
 rintro p0 h1 rfl e1
 have w1:=(Vw.nil (S:=none0) (h:=h)).new e1 (by omega)
 have t1:=w1.top
 have esl:aslice ctx 356 h1 (.ptr h.next 0) none (some (.int .i64 (0:Int))) (some (.int .i64 (512:Int)))=some (.slice h.next 0 0 (.exact 512)):=by kernel_rfl
 obtain ⟨h5,e5⟩:∃ h5,h5=h1.new (.map [] 0):=⟨_,rfl⟩
 have w5:=w1.new e5 (by omega)
 have m5:MapI h5 h1.next (fun _=>none):=by rw [e5]; exact MapI.new (by omega)
 refine ⟨_,esl,.map h1.next,h5,by rw [e5]; exact aop_makeMap rfl (by omega),_,(ss.ext w5.ex0).len ty23 rfl,Has.nil.on fun tm hs=>?_⟩
 have hdl:=dtab_len log l
 refine wpC.round (fun k tm h'=>∃ (i:Nat) (nx:Int→Nat) (f:Int→Option V) (o:O) (cs:Cs),i≤2^log∧k=2^log-i∧Vw none0 h h' (2+i) [(h1.next,o),(h.next,.cells cs ⟨0,356+1,0⟩ true false)]∧MapI h' h1.next f∧RowE cs 3 i 512 (cellsV ((dtab log l).take i)) ∧
  cels log nx ((sprd log l).drop i)=(dtab log l).drop i∧(∀ s,f s=none∧nx s=num0 l s∨f s=some (.int .i64 (nx s:Nat)))∧(∀ s,num0 l s≤nx s∧nx s≤2^log+i) ∧
  Has tm [(20,.int .i64 i),(19,.int .i64 (2^log:Nat)),(18,vs),(9,.map h1.next),(0,.int .i64 log),(8,.slice h.next 0 i (.exact 512)),(1,.func (.func 276) [] [.ptr pd 0])]) (2^log)
  ⟨0,num0 l,_,_,cs0,by omega,by omega,w5,m5,row0,rfl,fun s=>.inl ⟨rfl,rfl⟩,fun s=>⟨Nat.le_refl _,by have:=num0_le g s; omega⟩,hs.sub (by kernel_rfl)⟩ ?_
 clear hs m5 w5 e5 h5
 rintro k tm h' ⟨i,nx,f,o,cs,hi1,rfl,w,mp,row,hce,hf,hnx,hs⟩
 have tw:=w.top
 have ssk:=ss.ext w.ex0
 refine wpC.at hs vl275_2 rfl rfl ⟨fun c1=>?_,fun c1=>hs.on fun tm' hs'=>?_⟩
 rotate_left
 ·have hil:i=2^log:=by omega
  subst hil
  rw [List.take_of_length_le (by omega)] at row
  refine thenC.left (wpS.at hs' vr275_3 rfl rfl (hs'.on fun tm2 hs2=>endW.r1 (hs2.get rfl) ?_))
  exact hq h' _ (w.ex0.mono (by omega)) (row.sl (w.lt 1 rfl) (w.get 1 rfl))
 have hil:i<(sprd log l).length:=by rw [sprd_len]; omega
 have hsi:(sprd log l)[i]? = some (sprd log l)[i]:=List.getElem?_eq_getElem hil
 have hocc:=sprd_occ g hsi
 obtain ⟨pb,po,a1,a2⟩:=ssk.at1 (i:=i) (u:=.int .i64 (sprd log l)[i]) (show i<2^log by omega) ty23 rfl ty3 rfl rfl (by rw [List.getElem?_map,hsi]; rfl)
 have hcd:=hce
 rw [List.drop_eq_getElem_cons hil] at hcd
 unfold cels at hcd
 have hid:i<(dtab log l).length:=by omega
 rw [List.drop_eq_getElem_cons hid] at hcd
 obtain ⟨hc1,hc2⟩:=List.cons.inj hcd
 have htk:(dtab log l).take (i+1)=(dtab log l).take i++[cel log (sprd log l)[i] (nx (sprd log l)[i])]:=by
  rw [List.take_add_one,List.getElem?_eq_getElem hid,← hc1]; rfl
 clear hcd hce hc1 hsi
 generalize (sprd log l)[i]=s at hocc a2 hc2 htk
 have hx1:=num0_occ hocc
 have hxs:=hnx s
 have hxf:=hf s
 obtain ⟨b1,b2,b3,b4,b5⟩:=cel_facts (log:=log) (x:=nx s) (by omega) (by rw [Nat.pow_succ]; omega)
 have e:w64 ((i:Int)+1)=((i+1:Nat):Int):=by rw [w64_id (by omega) (by omega)]; rfl
 have go:∀ (h2:H) (f2:Int→Option V) (o2:O) (tm2:Tm),Vw none0 h h2 (2+i) [(h1.next,o2),(h.next,.cells cs ⟨0,356+1,0⟩ true false)]→MapI h2 h1.next f2→f2 s=some (.int .i64 (nx s:Nat))→(∀ s,f2 s=none∧nx s=num0 l s∨f2 s=some (.int .i64 (nx s:Nat))) →
   Has tm2 [(20,.int .i64 i),(19,.int .i64 (2^log:Nat)),(18,vs),(9,.map h1.next),(0,.int .i64 log),(8,.slice h.next 0 i (.exact 512)),(1,.func (.func 276) [] [.ptr pd 0]),(11,.int .i64 s)] →
   ∀ R:AX→St→Prop,(∀ tm3 h3 f3 o3 cs3,Vw none0 h h3 (2+(i+1)) [(h1.next,o3),(h.next,.cells cs3 ⟨0,356+1,0⟩ true false)]→MapI h3 h1.next f3→RowE cs3 3 (i+1) 512 (cellsV ((dtab log l).take (i+1)))→(∀ j,f3 j=if j=s then some (.int .i64 (nx s+1:Nat)) else f2 j) →
    Has tm3 [(20,.int .i64 i),(19,.int .i64 (2^log:Nat)),(18,vs),(9,.map h1.next),(0,.int .i64 log),(8,.slice h.next 0 (i+1) (.exact 512)),(1,.func (.func 276) [] [.ptr pd 0])]→R .normal ⟨64,tm3,[],h3⟩) →
   W275 false r275_0 ⟨64,tm2,[],h2⟩ R:=by
  intro h2 f2 o2 tm2 w2 m2 hf2 _ hs2 R hR
  have hrt:h1.next<T.top:=by omega
  have tw2:=w2.top
  have lk:alook ctx 357 h2 (.map h1.next) (.int .i64 s) false=some (.int .i64 (nx s:Nat)):=by
   rw [m2.look ty357 rfl ty3 rfl ty3 rfl,hf2]
   rfl
  obtain ⟨es,ck,eu,mu⟩:=m2.upd (c:=ctx) ty357 rfl ty3 rfl hrt s (.int .i64 (nx s+1:Nat))
  have ex1:w64 (((nx s:Nat):Int)+1)=((nx s+1:Nat):Int):=by rw [w64_id (by omega) (by omega)]; rfl
  have w3:=w2.upd 0 (o':=.map es ck) rfl (by omega)
  refine wpS.at hs2 vr275_0 rfl rfl ⟨_,lk,_,lk,h2.upd h1.next (some (.map es ck)),by rw [ex1]; exact eu,?_⟩
  have n3:(h2.upd h1.next (some (.map es ck))).next=h2.next:=rfl
  generalize h2.upd h1.next (some (.map es ck))=h3 at w3 mu n3 ⊢
  refine high_ok (by omega) ⟨_,rfl,?_⟩
  have eb:w64 ((log:Int)-hi ((nx s:Nat):Int))=((cbits log (nx s):Nat):Int):=by
   rw [hi_nb (by omega),w64_id (by omega) (by omega)]
   unfold cbits
   omega
  rw [eb]
  have e2p:2^(log+1)=2*2^log:=Nat.pow_succ'
  refine ⟨((nx s*2^cbits log (nx s):Nat):Int),by rw [wrapN_u64 (by omega)]; exact shlN_i64 (by omega) (by omega),((1*2^log:Nat):Int),by rw [wrapN_u64 (by omega)]; exact shlN_i64 (a:=1) (by omega) (by omega),?_⟩
  have eba:w64 (((nx s*2^cbits log (nx s):Nat):Int)-((1*2^log:Nat):Int))=((cbase log (nx s):Nat):Int):=by
   rw [w64_id (by omega) (by omega)]
   unfold cbase
   omega
  rw [eba]
  obtain ⟨v8,h9,e9,sl9,x9,_⟩:=buildSlice1 (c:=ctx) (h:=h3) (u:=.agg (cellV (cel log s (nx s)))) (ys:=cellV (cel log s (nx s))) ty123 rfl ty131 rfl rfl rfl rfl (Nat.le_of_ble_eq_true rfl) rfl (by omega)
  have w9:=w3.ext x9
  have t9:=w9.top
  obtain ⟨h11,cs11,e11,row11,w11,n11⟩:=w9.app (cx:=ctx) 1 rfl row sl9 (by decide) ty123 rfl ty131 rfl rfl (by omega) rfl (by omega)
  refine ⟨v8,h9,e9,trivial,_,h11,e11,hs2.on fun tm3 hs3=>hR tm3 h11 (fun j=>if j=s then some (.int .i64 (nx s+1:Nat)) else f2 j) _ cs11 (w11.more (by omega)) (mu.mono ?_) ?_ (fun _=>rfl) (hs3.sub (by kernel_rfl))⟩
  ·exact (w11.get 0 rfl).trans (w3.get 0 rfl).symm
  ·rw [htk,cellsV_app]
   have:cellsV [cel log s (nx s)]=cellV (cel log s (nx s)):=by simp [cellsV]
   rw [this]
   exact row11
 have fin:∀ (f2:Int→Option V) (h3:H) (f3:Int→Option V) (o3:O) (cs3:Cs) (tm3:Tm) (R:AX→St→Prop),(∀ s,f2 s=none∧nx s=num0 l s∨f2 s=some (.int .i64 (nx s:Nat)))→Vw none0 h h3 (2+(i+1)) [(h1.next,o3),(h.next,.cells cs3 ⟨0,356+1,0⟩ true false)]→MapI h3 h1.next f3→RowE cs3 3 (i+1) 512 (cellsV ((dtab log l).take (i+1)))→(∀ j,f3 j=if j=s then some (.int .i64 (nx s+1:Nat)) else f2 j) →
   Has tm3 [(20,.int .i64 i),(19,.int .i64 (2^log:Nat)),(18,vs),(9,.map h1.next),(0,.int .i64 log),(8,.slice h.next 0 (i+1) (.exact 512)),(1,.func (.func 276) [] [.ptr pd 0])] →
   (fun e s1=>(thenC (fun s1=>W275 false r275_1 s1 (sealQ L275 (thenC (fun s1=>s1.n=64∧s1.dfr=[]∧∃ j,j<2^log-i∧∃ (i:Nat) (nx:Int→Nat) (f:Int→Option V) (o:O) (cs:Cs),i≤2^log∧j=2^log-i∧Vw none0 h s1.heap (2+i) [(h1.next,o),(h.next,.cells cs ⟨0,356+1,0⟩ true false)]∧MapI s1.heap h1.next f∧RowE cs 3 i 512 (cellsV ((dtab log l).take i)) ∧
  cels log nx ((sprd log l).drop i)=(dtab log l).drop i∧(∀ s,f s=none∧nx s=num0 l s∨f s=some (.int .i64 (nx s:Nat)))∧(∀ s,num0 l s≤nx s∧nx s≤2^log+i) ∧
  Has s1.tm [(20,.int .i64 i),(19,.int .i64 (2^log:Nat)),(18,vs),(9,.map h1.next),(0,.int .i64 log),(8,.slice h.next 0 i (.exact 512)),(1,.func (.func 276) [] [.ptr pd 0])]) R))) (sealQ L275 (thenC (fun s1=>s1.n=64∧s1.dfr=[]∧∃ j,j<2^log-i∧∃ (i:Nat) (nx:Int→Nat) (f:Int→Option V) (o:O) (cs:Cs),i≤2^log∧j=2^log-i∧Vw none0 h s1.heap (2+i) [(h1.next,o),(h.next,.cells cs ⟨0,356+1,0⟩ true false)]∧MapI s1.heap h1.next f∧RowE cs 3 i 512 (cellsV ((dtab log l).take i)) ∧
  cels log nx ((sprd log l).drop i)=(dtab log l).drop i∧(∀ s,f s=none∧nx s=num0 l s∨f s=some (.int .i64 (nx s:Nat)))∧(∀ s,num0 l s≤nx s∧nx s≤2^log+i) ∧
  Has s1.tm [(20,.int .i64 i),(19,.int .i64 (2^log:Nat)),(18,vs),(9,.map h1.next),(0,.int .i64 log),(8,.slice h.next 0 i (.exact 512)),(1,.func (.func 276) [] [.ptr pd 0])]) R))) (exitB 1 e) s1) .normal ⟨64,tm3,[],h3⟩:=by
  intro f2 h3 f3 o3 cs3 tm3 R hf2 w3 m3 row3 hf3 hs3
  refine thenC.nx (wpS.at hs3 vr275_1 rfl rfl (hs3.on fun tm4 hs4=>hs4.slt fun tm5 hs5=>⟨rfl,rfl,2^log-(i+1),by omega,i+1,fun j=>if j=s then nx s+1 else nx j,f3,o3,cs3,by omega,rfl,w3,m3,row3,hc2,fun j=>?_,fun j=>?_,?_⟩))
  ·rw [hf3]
   by_cases c:j=s
   ·right
    simp only [if_pos c]
   ·simp only [if_neg c]
    exact hf2 j
  ·have:=hnx j
   show num0 l j≤(if j=s then nx s+1 else nx j)∧(if j=s then nx s+1 else nx j)≤_
   by_cases c:j=s
   ·subst c
    rw [if_pos rfl]; omega
   ·rw [if_neg c]; omega
  ·rw [← e]; exact hs5.sub (by kernel_rfl)
 refine ⟨pb,po,a1,s,a2,?_⟩
 have lk:=mp.look (c:=ctx) (t:=357) ty357 rfl ty3 rfl ty3 rfl s true
 rcases hxf with ⟨hn0,hn1⟩ | hn0
 ·rw [hn0] at lk
  refine ⟨0,false,lk,fun c=>(by cases c),fun _=>?_⟩
  show RF P ctx 276 [.int .i64 s,.ptr pd 0] h' _
  refine prob_ok ((w.ex0.get _ hpd).trans hg) (sl.ext w.ex0) g.low hocc (resKi ?_)
  obtain ⟨es,ck,eu,mu⟩:=mp.upd (c:=ctx) ty357 rfl ty3 rfl (show h1.next<T.top by omega) s (.int .i64 (num0 l s:Nat))
  have w3:=w.upd 0 (o':=.map es ck) rfl (by omega)
  refine ⟨_,eu,hs.on fun tm2 hs2=>?_⟩
  have hf2:∀ s',(fun j=>if j=s then some (.int .i64 (num0 l s:Nat)) else f j) s'=none∧nx s'=num0 l s'∨(fun j=>if j=s then some (V.int .i64 (num0 l s:Nat)) else f j) s'=some (.int .i64 (nx s':Nat)):=fun s'=>by
   by_cases c:s'=s
   ·subst c; right; simp only [if_true]; rw [hn1]
   ·simp only [if_neg c]; exact hf s'
  refine go _ _ _ tm2 w3 mu (by simp only [if_true]; rw [hn1]) hf2 (hs2.sub (by kernel_rfl)) _ fun tm3 h3 f3 o3 cs3 w4 m4 row4 hf4 hs4=>?_
  exact fin _ h3 f3 o3 cs3 tm3 _ hf2 w4 m4 row4 hf4 hs4
 ·rw [hn0] at lk
  refine ⟨_,true,lk,fun _=>hs.on fun tm2 hs2=>?_,fun c=>(by cases c)⟩
  refine go _ _ _ tm2 w mp hn0 hf (hs2.sub (by kernel_rfl)) _ fun tm3 h3 f3 o3 cs3 w4 m4 row4 hf4 hs4=>?_
  exact fin _ h3 f3 o3 cs3 tm3 _ hf w4 m4 row4 hf4 hs4
end Go.Proofs.YtnpeieeomokomaaGreat
namespace Go.Proofs.YtnpeieeomokomaaGreat
open Go.Sim
set_option maxRecDepth 100000 in
theorem decodeOf_ok {v:V} {log:Nat} {l:List Int} {h:H} {Q:V→H→Prop} (sl:Sl h v 1 l.length (ints l)) (g:GD log l) (hn:h.next+90≤T.top)
  (hq:∀ h' v',Ext h h' 80→Sl h' v' 3 (2^log) (cellsV (dtab log l))→Q (.tuple [v',.int .i64 0]) h'):RF P ctx 214 [.agg [.int .i64 log,v]] h Q:=by
 refine RF.enterS ctx_ok fn214 (ble _ _ rfl) (ble _ _ rfl) vb214 (wpCs_two sl ⟨by omega,?_⟩)
 rintro p0 h1 rfl e1
 have w1:=(Vw.nil (S:=none0) (h:=h)).new e1 (by omega)
 have t1:=w1.top
 have s1:=sl.ext w1.ex0
 refine ⟨_,_,w1.ldA 0 rfl ty59 rfl rfl,distCheck_ok s1 g ⟨0,rfl,fun c=>absurd rfl c,fun _=>⟨_,_,w1.ldA 0 rfl ty59 rfl rfl,?_⟩⟩⟩
 refine spreadOf_ok s1 g (by omega) fun h11 v12 x11 s11=>⟨_,_,rfl,fun c=>absurd rfl c,fun _=>?_⟩
 have w11:=w1.ext x11
 have t11:=w11.top
 refine ⟨_,w11.ld1 0 rfl ty3 rfl rfl,decodeof_ok g (w11.get 0 rfl) (w11.lt 0 rfl) (sl.ext w11.ex0) s11 (by omega) fun h16 v17 x16 s16=>⟨_,rfl,?_⟩⟩
 exact hq h16 v17 ((w11.ex0.trans x16).mono (by omega)) s16
abbrev oSt (s:List UInt8) (left:Nat) (v:V) (log:Nat):O:=.cells (.ls [.str s,.int .i64 left,v,.int .i64 log]) ⟨0,195+1,0⟩ true false
set_option maxRecDepth 100000 in
theorem wpOpt_stream {h:H} {v:V} {e n:Nat} {xs:List V} (sl:Sl h v e n xs) {s:List UInt8} {left log:Int} {k:Cs→Prop} (hk:k (.ls [.str s,.int .i64 left,v,.int .i64 log])) :
  wpOpt ctx 195 (abuild ctx 195 [(0,(.agg [(.str s),(.int .i64 left)])),(1,v),(2,(.int .i64 log))]) (fun u=>wpCs (cond (allOne (V.cells u)) (Cs.ofL (V.cells u)) none) k):=by
 have h2:boolT ctx 195=false:=by kernel_rfl
 have h1:abuild ctx 195 [(0,(.agg [(.str s),(.int .i64 left)])),(1,v),(2,(.int .i64 log))]=some (.agg [.str s,.int .i64 left,v,.int .i64 log]):=by
  obtain ⟨_,⟨rfl,_⟩ | ⟨b,o,cp,cs,k,w,op,rfl,_⟩⟩:=sl
  ·kernel_rfl
  ·kernel_rfl
 unfold wpOpt
 rw [h1]
 simp only [h2]
 obtain ⟨_,⟨rfl,_⟩ | ⟨b,o,cp,cs,k,w,op,rfl,_⟩⟩:=sl
 ·exact hk
 ·exact hk
set_option maxRecDepth 100000 in
theorem opened_ok {v:V} {log:Nat} {l:List Int} {s:List UInt8} {h:H} {Q:V→H→Prop} (sl:Sl h v 1 l.length (ints l)) (g:GD log l) (hs:s.length≤2000) (hn:h.next+100≤T.top)
  (hbad:bsize s<0→∀ h',Ext h h' 2→Q (.tuple [.nilptr,.int .i64 22]) h')
  (hgood:¬ bsize s<0→∀ h4 h' v',Ext h h4 90→Sl h4 v' 3 (2^log) (cellsV (dtab log l))→Vw none0 h4 h' 1 [(h4.next,oSt s (bsize s).toNat v' log)]→Q (.tuple [.ptr h4.next 0,.int .i64 0]) h') :
  RF P ctx 140 [.agg [.int .i64 log,v],.str s] h Q:=by
 refine RF.enterS ctx_ok fn140 (ble _ _ rfl) (ble _ _ rfl) vb140 (wpCs_two sl ⟨by omega,?_⟩)
 rintro p0 h1 rfl e1
 have w1:=(Vw.nil (S:=none0) (h:=h)).new e1 (by omega)
 have t1:=w1.top
 have s1:=sl.ext w1.ex0
 refine ⟨_,_,w1.ldA 0 rfl ty59 rfl rfl,distCheck_ok s1 g ⟨0,rfl,fun c=>absurd rfl c,fun _=>readB_ok hs ?_⟩⟩
 unfold rdB
 by_cases c:bsize s<0
 ·rw [if_pos c]
  refine ⟨_,_,_,rfl,by omega,?_⟩
  rintro p13 h14 rfl e14
  have w14:=w1.new e14 (by omega)
  have t14:=w14.top
  obtain ⟨h15,e15,w15,n15,_⟩:=w14.st (cx:=ctx) 0 (f:=0) (u:=.agg [.str [],.int .i64 0]) rfl (by omega) ty120 rfl (Nat.zero_le _) rfl rfl
  exact ⟨h15,e15,fun _=>hbad c h15 w15.ex0,fun g=>absurd (show (22:Int)≠0 by decide) g⟩
 ·rw [if_neg c]
  refine ⟨_,_,_,rfl,by omega,?_⟩
  rintro p13 h14 rfl e14
  have w14:=w1.new e14 (by omega)
  have t14:=w14.top
  obtain ⟨h15,e15,w15,n15,_⟩:=w14.st (cx:=ctx) 0 (f:=0) (u:=.agg [.str s,.int .i64 (bsize s)]) rfl (by omega) ty120 rfl (Nat.zero_le _) rfl rfl
  refine ⟨h15,e15,fun g=>absurd rfl g,fun _=>⟨_,_,w15.ldA 1 rfl ty59 rfl rfl,decodeOf_ok (sl.ext w15.ex0) g (by have:=w15.top; omega) fun h19 v20 x19 s19=>?_⟩⟩
  have w19:=w15.ext x19
  have t19:=w19.top
  refine ⟨_,_,rfl,_,_,w19.ldA 0 rfl ty120 rfl rfl,_,w19.ld1 1 rfl ty3 rfl rfl,wpOpt_stream s19 ⟨by omega,?_⟩⟩
  rintro p26 h27 rfl e27
  have eB:bsize s=((bsize s).toNat:Nat):=by omega
  have w27:=(Vw.nil (S:=none0) (h:=h19)).new e27 (by omega)
  rw [eB] at w27
  exact hgood c h19 h27 v20 (w19.ex0.mono (by omega)) s19 w27
theorem fa_stream0 {p o:Nat} {h:H} {k:V→H→Prop}:wpFA ctx 195 0 h (.ptr p o) k=k (.ptr p (o+0)) h:=by kernel_rfl
theorem fa_stream1 {p o:Nat} {h:H} {k:V→H→Prop}:wpFA ctx 195 1 h (.ptr p o) k=k (.ptr p (o+2)) h:=by kernel_rfl
theorem fa_back1 {p o:Nat} {h:H} {k:V→H→Prop}:wpFA ctx 120 1 h (.ptr p o) k=k (.ptr p (o+1)) h:=by kernel_rfl
set_option maxRecDepth 100000 in
theorem streamTake_ok {s:List UInt8} {p left log n:Nat} {v:V} {h:H} {Q:V→H→Prop} (hg:h.get p=some (oSt s left v log)) (hp:p<h.next) (hs:s.length≤2000) (hl:(left:Int)≤bsize s) (hm:n≤32) (hn:h.next+1≤T.top)
  (hq1:n≤left→∀ h',ExtX (· = p) h h' 1→h'.get p=some (oSt s (left-n) v log)→Q (.tuple [.int .i64 (bnum s left n:Nat),.bool true]) h')
  (hq2:¬ n≤left→∀ h',ExtX (· = p) h h' 1→h'.get p=some (oSt s left v log)→Q (.tuple [.int .i64 0,.bool false]) h'):RF P ctx 141 [.ptr p 0,.int .i64 n] h Q:=by
 have w:=Vw.one (S:=(· = p)) hg hp rfl
 refine RF.enterS ctx_ok fn141 (ble _ _ rfl) (ble _ _ rfl) vb141 ⟨.ptr p 0,h,rfl,?_⟩
 rw [fa_stream0]
 refine ⟨_,_,w.ldA 0 rfl ty120 rfl rfl,takeB_ok hs hl hm ?_⟩
 have hb:=bnum_lt s left n
 have hp32:2^n≤2^32:=Nat.pow_le_pow_right (by decide) hm
 unfold tkB
 by_cases c:n≤left
 ·rw [if_pos c]
  refine ⟨_,_,_,_,rfl,by omega,?_⟩
  rintro p12 h13 rfl e13
  have w13:=w.new e13 (by omega)
  have t13:=w13.top
  obtain ⟨h14,e14,w14,n14,_⟩:=w13.st (cx:=ctx) 0 (f:=0) (u:=.agg [.str s,.int .i64 ((left-n:Nat):Int)]) rfl (by omega) ty120 rfl (Nat.zero_le _) rfl rfl
  refine ⟨h14,e14,fun g=>absurd rfl g,fun _=>⟨_,_,w14.ldA 0 rfl ty120 rfl rfl,.ptr p 0,h14,rfl,?_⟩⟩
  rw [fa_stream0]
  obtain ⟨h21,e21,w21,n21,_⟩:=w14.st (cx:=ctx) 1 (f:=0) (u:=.agg [.str s,.int .i64 ((left-n:Nat):Int)]) rfl (by omega) ty120 rfl (Nat.zero_le _) rfl rfl
  refine ⟨h21,e21,?_⟩
  rw [w64_id (by omega) (by omega)]
  exact hq1 c h21 w21.ex (w21.get 1 rfl)
 ·rw [if_neg c]
  refine ⟨_,_,_,_,rfl,by omega,?_⟩
  rintro p12 h13 rfl e13
  have w13:=w.new e13 (by omega)
  have t13:=w13.top
  obtain ⟨h14,e14,w14,n14,_⟩:=w13.st (cx:=ctx) 0 (f:=0) (u:=.agg [.str [],.int .i64 0]) rfl (by omega) ty120 rfl (Nat.zero_le _) rfl rfl
  exact ⟨h14,e14,fun _=>hq2 c h14 w14.ex (w14.get 1 rfl),fun g=>absurd (show (5:Int)≠0 by decide) g⟩
theorem _root_.Go.Sim.Sl.atA {cx:Ctx} {h:H} {v:V} {esz n i:Nat} {xs ys:List V} (s:Sl h v esz n xs) (hi:i<n) {t e:Nat} {ti te:TI} (ht:cx.ty.get t=some ti) (hd:ti.desc = .slice e) (he:cx.ty.get e=some te) (hs:te.size=esz) (ha:isAggD te.desc=true) (h0:0<esz) (hy:ys.length=esz) (hu:∀ j,j<esz→xs[i*esz+j]? = ys[j]?) :
  ∃ b o,aidx cx t v (.int .i64 i)=some (.ptr b o)∧ald cx e h (.ptr b o)=some (.agg ys)∧∀ f tf u,cx.ty.get f=some tf→isAggD tf.desc=false→∀ j,j<esz→ys[j]? = some u→ald cx f h (.ptr b (o+j))=some u:=by
 obtain ⟨b,o,h1,cs,k,w,op,hg,hc⟩:=s.at hi ht hd he hs
 have hc2:∀ j,j<esz→cs.get? (o+j)=ys[j]?:=fun j hj=>(hc j hj).trans (hu j hj)
 refine ⟨b,o,h1,ald_agg he ha hg (by rw [hs]; exact Cs.range_is h0 hy hc2),fun f tf u hf hfa j hj hju=>ald_one hf hfa hg ?_⟩
 rw [hc2 j hj,hju]
end Go.Proofs.YtnpeieeomokomaaGreat
