/- TN. No condition. -/
import Derived.Test.YtnpeieeomokomaaGreatZTM
set_option maxRecDepth 100000
set_option maxHeartbeats 4000000
noncomputable section
namespace Go.Proofs.YtnpeieeomokomaaGreat
open Go.Sim
variable {h:H}{Q:V->H->Prop}
def zGr (log m:Nat):Bool:=(List.range (2^log-m)).all λk=>(List.range k).all λj=>decide (KR log m j≠KR log m k)
theorem zGs:((List.range 13).all λm=>zGr 5 m && zGr 6 m)=true:=by decide +kernel
theorem zOD {log m j k:Nat}(hl:log=5\/log=6) (hm:m<=12) (hk:k<2^log-m) (hj:j<k):KR log m j≠KR log m k:=by
 have h:=List.all_eq_true.1 zGs m (List.mem_range.2 (by omega));rw[oG]at h;have h2:zGr log m=true:=by
  rcases hl with rfl|rfl
  ·exact h.1
  ·exact h.2
 exact of_decide_eq_true (List.all_eq_true.1 (List.all_eq_true.1 h2 k (List.mem_range.2 hk)) j (List.mem_range.2 hj))
theorem zIx {log m j k:Nat}(hl:log=5\/log=6) (hm:m<=12) (hk:k<2^log-m) (hj:j<2^log-m) (hne:j≠k):KR log m j≠KR log m k:=by
 rcases Nat.lt_or_ge j k with c|c
 ·exact zOD hl hm hk c
 ·exact λe=>zOD hl hm hj (show k<j by omega) e.symm
theorem Jg {log m s q:Nat}:∀{c k:Nat}{out:List Int},(∀j,k<=j->j<k+c->KR log m j≠q)->(Xx log m s c k out)[q]? = out[q]?
 | 0,_,_,_=>rfl
 | c+1,k,out,h=>by
  unfold Xx;rw[Jg λj h1 h2=>h j (by omega) (by omega),oY (h k (by omega) (by omega))]
theorem Jh {log m q:Nat}:∀{l:List Int}{s k:Nat}{out:List Int},(∀j,k<=j->j<k+zAO l->KR log m j≠q)->(XH log m l s k out)[q]? = out[q]?
 | [],_,_,_,_=>rfl
 | p::l,s,k,out,h=>by
  unfold XH;rw[YM]at h;rw[Jh λj h1 h2=>h j (by omega) (by omega),Jg λj h1 h2=>h j h1 (by omega)]
theorem zFm {log m:Nat}(hl:log=5\/log=6) (hm:m<=12):∀{l:List Int}{s k:Nat}{out:List Int},out.length=2^log->k+zAO l<=2^log-m->∀{i:Nat}{p:Int},l[i]? = some p->0<p->∃q:Nat,q<2^log/\(XH log m l s k out)[q]? = some ((s+i:Nat):Int)
 | [],_,_,_,_,_,i,p,h,_=>by cases h
 | p::l,s,k,out,ho,hk,i,p',h,hp=>by
  unfold XH;rw[YM]at hk;cases i with
  | zero =>
   cases h;obtain⟨c,hc⟩:∃c,p.toNat=c+1:=⟨p.toNat-1,by omega⟩;have hlt:=Jd hl hm k;refine⟨KR log m k,by omega,?_⟩;rw[Jh λj h1 h2=>zIx hl hm (by omega) (by omega) (by omega),hc]
   unfold Xx;rw[Jg λj h1 h2=>zIx hl hm (by omega) (by omega) (by omega),List.getElem?_set_self (by omega)]
   rfl
  | succ i =>
   obtain⟨q,h1,h2⟩:=zFm hl hm (l:=l) (s:=s+1) (k:=k+p.toNat) (out:=Xx log m s p.toNat k out) (by rw[Xy];exact ho) (by omega) (i:=i) (p:=p') (by simpa using h) hp;exact⟨q,h1,by rw[h2];congr 2;omega⟩
theorem Jo:∀{l:List Int}{s n q:Nat}{out:List Int},yf l<=n->n<=q->(Y0 l s n out)[q]? = out[q]?
 | [],_,_,_,_,_,_=>rfl
 | p::l,s,n,q,out,hn,h=>by
  unfold Y0;rw[kR]at hn;split
  ·rename_i c
   rw[if_pos c]at hn;rw[Jo (by omega) (by omega),oY (by omega)]
  ·rename_i c
   rw[if_neg c]at hn;exact Jo (by omega) h
theorem zAZ:∀{l:List Int}{s n:Nat}{out:List Int},n<=out.length->yf l<=n->∀{i:Nat},l[i]? = some (-1)->∃q:Nat,n-yf l<=q/\q<n/\(Y0 l s n out)[q]? = some ((s+i:Nat):Int)
 | [],_,_,_,_,_,i,h=>by cases h
 | p::l,s,n,out,ho,hn,i,h=>by
  unfold Y0;rw[kR]at hn ⊢;cases i with
  | zero =>
   cases h;rw[if_pos rfl]at hn ⊢;rw[if_pos rfl];refine⟨n-1,by omega,by omega,?_⟩;rw[Jo (by omega) (oP _),List.getElem?_set_self (by omega)];rfl
  | succ i =>
   have h':l[i]? = some (-1):=by simpa using h
   by_cases c:p = -1
   ·rw[if_pos c]at hn ⊢
    rw[if_pos c];obtain⟨q,h1,h2,h3⟩:=zAZ (l:=l) (s:=s+1) (n:=n-1) (out:=out.set (n-1) s) (by rw[oh];omega) (by omega) h';exact⟨q,by omega,by omega,by rw[h3];congr 2;omega⟩
   ·rw[if_neg c]at hn ⊢
    rw[if_neg c];obtain⟨q,h1,h2,h3⟩:=zAZ (l:=l) (s:=s+1) (n:=n) (out:=out) ho (by omega) h';exact⟨q,by omega,by omega,by rw[h3];congr 2;omega⟩
theorem zPW {log:Nat}{l:List Int}(g:GD log l) {s:Nat}{p:Int}(h:l[s]? = some p) (hp:p≠0):∃q:Nat,q<2^log/\(yi log l)[q]? = some (s:Int):=by
 have hm:yf l<=12:=oQ (zAP l) g.len;have hpw:=xD g.lg;have hc:=g.cells;have hlow:=g.low p (List.mem_of_getElem? h);unfold yi;by_cases c:p = -1
 ·subst c
  obtain⟨q,h1,h2,h3⟩:=zAZ (l:=l) (s:=0) (n:=2^log) (out:=List.replicate (2^log) 0) (by rw[List.length_replicate];exact oP _) (by omega) h;refine⟨q,h2,?_⟩;rw[Jh λj _ _=>by have:=Jd g.lg hm j;omega,h3,Nat.zero_add]
 ·obtain⟨q,h1,h2⟩:=zFm g.lg hm (l:=l) (s:=0) (k:=0) (out:=Y0 l 0 (2^log) (List.replicate (2^log) 0)) (by rw[Zi,List.length_replicate]) (by omega) h (by omega)
  exact⟨q,h1,by rw[h2,Nat.zero_add]⟩
theorem zM2 {log:Nat}{l:List Int}(g:GD log l) {s:Nat}{p:Int}(h:l[s]? = some p) (hp:p≠0):1<=(yJ (yi log l) (2^log) s).length:=by
 obtain⟨q,h1,h2⟩:=zPW g h hp;have:((q:Nat):Int)∈yJ (yi log l) (2^log) s:=zEw.2 ⟨q,rfl,h1,h2⟩;exact List.length_pos_of_mem this
abbrev WS:=Wr×List Int×List Bool
def qg (sp:List Int) (a:WS) (j s:Nat):WS :=
 if a.2.2[j]?.getD false=true then
  (yu a.1 (qK (yJ sp 32 s) (a.2.1[j]?.getD 0).toNat) (eN ((a.2.1[j]?.getD 0).toNat+32) (yJ sp 32 s).length),a.2.1.set j (ZJ (yJ sp 32 s) (a.2.1[j]?.getD 0).toNat),a.2.2)
 else (a.1,a.2.1.set j ((yJ sp 32 s)[0]?.getD 0),a.2.2.set j true)
def wgo (sp w:List Int):Nat->WS
 | 0=>(⟨[],0,0⟩,[0,0],[false,false])
 | k+1=>qg sp (wgo sp w k) ((w.length-1-k) % 2) (w[w.length-1-k]?.getD 0).toNat
def zHz (sp w:List Int):Wr:=yu (yu (wgo sp w w.length).1 ((wgo sp w w.length).2.1[1]?.getD 0).toNat 5) ((wgo sp w w.length).2.1[0]?.getD 0).toNat 5
def zLa (sp w:List Int):List UInt8:=(yu (zHz sp w) 1 (8-(zHz sp w).n)).s
structure WOk (a:WS) (k:Nat):Prop where
 st:a.2.1.length=2
 sn:a.2.2.length=2
 lt:∀x∈a.2.1,∃n:Nat,x=(n:Int)/\n<32
 ok:a.1.ok (5*k)
theorem zEx {sp:List Int}{s:Nat}{x:Int}(h:x∈yJ sp 32 s):∃n:Nat,x=(n:Int)/\n<32:=by
 obtain⟨i,h1,h2,_⟩:=zEw.1 h;exact⟨i,h1,h2⟩
theorem zKY {sp:List Int}{s st:Nat}(hst:st<32) (h1:1<=(yJ sp 32 s).length):∃n:Nat,ZJ (yJ sp 32 s) st=(n:Int)/\n<32:=by
 obtain⟨q1,q2,_⟩:=zIb hst h1 (qL sp 32 s);have hi:(st+32)/2^eN (st+32) (yJ sp 32 s).length-(yJ sp 32 s).length<(yJ sp 32 s).length:=by omega
 unfold ZJ;rw[oO hi];exact zEx (oS hi)
theorem Ot {sp:List Int}{s:Nat}(h1:1<=(yJ sp 32 s).length):∃n:Nat,(yJ sp 32 s)[0]?.getD 0=(n:Int)/\n<32:=by
 rw[oO (by omega)];exact zEx (oS _)
theorem WOk.at {a:WS}{k:Nat}(g:WOk a k) {j:Nat}(hj:j<2):∃n:Nat,a.2.1[j]? = some (n:Int)/\n<32:=by
 have h:j<a.2.1.length:=by rw[g.st];exact hj
 obtain⟨n,h1,h2⟩:=g.lt _ (oS h);exact⟨n,by rw[oO h,h1],h2⟩
theorem zPR {l:List Int}{j:Nat}{y:Int}(h:∀x∈l,∃n:Nat,x=(n:Int)/\n<32) (hy:∃n:Nat,y=(n:Int)/\n<32):∀x∈l.set j y,∃n:Nat,x=(n:Int)/\n<32:=λx hx=>by
 rcases List.mem_or_eq_of_mem_set hx with h1|h1
 ·exact h x h1
 ·rw[h1];exact hy
theorem WOk.step {a:WS}{k:Nat}(g:WOk a k) {sp:List Int}{j s:Nat}(hj:j<2) (h1:1<=(yJ sp 32 s).length):WOk (qg sp a j s) (k+1):=by
 obtain⟨n,e,hn⟩:=g.at hj;unfold qg;rw[e];split
 ·obtain⟨_,_,q3,_⟩:=zIb hn h1 (qL sp 32 s)
  refine⟨by show(a.2.1.set _ _).length=2;rw[oh];exact g.st,g.sn,zPR g.lt (zKY hn h1),?_⟩;exact(yw g.ok _).up (show 5*k+eN (n+32) _<=5*(k+1)by omega)
 ·exact⟨by show(a.2.1.set _ _).length=2;rw[oh];exact g.st,by show(a.2.2.set _ _).length=2;rw[oh];exact g.sn,zPR g.lt (Ot h1),g.ok.up (by omega)⟩
def zVZ (sp w:List Int) (m:Nat):Prop:=∀x∈w,∃s:Nat,x=(s:Int)/\s<m/\1<=(yJ sp 32 s).length
theorem Cov.cells {l w:List Int}(c:Cov l w) (g:GD 5 l):zVZ (yi 5 l) w l.length:=λx hx=>by
 obtain⟨s,e,p,h1,h2⟩:=c x hx;exact⟨s,e,(List.getElem?_eq_some_iff.1 h1).1,zM2 g h1 h2⟩
theorem zDp {sp w:List Int}{m:Nat}(c:zVZ sp w m):∀k,k<=w.length->WOk (wgo sp w k) k
 | 0,_=>⟨rfl,rfl,λx hx=>⟨0,by
   have:x=0\/x=0:=by simpa [wgo]using hx
   omega,by decide⟩,show Wr.ok ⟨[],0,0⟩ (5*0)from⟨by decide,by decide,by decide⟩⟩
 | k+1,hk=>by
  have hi:w.length-1-k<w.length:=by omega
  obtain⟨s,e,_,h1⟩:=c w[w.length-1-k] (oS hi);unfold wgo;rw[oO hi];show WOk (qg sp (wgo sp w k) _ (w[w.length-1-k]).toNat) (k+1);rw[e];exact(zDp c k (by omega)).step (Nat.mod_lt _ (by decide)) h1
theorem zLu {p:Nat}:z7 zA 126 (.ptr p 0) (.int .i64 (0:Nat))=some (.ptr p 0):=by kernel_rfl
theorem zLv {p:Nat}:z7 zA 126 (.ptr p 0) (.int .i64 (1:Nat))=some (.ptr p 1):=by kernel_rfl
theorem zEN {p:Nat}:z7 zA 64 (.ptr p 0) (.int .i64 (0:Nat))=some (.ptr p 0):=by kernel_rfl
theorem XV {p:Nat}:z7 zA 64 (.ptr p 0) (.int .i64 (1:Nat))=some (.ptr p 1):=by kernel_rfl
theorem Kv {p j:Nat}(hj:j<2):z7 zA 126 (.ptr p 0) (.int .i64 (j:Nat))=some (.ptr p j):=by
 have:j=0\/j=1:=by omega
 rcases this with rfl|rfl
 ·exact zLu
 ·exact zLv
theorem Ku {p j:Nat}(hj:j<2):z7 zA 64 (.ptr p 0) (.int .i64 (j:Nat))=some (.ptr p j):=by
 have:j=0\/j=1:=by omega
 rcases this with rfl|rfl
 ·exact zEN
 ·exact XV
theorem _root_.Go.Sim.Blk.re {S S':Nat->Prop}{b0 b0':Nat}:∀{top:Nat}{l:List (Nat×O)},Blk S b0 h top l->(∀q∈l,S' q.1)->Blk S' b0' h top l
 | _,[],_,_=>trivial
 | _,(_,_)::_,⟨h1,_,h3,h4⟩,hs=>⟨h1,.inl (hs _ (List.mem_cons_self ..)),h3,h4.re λq hq=>hs q (oH _ hq)⟩
def ZI (l:List Bool):List V:=l.map V.bool
abbrev oI2 (cs:Cs):O:=.cells cs ⟨0,126+1,0⟩ true false
abbrev oB2 (cs:Cs):O:=.cells cs ⟨0,64+1,0⟩ true false
abbrev oPc (u:V):O:=.cells (.ls [u]) ⟨0,23+1,0⟩ true false
abbrev oCt (n:Int):O:=.cells (.ls [.int .i64 n]) ⟨0,3+1,0⟩ true false
abbrev wrL (pc p21 p19 p17 p14 p5 p3 p0:Nat) (u v vt:V) (cb cs:Cs) (w:Wr):List (Nat×O) :=
 [(pc,oPc u),(p21,oB2 cb),(p19,oI2 cs),(p17,oBW w),(p14,oET 5 vt),(p5,oBW ⟨[],0,0⟩),(p3,oCt 2),(p0,oD 5 v)]
abbrev S3 (p5 p3 p0:Nat):Nat->Prop:=λb=>b=p5\/b=p3\/b=p0
abbrev lpW (st:LoopState) (tm:Tm) (df:Nat):O:=.loop st none 86 tm #[27,28] zLp zMe df
theorem zL8 {hb h:H}{C lp df pc p21 p19 p17 p14 p5 p3 p0 m i s:Nat}{u v vt:V}{cb cs:Cs}{sp:List Int}{a:WS}{k:Nat}{tm:Tm}
  (w:Vw (S3 p5 p3 p0) hb h C ((lp,lpW .ready tm df)::(df,.deferred true)::wrL pc p21 p19 p17 p14 p5 p3 p0 u v vt cb cs a.1)) (rs:Row cs 2 (zJ a.2.1)) (rb:Row cb 2 (ZI a.2.2)) (g:WOk a k) (hk:k<=1000)
  (te:∀h',hb.nx<=h'.nx->(∀b,b<hb.nx->¬S3 p5 p3 p0 b->h'.get b=hb.get b)->ET h' vt m sp) (hs:s<m) (h1:1<=(yJ sp 32 s).length) (_:i<=100000)
  (ht:Has tm [(5,.ptr p3 0),(11,.ptr p21 0),(7,.ptr p14 0),(10,.ptr p19 0),(9,.ptr p17 0)]) (hn:h.nx+400<=T.top) (hlow:hb.low<=T.top)
  (hq:∀h' cs' cb',Vw (S3 p5 p3 p0) hb h' C ((lp,lpW .ready tm df)::(df,.deferred true)::wrL pc p21 p19 p17 p14 p5 p3 p0 u v vt cb' cs' (qg sp a (i % 2) s).1)->Row cs' 2 (zJ (qg sp a (i % 2) s).2.1)->Row cb' 2 (ZI (qg sp a (i % 2) s).2.2)->h'.nx=h.nx->Q (.bool true) h') :
  RR P lp [.int .i64 (i:Nat),.int .i64 (s:Nat)] h Q:=by
 have hj:i % 2<2:=Nat.mod_lt _ (by decide);obtain⟨st,est,hst⟩:=g.at hj;have hjs:i % 2<a.2.1.length:=by rw[g.st];exact hj
 have hjb:i % 2<a.2.2.length:=by rw[g.sn];exact hj
 have etm:Int.tmod (i:Int) 2=((i % 2:Nat):Int):=rfl;refine w.round (il:=0) (c':=C) rfl (by omega) ht rfl λtm0 hs0=>?_
 refine wpC.av hs0 zSF rfl rfl (hs0.on λtm1 hs1=>⟨rfl,rfl,rfl,rfl,λh1' w1 n1=>?_⟩);have l1:h1'.low<=T.top:=by have:=w1.low;omega
 have e1:ET h1' vt m sp:=te h1' w1.le w1.ex.get;have gb:cb.get? (i % 2)=some (.bool a.2.2[i % 2]):=by rw[rb.2.2.2 _ hj];unfold ZI;rw[oW,oO hjb];rfl
 have gs:cs.get? (i % 2)=some (.int .i64 st):=by rw[rs.2.2.2 _ hj,zJ,oW,est];rfl
 refine wpC.av hs1 zSK rfl rfl ⟨_,w1.ld1 8 rfl zb rfl rfl,by decide,?_⟩;rw[etm];refine⟨_,_,Ku hj,_,w1.ld1 3 rfl ty4 rfl gb,λc=>?_,λc=>?_⟩
 · -- the state stands: its bits are written
  obtain⟨q1,q2,q3,_⟩:=zIb hst h1 (qL sp 32 s);have hbl:qK (yJ sp 32 s) st<2^eN (st+32) (yJ sp 32 s).length:=Nat.mod_lt _ (Nat.two_pow_pos _);have hb2:2^eN (st+32) (yJ sp 32 s).length<=2^5:=Nat.pow_le_pow_right (by decide) q3;have ew:qg sp a (i % 2) s=(yu a.1 (qK (yJ sp 32 s) st) (eN (st+32) (yJ sp 32 s).length),a.2.1.set (i % 2) (ZJ (yJ sp 32 s) st),a.2.2):=by
   unfold qg;rw[est,oO hjb];show(if a.2.2[i % 2]=true then _ else _)=_;rw[if_pos c];rfl
  rw[ew]at hq;have eT:ET (zM h1') vt m sp:=⟨e1.tab,e1.hm,e1.all⟩;have i1:=yE (h:=h1') (by omega) l1;refine⟨⟨by omega,l1⟩,_,_,w1.ldA 6 rfl Zw rfl rfl,_,_,Kv hj,_,w1.ld1 4 rfl zb rfl gs,zKZ eT hs hst h1 (show h1'.nx+310<=T.top by omega) (oP _) ⟨_,_,_,_,rfl,i1.1.2,λh15 e15=>?_⟩⟩
  rw[i1.2]at e15;subst e15;rw[zW (by omega)];refine⟨_,_,_,ldB w1 (i:=5) rfl,zIW g.ok (by omega) q3 hbl ⟨_,_,_,_,rfl,?_⟩⟩;have okw:=yw g.ok (v:=qK (yJ sp 32 s) st) (eN (st+32) (yJ sp 32 s).length);obtain⟨h2,e2,w2,n2,_⟩:=w1.st (cx:=zA) 5 (t:=220) (f:=0) (u:=Yg (yu a.1 (qK (yJ sp 32 s) st) (eN (st+32) (yJ sp 32 s).length))) rfl (by omega) zCO rfl (oJ _) rfl rfl;obtain⟨h3,cs',e3,rs',w3,n3⟩:=w2.set (cx:=zA) 4 (j:=i % 2) (u:=.int .i64 (ZJ (yJ sp 32 s) st)) rs rfl (by omega) hj zb rfl rfl rfl rfl;rw[<-xC]at rs';refine⟨h2,e2,_,_,Kv hj,h3,e3,hs1.on λtm5 hs5=>⟨rfl,rfl,_,w3,(show h3.nx<=_ by omega),rfl,λh4 w4 n4 _=>hq h4 cs' cb w4 rs' rb ?_⟩⟩
  rw[n4];show h3.nx=_;omega
 · -- the first of its state
  obtain⟨f,ef,hf⟩:=Ot h1;have ew:qg sp a (i % 2) s=(a.1,a.2.1.set (i % 2) ((yJ sp 32 s)[0]?.getD 0),a.2.2.set (i % 2) true):=by
   unfold qg;rw[oO hjb];show(if a.2.2[i % 2]=true then _ else _)=_;rw[if_neg (by rw[c];decide)]
  rw[ew]at hq;obtain⟨h2,cs',e2,rs',w2,n2⟩:=w1.set (cx:=zA) 4 (j:=i % 2) (u:=.int .i64 ((yJ sp 32 s)[0]?.getD 0)) rs rfl (by omega) hj zb rfl rfl rfl rfl;obtain⟨h3,cb',e3,rb',w3,n3⟩:=w2.set (cx:=zA) 3 (j:=i % 2) (u:=.bool true) rb rfl (by omega) hj ty4 rfl rfl rfl rfl;rw[<-xC]at rs';have rb2:Row cb' 2 (ZI (a.2.2.set (i % 2) true)):=by unfold ZI;rw[List.map_set];exact rb'
  refine⟨_,_,w1.ldA 6 rfl Zw rfl rfl,zEs e1 hs h1 (by omega) l1 ⟨_,_,rfl,_,_,Kv hj,h2,e2,_,_,Ku hj,h3,e3,hs1.on λtm5 hs5=>⟨rfl,rfl,_,w3,(show h3.nx<=_ by omega),rfl,λh4 w4 n4 _=>hq h4 cs' cb' w4 rs' rb2 ?_⟩⟩⟩
  rw[n4];show h3.nx=_;omega
theorem zXe:Row (.ls [.int .i64 0,.int .i64 0]) 2 (zJ [0,0]):=⟨trivial,rfl,rfl,λi hi=>by
 have:i=0\/i=1:=by omega
 rcases this with rfl|rfl<;>rfl⟩
theorem zPO:Row (.ls [.bool false,.bool false]) 2 (ZI [false,false]):=⟨trivial,rfl,rfl,λi hi=>by
 have:i=0\/i=1:=by omega
 rcases this with rfl|rfl<;>rfl⟩
def wtl (a:WS):Nat->Wr
 | 0=>a.1
 | t+1=>yu (wtl a t) (a.2.1[1-t]?.getD 0).toNat 5
theorem zIK {a:WS}{k:Nat}(g:WOk a k):∀t,(wtl a t).ok (5*k+5*t)
 | 0=>g.ok
 | t+1=>(yw (zIK g t) 5).up (by omega)
theorem zU5 (sp w:List Int):wtl (wgo sp w w.length) 2=zHz sp w:=rfl
theorem zPp {hb h:H}{C lp df pc p21 p19 p17 p14 p5 p3 p0:Nat}{u v vt:V}{cb cs:Cs}{a:WS}{k:Nat}{o:O}{tm:Tm}
  (w:Vw (S3 p5 p3 p0) hb h C ((lp,o)::(df,.deferred true)::wrL pc p21 p19 p17 p14 p5 p3 p0 u v vt cb cs a.1)) (rs:Row cs 2 (zJ a.2.1)) (g:WOk a k) (hk:k<=1000)
  (ht:Has tm [(5,.ptr p3 0),(6,.ptr p5 0),(3,.ptr p0 0),(10,.ptr p19 0),(9,.ptr p17 0)]) (hn:h.nx+400<=T.top) (hlow:hb.low<=T.top)
  (hq:∀h',ExtX (S3 p5 p3 p0) hb h' C->Q (Yg (wtl a 2)) h') :
  zC5 false zH5 ⟨86,tm,[.coll df],h⟩ (endW zA ⟨86,[.cell 6 220],OY⟩ Q):=by
 refine wpS.av ht zTV rfl rfl ⟨_,w.ld1 8 rfl zb rfl rfl,ht.on λtm2 hs2=>?_⟩
 refine wpC.round (λj tm h'=>∃t:Nat,t<=2/\j=2-t/\h'.nx=h.nx/\Vw (S3 p5 p3 p0) hb h' C ((lp,o)::(df,.deferred true)::wrL pc p21 p19 p17 p14 p5 p3 p0 u v vt cb cs (wtl a t)) /\
  Has tm [(19,.int .i64 (1-(t:Int))),(6,.ptr p5 0),(3,.ptr p0 0),(10,.ptr p19 0),(9,.ptr p17 0)]) 2 ⟨0,by omega,by omega,rfl,w,hs2.sub (by kernel_rfl)⟩ ?_
 clear hs2;rintro j tm h' ⟨t,ht2,rfl,hnx,w',hs⟩;have l':h'.low<=T.top:=by have:=w'.low;omega
 refine wpC.av hs zSX rfl rfl ⟨λc=>?_,λc=>hs.on λtm' hs'=>?_⟩
 ·have htl:t<=1:=by omega
  have e1:1-(t:Int)=((1-t:Nat):Int):=by omega
  obtain⟨st,est,hst⟩:=g.at (j:=1-t) (by omega);have gs:cs.get? (1-t)=some (.int .i64 st):=by rw[rs.2.2.2 _ (by omega),zJ,oW,est];rfl
  have i1:=yE (h:=h') (by omega) l';have hok:=zIK g t;refine⟨⟨by omega,l'⟩,_,_,_,ldB w' (i:=5) rfl,?_⟩;rw[qM];refine⟨_,w'.ld1 9 rfl zb rfl rfl,_,_,by rw[e1];exact Kv (by omega),_,w'.ld1 4 rfl zb rfl gs,?_⟩;rw[zW (by omega)];refine zIW (k:=5) hok (by omega) (by decide) (by omega) ⟨_,_,_,_,rfl,i1.1.2,λh15 e15=>?_⟩
  rw[i1.2]at e15;subst h15;have hp17:p17<T.top:=oI (w'.lt 5 rfl) (by omega);have hg:(zM h').get p17=some (oBW (wtl a t)):=w'.get 5 rfl;have es:wtl a (t+1)=yu (wtl a t) st 5:=by
   show yu (wtl a t) (a.2.1[1-t]?.getD 0).toNat 5=_;rw[est];rfl
  have w2:=w'.upd 5 (o':=oBW (wtl a (t+1))) rfl (by omega);refine⟨(zM h').upd p17 (some (oBW (wtl a (t+1)))),by rw[es];exact zk zCO hg rfl (oJ _) rfl rfl,(show h'.nx<=T.top by omega),λh17 e17=>?_⟩
  rw[kO hp17]at e17;subst h17;refine hs.on λtm' hs'=>⟨rfl,rfl,2-(t+1),by omega,t+1,by omega,rfl,(show h'.nx=h.nx from hnx),w2,?_⟩
  have e2:zH (1-(t:Int)-1)=1-((t+1:Nat):Int):=by rw[zD (by omega) (by omega)];omega
  rw[<-e2];exact hs'.sub (by kernel_rfl)
 ·have ht3:t=2:=by omega
  subst ht3;refine thenC.left (wpS.av hs' zTU rfl rfl ⟨_,_,_,ldB w' (i:=5) rfl,?_⟩);obtain⟨h3,e3,w3,n3,_⟩:=w'.st (cx:=zA) 7 (t:=220) (f:=0) (u:=Yg (wtl a 2)) rfl (by omega) zCO rfl (oJ _) rfl rfl;refine⟨h3,e3,hs'.on λtm3 hs3=>hs3.slt λtm4 hs4=>?_⟩
  show wpD [.coll df] h3 _;refine w3.ends (i:=1) rfl (by omega) λh4 w4 n4 _=>?_
  have el:leave zA [.cell 6 220] tm4 h4 [.cell 6 220] []=some [Yg (wtl a 2)]:=leave.cell (hs4.get (t:=6) rfl) (ldB w4 (i:=7) rfl) rfl;show(match leave zA [.cell 6 220] tm4 h4 [.cell 6 220] []with|some vs=>Q (yM vs) h4|none=>False)
  rw[el];exact hq h4 w4.ex
theorem FTab.et {lo:Nat}{v:V}{l:List Int}(g:GD 5 l) (f:FTab lo h v l.length (yJ (yi 5 l) (2^5))):ET h v l.length (yi 5 l) :=
 ⟨f.tab,by have:=g.len;omega,λi hi=>by
  have hl:i<(yi 5 l).length:=by rw[Zs];exact hi
  obtain⟨s,e,p,h1,_⟩:=JH g (oO hl);exact⟨s,(List.getElem?_eq_some_iff.1 h1).1,by rw[oO hl,e]⟩⟩
theorem zK6 {u v:V}{l w:List Int}(sl:Sl h v 1 l.length (zJ l)) (g:GD 5 l) (su:Sl h u 1 w.length (zJ w)) (hw:w.length<=1000) (cv:Cov l w) (hn:h.nx+700<=T.top) (hlow:h.low<=T.top)
  (hq:Q (Yg (zHz (yi 5 l) w)) h):RF P zA 178 [.agg [.int .i64 (5:Nat),v],u,.int .i64 (2:Nat)] h Q:=by
 refine RF.forget (n:=200) (v:=Yg (zHz (yi 5 l) w)) ?_ (zd rfl) hq;have ce:=cv.cells g;refine yD zZk rfl rfl z1r (yv sl ⟨by omega,?_⟩);rintro p0 h1 rfl e1;have w1:=(Vw.nil (S:=zR) (h:=h)).new e1 (by omega);have n1:h1.nx=h.nx+1:=by rw[e1,zG]
 refine⟨rfl,by omega,?_⟩;rintro p3 h4 rfl e4;have w4:=w1.new e4 (by omega);have n4:h4.nx=h1.nx+1:=by rw[e4,zG]
 refine⟨by omega,?_⟩;rintro p5 h6 rfl e6;have w6:=w4.new e6 (by omega);have n6:h6.nx=h4.nx+1:=by rw[e6,zG]
 have l6:=w6.low;refine⟨_,_,w6.ldA 2 rfl yr rfl rfl,zEt (sl.ext w6.ex0) g (by omega) (by omega) λh10 v12 x10 f10=>⟨_,_,_,rfl,?_⟩⟩
 have t10:=x10.top;have le10:=x10.le;have w10:=w6.ext x10;have l10:=w10.low;have hx10:Ext h h10 153:=w10.ex0.mono (by omega);have wb:Vw (S3 h4.nx h1.nx h.nx) h10 h10 0 [(h4.nx,oBW ⟨[],0,0⟩),(h1.nx,oCt 2),(h.nx,oD 5 v)]:=⟨ExtX.refl0 _ _,w10.bk.re λq hq=>by
  simp only[od,List.not_mem_nil,or_false]at hq;rcases hq with rfl|rfl|rfl
  ·exact .inl rfl
  ·exact .inr (.inl rfl)
  ·exact .inr (.inr rfl)⟩
 refine⟨by omega,?_⟩;rintro p14 h15 rfl e15;have w15:=wb.new e15 (by omega);have n15:h15.nx=h10.nx+1:=by rw[e15,zG]
 obtain⟨vs,sv12,_⟩:=f10.tab;obtain⟨h16,e16,w16,n16,_⟩:=w15.st (cx:=zA) 0 (t:=216) (f:=0) (u:=.agg [.int .i64 (5:Nat),v12]) (cs':=.ls [.int .i64 (5:Nat),v12]) rfl (by omega) Zw (yl.2 (by rw[kC sv12];rfl)) (oJ _) (by rw[kC sv12];exact OV sv12) (by rw[kC sv12];rfl);refine⟨h16,e16,by omega,?_⟩;rintro p17 h18 rfl e18;have w18:=w16.new e18 (by omega);have n18:h18.nx=h16.nx+1:=by rw[e18,zG]
 refine⟨by omega,?_⟩;rintro p19 h20 rfl e20;have w20:=w18.new e20 (by omega);have n20:h20.nx=h18.nx+1:=by rw[e20,zG]
 refine⟨by omega,?_⟩;rintro p21 h22 rfl e22;have w22:=w20.new e22 (by omega);have n22:h22.nx=h20.nx+1:=by rw[e22,zG]
 refine yD z0Q rfl rfl z2W ⟨zDL su,by omega,?_⟩;rintro pc h24 rfl e24;have w24:=w22.new e24 (by omega);have n24:h24.nx=h22.nx+1:=by rw[e24,zG]
 have hS3:∀b,S3 h4.nx h1.nx h.nx b->h.nx<=b:=by
  rintro b (rfl|rfl|rfl)<;>omega
 have hS3':∀b,S3 h4.nx h1.nx h.nx b->b<h6.nx:=by
  rintro b (rfl|rfl|rfl)<;>omega
 refine⟨_,rfl,Has.nil.on λtm hs=>?_⟩
 refine Vw.range (s:=⟨86,tm,[],h24⟩) w24 (captured:=[.ptr h22.nx 0]) (show zz tm (t 26)=_ from congrArg some (hs.get rfl)) (by show h24.nx+2<=_;omega) λh26 w26 n26=>?_
 replace n26:h26.nx=h24.nx+2:=n26
 have hte:∀h',h10.nx<=h'.nx->(∀b,b<h10.nx->¬S3 h4.nx h1.nx h.nx b->h'.get b=h10.get b)->ET h' v12 l.length (yi 5 l):=λh' hn' hg=>(f10.keep hn' λb h1 h2=>hg b h2 λq=>by have:=hS3' b q;omega).et g
 refine zKK (w:=w) (u:=u) (λk h'=>h'.nx=h26.nx/\∃cs cb,Vw (S3 h4.nx h1.nx h.nx) h10 h' 7 ((h24.nx+1,lpW .ready tm h24.nx)::(h24.nx,.deferred true)::wrL h22.nx h20.nx h18.nx h16.nx h10.nx h4.nx h1.nx h.nx u v v12 cb cs (wgo (yi 5 l) w k).1)/\Row cs 2 (zJ (wgo (yi 5 l) w k).2.1)/\Row cb 2 (ZI (wgo (yi 5 l) w k).2.2)) hw
  ⟨rfl,_,_,w26,zXe,zPO⟩ (w26.ld1 2 rfl zO rfl rfl) (λk h' i=>by obtain⟨_,cs,cb,w',_⟩:=i;exact w'.ld1 2 rfl zO rfl rfl) (λk h' i=>by obtain⟨_,cs,cb,w',_⟩:=i;exact su.ext (ExtX.ext hx10 w'.ex hS3)) (λk h' hk i=>?_) λh' i=>?_
 ·obtain⟨nx,cs,cb,w',r1,r2⟩:=i
  have hi:w.length-1-k<w.length:=by omega
  obtain⟨s,es,hsm,h1'⟩:=ce w[w.length-1-k] (oS hi);have eg:wgo (yi 5 l) w (k+1)=qg (yi 5 l) (wgo (yi 5 l) w k) ((w.length-1-k) % 2) s:=by
   show qg _ _ _ (w[w.length-1-k]?.getD 0).toNat=_;rw[oO hi,Option.getD_some,es];rfl
  rw[es,eg];refine zL8 w' r1 r2 (zDp ce k (by omega)) (by omega) hte hsm h1' (by omega) (hs.sub (by kernel_rfl)) (by omega) (by omega) λh'' cs' cb' w'' r1' r2' nx'=>⟨rfl,(show h''.nx=h26.nx by omega),cs',cb',w'',r1',r2'⟩
 ·obtain⟨nx,cs,cb,w',r1,_⟩:=i
  refine⟨7,_,w',by omega,λh19 o w19 n19 _=>?_⟩
  refine zPp w19 r1 (zDp ce w.length (oP _)) (by omega) (hs.sub (by kernel_rfl)) (by omega) (by omega) λh'' xx=>⟨by rw[zU5],(ExtX.ext hx10 xx hS3).mono (by omega)⟩
theorem zJ2 {sp w:List Int}{m:Nat}(c:zVZ sp w m):(zHz sp w).ok (5*w.length+10):=zIK (zDp c w.length (oP _)) 2
theorem zGZ {u v:V}{l w:List Int}(sl:Sl h v 1 l.length (zJ l)) (g:GD 5 l) (su:Sl h u 1 w.length (zJ w)) (hw:w.length<=1000) (h2:2<=w.length) (cv:Cov l w) (hn:h.nx+800<=T.top) (hlow:h.low<=T.top)
  (hq:Q (.tuple [.str (zLa (yi 5 l) w),.int .i64 0]) h):RF P zA 104 [.agg [.int .i64 (5:Nat),v],u] h Q:=by
 refine RF.forget (n:=10) (v:=.tuple [.str (zLa (yi 5 l) w),.int .i64 0]) ?_ (zd rfl) hq;refine yD zZ0 rfl rfl z17 (yv sl ⟨by omega,?_⟩);rintro p0 h1 rfl e1;have w1:=(Vw.nil (S:=zR) (h:=h)).new e1 (by omega);have n1:h1.nx=h.nx+1:=by rw[e1,zG]
 refine⟨_,_,w1.ldA 0 rfl yr rfl rfl,zFB (sl.ext w1.ex0) g (su.ext w1.ex0) hw h2 cv (by omega) λh6 x6=>⟨_,rfl,λc=>absurd rfl c,λ_=>?_⟩⟩
 have w6:=w1.ext x6;have t6:=x6.top;have l6:=w6.low;have ok:=zJ2 (cv.cells g);exact⟨_,_,w6.ldA 0 rfl yr rfl rfl,zK6 (sl.ext w6.ex0) g (su.ext w6.ex0) hw cv (by omega) (by omega) ⟨_,_,_,rfl,zMG ok (by omega) ⟨_,_,rfl,rfl,w6.ex0.mono (by omega)⟩⟩⟩
def Nz (p:List Int) (s:Nat):Prop:=∃y,p[s]? = some y/\y≠0
theorem Nz.set {p:List Int}{i s:Nat}{x:Int}(h:Nz p s) (hx:x≠0):Nz (p.set i x) s:=by
 obtain⟨y,h1,h2⟩:=h;by_cases e:i=s
 ·subst e
  exact⟨x,List.getElem?_set_self (List.getElem?_eq_some_iff.1 h1).1,hx⟩
 ·exact⟨y,by rw[oY e];exact h1,h2⟩
theorem zI6:∀{k:Nat}{p:List Int}{s:Nat},PR p->pts p=32+k->Nz p s->Nz (Ok k p) s
 | 0,_,_,_,_,h=>h
 | k+1,p,s,g,hp,h=>by
  obtain⟨g1,h1⟩:=g.dec (by omega);have hb:=g.big (by omega);exact zI6 (p:=Km p) g1 (by omega) (h.set (by omega))
theorem CD.nz {c:List Int}(g:CD c) {s:Nat}(h:0<c[s]?.getD 0):Nz (ZL c) s:=by
 have l:=zBw g.gc g.ne;have hs:s<qT c:=by
  rcases Nat.lt_or_ge s (qT c)with q|q
  ·exact q
  ·exact absurd h (l.hi s q)
 have h1:Nz (we c c.length) s:=⟨_,Zr hs,by rw[if_pos (by have:=l.le;omega)];exact zIz h⟩;obtain⟨f1,f2,f3,f4⟩:=g.fix;refine zI6 f1 (by omega) ?_;unfold ql;split
 ·have:=kE ((we c c.length)[ya c c.length]?.getD 0)
  exact h1.set (by omega)
 ·exact h1
theorem zPZ {l:List Int}{s:Nat}(h:(s:Int)∈l):0<jG l s:=by
 unfold jG;exact List.length_pos_of_mem (List.mem_filter.2 ⟨h,by simp⟩)
theorem zMR {l:List Int}(hin:kK l=true) (g:CD (wz l)):Cov (ZL (wz l)) l:=λx hx=>by
 have hr:=jo hin hx;obtain⟨s,rfl⟩:∃s:Nat,x=(s:Int):=⟨x.toNat,by omega⟩;refine⟨s,rfl,g.nz ?_⟩;rw[qj (by omega)];have:=zPZ hx;show(0:Int)<(jG l s:Nat);omega
theorem zE8:∀{c:List Int},(∀x∈c,0<=x)->cnt c<=yn c
 | [],_=>oP _
 | x::c,h=>by
  have ih:=zE8 (c:=c) λy hy=>h y (oH _ hy)
  have hx:=h x (List.mem_cons_self ..);have e:yn (x::c)=x.toNat+yn c:=by simp[yn]
  rw[e];unfold cnt at ih ⊢;rw[List.filter_cons];by_cases q:x=0
  ·rw[if_neg (by simp[q])];omega
  ·rw[if_pos (by simp[q]),oV];omega
def kW (l:List Int):List UInt8:=zMY 5 (ZL (wz l))++zLa (yi 5 (ZL (wz l))) l
def wF (l:List Int):Option (List UInt8):=if 2<=cnt (wz l)/\(kW l).length<=127 then some (UInt8.ofNat (kW l).length::kW l) else none
def zHY (o:Option (List UInt8)):V:=match o with|some s=>.tuple [.str s,.int .i64 0]|none=>.tuple [.str [],.int .i64 7]
theorem zAQ (o:Option (List UInt8)):Plain (zHY o):=by cases o<;>exact zd rfl
theorem zGW {w:Wr}{m v k:Nat}(h:w.ok m):(yu w v k).s.length<=m+k:=by
 have:=(yw (v:=v) h k).s;omega
theorem Y4 {v:V}{l:List Int}(sl:Sl h v 1 l.length (zJ l)) (hin:kK l=true) (hl:l.length<=255) (hn:h.nx+1000<=T.top) (hlow:h.low<=T.top) (hq:Q (zHY (wF l)) h):RF P zA 54 [v] h Q:=by
 refine RF.forget (n:=20) (v:=zHY (wF l)) ?_ (zAQ _) hq;have hgc:=zI4 hl;refine yD z6Y rfl rfl z7I (zHu sl hin hl (by omega) λh1 x1 s1=>⟨_,_,rfl,λc=>absurd rfl c,λ_=>?_⟩)
 have t1:=x1.top;have s1':Sl h1 (.slice h.nx 0 12 (.exact 12)) 1 (wz l).length (zJ (wz l)):=by rw[j9];exact s1
 refine Z3 s1' hgc ⟨_,_,rfl,λc=>?_,λc=>?_⟩
 ·have:wF l=none:=by unfold wF;rw[if_neg (by omega)]
  exact⟨by rw[this];rfl,x1.mono (by omega)⟩
 ·have h2:2<=cnt (wz l):=by omega
  have g:=zQr hin hl (by omega);have gd:=g.gd;have l1:=x1.low;refine zKn s1' g (by omega) (by omega) λh9 b x9 hb s9=>⟨_,_,_,rfl,?_⟩
  have t9:=x9.top;have l9:=x9.low;have x19:=x1.trans x9;refine⟨by omega,?_⟩;rintro p13 h14 rfl e14;have w14:=(Vw.nil (S:=zR) (h:=h9)).new e14 (by omega);obtain⟨h15,e15,w15,n15,_⟩:=w14.st (cx:=zA) 0 (t:=59) (f:=0) (u:=.agg [.int .i64 5,.slice b 0 (ZL (wz l)).length (.exact (ZL (wz l)).length)]) rfl (by rw[e14,zG];omega) yr rfl (oJ _) rfl rfl;have n14:h14.nx=h9.nx+1:=by rw[e14,zG]
  have l15:=w15.low;have s15:=s9.ext w15.ex0;have sv:=sl.ext (x19.trans w15.ex0);have cv:=zMR hin g;have hlen2:2<=l.length:=by
   have:=zE8 (c:=wz l) λx hx=>(hgc.rng x hx).1
   rw[J7 hin]at this;omega
  refine⟨h15,e15,λc=>absurd rfl c,λ_=>⟨_,_,w15.ldA 0 rfl yr rfl rfl,zCs s15 gd (by omega) (by omega) λh19 x19'=>⟨_,_,rfl,λc=>absurd rfl c,λ_=>?_⟩⟩⟩
  have w19:=w15.ext x19';have t19:=x19'.top;have l19:=x19'.low;refine⟨_,_,w19.ldA 0 rfl yr rfl rfl,zGZ (s15.ext x19') gd (sv.ext x19') (by omega) hlen2 cv (by omega) (by omega) ⟨_,_,rfl,λc=>absurd rfl c,λ_=>?_⟩⟩
  have hd1:(zMY 5 (ZL (wz l))).length<=10008:=by
   have:=zGW (v:=0) (k:=(8-(Yf 5 (ZL (wz l))).n) % 8) (Ka gd);unfold zMY;omega
  have hd2:(zLa (yi 5 (ZL (wz l))) l).length<=2000:=by
   have:=zGW (v:=1) (k:=8-(zHz (yi 5 (ZL (wz l))) l).n) (zJ2 (cv.cells gd));unfold zLa;omega
  have hxx:Ext h h19 19:=((x19.trans w15.ex0).trans x19').mono (by omega);refine⟨oQ (Nat.add_le_add hd1 hd2) (by decide),λc=>?_,λc=>?_⟩
  ·have c':(kW l).length<=127:=by
    have:((kW l).length:Int)<=127:=c;omega
   have hc:wF l=some (UInt8.ofNat (kW l).length::kW l):=by unfold wF;rw[if_pos ⟨h2,c'⟩]
   obtain⟨h29,e29,s29,x29⟩:=YC (h:=h19) ((kW l).length:Nat) (by omega);have eb:zT .u8 (Int.ofNat (zMY 5 (ZL (wz l))++zLa (yi 5 (ZL (wz l))) l).length)=(((kW l).length:Nat):Int):=by
    show zT .u8 (((kW l).length:Nat):Int)=_;rw[ji,oe (by omega)]
   have hby:(.int .u8 (((kW l).length:Nat):Int):V)=byv (UInt8.ofNat (kW l).length):=(Yp (by omega)).symm;rw[hby]at s29;refine⟨_,h29,by rw[eb];exact e29,X1 (l:=[UInt8.ofNat (kW l).length]) s29 (Nat.succ_pos _) (zIP (oQ (Nat.add_le_add_left (show(kW l).length<=127 from c') _) (by rw[List.length_singleton];decide)) ⟨by rw[hc];rfl,(hxx.trans x29).mono (by omega)⟩)⟩
  ·have c':¬(kW l).length<=127:=by
    have:¬((kW l).length:Int)<=127:=c;omega
   have hc:wF l=none:=by unfold wF;rw[if_neg (by omega)]
   exact⟨by rw[hc];rfl,hxx.mono (by omega)⟩
abbrev zSA:TI:=⟨9,.string,1,16,some (.str []),true,false,false,[]⟩
def zDj (l:List (List UInt8)):List V:=l.map V.str
theorem zZU {a b:V}{k:V->Prop}(hk:k a):Zz zA 0 9 (.tuple [a,b]) k:=by
 have h:qI zA 9=false:=by kernel_rfl
 show(match qI zA 9 with|true=>XM a k|false=>k a);rw[h];exact hk
theorem zZV {a b:V}{k:V->Prop}(hk:k b):Zz zA 1 24 (.tuple [a,b]) k:=by
 have h:qI zA 24=false:=by kernel_rfl
 show(match qI zA 24 with|true=>XM b k|false=>k b);rw[h];exact hk
theorem zIY {m n:Int}{t1 t2:Nat}{a b:Go.Operand}{k:V->Prop}(h1:m=n->k (.bool true)) (h2:¬m=n->k (.bool false)):wY zA .eql t1 a b t2 (.int .i64 m) (.int .i64 n) k:=by
 show(if jF .eql=true\/wa .i64 .i64=true then jX (m=n) k else False);rw[if_pos (.inr rfl)];exact⟨h1,h2⟩
theorem zQk {m n:Int}{t1 t2:Nat}{a b:Go.Operand}{k:V->Prop}(h1:m<n->k (.bool true)) (h2:¬m<n->k (.bool false)):wY zA .lss t1 a b t2 (.int .i64 m) (.int .i64 n) k:=by
 show(if jF .lss=true\/wa .i64 .i64=true then jX (m<n) k else False);rw[if_pos (.inr rfl)];exact⟨h1,h2⟩
def jN (l:List Int):Option (List UInt8):=if jz l=0/\l.length<=128 then some (zKS l) else none
def Ob (l:List Int) (i:Nat):Option (List UInt8):=if i=0 then jN l else wF l
def zPw (v:V) (o:Option (List UInt8)):Prop:=match o with|some s=>v = .tuple [.str s,.int .i64 0]|none=>∃e:Int,e≠0/\v = .tuple [.str [],.int .i64 e]
theorem zEk (l:List Int):zPw (zEj l) (jN l):=by
 unfold zEj jN;by_cases c:jz l=0
 ·rw[if_neg (by omega)]
  by_cases d:l.length<=128
  ·rw[if_neg (by omega),if_pos ⟨c,d⟩];rfl
  ·rw[if_pos (by omega),if_neg (by omega)];exact⟨4,by decide,rfl⟩
 ·rw[if_pos c,if_neg (by omega)];exact⟨_,c,rfl⟩
theorem zF9 (o:Option (List UInt8)):zPw (zHY o) o:=by
 cases o with
 | some s=>rfl
 | none=>exact⟨7,by decide,rfl⟩
def xL (l:List Int) (k:Nat):List (List UInt8):=(List.range k).filterMap (Ob l)
theorem Oc (l:List Int) (k:Nat):xL l (k+1)=xL l k++(Ob l k).toList:=by
 unfold xL;rw[List.range_succ,List.filterMap_append]
 congr 1
def jp (l:List Int):Nat->List Bool
 | 0=>[false,false]
 | k+1=>if (Ob l k).isSome=true then (jp l k).set k true else jp l k
abbrev zRB:V:=.func (.func 26) [] []
abbrev zRA:V:=.func (.func 54) [] []
theorem zMb (hn:h.nx<T.top) (hq:∀h',Ext h h' 1->Q (.agg [zRB,zRA]) h'):RF P zA 93 [] h Q:=by
 refine yD z68 rfl rfl z7S ⟨hn,?_⟩;rintro p0 h1 rfl e1;have w1:=(Vw.nil (S:=zR) (h:=h)).new e1 (by omega);obtain⟨h2,e2,w2,n2,_⟩:=w1.st (cx:=zA) 0 (t:=136) (f:=0) (u:=.agg [zRB,zRA]) rfl (by rw[e1,zG];omega) zVO rfl (oJ _) rfl rfl;exact⟨h2,e2,endL.ok (leaveL.cell (w2.ldA 0 rfl zVO rfl rfl) rfl) (hq h2 w2.ex0)⟩
theorem zZJ:xl zA 136 (.agg [.func (.func 26) [] [],.func (.func 54) [] []]) (.int .i64 (0:Nat))=some zRB:=by kernel_rfl
theorem zZK:xl zA 136 (.agg [.func (.func 26) [] [],.func (.func 54) [] []]) (.int .i64 (1:Nat))=some zRA:=by kernel_rfl
theorem zMJ (s:List UInt8) (hn:h.nx<T.top):∃v1 h',zF zA 63 1 [(0,.str s)] h=some (v1,h')/\Sl h' v1 1 1 [.str s]/\Ext h h' 1:=by
 obtain⟨v,h',e,s,x,_⟩:=j7 (c:=zA) (h:=h) (u:=.str s) (ys:=[.str s]) zP9 rfl qh rfl rfl rfl rfl (by decide) rfl hn;exact⟨v,h',e,s,x⟩
theorem zVL {s:List UInt8}{e:Int}{k:V->H->Prop}(hk:k (.tuple [.str s,.int .i64 e]) h):qZ zA 32 k (.tuple [.str s,.int .i64 e]) h:=⟨s,e,rfl,hk⟩
theorem zJH {a:V}{o:Option (List UInt8)}{k:V->H->Prop}(ha:zPw a o) (hk:k a h):qZ zA 32 k a h:=by
 cases o with
 | some s=>have e:a=_:=ha;subst e;exact zVL hk
 | none=>obtain⟨e,_,rfl⟩:=ha;exact zVL hk
theorem zIR {a:V}{o:Option (List UInt8)}{x y:Go.Operand}{f:V->Bool->Prop}(ha:zPw a o) (h1:∀s,o=some s->f (.str s) true) (h2:o=none->∀v,f v false) :
  Zz zA 0 9 a (λv3=>Zz zA 1 24 a (λv4=>wY zA .eql 24 x y 4 v4 (.int .i64 (0:Int)) (λv5=>xJ v5 (λu=>f v3 u)))):=by
 cases o with
 | some s =>
  have e:a=_:=ha;subst e;exact zZU (zZV (zIY (λ_=>h1 s rfl) λc=>absurd rfl c))
 | none =>
  obtain⟨e,he,rfl⟩:=ha;exact zZU (zZV (zIY (λc=>absurd c he) λ_=>h2 rfl _))
end Go.Proofs.YtnpeieeomokomaaGreat
