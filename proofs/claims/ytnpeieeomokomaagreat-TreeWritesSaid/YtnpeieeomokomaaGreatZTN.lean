/- TN. No condition. -/
import Derived.Test.YtnpeieeomokomaaGreatZTM
set_option maxRecDepth 100000
set_option maxHeartbeats 4000000
namespace Go.Proofs.YtnpeieeomokomaaGreat
open Go.Sim
def zFl (log m:Nat):Bool:=(List.range (2^log-m)).all λk=>(List.range k).all λj=>decide (YR log m j≠YR log m k)
theorem zFm:((List.range 13).all λm=>zFl 5 m && zFl 6 m)=true:=by decide +kernel
theorem zMn {log m j k:Nat}(hl:log=5\/log=6) (hm:m<=12) (hk:k<2^log-m) (hj:j<k):YR log m j≠YR log m k:=by
 have h:=List.all_eq_true.1 zFm m (List.mem_range.2 (by omega));rw[oG]at h;have h2:zFl log m=true:=by
  rcases hl with rfl|rfl
  ·exact h.1
  ·exact h.2
 exact of_decide_eq_true (List.all_eq_true.1 (List.all_eq_true.1 h2 k (List.mem_range.2 hk)) j (List.mem_range.2 hj))
theorem zHs {log m j k:Nat}(hl:log=5\/log=6) (hm:m<=12) (hk:k<2^log-m) (hj:j<2^log-m) (hne:j≠k):YR log m j≠YR log m k:=by
 rcases Nat.lt_or_ge j k with c|c
 ·exact zMn hl hm hk c
 ·exact λe=>zMn hl hm hj (show k<j by omega) e.symm
theorem JA {log m s q:Nat}:∀{c k:Nat}{out:List Int},(∀j,k<=j->j<k+c->YR log m j≠q)->(ZD log m s c k out)[q]? = out[q]?
 | 0,_,_,_=>rfl
 | c+1,k,out,h=>by
  unfold ZD;rw[JA λj h1 h2=>h j (by omega) (by omega),oW (h k (by omega) (by omega))]
theorem JB {log m q:Nat}:∀{l:List Int}{s k:Nat}{out:List Int},(∀j,k<=j->j<k+OG l->YR log m j≠q)->(ZE log m l s k out)[q]? = out[q]?
 | [],_,_,_,_=>rfl
 | p::l,s,k,out,h=>by
  unfold ZE;rw[Z2]at h;rw[JB λj h1 h2=>h j (by omega) (by omega),JA λj h1 h2=>h j h1 (by omega)]
theorem zEW {log m:Nat}(hl:log=5\/log=6) (hm:m<=12):∀{l:List Int}{s k:Nat}{out:List Int},out.length=2^log->k+OG l<=2^log-m->∀{i:Nat}{p:Int},l[i]? = some p->0<p->∃q:Nat,q<2^log/\(ZE log m l s k out)[q]? = some ((s+i:Nat):Int)
 | [],_,_,_,_,_,i,p,h,_=>by cases h
 | p::l,s,k,out,ho,hk,i,p',h,hp=>by
  unfold ZE;rw[Z2]at hk;cases i with
  | zero =>
   cases h;obtain⟨c,hc⟩:∃c,p.toNat=c+1:=⟨p.toNat-1,by omega⟩;have hlt:=ZB hl hm k;refine⟨YR log m k,by omega,?_⟩;rw[JB λj h1 h2=>zHs hl hm (by omega) (by omega) (by omega),hc]
   unfold ZD;rw[JA λj h1 h2=>zHs hl hm (by omega) (by omega) (by omega),List.getElem?_set_self (by omega)]
   rfl
  | succ i =>
   obtain⟨q,h1,h2⟩:=zEW hl hm (l:=l) (s:=s+1) (k:=k+p.toNat) (out:=ZD log m s p.toNat k out) (by rw[XI];exact ho) (by omega) (i:=i) (p:=p') (by simpa using h) hp;exact⟨q,h1,by rw[h2];congr 2;omega⟩
theorem JJ:∀{l:List Int}{s n q:Nat}{out:List Int},zz l<=n->n<=q->(qX l s n out)[q]? = out[q]?
 | [],_,_,_,_,_,_=>rfl
 | p::l,s,n,q,out,hn,h=>by
  unfold qX;rw[kK]at hn;split
  ·rename_i c
   rw[if_pos c]at hn;rw[JJ (by omega) (by omega),oW (by omega)]
  ·rename_i c
   rw[if_neg c]at hn;exact JJ (by omega) h
theorem O4:∀{l:List Int}{s n:Nat}{out:List Int},n<=out.length->zz l<=n->∀{i:Nat},l[i]? = some (-1)->∃q:Nat,n-zz l<=q/\q<n/\(qX l s n out)[q]? = some ((s+i:Nat):Int)
 | [],_,_,_,_,_,i,h=>by cases h
 | p::l,s,n,out,ho,hn,i,h=>by
  unfold qX;rw[kK]at hn ⊢;cases i with
  | zero =>
   cases h;rw[if_pos rfl]at hn ⊢;rw[if_pos rfl];refine⟨n-1,by omega,by omega,?_⟩;rw[JJ (by omega) (oO _),List.getElem?_set_self (by omega)];rfl
  | succ i =>
   have h':l[i]? = some (-1):=by simpa using h
   by_cases c:p = -1
   ·rw[if_pos c]at hn ⊢
    rw[if_pos c];obtain⟨q,h1,h2,h3⟩:=O4 (l:=l) (s:=s+1) (n:=n-1) (out:=out.set (n-1) s) (by rw[oc];omega) (by omega) h';exact⟨q,by omega,by omega,by rw[h3];congr 2;omega⟩
   ·rw[if_neg c]at hn ⊢
    rw[if_neg c];obtain⟨q,h1,h2,h3⟩:=O4 (l:=l) (s:=s+1) (n:=n) (out:=out) ho (by omega) h';exact⟨q,by omega,by omega,by rw[h3];congr 2;omega⟩
theorem zO2 {log:Nat}{l:List Int}(g:GD log l) {s:Nat}{p:Int}(h:l[s]? = some p) (hp:p≠0):∃q:Nat,q<2^log/\(zh log l)[q]? = some (s:Int):=by
 have hm:zz l<=12:=oP (XA l) g.len;have hpw:=yc g.lg;have hc:=g.cells;have hlow:=g.low p (List.mem_of_getElem? h);unfold zh;by_cases c:p = -1
 ·subst c
  obtain⟨q,h1,h2,h3⟩:=O4 (l:=l) (s:=0) (n:=2^log) (out:=List.replicate (2^log) 0) (by rw[List.length_replicate];exact oO _) (by omega) h;refine⟨q,h2,?_⟩;rw[JB λj _ _=>by have:=ZB g.lg hm j;omega,h3,Nat.zero_add]
 ·obtain⟨q,h1,h2⟩:=zEW g.lg hm (l:=l) (s:=0) (k:=0) (out:=qX l 0 (2^log) (List.replicate (2^log) 0)) (by rw[ZH,List.length_replicate]) (by omega) h (by omega)
  exact⟨q,h1,by rw[h2,Nat.zero_add]⟩
theorem zLG {log:Nat}{l:List Int}(g:GD log l) {s:Nat}{p:Int}(h:l[s]? = some p) (hp:p≠0):1<=(zX (zh log l) (2^log) s).length:=by
 obtain⟨q,h1,h2⟩:=zO2 g h hp;have:((q:Nat):Int)∈zX (zh log l) (2^log) s:=Kt.2 ⟨q,rfl,h1,h2⟩;exact List.length_pos_of_mem this
abbrev WS:=Wr×List Int×List Bool
def wO (sp:List Int) (a:WS) (j s:Nat):WS :=
 if a.2.2[j]?.getD false=true then
  (zn a.1 (wB (zX sp 32 s) (a.2.1[j]?.getD 0).toNat) (eN ((a.2.1[j]?.getD 0).toNat+32) (zX sp 32 s).length),a.2.1.set j (wl (zX sp 32 s) (a.2.1[j]?.getD 0).toNat),a.2.2)
 else (a.1,a.2.1.set j ((zX sp 32 s)[0]?.getD 0),a.2.2.set j true)
def Zr (sp w:List Int):Nat->WS
 | 0=>(⟨[],0,0⟩,[0,0],[false,false])
 | k+1=>wO sp (Zr sp w k) ((w.length-1-k) % 2) (w[w.length-1-k]?.getD 0).toNat
def zAf (sp w:List Int):Wr:=zn (zn (Zr sp w w.length).1 ((Zr sp w w.length).2.1[1]?.getD 0).toNat 5) ((Zr sp w w.length).2.1[0]?.getD 0).toNat 5
def JY (sp w:List Int):List UInt8:=(zn (zAf sp w) 1 (8-(zAf sp w).n)).s
structure WOk (a:WS) (k:Nat):Prop where
 st:a.2.1.length=2
 sn:a.2.2.length=2
 lt:∀x∈a.2.1,∃n:Nat,x=(n:Int)/\n<32
 ok:a.1.ok (5*k)
theorem Ku {sp:List Int}{s:Nat}{x:Int}(h:x∈zX sp 32 s):∃n:Nat,x=(n:Int)/\n<32:=by
 obtain⟨i,h1,h2,_⟩:=Kt.1 h;exact⟨i,h1,h2⟩
theorem zIz {sp:List Int}{s st:Nat}(hst:st<32) (h1:1<=(zX sp 32 s).length):∃n:Nat,wl (zX sp 32 s) st=(n:Int)/\n<32:=by
 obtain⟨q1,q2,_⟩:=zAs hst h1 (wK sp 32 s);have hi:(st+32)/2^eN (st+32) (zX sp 32 s).length-(zX sp 32 s).length<(zX sp 32 s).length:=by omega
 unfold wl;rw[oM hi];exact Ku (oQ hi)
theorem Kr {sp:List Int}{s:Nat}(h1:1<=(zX sp 32 s).length):∃n:Nat,(zX sp 32 s)[0]?.getD 0=(n:Int)/\n<32:=by
 rw[oM (by omega)];exact Ku (oQ _)
theorem WOk.at {a:WS}{k:Nat}(g:WOk a k) {j:Nat}(hj:j<2):∃n:Nat,a.2.1[j]? = some (n:Int)/\n<32:=by
 have h:j<a.2.1.length:=by rw[g.st];exact hj
 obtain⟨n,h1,h2⟩:=g.lt _ (oQ h);exact⟨n,by rw[oM h,h1],h2⟩
theorem zOV {l:List Int}{j:Nat}{y:Int}(h:∀x∈l,∃n:Nat,x=(n:Int)/\n<32) (hy:∃n:Nat,y=(n:Int)/\n<32):∀x∈l.set j y,∃n:Nat,x=(n:Int)/\n<32:=λx hx=>by
 rcases List.mem_or_eq_of_mem_set hx with h1|h1
 ·exact h x h1
 ·rw[h1];exact hy
theorem WOk.step {a:WS}{k:Nat}(g:WOk a k) {sp:List Int}{j s:Nat}(hj:j<2) (h1:1<=(zX sp 32 s).length):WOk (wO sp a j s) (k+1):=by
 obtain⟨n,e,hn⟩:=g.at hj;unfold wO;rw[e];split
 ·obtain⟨_,_,q3,_⟩:=zAs hn h1 (wK sp 32 s)
  refine⟨by show(a.2.1.set _ _).length=2;rw[oc];exact g.st,g.sn,zOV g.lt (zIz hn h1),?_⟩;exact(yK g.ok _).up (show 5*k+eN (n+32) _<=5*(k+1)by omega)
 ·exact⟨by show(a.2.1.set _ _).length=2;rw[oc];exact g.st,by show(a.2.2.set _ _).length=2;rw[oc];exact g.sn,zOV g.lt (Kr h1),g.ok.up (by omega)⟩
def zU7 (sp w:List Int) (m:Nat):Prop:=∀x∈w,∃s:Nat,x=(s:Int)/\s<m/\1<=(zX sp 32 s).length
theorem Cov.cells {l w:List Int}(c:Cov l w) (g:GD 5 l):zU7 (zh 5 l) w l.length:=λx hx=>by
 obtain⟨s,e,p,h1,h2⟩:=c x hx;exact⟨s,e,(List.getElem?_eq_some_iff.1 h1).1,zLG g h1 h2⟩
theorem Ov {sp w:List Int}{m:Nat}(c:zU7 sp w m):∀k,k<=w.length->WOk (Zr sp w k) k
 | 0,_=>⟨rfl,rfl,λx hx=>⟨0,by
   have:x=0\/x=0:=by simpa [Zr]using hx
   omega,by decide⟩,show Wr.ok ⟨[],0,0⟩ (5*0)from⟨by decide,by decide,by decide⟩⟩
 | k+1,hk=>by
  have hi:w.length-1-k<w.length:=by omega
  obtain⟨s,e,_,h1⟩:=c w[w.length-1-k] (oQ hi);unfold Zr;rw[oM hi];show WOk (wO sp (Zr sp w k) _ (w[w.length-1-k]).toNat) (k+1);rw[e];exact(Ov c k (by omega)).step (Nat.mod_lt _ (by decide)) h1
theorem zDJ {p:Nat}:zV zA 126 (.ptr p 0) (.int .i64 (0:Nat))=some (.ptr p 0):=by kernel_rfl
theorem zDK {p:Nat}:zV zA 126 (.ptr p 0) (.int .i64 (1:Nat))=some (.ptr p 1):=by kernel_rfl
theorem zDI {p:Nat}:zV zA 64 (.ptr p 0) (.int .i64 (0:Nat))=some (.ptr p 0):=by kernel_rfl
theorem Ya {p:Nat}:zV zA 64 (.ptr p 0) (.int .i64 (1:Nat))=some (.ptr p 1):=by kernel_rfl
theorem kO {p j:Nat}(hj:j<2):zV zA 126 (.ptr p 0) (.int .i64 (j:Nat))=some (.ptr p j):=by
 have:j=0\/j=1:=by omega
 rcases this with rfl|rfl
 ·exact zDJ
 ·exact zDK
theorem KF {p j:Nat}(hj:j<2):zV zA 64 (.ptr p 0) (.int .i64 (j:Nat))=some (.ptr p j):=by
 have:j=0\/j=1:=by omega
 rcases this with rfl|rfl
 ·exact zDI
 ·exact Ya
theorem _root_.Go.Sim.Blk.re {S S':Nat->Prop}{b0 b0':Nat}{h:H}:∀{top:Nat}{l:List (Nat×O)},Blk S b0 h top l->(∀q∈l,S' q.1)->Blk S' b0' h top l
 | _,[],_,_=>trivial
 | _,(_,_)::_,⟨h1,_,h3,h4⟩,hs=>⟨h1,.inl (hs _ (List.mem_cons_self ..)),h3,h4.re λq hq=>hs q (oH _ hq)⟩
def wz (l:List Bool):List V:=l.map V.bool
abbrev oI2 (cs:Cs):O:=.cells cs ⟨0,126+1,0⟩ true false
abbrev oB2 (cs:Cs):O:=.cells cs ⟨0,64+1,0⟩ true false
abbrev oPc (u:V):O:=.cells (.ls [u]) ⟨0,23+1,0⟩ true false
abbrev oCt (n:Int):O:=.cells (.ls [.int .i64 n]) ⟨0,3+1,0⟩ true false
abbrev wrL (pc p21 p19 p17 p14 p5 p3 p0:Nat) (u v vt:V) (cb cs:Cs) (w:Wr):List (Nat×O) :=
 [(pc,oPc u),(p21,oB2 cb),(p19,oI2 cs),(p17,oBW w),(p14,oET 5 vt),(p5,oBW ⟨[],0,0⟩),(p3,oCt 2),(p0,oD 5 v)]
abbrev S3 (p5 p3 p0:Nat):Nat->Prop:=λb=>b=p5\/b=p3\/b=p0
noncomputable abbrev lpW (st:LoopState) (tm:Tm) (df:Nat):O:=.loop st none 86 tm #[27,28] zKV zLR df
theorem zKL {hb h:H}{C lp df pc p21 p19 p17 p14 p5 p3 p0 m i s:Nat}{u v vt:V}{cb cs:Cs}{sp:List Int}{a:WS}{k:Nat}{tm:Tm}{Q:V->H->Prop}
  (w:Vw (S3 p5 p3 p0) hb h C ((lp,lpW .ready tm df)::(df,.deferred true)::wrL pc p21 p19 p17 p14 p5 p3 p0 u v vt cb cs a.1)) (rs:Row cs 2 (zM a.2.1)) (rb:Row cb 2 (wz a.2.2)) (g:WOk a k) (hk:k<=1000)
  (te:∀h',hb.next<=h'.next->(∀b,b<hb.next->¬S3 p5 p3 p0 b->h'.get b=hb.get b)->ET h' vt m sp) (hs:s<m) (h1:1<=(zX sp 32 s).length) (hi:i<=100000)
  (ht:Has tm [(5,.ptr p3 0),(11,.ptr p21 0),(7,.ptr p14 0),(10,.ptr p19 0),(9,.ptr p17 0)]) (hn:h.next+400<=T.top) (hlow:hb.low<=T.top)
  (hq:∀h' cs' cb',Vw (S3 p5 p3 p0) hb h' C ((lp,lpW .ready tm df)::(df,.deferred true)::wrL pc p21 p19 p17 p14 p5 p3 p0 u v vt cb' cs' (wO sp a (i % 2) s).1)->Row cs' 2 (zM (wO sp a (i % 2) s).2.1)->Row cb' 2 (wz (wO sp a (i % 2) s).2.2)->h'.next=h.next->Q (.bool true) h') :
  RR P lp [.int .i64 (i:Nat),.int .i64 (s:Nat)] h Q:=by
 have hj:i % 2<2:=Nat.mod_lt _ (by decide);obtain⟨st,est,hst⟩:=g.at hj;have hjs:i % 2<a.2.1.length:=by rw[g.st];exact hj
 have hjb:i % 2<a.2.2.length:=by rw[g.sn];exact hj
 have etm:Int.tmod (i:Int) 2=((i % 2:Nat):Int):=rfl;refine w.round (il:=0) (c':=C) rfl (by omega) ht rfl λtm0 hs0=>?_
 refine wpC.at hs0 zQ2 rfl rfl (hs0.on λtm1 hs1=>⟨rfl,rfl,rfl,rfl,λh1' w1 n1=>?_⟩);have l1:h1'.low<=T.top:=by have:=w1.low;omega
 have e1:ET h1' vt m sp:=te h1' w1.le w1.ex.get;have gb:cb.get? (i % 2)=some (.bool a.2.2[i % 2]):=by rw[rb.2.2.2 _ hj];unfold wz;rw[oU,oM hjb];rfl
 have gs:cs.get? (i % 2)=some (.int .i64 st):=by rw[rs.2.2.2 _ hj,zM,oU,est];rfl
 refine wpC.at hs1 zQ7 rfl rfl ⟨_,w1.ld1 8 rfl zi rfl rfl,by decide,?_⟩;rw[etm];refine⟨_,_,KF hj,_,w1.ld1 3 rfl ty4 rfl gb,λc=>?_,λc=>?_⟩
 ·-- the state stands: its bits are written
  obtain⟨q1,q2,q3,_⟩:=zAs hst h1 (wK sp 32 s);have hbl:wB (zX sp 32 s) st<2^eN (st+32) (zX sp 32 s).length:=Nat.mod_lt _ (Nat.two_pow_pos _);have hb2:2^eN (st+32) (zX sp 32 s).length<=2^5:=Nat.pow_le_pow_right (by decide) q3;have ew:wO sp a (i % 2) s=(zn a.1 (wB (zX sp 32 s) st) (eN (st+32) (zX sp 32 s).length),a.2.1.set (i % 2) (wl (zX sp 32 s) st),a.2.2):=by
   unfold wO;rw[est,oM hjb];show(if a.2.2[i % 2]=true then _ else _)=_;rw[if_pos c];rfl
  rw[ew]at hq;have eT:ET (za h1') vt m sp:=⟨e1.tab,e1.hm,e1.all⟩;have i1:=yb (h:=h1') (by omega) l1;refine⟨⟨by omega,l1⟩,_,_,w1.ldA 6 rfl xc rfl rfl,_,_,kO hj,_,w1.ld1 4 rfl zi rfl gs,zJA eT hs hst h1 (show h1'.next+310<=T.top by omega) (oO _) ⟨_,_,_,_,rfl,i1.1.2,λh15 e15=>?_⟩⟩
  rw[i1.2]at e15;subst e15;rw[zP (by omega)];refine⟨_,_,_,ldB w1 (i:=5) rfl,zHZ g.ok (by omega) q3 hbl ⟨_,_,_,_,rfl,?_⟩⟩;have okw:=yK g.ok (v:=wB (zX sp 32 s) st) (eN (st+32) (zX sp 32 s).length);obtain⟨h2,e2,w2,n2,_⟩:=w1.st (cx:=zA) 5 (t:=220) (f:=0) (u:=wH (zn a.1 (wB (zX sp 32 s) st) (eN (st+32) (zX sp 32 s).length))) rfl (by omega) qc rfl (oJ _) rfl rfl;obtain⟨h3,cs',e3,rs',w3,n3⟩:=w2.set (cx:=zA) 4 (j:=i % 2) (u:=.int .i64 (wl (zX sp 32 s) st)) rs rfl (by omega) hj zi rfl rfl rfl rfl;rw[<-yS]at rs';refine⟨h2,e2,_,_,kO hj,h3,e3,hs1.on λtm5 hs5=>⟨rfl,rfl,_,w3,(show h3.next<=_ by omega),rfl,λh4 w4 n4 _=>hq h4 cs' cb w4 rs' rb ?_⟩⟩
  rw[n4];show h3.next=_;omega
 ·-- the first of its state
  obtain⟨f,ef,hf⟩:=Kr h1;have ew:wO sp a (i % 2) s=(a.1,a.2.1.set (i % 2) ((zX sp 32 s)[0]?.getD 0),a.2.2.set (i % 2) true):=by
   unfold wO;rw[oM hjb];show(if a.2.2[i % 2]=true then _ else _)=_;rw[if_neg (by rw[c];decide)]
  rw[ew]at hq;obtain⟨h2,cs',e2,rs',w2,n2⟩:=w1.set (cx:=zA) 4 (j:=i % 2) (u:=.int .i64 ((zX sp 32 s)[0]?.getD 0)) rs rfl (by omega) hj zi rfl rfl rfl rfl;obtain⟨h3,cb',e3,rb',w3,n3⟩:=w2.set (cx:=zA) 3 (j:=i % 2) (u:=.bool true) rb rfl (by omega) hj ty4 rfl rfl rfl rfl;rw[<-yS]at rs';have rb2:Row cb' 2 (wz (a.2.2.set (i % 2) true)):=by unfold wz;rw[List.map_set];exact rb'
  refine⟨_,_,w1.ldA 6 rfl xc rfl rfl,zDd e1 hs h1 (by omega) l1 ⟨_,_,rfl,_,_,kO hj,h2,e2,_,_,KF hj,h3,e3,hs1.on λtm5 hs5=>⟨rfl,rfl,_,w3,(show h3.next<=_ by omega),rfl,λh4 w4 n4 _=>hq h4 cs' cb' w4 rs' rb2 ?_⟩⟩⟩
  rw[n4];show h3.next=_;omega
theorem zOR:Row (.ls [.int .i64 0,.int .i64 0]) 2 (zM [0,0]):=⟨trivial,rfl,rfl,λi hi=>by
 have:i=0\/i=1:=by omega
 rcases this with rfl|rfl<;>rfl⟩
theorem zOQ:Row (.ls [.bool false,.bool false]) 2 (wz [false,false]):=⟨trivial,rfl,rfl,λi hi=>by
 have:i=0\/i=1:=by omega
 rcases this with rfl|rfl<;>rfl⟩
def wtl (a:WS):Nat->Wr
 | 0=>a.1
 | t+1=>zn (wtl a t) (a.2.1[1-t]?.getD 0).toNat 5
theorem zHN {a:WS}{k:Nat}(g:WOk a k):∀t,(wtl a t).ok (5*k+5*t)
 | 0=>g.ok
 | t+1=>(yK (zHN g t) 5).up (by omega)
theorem zTZ (sp w:List Int):wtl (Zr sp w w.length) 2=zAf sp w:=rfl
theorem zOv {hb h:H}{C lp df pc p21 p19 p17 p14 p5 p3 p0:Nat}{u v vt:V}{cb cs:Cs}{a:WS}{k:Nat}{o:O}{tm:Tm}{Q:V->H->Prop}
  (w:Vw (S3 p5 p3 p0) hb h C ((lp,o)::(df,.deferred true)::wrL pc p21 p19 p17 p14 p5 p3 p0 u v vt cb cs a.1)) (rs:Row cs 2 (zM a.2.1)) (g:WOk a k) (hk:k<=1000)
  (ht:Has tm [(5,.ptr p3 0),(6,.ptr p5 0),(3,.ptr p0 0),(10,.ptr p19 0),(9,.ptr p17 0)]) (hn:h.next+400<=T.top) (hlow:hb.low<=T.top)
  (hq:∀h',ExtX (S3 p5 p3 p0) hb h' C->Q (wH (wtl a 2)) h') :
  zB4 false zGa ⟨86,tm,[.coll df],h⟩ (endW zA ⟨86,[.cell 6 220],Za⟩ Q):=by
 refine wpS.at ht zSV rfl rfl ⟨_,w.ld1 8 rfl zi rfl rfl,ht.on λtm2 hs2=>?_⟩
 refine wpC.round (λj tm h'=>∃t:Nat,t<=2/\j=2-t/\h'.next=h.next/\Vw (S3 p5 p3 p0) hb h' C ((lp,o)::(df,.deferred true)::wrL pc p21 p19 p17 p14 p5 p3 p0 u v vt cb cs (wtl a t)) /\
  Has tm [(19,.int .i64 (1-(t:Int))),(6,.ptr p5 0),(3,.ptr p0 0),(10,.ptr p19 0),(9,.ptr p17 0)]) 2 ⟨0,by omega,by omega,rfl,w,hs2.sub (by kernel_rfl)⟩ ?_
 clear hs2;rintro j tm h' ⟨t,ht2,rfl,hnx,w',hs⟩;have l':h'.low<=T.top:=by have:=w'.low;omega
 refine wpC.at hs zQx rfl rfl ⟨λc=>?_,λc=>hs.on λtm' hs'=>?_⟩
 ·have htl:t<=1:=by omega
  have e1:1-(t:Int)=((1-t:Nat):Int):=by omega
  obtain⟨st,est,hst⟩:=g.at (j:=1-t) (by omega);have gs:cs.get? (1-t)=some (.int .i64 st):=by rw[rs.2.2.2 _ (by omega),zM,oU,est];rfl
  have i1:=yb (h:=h') (by omega) l';have hok:=zHN g t;refine⟨⟨by omega,l'⟩,_,_,_,ldB w' (i:=5) rfl,?_⟩;rw[wo];refine⟨_,w'.ld1 9 rfl zi rfl rfl,_,_,by rw[e1];exact kO (by omega),_,w'.ld1 4 rfl zi rfl gs,?_⟩;rw[zP (by omega)];refine zHZ (k:=5) hok (by omega) (by decide) (by omega) ⟨_,_,_,_,rfl,i1.1.2,λh15 e15=>?_⟩
  rw[i1.2]at e15;subst h15;have hp17:p17<T.top:=oI (w'.lt 5 rfl) (by omega);have hg:(za h').get p17=some (oBW (wtl a t)):=w'.get 5 rfl;have es:wtl a (t+1)=zn (wtl a t) st 5:=by
   show zn (wtl a t) (a.2.1[1-t]?.getD 0).toNat 5=_;rw[est];rfl
  have w2:=w'.upd 5 (o':=oBW (wtl a (t+1))) rfl (by omega);refine⟨(za h').upd p17 (some (oBW (wtl a (t+1)))),by rw[es];exact k9 qc hg rfl (oJ _) rfl rfl,(show h'.next<=T.top by omega),λh17 e17=>?_⟩
  rw[zEE hp17]at e17;subst h17;refine hs.on λtm' hs'=>⟨rfl,rfl,2-(t+1),by omega,t+1,by omega,rfl,(show h'.next=h.next from hnx),w2,?_⟩
  have e2:zL (1-(t:Int)-1)=1-((t+1:Nat):Int):=by rw[zH (by omega) (by omega)];omega
  rw[<-e2];exact hs'.sub (by kernel_rfl)
 ·have ht3:t=2:=by omega
  subst ht3;refine thenC.left (wpS.at hs' zSU rfl rfl ⟨_,_,_,ldB w' (i:=5) rfl,?_⟩);obtain⟨h3,e3,w3,n3,_⟩:=w'.st (cx:=zA) 7 (t:=220) (f:=0) (u:=wH (wtl a 2)) rfl (by omega) qc rfl (oJ _) rfl rfl;refine⟨h3,e3,hs'.on λtm3 hs3=>hs3.slt λtm4 hs4=>?_⟩
  show wpD [.coll df] h3 _;refine w3.ends (i:=1) rfl (by omega) λh4 w4 n4 _=>?_
  have el:leave zA [.cell 6 220] tm4 h4 [.cell 6 220] []=some [wH (wtl a 2)]:=leave.cell (hs4.get (t:=6) rfl) (ldB w4 (i:=7) rfl) rfl;show(match leave zA [.cell 6 220] tm4 h4 [.cell 6 220] []with|some vs=>Q (yj vs) h4|none=>False)
  rw[el];exact hq h4 w4.ex
theorem FTab.et {lo:Nat}{h:H}{v:V}{l:List Int}(g:GD 5 l) (f:FTab lo h v l.length (zX (zh 5 l) (2^5))):ET h v l.length (zh 5 l) :=
 ⟨f.tab,by have:=g.len;omega,λi hi=>by
  have hl:i<(zh 5 l).length:=by rw[Oj];exact hi
  obtain⟨s,e,p,h1,_⟩:=Ok g (oM hl);exact⟨s,(List.getElem?_eq_some_iff.1 h1).1,by rw[oM hl,e]⟩⟩
theorem zJI {u v:V}{l w:List Int}{h:H}{Q:V->H->Prop}(sl:Sl h v 1 l.length (zM l)) (g:GD 5 l) (su:Sl h u 1 w.length (zM w)) (hw:w.length<=1000) (cv:Cov l w) (hn:h.next+700<=T.top) (hlow:h.low<=T.top)
  (hq:Q (wH (zAf (zh 5 l) w)) h):RF P zA 178 [.agg [.int .i64 (5:Nat),v],u,.int .i64 (2:Nat)] h Q:=by
 refine RF.forget (n:=200) (v:=wH (zAf (zh 5 l) w)) ?_ (ze rfl) hq;have ce:=cv.cells g;refine RF.enterS zG zYn (ble _ _ rfl) (ble _ _ rfl) z1A (yM sl ⟨by omega,?_⟩);rintro p0 h1 rfl e1;have w1:=(Vw.nil (S:=zW) (h:=h)).new e1 (by omega);have n1:h1.next=h.next+1:=by rw[e1,zI]
 refine⟨rfl,by omega,?_⟩;rintro p3 h4 rfl e4;have w4:=w1.new e4 (by omega);have n4:h4.next=h1.next+1:=by rw[e4,zI]
 refine⟨by omega,?_⟩;rintro p5 h6 rfl e6;have w6:=w4.new e6 (by omega);have n6:h6.next=h4.next+1:=by rw[e6,zI]
 have l6:=w6.low;refine⟨_,_,w6.ldA 2 rfl xo rfl rfl,zDe (sl.ext w6.ex0) g (by omega) (by omega) λh10 v12 x10 f10=>⟨_,_,_,rfl,?_⟩⟩
 have t10:=x10.top;have le10:=x10.le;have w10:=w6.ext x10;have l10:=w10.low;have hx10:Ext h h10 153:=w10.ex0.mono (by omega);have wb:Vw (S3 h4.next h1.next h.next) h10 h10 0 [(h4.next,oBW ⟨[],0,0⟩),(h1.next,oCt 2),(h.next,oD 5 v)]:=⟨ExtX.refl0 _ _,w10.bk.re λq hq=>by
  simp only[oY,List.not_mem_nil,or_false]at hq;rcases hq with rfl|rfl|rfl
  ·exact .inl rfl
  ·exact .inr (.inl rfl)
  ·exact .inr (.inr rfl)⟩
 refine⟨by omega,?_⟩;rintro p14 h15 rfl e15;have w15:=wb.new e15 (by omega);have n15:h15.next=h10.next+1:=by rw[e15,zI]
 obtain⟨vs,sv12,_⟩:=f10.tab;obtain⟨h16,e16,w16,n16,_⟩:=w15.st (cx:=zA) 0 (t:=216) (f:=0) (u:=.agg [.int .i64 (5:Nat),v12]) (cs':=.ls [.int .i64 (5:Nat),v12]) rfl (by omega) xc (yO.2 (by rw[yq sv12];rfl)) (oJ _) (by rw[yq sv12];exact qJ sv12) (by rw[yq sv12];rfl);refine⟨h16,e16,by omega,?_⟩;rintro p17 h18 rfl e18;have w18:=w16.new e18 (by omega);have n18:h18.next=h16.next+1:=by rw[e18,zI]
 refine⟨by omega,?_⟩;rintro p19 h20 rfl e20;have w20:=w18.new e20 (by omega);have n20:h20.next=h18.next+1:=by rw[e20,zI]
 refine⟨by omega,?_⟩;rintro p21 h22 rfl e22;have w22:=w20.new e22 (by omega);have n22:h22.next=h20.next+1:=by rw[e22,zI]
 refine RF.enterS zG zZ0 (ble _ _ rfl) (ble _ _ rfl) z1c ⟨zCI su,by omega,?_⟩;rintro pc h24 rfl e24;have w24:=w22.new e24 (by omega);have n24:h24.next=h22.next+1:=by rw[e24,zI]
 have hS3:∀b,S3 h4.next h1.next h.next b->h.next<=b:=by
  rintro b (rfl|rfl|rfl)<;>omega
 have hS3':∀b,S3 h4.next h1.next h.next b->b<h6.next:=by
  rintro b (rfl|rfl|rfl)<;>omega
 refine⟨_,rfl,Has.nil.on λtm hs=>?_⟩
 refine Vw.range (s:=⟨86,tm,[],h24⟩) w24 (captured:=[.ptr h22.next 0]) (show yQ tm (t 26)=_ from congrArg some (hs.get rfl)) (by show h24.next+2<=_;omega) λh26 w26 n26=>?_
 replace n26:h26.next=h24.next+2:=n26
 have hte:∀h',h10.next<=h'.next->(∀b,b<h10.next->¬S3 h4.next h1.next h.next b->h'.get b=h10.get b)->ET h' v12 l.length (zh 5 l):=λh' hn' hg=>(f10.keep hn' λb h1 h2=>hg b h2 λq=>by have:=hS3' b q;omega).et g
 refine zIo (w:=w) (u:=u) (λk h'=>h'.next=h26.next/\∃cs cb,Vw (S3 h4.next h1.next h.next) h10 h' 7 ((h24.next+1,lpW .ready tm h24.next)::(h24.next,.deferred true)::wrL h22.next h20.next h18.next h16.next h10.next h4.next h1.next h.next u v v12 cb cs (Zr (zh 5 l) w k).1)/\Row cs 2 (zM (Zr (zh 5 l) w k).2.1)/\Row cb 2 (wz (Zr (zh 5 l) w k).2.2)) hw
  ⟨rfl,_,_,w26,zOR,zOQ⟩ (w26.ld1 2 rfl zQ rfl rfl) (λk h' i=>by obtain⟨_,cs,cb,w',_⟩:=i;exact w'.ld1 2 rfl zQ rfl rfl) (λk h' i=>by obtain⟨_,cs,cb,w',_⟩:=i;exact su.ext (ExtX.ext hx10 w'.ex hS3)) (λk h' hk i=>?_) λh' i=>?_
 ·obtain⟨nx,cs,cb,w',r1,r2⟩:=i
  have hi:w.length-1-k<w.length:=by omega
  obtain⟨s,es,hsm,h1'⟩:=ce w[w.length-1-k] (oQ hi);have eg:Zr (zh 5 l) w (k+1)=wO (zh 5 l) (Zr (zh 5 l) w k) ((w.length-1-k) % 2) s:=by
   show wO _ _ _ (w[w.length-1-k]?.getD 0).toNat=_;rw[oM hi,Option.getD_some,es];rfl
  rw[es,eg];refine zKL w' r1 r2 (Ov ce k (by omega)) (by omega) hte hsm h1' (by omega) (hs.sub (by kernel_rfl)) (by omega) (by omega) λh'' cs' cb' w'' r1' r2' nx'=>⟨rfl,(show h''.next=h26.next by omega),cs',cb',w'',r1',r2'⟩
 ·obtain⟨nx,cs,cb,w',r1,_⟩:=i
  refine⟨7,_,w',by omega,λh19 o w19 n19 _=>?_⟩
  refine zOv w19 r1 (Ov ce w.length (oO _)) (by omega) (hs.sub (by kernel_rfl)) (by omega) (by omega) λh'' xx=>⟨by rw[zTZ],(ExtX.ext hx10 xx hS3).mono (by omega)⟩
theorem KX {sp w:List Int}{m:Nat}(c:zU7 sp w m):(zAf sp w).ok (5*w.length+10):=zHN (Ov c w.length (oO _)) 2
theorem zFA {u v:V}{l w:List Int}{h:H}{Q:V->H->Prop}(sl:Sl h v 1 l.length (zM l)) (g:GD 5 l) (su:Sl h u 1 w.length (zM w)) (hw:w.length<=1000) (h2:2<=w.length) (cv:Cov l w) (hn:h.next+800<=T.top) (hlow:h.low<=T.top)
  (hq:Q (.tuple [.str (JY (zh 5 l) w),.int .i64 0]) h):RF P zA 104 [.agg [.int .i64 (5:Nat),v],u] h Q:=by
 refine RF.forget (n:=10) (v:=.tuple [.str (JY (zh 5 l) w),.int .i64 0]) ?_ (ze rfl) hq;refine RF.enterS zG zYT (ble _ _ rfl) (ble _ _ rfl) z06 (yM sl ⟨by omega,?_⟩);rintro p0 h1 rfl e1;have w1:=(Vw.nil (S:=zW) (h:=h)).new e1 (by omega);have n1:h1.next=h.next+1:=by rw[e1,zI]
 refine⟨_,_,w1.ldA 0 rfl xo rfl rfl,zDh (sl.ext w1.ex0) g (su.ext w1.ex0) hw h2 cv (by omega) λh6 x6=>⟨_,rfl,λc=>absurd rfl c,λ_=>?_⟩⟩
 have w6:=w1.ext x6;have t6:=x6.top;have l6:=w6.low;have ok:=KX (cv.cells g);exact⟨_,_,w6.ldA 0 rfl xo rfl rfl,zJI (sl.ext w6.ex0) g (su.ext w6.ex0) hw cv (by omega) (by omega) ⟨_,_,_,rfl,zKh ok (by omega) ⟨_,_,rfl,rfl,w6.ex0.mono (by omega)⟩⟩⟩
def Nz (p:List Int) (s:Nat):Prop:=∃y,p[s]? = some y/\y≠0
theorem Nz.set {p:List Int}{i s:Nat}{x:Int}(h:Nz p s) (hx:x≠0):Nz (p.set i x) s:=by
 obtain⟨y,h1,h2⟩:=h;by_cases e:i=s
 ·subst e
  exact⟨x,List.getElem?_set_self (List.getElem?_eq_some_iff.1 h1).1,hx⟩
 ·exact⟨y,by rw[oW e];exact h1,h2⟩
theorem zH6:∀{k:Nat}{p:List Int}{s:Nat},PR p->pts p=32+k->Nz p s->Nz (Zc k p) s
 | 0,_,_,_,_,h=>h
 | k+1,p,s,g,hp,h=>by
  obtain⟨g1,h1⟩:=g.dec (by omega);have hb:=g.big (by omega);exact zH6 (p:=Zb p) g1 (by omega) (h.set (by omega))
theorem CD.nz {c:List Int}(g:CD c) {s:Nat}(h:0<c[s]?.getD 0):Nz (wI c) s:=by
 have l:=OA g.gc g.ne;have hs:s<wM c:=by
  rcases Nat.lt_or_ge s (wM c)with q|q
  ·exact q
  ·exact absurd h (l.hi s q)
 have h1:Nz (xA c c.length) s:=⟨_,ZO hs,by rw[if_pos (by have:=l.le;omega)];exact zHv h⟩;obtain⟨f1,f2,f3,f4⟩:=g.fix;refine zH6 f1 (by omega) ?_;unfold jG;split
 ·have:=jL ((xA c c.length)[zx c c.length]?.getD 0)
  exact h1.set (by omega)
 ·exact h1
theorem zO5 {l:List Int}{s:Nat}(h:(s:Int)∈l):0<wD l s:=by
 unfold wD;exact List.length_pos_of_mem (List.mem_filter.2 ⟨h,by simp⟩)
theorem zD2 {l:List Int}(hin:jJ l=true) (g:CD (yi l)):Cov (wI (yi l)) l:=λx hx=>by
 have hr:=wC hin hx;obtain⟨s,rfl⟩:∃s:Nat,x=(s:Int):=⟨x.toNat,by omega⟩;refine⟨s,rfl,g.nz ?_⟩;rw[kR (by omega)];have:=zO5 hx;show(0:Int)<(wD l s:Nat);omega
theorem Km:∀{c:List Int},(∀x∈c,0<=x)->xM c<=zu c
 | [],_=>oO _
 | x::c,h=>by
  have ih:=Km (c:=c) λy hy=>h y (oH _ hy)
  have hx:=h x (List.mem_cons_self ..);have e:zu (x::c)=x.toNat+zu c:=by simp[zu]
  rw[e];unfold xM at ih ⊢;rw[List.filter_cons];by_cases q:x=0
  ·rw[if_neg (by simp[q])];omega
  ·rw[if_pos (by simp[q]),oS];omega
def jd (l:List Int):List UInt8:=Ju 5 (wI (yi l))++JY (zh 5 (wI (yi l))) l
def xC (l:List Int):Option (List UInt8):=if 2<=xM (yi l)/\(jd l).length<=127 then some (UInt8.ofNat (jd l).length::jd l) else none
def zJ0 (o:Option (List UInt8)):V:=match o with|some s=>.tuple [.str s,.int .i64 0]|none=>.tuple [.str [],.int .i64 7]
theorem OI (o:Option (List UInt8)):Plain (zJ0 o):=by cases o<;>exact ze rfl
theorem X0 {w:Wr}{m v k:Nat}(h:w.ok m):(zn w v k).s.length<=m+k:=by
 have:=(yK (v:=v) h k).s;omega
theorem Zi {v:V}{l:List Int}{h:H}{Q:V->H->Prop}(sl:Sl h v 1 l.length (zM l)) (hin:jJ l=true) (hl:l.length<=255) (hn:h.next+1000<=T.top) (hlow:h.low<=T.top) (hq:Q (zJ0 (xC l)) h):RF P zA 54 [v] h Q:=by
 refine RF.forget (n:=20) (v:=zJ0 (xC l)) ?_ (OI _) hq;have hgc:=zBl hl;refine RF.enterS zG z4j (ble _ _ rfl) (ble _ _ rfl) z57 (zHA sl hin hl (by omega) λh1 x1 s1=>⟨_,_,rfl,λc=>absurd rfl c,λ_=>?_⟩)
 have t1:=x1.top;have s1':Sl h1 (.slice h.next 0 12 (.exact 12)) 1 (yi l).length (zM (yi l)):=by rw[wj];exact s1
 refine J4 s1' hgc ⟨_,_,rfl,λc=>?_,λc=>?_⟩
 ·have:xC l=none:=by unfold xC;rw[if_neg (by omega)]
  exact⟨by rw[this];rfl,x1.mono (by omega)⟩
 ·have h2:2<=xM (yi l):=by omega
  have g:=zH2 hin hl (by omega);have gd:=g.gd;have l1:=x1.low;refine zJT s1' g (by omega) (by omega) λh9 b x9 hb s9=>⟨_,_,_,rfl,?_⟩
  have t9:=x9.top;have l9:=x9.low;have x19:=x1.trans x9;refine⟨by omega,?_⟩;rintro p13 h14 rfl e14;have w14:=(Vw.nil (S:=zW) (h:=h9)).new e14 (by omega);obtain⟨h15,e15,w15,n15,_⟩:=w14.st (cx:=zA) 0 (t:=59) (f:=0) (u:=.agg [.int .i64 5,.slice b 0 (wI (yi l)).length (.exact (wI (yi l)).length)]) rfl (by rw[e14,zI];omega) xo rfl (oJ _) rfl rfl;have n14:h14.next=h9.next+1:=by rw[e14,zI]
  have l15:=w15.low;have s15:=s9.ext w15.ex0;have sv:=sl.ext (x19.trans w15.ex0);have cv:=zD2 hin g;have hlen2:2<=l.length:=by
   have:=Km (c:=yi l) λx hx=>(hgc.rng x hx).1
   rw[Z0 hin]at this;omega
  refine⟨h15,e15,λc=>absurd rfl c,λ_=>⟨_,_,w15.ldA 0 rfl xo rfl rfl,zBo s15 gd (by omega) (by omega) λh19 x19'=>⟨_,_,rfl,λc=>absurd rfl c,λ_=>?_⟩⟩⟩
  have w19:=w15.ext x19';have t19:=x19'.top;have l19:=x19'.low;refine⟨_,_,w19.ldA 0 rfl xo rfl rfl,zFA (s15.ext x19') gd (sv.ext x19') (by omega) hlen2 cv (by omega) (by omega) ⟨_,_,rfl,λc=>absurd rfl c,λ_=>?_⟩⟩
  have hd1:(Ju 5 (wI (yi l))).length<=10008:=by
   have:=X0 (v:=0) (k:=(8-(jA 5 (wI (yi l))).n) % 8) (kX gd);unfold Ju;omega
  have hd2:(JY (zh 5 (wI (yi l))) l).length<=2000:=by
   have:=X0 (v:=1) (k:=8-(zAf (zh 5 (wI (yi l))) l).n) (KX (cv.cells gd));unfold JY;omega
  have hxx:Ext h h19 19:=((x19.trans w15.ex0).trans x19').mono (by omega);refine⟨oP (Nat.add_le_add hd1 hd2) (by decide),λc=>?_,λc=>?_⟩
  ·have c':(jd l).length<=127:=by
    have:((jd l).length:Int)<=127:=c;omega
   have hc:xC l=some (UInt8.ofNat (jd l).length::jd l):=by unfold xC;rw[if_pos ⟨h2,c'⟩]
   obtain⟨h29,e29,s29,x29⟩:=wh (h:=h19) ((jd l).length:Nat) (by omega);have eb:zN .u8 (Int.ofNat (Ju 5 (wI (yi l))++JY (zh 5 (wI (yi l))) l).length)=(((jd l).length:Nat):Int):=by
    show zN .u8 (((jd l).length:Nat):Int)=_;rw[yf,oZ (by omega)]
   have hby:(.int .u8 (((jd l).length:Nat):Int):V)=byv (UInt8.ofNat (jd l).length):=(jb (by omega)).symm;rw[hby]at s29;refine⟨_,h29,by rw[eb];exact e29,wk (l:=[UInt8.ofNat (jd l).length]) s29 (Nat.succ_pos _) (qI (oP (Nat.add_le_add_left (show(jd l).length<=127 from c') _) (by rw[List.length_singleton];decide)) ⟨by rw[hc];rfl,(hxx.trans x29).mono (by omega)⟩)⟩
  ·have c':¬(jd l).length<=127:=by
    have:¬((jd l).length:Int)<=127:=c;omega
   have hc:xC l=none:=by unfold xC;rw[if_neg (by omega)]
   exact⟨by rw[hc];rfl,hxx.mono (by omega)⟩
abbrev zQY:TI:=⟨9,.string,1,16,some (.str []),true,false,false,[]⟩
def zCj (l:List (List UInt8)):List V:=l.map V.str
theorem zYN {a b:V}{k:V->Prop}(hk:k a):ZS zA 0 9 (.tuple [a,b]) k:=by
 have h:qk zA 9=false:=by kernel_rfl
 show(match qk zA 9 with|true=>YY a k|false=>k a);rw[h];exact hk
theorem zYO {a b:V}{k:V->Prop}(hk:k b):ZS zA 1 24 (.tuple [a,b]) k:=by
 have h:qk zA 24=false:=by kernel_rfl
 show(match qk zA 24 with|true=>YY b k|false=>k b);rw[h];exact hk
theorem zH0 {m n:Int}{t1 t2:Nat}{a b:Go.Operand}{k:V->Prop}(h1:m=n->k (.bool true)) (h2:¬m=n->k (.bool false)):wx zA .eql t1 a b t2 (.int .i64 m) (.int .i64 n) k:=by
 show(if xq .eql=true\/xE .i64 .i64=true then jP (m=n) k else False);rw[if_pos (.inr rfl)];exact⟨h1,h2⟩
theorem zPa {m n:Int}{t1 t2:Nat}{a b:Go.Operand}{k:V->Prop}(h1:m<n->k (.bool true)) (h2:¬m<n->k (.bool false)):wx zA .lss t1 a b t2 (.int .i64 m) (.int .i64 n) k:=by
 show(if xq .lss=true\/xE .i64 .i64=true then jP (m<n) k else False);rw[if_pos (.inr rfl)];exact⟨h1,h2⟩
def kC (l:List Int):Option (List UInt8):=if ZK l=0/\l.length<=128 then some (zPm l) else none
def zBk (l:List Int) (i:Nat):Option (List UInt8):=if i=0 then kC l else xC l
def zPB (v:V) (o:Option (List UInt8)):Prop:=match o with|some s=>v = .tuple [.str s,.int .i64 0]|none=>∃e:Int,e≠0/\v = .tuple [.str [],.int .i64 e]
theorem Kq (l:List Int):zPB (zD6 l) (kC l):=by
 unfold zD6 kC;by_cases c:ZK l=0
 ·rw[if_neg (by omega)]
  by_cases d:l.length<=128
  ·rw[if_neg (by omega),if_pos ⟨c,d⟩];rfl
  ·rw[if_pos (by omega),if_neg (by omega)];exact⟨4,by decide,rfl⟩
 ·rw[if_pos c,if_neg (by omega)];exact⟨_,c,rfl⟩
theorem zEL (o:Option (List UInt8)):zPB (zJ0 o) o:=by
 cases o with
 | some s=>rfl
 | none=>exact⟨7,by decide,rfl⟩
def yz (l:List Int) (k:Nat):List (List UInt8):=(List.range k).filterMap (zBk l)
theorem qL (l:List Int) (k:Nat):yz l (k+1)=yz l k++(zBk l k).toList:=by
 unfold yz;rw[List.range_succ,List.filterMap_append]
 congr 1
def jg (l:List Int):Nat->List Bool
 | 0=>[false,false]
 | k+1=>if (zBk l k).isSome=true then (jg l k).set k true else jg l k
abbrev zPr:V:=.func (.func 26) [] []
abbrev zPq:V:=.func (.func 54) [] []
theorem zLN {h:H}{Q:V->H->Prop}(hn:h.next<T.top) (hq:∀h',Ext h h' 1->Q (.agg [zPr,zPq]) h'):RF P zA 93 [] h Q:=by
 refine RF.enterS zG z4p (ble _ _ rfl) (ble _ _ rfl) z5d ⟨hn,?_⟩;rintro p0 h1 rfl e1;have w1:=(Vw.nil (S:=zW) (h:=h)).new e1 (by omega);obtain⟨h2,e2,w2,n2,_⟩:=w1.st (cx:=zA) 0 (t:=136) (f:=0) (u:=.agg [zPr,zPq]) rfl (by rw[e1,zI];omega) zUZ rfl (oJ _) rfl rfl;exact⟨h2,e2,endL.ok (leaveL.cell (w2.ldA 0 rfl zUZ rfl rfl) rfl) (hq h2 w2.ex0)⟩
theorem zYC:jw zA 136 (.agg [.func (.func 26) [] [],.func (.func 54) [] []]) (.int .i64 (0:Nat))=some zPr:=by kernel_rfl
theorem zYD:jw zA 136 (.agg [.func (.func 26) [] [],.func (.func 54) [] []]) (.int .i64 (1:Nat))=some zPq:=by kernel_rfl
theorem zKm {h:H}(s:List UInt8) (hn:h.next<T.top):∃v1 h',zS zA 63 1 [(0,.str s)] h=some (v1,h')/\Sl h' v1 1 1 [.str s]/\Ext h h' 1:=by
 obtain⟨v,h',e,s,x,_⟩:=kP (c:=zA) (h:=h) (u:=.str s) (ys:=[.str s]) zOd rfl Y3 rfl rfl rfl rfl (by decide) rfl hn;exact⟨v,h',e,s,x⟩
theorem zUX {s:List UInt8}{e:Int}{k:V->H->Prop}{h:H}(hk:k (.tuple [.str s,.int .i64 e]) h):qA zA 32 k (.tuple [.str s,.int .i64 e]) h:=⟨s,e,rfl,hk⟩
theorem zIE {a:V}{o:Option (List UInt8)}{k:V->H->Prop}{h:H}(ha:zPB a o) (hk:k a h):qA zA 32 k a h:=by
 cases o with
 | some s=>have e:a=_:=ha;subst e;exact zUX hk
 | none=>obtain⟨e,_,rfl⟩:=ha;exact zUX hk
theorem zHV {a:V}{o:Option (List UInt8)}{x y:Go.Operand}{f:V->Bool->Prop}(ha:zPB a o) (h1:∀s,o=some s->f (.str s) true) (h2:o=none->∀v,f v false) :
  ZS zA 0 9 a (λv3=>ZS zA 1 24 a (λv4=>wx zA .eql 24 x y 4 v4 (.int .i64 (0:Int)) (λv5=>wG v5 (λu=>f v3 u)))):=by
 cases o with
 | some s =>
  have e:a=_:=ha;subst e;exact zYN (zYO (zH0 (λ_=>h1 s rfl) λc=>absurd rfl c))
 | none =>
  obtain⟨e,he,rfl⟩:=ha;exact zYN (zYO (zH0 (λc=>absurd c he) λ_=>h2 rfl _))
end Go.Proofs.YtnpeieeomokomaaGreat
