/- TF. No condition. -/
import Derived.Test.YtnpeieeomokomaaGreatZTE
set_option maxRecDepth 100000
namespace Go.Proofs.YtnpeieeomokomaaGreat
open Go.Sim
theorem _root_.Go.Sim.Sl.atA {cx:Ctx}{h:H}{v:V}{esz n i:Nat}{xs ys:List V}(s:Sl h v esz n xs) (hi:i<n) {t e:Nat}{ti te:TI}(ht:cx.ty.get t=some ti) (hd:ti.desc = .slice e) (he:cx.ty.get e=some te) (hs:te.size=esz) (ha:xi te.desc=true) (h0:0<esz) (hy:ys.length=esz) (hu:∀j,j<esz->xs[i*esz+j]? = ys[j]?) :
  ∃b o,zV cx t v (.int .i64 i)=some (.ptr b o)/\zO cx e h (.ptr b o)=some (.agg ys)/\∀f tf u,cx.ty.get f=some tf->xi tf.desc=false->∀j,j<esz->ys[j]? = some u->zO cx f h (.ptr b (o+j))=some u:=by
 obtain⟨b,o,h1,cs,k,w,op,hg,hc⟩:=s.at hi ht hd he hs;have hc2:∀j,j<esz->cs.get? (o+j)=ys[j]?:=λj hj=>(hc j hj).trans (hu j hj)
 refine⟨b,o,h1,zHU he ha hg (by rw[hs];exact Cs.range_is h0 hy hc2),λf tf u hf hfa j hj hju=>zBa hf hfa hg ?_⟩
 rw[hc2 j hj,hju]
theorem zBi {h:H}(x:Int) (hn:h.next<T.top):∃v h',zS zA 23 1 [(0,.int .i64 x)] h=some (v,h')/\Sl h' v 1 1 [.int .i64 x]/\Ext h h' 1:=by
 obtain⟨v,h',e,s,x,_⟩:=kP (c:=zA) (h:=h) (u:=.int .i64 x) (ys:=[.int .i64 x]) zQ rfl zi rfl rfl rfl rfl (oE rfl) rfl hn;exact⟨v,h',e,s,x⟩
theorem _root_.Go.Sim.Sep.less {S:Nat->Prop}{b0:Nat}{l l':List (Nat×O)}{v:V}(s:Sep S b0 l v) (h:∀q∈l',∃q'∈l,q'.1=q.1):Sep S b0 l' v:=λb hb=>⟨(s b hb).1,λq hq=>by
 obtain⟨q',h1,h2⟩:=h q hq;rw[<-h2];exact(s b hb).2 q' h1⟩
theorem zTR {n:Nat}(h:n<9223372036854775808):zL (n:Int)=n:=zH (by omega) (by omega)
section
variable {cx:Ctx}
theorem Yc (n:Nat):xB (n:Int)=some n:=rfl
theorem _root_.Go.Sim.Ow.full {h:H}{v:V}{te ti:TI}{n t e:Nat}{xs:List V}(s:Ow h v te n xs) (hn:0<n) (ht:cx.ty.get t=some ti) (hd:ti.desc = .slice e) (he:cx.ty.get e=some te) (h0:0<te.size) :
  ∃b,yP cx t h v none (some (.int .i64 (n:Nat))) (some (.int .i64 (n:Nat)))=some (.slice b 0 n (.exact n))/\ym v=some b/\Sl h (.slice b 0 n (.exact n)) te.size n xs:=by
 obtain⟨h1,⟨rfl,hz⟩|⟨b,cs,rfl,hb,hg,hw,hl,hc⟩⟩:=s
 ·omega
 ·refine⟨b,?_,rfl,h1,.inr ⟨b,0,_,cs,_,_,_,rfl,hb,hg,λi hi=>by rw[Nat.zero_add];exact hc i hi⟩⟩
  unfold yP;simp only[ht,hd,he,hg];have e1:Nat.beq (wv te).n te.size=true:=Nat.beq_refl _;have e2:Nat.blt 0 (wv te).n=true:=(z8 _ _).2 h0;have e3:Nat.beq 0 (0*(wv te).n)=true:=by rw[Nat.zero_mul];rfl
  have e4:Nat.ble (n*(wv te).n) cs.len=true:=oC (by rw[hl];exact oO _);have e5:Nat.ble n n=true:=oC (oO _);simp only[e1,e2,e3,e4,Bool.and_self,oK,Option.isNone_some,oL,Go.Sim.bnd,Yc,e5,Nat.zero_mul,Nat.zero_add,Nat.sub_zero];cases Nat.beq n 0<;>rfl
theorem _root_.Go.Sim.Sl.appFull {h:H}{x:V}{te ti:TI}{b n m t e:Nat}{xs ys:List V}(s:Sl h (.slice b 0 n (.exact n)) te.size n xs) (hn0:0<n) (hx:Sl h x te.size m ys) (hm:0<m) (ht:cx.ty.get t=some ti) (hd:ti.desc = .slice e) (he:cx.ty.get e=some te) (hok:kc te=true)
  (ho:zU ys=true) (hsz:(n+m)*te.size<=262143) (hby:(n+m)*te.bytes<=1099511627776) (hn:h.next<T.top) :
  ∃v' h',zo cx t h (.slice b 0 n (.exact n)) x=some (v',h')/\Ow h' v' te (n+m) (xs++ys)/\Ext h h' 1/\ym v'=some h.next:=by
 have hs0:0<te.size:=by
  unfold kc at hok;simp only[oG]at hok;exact(z8 _ _).1 hok.1.1
 have hap:zo cx t h (.slice b 0 n (.exact n)) x=Go.Sim.appTo te h m ys (.slice b 0 n (.exact n)):=by
  unfold zo;rw[ht];simp only[hd,he,hok,oK,hx.src hs0 hm]
 have hmul:(n+m)*te.size=n*te.size+m*te.size:=Nat.add_mul _ _ _;obtain⟨h0,⟨hv,_⟩|⟨b',o,cp,cs,k,w,op,hv,hb,hg,hc⟩⟩:=s
 ·cases hv
 ·cases hv
  obtain⟨cs',h1,h2⟩:=Cs.ofL_some (l:=xs++ys) (by rw[oR,h0,hx.1];omega);obtain⟨h3,h4⟩:=Cs.ofL_eq h1;refine⟨.slice h.next 0 (n+m) (.skip 0),h.new (.cells cs' (wv te) true true),?_,⟨by rw[oR,h0,hx.1,hmul],.inr ⟨h.next,cs',rfl,by rw[zI];omega,zw _ hn,h2,by rw[h3,oR,h0,hx.1,hmul],λi _=>h4 i⟩⟩,Ext.new _ hn,rfl⟩
  rw[hap];unfold Go.Sim.appTo;simp only[hg];unfold qj;have e1:Nat.ble (n+m) n=false:=by
   cases hb:Nat.ble (n+m) n with
   | false=>rfl
   | true=>have:=oE hb;omega
  rw[e1,oL];have e2:zBb cs 0 (n*te.size) ys=some cs':=by
   unfold zBb;rw[Cs.range_is (Nat.mul_pos hn0 hs0) h0 (λi hi=>hc i hi)];simp only[ho,oK,h1]
  rw[e2];exact jH hby hn
end
theorem Og {h:H}{p n:Nat}(hn:n<=256):yP zA 206 h (.ptr p 0) none (some (.int .i64 (n:Nat))) (some (.int .i64 (n:Nat)))=some (.slice p 0 n (.exact n)):=by
 unfold yP;have e5:Nat.ble n n=true:=oC (oO _);have e6:Nat.ble n 256=true:=oC hn;simp only[zU0,zi,Go.Sim.bnd,Yc,e5,e6,oK,Option.isNone_some,Bool.and_false,oL,Nat.zero_mul,Nat.zero_add,Nat.sub_zero];cases Nat.beq n 0<;>rfl
theorem O7:∃cs,cond (zU (V.cells (.agg (List.replicate 256 (.int .i64 (0:Int)))))) (Cs.ofL (V.cells (.agg (List.replicate 256 (.int .i64 (0:Int)))))) none=some cs/\Row cs 256 (zM (List.replicate 256 0)):=by
 obtain⟨cs,h1,h2⟩:=Cs.ofL_some (l:=List.replicate 256 (.int .i64 (0:Int))) (by rw[List.length_replicate];decide);obtain⟨h3,h4⟩:=Cs.ofL_eq h1;have e1:V.cells (.agg (List.replicate 256 (.int .i64 (0:Int))))=List.replicate 256 (.int .i64 (0:Int)):=by kernel_rfl
 have e2:zU (List.replicate 256 (.int .i64 (0:Int)))=true:=by kernel_rfl
 refine⟨cs,by rw[e1,e2,oK,h1],h2,by rw[h3,List.length_replicate],by rw[wV,List.length_replicate],λi _=>by rw[h4,wV]⟩
theorem zIF {l:List Int}{i n:Nat}(hl:l.length=i) (hi:i<n) (y:Int):(l++List.replicate (n-i) 0).set i y=(l++[y])++List.replicate (n-(i+1)) 0:=by
 obtain⟨k,hk⟩:∃k,n-i=k+1:=⟨n-i-1,by omega⟩;rw[hk,show n-(i+1)=k by omega,List.replicate_succ,List.set_append_right i y (by omega),hl,Nat.sub_self];simp
theorem zOM {l:List Int}{i n:Nat}(hi:i<n):l++List.replicate (n-i) 0=(l++[0])++List.replicate (n-(i+1)) 0:=by
 obtain⟨k,hk⟩:∃k,n-i=k+1:=⟨n-i-1,by omega⟩;rw[hk,show n-(i+1)=k by omega,List.replicate_succ];simp
theorem zJz {v:V}{l:List Int}{m:Nat}{h:H}{Q:V->H->Prop}(sl:Sl h v 1 l.length (zM l)) (hl:l.length<=256) (hx:∀x∈l,-1000000<=x/\x<=1000000) (hm:m<=1000000) (hn:h.next+1<=T.top)
  (hq:∀h' v',Ext h h' 1->Sl h' v' 1 l.length (zM (Ot m l))->(∃b cs k op,v' = .slice b 0 l.length (.exact l.length)/\h.next<=b/\h'.get b=some (.cells cs k true op))->Q v' h'):RF P zA 91 [v,.int .i64 m] h Q:=by
 obtain⟨cs0,er,row0⟩:=O7;refine RF.enterS zG z4o (ble _ _ rfl) (ble _ _ rfl) z5c (zBU er ⟨by omega,?_⟩);rintro p0 h1 rfl e1;have w1:=(Vw.nil (S:=zW) (h:=h)).new e1 (by omega);have t1:=w1.top;have s1:=sl.ext w1.ex0;refine⟨_,s1.len zQ rfl,_,s1.len zQ rfl,_,Og hl,_,s1.len zQ rfl,Has.nil.on λtm hs=>?_⟩
 refine wpC.round (λk tm h'=>∃(i:Nat) (cs:Cs),i<=l.length/\k=l.length-i/\Vw zW h h' 1 [(h.next,.cells cs ⟨0,206+1,0⟩ true false)]/\Row cs 256 (zM (Ot m (l.take i)++List.replicate (256-i) 0)) /\
  Has tm [(16,.int .i64 i),(15,.int .i64 l.length),(14,v),(6,.slice h.next 0 l.length (.exact l.length)),(1,.int .i64 m)]) l.length ⟨0,cs0,by omega,by omega,w1,row0,hs.sub (by kernel_rfl)⟩ ?_
 clear hs s1 w1 t1 e1 h1;rintro k tm h' ⟨i,cs,hi1,rfl,w,row,hs⟩;have tw:=w.top;refine wpC.at hs zWy rfl rfl ⟨λc=>?_,λc=>hs.on λtm' hs'=>?_⟩
 ·have hil:i<l.length:=by omega
  have hg:l[i]? = some l[i]:=oM hil;obtain⟨b,o,a1,a2⟩:=(sl.ext w.ex0).at1 (u:=.int .i64 l[i]) hil zQ rfl zi rfl rfl (by rw[oU,hg];rfl);have hb:=hx l[i] (oQ hil);have htk:Ot m (l.take (i+1))=Ot m (l.take i)++[if l[i]≠0 then (m:Int)+1-l[i] else 0]:=by
   rw[List.take_add_one,hg];unfold Ot;rw[List.map_append];rfl
  have htl:(Ot m (l.take i)).length=i:=by rw[q8,List.length_take];omega
  generalize l[i]=x at a2 hb htk;have e:zL ((i:Int)+1)=((i+1:Nat):Int):=by rw[zH (by omega) (by omega)];rfl
  refine⟨b,o,a1,x,a2,λc2=>?_,λc2=>hs.on λtm' hs'=>?_⟩
  ·rw[if_pos c2]at htk
   have ex:zL (zL ((m:Int)+1)-x)=(m:Int)+1-x:=by rw[zH (n:=(m:Int)+1) (by omega) (by omega),zH (by omega) (by omega)]
   obtain⟨h2,cs2,e2,row2,w2,n2⟩:=w.set (cx:=zA) 0 (j:=i) (u:=.int .i64 ((m:Int)+1-x)) row rfl (by omega) (by omega) zi rfl rfl rfl rfl;rw[<-yS,zIF htl (by omega),<-htk]at row2;refine⟨h.next,i,zr zQ rfl zi rfl hil,h2,by rw[ex];exact e2,hs.on λtm' hs'=>⟨rfl,rfl,l.length-(i+1),by omega,i+1,cs2,by omega,rfl,w2,row2,?_⟩⟩
   rw[<-e];exact hs'.sub (by kernel_rfl)
  ·rw[if_neg c2]at htk
   rw[zOM (by omega),<-htk]at row;refine⟨rfl,rfl,l.length-(i+1),by omega,i+1,cs,by omega,rfl,w,row,?_⟩;rw[<-e];exact hs'.sub (by kernel_rfl)
 ·have hil:i=l.length:=by omega
  subst hil;rw[List.take_length]at row;refine thenC.left (wpS.at hs' zXT rfl rfl (hs'.on λtm2 hs2=>endW.r1 (hs2.get rfl) ?_))
  refine hq h' _ w.ex0 ⟨by rw[wq,q8,Nat.mul_one],.inr ⟨h.next,0,_,cs,_,_,_,rfl,w.lt 0 rfl,w.get 0 rfl,λj hj=>?_⟩⟩ ⟨_,cs,_,_,rfl,oO _,w.get 0 rfl⟩
  rw[Nat.zero_add,row.2.2.2 j (by omega),Yt,List.getElem?_append_left (by rw[wq,q8];omega)]
end Go.Proofs.YtnpeieeomokomaaGreat
namespace Go.Proofs.YtnpeieeomokomaaGreat
open Go.Sim
theorem qb {h:H}(hn:h.next<=T.top) (hl:h.low<=T.top) {K:H->Prop}(hk:K h):∀h2,h2=yh h (za h)->K h2:=by
 intro h2 e2;rw[(yb hn hl).2]at e2;subst e2;exact hk
theorem _root_.Go.Sim.Sep.head {S:Nat->Prop}{b0 p:Nat}{o o':O}{l:List (Nat×O)}{v:V}(s:Sep S b0 ((p,o)::l) v):Sep S b0 ((p,o')::l) v:=s.less λq hq=>by
 rcases oY.1 hq with rfl|hq
 ·exact⟨_,List.mem_cons_self ..,rfl⟩
 ·exact⟨q,oH _ hq,rfl⟩
end Go.Proofs.YtnpeieeomokomaaGreat
