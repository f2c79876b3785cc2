/- W. No condition. -/
import Derived.Test.YtnpeieeomokomaaGreatZV
namespace Go.Sim
namespace Cs
def wf:Cs→Prop
 | .ls _=>True
 | .tb _ n=>n≤511
 | .big _ _ n=>n≤262143
theorem over_some:∀ {vs l:List V},vs.length≤l.length→∃ r,over vs l=some r:=by
 intro vs
 induction vs with
 | nil=>intro l _; exact ⟨l,rfl⟩
 | cons v vs ih =>
  intro l h
  cases l with
  | nil=>simp at h
  | cons x l =>
   obtain ⟨r,hr⟩:=ih (l:=l) (by simpa using h)
   exact ⟨v :: r,by simp only [over,hr]⟩
theorem splice_some:∀ {n:Nat} {vs l:List V},n+vs.length≤l.length→∃ r,splice n vs l=some r:=by
 intro n
 induction n with
 | zero=>intro vs l h; exact over_some (by omega)
 | succ n ih =>
  intro vs l h
  cases l with
  | nil=>simp at h
  | cons x l =>
   obtain ⟨r,hr⟩:=ih (vs:=vs) (l:=l) (by simp at h; omega)
   exact ⟨x :: r,by simp only [splice,hr]⟩
theorem put_some {cs:Cs} (hw:cs.wf) {o:Nat} {vs:List V} (h:o+vs.length≤cs.len):∃ c',cs.put o vs=some c'∧c'.wf:=by
 cases cs with
 | ls l =>
  have h:o+vs.length≤l.length:=by simpa [len,lenL_eq] using h
  obtain ⟨r,hr⟩:=splice_some h
  exact ⟨.ls r,by simp only [put,putL,hr],trivial⟩
 | tb t n =>
  have h:o+vs.length≤n:=h
  refine ⟨.tb (writeT vs o t) n,?_,hw⟩
  have e1:Nat.ble (lenL vs o) n=true:=Nat.ble_eq_true_of_le (by rw [lenL_eq]; omega)
  have e2:Nat.ble n 511=true:=Nat.ble_eq_true_of_le hw
  simp only [put,e1,e2,Bool.and_self,cond_true]
 | big d t n =>
  have h:o+vs.length≤n:=h
  refine ⟨.big d (writeB vs o t) n,?_,hw⟩
  have e1:Nat.ble (lenL vs o) n=true:=Nat.ble_eq_true_of_le (by rw [lenL_eq]; omega)
  have e2:Nat.ble n 262143=true:=Nat.ble_eq_true_of_le hw
  simp only [put,e1,e2,Bool.and_self,cond_true]
theorem ofBig_some {l:List V} {m:Nat} (h:m≤262143):∃ c,ofBig l m=some c∧c.wf:=by
 unfold ofBig
 cases h1:Nat.ble m 511 with
 | true=>exact ⟨_,rfl,Nat.le_of_ble_eq_true h1⟩
 | false =>
  have h2:Nat.ble m 262143=true:=Nat.ble_eq_true_of_le h
  simp only [h2,cond_true,cond_false]
  exact ⟨_,rfl,h⟩
theorem appL_some {l vs:List V} {m:Nat} (h:m≤262143):∃ c,appL l vs m=some c∧c.wf:=by
 unfold appL
 cases h1:Nat.ble m 16 with
 | true=>exact ⟨_,rfl,trivial⟩
 | false=>exact ofBig_some h
theorem ofL_some {l:List V} (h:l.length≤262143):∃ c,ofL l=some c∧c.wf:=appL_some (by rw [lenL_eq]; omega)
theorem app_some {cs : Cs} {vs : List V} (h : cs.len + vs.length ≤ 262143) : ∃ c', cs.app vs = some c' ∧ c'.wf := by
  cases cs with
  | ls l => exact appL_some (by rw [lenL_eq, lenL_eq]; have : (Cs.ls l).len = l.length := by simp [len, lenL_eq]
                                omega)
  | tb t n =>
    have h : n + vs.length ≤ 262143 := h
    show ∃ c', appT t n vs (lenL vs n) = some c' ∧ _
    unfold appT
    cases h1 : Nat.ble (lenL vs n) 511 with
    | true => exact ⟨_, rfl, Nat.le_of_ble_eq_true h1⟩
    | false =>
      have h2 : Nat.ble (lenL vs n) 262143 = true := Nat.ble_eq_true_of_le (by rw [lenL_eq]; omega)
      simp only [h2, cond_true, cond_false]
      exact ⟨_, rfl, Nat.le_of_ble_eq_true h2⟩
  | big d t n =>
    have h : n + vs.length ≤ 262143 := h
    have h2 : Nat.ble (lenL vs n) 262143 = true := Nat.ble_eq_true_of_le (by rw [lenL_eq]; omega)
    exact ⟨.big d (writeB vs n t) (lenL vs n), by simp only [app, h2, cond_true], Nat.le_of_ble_eq_true h2⟩
theorem rep_some {v:V} {n:Nat} (h:n≤262143):∃ c,rep v n=some c∧c.wf:=by
 unfold rep
 cases h1:Nat.ble n 511 with
 | true=>exact ⟨_,rfl,Nat.le_of_ble_eq_true h1⟩
 | false =>
  have h2:Nat.ble n 262143=true:=Nat.ble_eq_true_of_le h
  simp only [h2,cond_true,cond_false]
  exact ⟨_,rfl,h⟩
theorem range_is {cs:Cs} {o k:Nat} {x:List V} (hk:0<k) (hx:x.length=k) (h:∀ i,i<k→cs.get? (o+i)=x[i]?):cs.range o k=some x:=by
 have hl:o+k≤cs.len:=by
  have h1:=h (k-1) (by omega)
  rw [List.getElem?_eq_getElem (by omega)] at h1
  have:=get_lt h1
  omega
 obtain ⟨y,hy⟩:=range_some hl
 obtain ⟨h1,_,h2⟩:=range_eq hy
 rw [hy]
 congr 1
 apply List.ext_getElem?
 intro i
 by_cases hi:i<k
 ·rw [h2 i hi,h i hi]
 ·rw [List.getElem?_eq_none (by omega),List.getElem?_eq_none (by omega)]
end Cs
theorem w64_id {n:Int} (h1 : -9223372036854775808≤n) (h2:n<9223372036854775808):w64 n=n:=by
 unfold w64
 rw [wrapF_eq]
 simp only [IntKind.wrap,IntKind.bits,IntKind.signed]; simp; split <;> omega
structure Ext (h h':H) (n:Nat):Prop where
 le:h.next≤h'.next
 top:h'.next≤h.next+n
 get:∀ b,b<h.next→h'.get b=h.get b
 low:h'.low≤h.low
 lo:min h.low h.next≤h'.low
theorem Ext.refl (h:H):Ext h h 0:=⟨Nat.le_refl _,Nat.le_refl _,fun _ _=>rfl,Nat.le_refl _,Nat.min_le_left _ _⟩
theorem Ext.trans {h h1 h2:H} {m n:Nat} (a:Ext h h1 m) (b:Ext h1 h2 n):Ext h h2 (m+n) :=
 ⟨Nat.le_trans a.le b.le,by have:=a.top; have:=b.top; omega,fun i hi=>(b.get i (Nat.lt_of_lt_of_le hi a.le)).trans (a.get i hi),Nat.le_trans b.low a.low,by have:=a.lo; have:=b.lo; have:=a.le; omega⟩
theorem Ext.mono {h h':H} {m n:Nat} (a:Ext h h' m) (hm:m≤n):Ext h h' n:=⟨a.le,by have:=a.top; omega,a.get,a.low,a.lo⟩
theorem new_next (h:H) (o:O):(h.new o).next=h.next+1:=by rw [H.new_eq]
theorem get_new_self {h:H} (o:O) (hn:h.next<T.top):(h.new o).get h.next=some o:=by rw [H.get_new _ _ _ hn,if_pos rfl]
theorem get_new_old {h:H} (o:O) (hn:h.next<T.top) {b:Nat} (hb:b<h.next):(h.new o).get b=h.get b:=by rw [H.get_new _ _ _ hn,if_neg (by omega)]
theorem Ext.new {h:H} (o:O) (hn:h.next<T.top):Ext h (h.new o) 1:=⟨by rw [new_next]; omega,by rw [new_next]; omega,fun b hb=>get_new_old o hn hb,Nat.le_refl _,Nat.min_le_left _ _⟩
theorem get_upd_self {h:H} {b:Nat} (o:Option O) (hb:b<T.top):(h.upd b o).get b=o:=by rw [H.get_upd _ _ _ _ hb,if_pos rfl]
theorem get_upd_ne {h:H} {b i:Nat} (o:Option O) (hb:b<T.top) (hi:i≠b):(h.upd b o).get i=h.get i:=by rw [H.get_upd _ _ _ _ hb,if_neg hi]
theorem Ext.upd {h0 h:H} {n b:Nat} (e:Ext h0 h n) (o:Option O) (hb:b<T.top) (hn:h0.next≤b):Ext h0 (h.upd b o) n :=
 ⟨e.le,e.top,fun i hi=>by rw [get_upd_ne o hb (by omega)]; exact e.get i hi,by rw [H.low_upd]; have:=e.low; omega,by rw [H.low_upd]; have:=e.lo; omega⟩
theorem topH_get (h:H) (b:Nat):(topH h).get b=h.get b:=rfl
theorem topH_next (h:H):(topH h).next=h.next:=rfl
theorem lowM_get (h h':H) (b:Nat):(lowM h h').get b=h'.get b:=rfl
theorem lowM_next (h h':H):(lowM h h').next=h'.next:=rfl
theorem lowM_low (h h':H):(lowM h h').low=min h.low h'.low:=by
 show cond (Nat.ble h.low h'.low) h.low h'.low=_
 cases hb:Nat.ble h.low h'.low with
 | true=>have:=Nat.le_of_ble_eq_true hb; simp only [cond_true]; omega
 | false =>
  have:¬ h.low≤h'.low:=fun e=>by rw [Nat.ble_eq_true_of_le e] at hb; cases hb
  simp only [cond_false]; omega
theorem Ext.drawn {h h':H} {n:Nat} (e:Ext (topH h) h' n) (hn:h.next≤T.top):h.next≤h'.low∧Ext h (lowM h h') n :=
  ⟨by have:=e.lo; have h1:(topH h).low=T.top:=rfl; have h2:(topH h).next=h.next:=rfl; omega,
   e.le,e.top,e.get,by rw [lowM_low]; omega,by rw [lowM_low]; have:=e.lo; have h1:(topH h).low=T.top:=rfl; have h2:(topH h).next=h.next:=rfl; omega⟩
section
variable {c:Ctx}
theorem ald_one {t b o:Nat} {ti:TI} {h:H} {cs:Cs} {k:Rk} {w op:Bool} {v:V} (ht:c.ty.get t=some ti) (hd:isAggD ti.desc=false) (hg:h.get b=some (.cells cs k w op)) (hv:cs.get? o=some v):ald c t h (.ptr b o)=some v:=by
 unfold ald; simp only [hg,ht,hd,cond_false,hv]
theorem ald_agg {t b o:Nat} {ti:TI} {h:H} {cs:Cs} {k:Rk} {w op:Bool} {x:List V} (ht:c.ty.get t=some ti) (hd:isAggD ti.desc=true) (hg:h.get b=some (.cells cs k w op)) (hv:cs.range o ti.size=some x):ald c t h (.ptr b o)=some (.agg x):=by
 unfold ald; simp only [hg,ht,hd,cond_true,hv]
theorem ast_at {t b o:Nat} {ti:TI} {h:H} {cs cs':Cs} {k:Rk} {op:Bool} {v:V} (ht:c.ty.get t=some ti) (hg:h.get b=some (.cells cs k true op)) (hl:lenIs v.cells ti.size=true) (hf:k.fz≤o) (ho:allOne v.cells=true)
  (hp:cs.put o v.cells=some cs'):ast c t h (.ptr b o) v=some (h.upd b (some (.cells cs' k true op))):=by
 unfold ast
 simp only [hg,ht,hl,cond_true,Nat.ble_eq_true_of_le hf,ho,hp]
structure ExtX (S:Nat→Prop) (h h':H) (n:Nat):Prop where
 le:h.next≤h'.next
 top:h'.next≤h.next+n
 get:∀ b,b<h.next→¬ S b→h'.get b=h.get b
 low:h'.low≤h.low
 lo:∀ m,m≤h.low→m≤h.next→(∀ b,S b→m≤b)→m≤h'.low
theorem ExtX.of {S:Nat→Prop} {h h':H} {n:Nat} (e:Ext h h' n):ExtX S h h' n:=⟨e.le,e.top,fun b hb _=>e.get b hb,e.low,fun m h1 h2 _=>Nat.le_trans (Nat.le_min.2 ⟨h1,h2⟩) e.lo⟩
theorem ExtX.trans {S:Nat→Prop} {h h1 h2:H} {m n:Nat} (a:ExtX S h h1 m) (b:ExtX S h1 h2 n):ExtX S h h2 (m+n) :=
 ⟨Nat.le_trans a.le b.le,by have:=a.top; have:=b.top; omega,fun i hi hs=>(b.get i (Nat.lt_of_lt_of_le hi a.le) hs).trans (a.get i hi hs),Nat.le_trans b.low a.low,fun k h1 h2 h3=>b.lo k (a.lo k h1 h2 h3) (Nat.le_trans h2 a.le) h3⟩
theorem ExtX.upd {S : Nat → Prop} {h h' : H} {n b : Nat} (e : ExtX S h h' n) (o : Option O) (hb : b < T.top) (hs : S b ∨ h.next ≤ b) : ExtX S h (h'.upd b o) n :=
  ⟨e.le, e.top, fun i hi hn => by
      rw [get_upd_ne o hb (fun g => by subst g; rcases hs with q | q
                                       · exact hn q
                                       · omega)]; exact e.get i hi hn, by rw [H.low_upd]; have := e.low; omega, fun m h1 h2 h3 => by
      rw [H.low_upd]
      have := e.lo m h1 h2 h3
      rcases hs with q | q
      · have := h3 b q; omega
      · omega⟩
theorem ExtX.ext {S:Nat→Prop} {h0 h h':H} {m n:Nat} (e:Ext h0 h m) (a:ExtX S h h' n) (hS:∀ b,S b→h0.next≤b):Ext h0 h' (m+n) :=
 ⟨Nat.le_trans e.le a.le,by have:=a.top; have:=e.top; omega,fun i hi=>(a.get i (Nat.lt_of_lt_of_le hi e.le) (fun q=>by have:=hS i q; omega)).trans (e.get i hi),Nat.le_trans a.low e.low,a.lo _ e.lo (Nat.le_trans (Nat.min_le_right _ _) e.le) fun b hb=>Nat.le_trans (Nat.min_le_right _ _) (hS b hb)⟩
def Sl (h:H) (v:V) (esz n:Nat) (xs:List V):Prop :=
 xs.length=n*esz∧((v = .nilslice∧n=0)∨∃ b o cp cs k w op,v = .slice b o n cp∧b<h.next∧h.get b=some (.cells cs k w op)∧∀ i,i<n*esz→cs.get? (o+i)=xs[i]?)
theorem Sl.ext {h h':H} {v:V} {esz n m:Nat} {xs:List V} (s:Sl h v esz n xs) (e:Ext h h' m):Sl h' v esz n xs:=by
 obtain ⟨h1,h2⟩:=s
 refine ⟨h1,h2.imp id ?_⟩
 rintro ⟨b,o,cp,cs,k,w,op,rfl,h3,h4,h5⟩
 exact ⟨b,o,cp,cs,k,w,op,rfl,Nat.lt_of_lt_of_le h3 e.le,by rw [e.get b h3]; exact h4,h5⟩
theorem Sl.len {h:H} {v:V} {esz n:Nat} {xs:List V} (s:Sl h v esz n xs) {t e:Nat} {ti:TI} (ht:c.ty.get t=some ti) (hd:ti.desc = .slice e):alen c t h v=some (.int .i64 n):=by
 obtain ⟨_,⟨rfl,rfl⟩ | ⟨b,o,cp,cs,k,w,op,rfl,_⟩⟩:=s
 ·unfold alen; rw [ht]; simp only [hd]; rfl
 ·unfold alen; rw [ht]; simp only [hd]; rfl
theorem Sl.at {h:H} {v:V} {esz n i:Nat} {xs:List V} (s:Sl h v esz n xs) (hi:i<n) {t e:Nat} {ti te:TI} (ht:c.ty.get t=some ti) (hd:ti.desc = .slice e) (he:c.ty.get e=some te) (hs:te.size=esz) :
  ∃ b o,aidx c t v (.int .i64 i)=some (.ptr b o)∧∃ cs k w op,h.get b=some (.cells cs k w op)∧∀ j,j<esz→cs.get? (o+j)=xs[i*esz+j]?:=by
 obtain ⟨_,⟨_,rfl⟩ | ⟨b,o,cp,cs,k,w,op,rfl,hb,hg,hc⟩⟩:=s
 ·omega
 ·refine ⟨b,o+i*te.size,?_,cs,k,w,op,hg,fun j hj=>?_⟩
  ·unfold aidx
   show (match asNatI (Int.ofNat i),c.ty.get t with | some i,some ti=>_ | _,_=>_)=_
   simp only [asNatI,ht,hd,he,(blt_iff _ _).2 hi,cond_true]
  ·rw [hs,Nat.add_assoc]
   refine hc _ ?_
   calc i*esz+j<i*esz+esz:=by omega
    _=(i+1)*esz:=by rw [Nat.succ_mul]
    _≤n*esz:=Nat.mul_le_mul_right _ hi
theorem Sl.at1 {h:H} {v:V} {n i:Nat} {xs:List V} (s:Sl h v 1 n xs) (hi:i<n) {t e:Nat} {ti te:TI} (ht:c.ty.get t=some ti) (hd:ti.desc = .slice e) (he:c.ty.get e=some te) (hs:te.size=1) (ha:isAggD te.desc=false) {u:V} (hu:xs[i]? = some u) :
  ∃ b o,aidx c t v (.int .i64 i)=some (.ptr b o)∧ald c e h (.ptr b o)=some u:=by
 obtain ⟨b,o,h1,cs,k,w,op,hg,hc⟩:=s.at hi ht hd he hs
 refine ⟨b,o,h1,ald_one he ha hg ?_⟩
 have:=hc 0 (by omega)
 rw [Nat.mul_one] at this
 simpa [hu] using this
def Ow (h:H) (v:V) (te:TI) (n:Nat) (xs:List V):Prop :=
 xs.length=n*te.size∧((v = .nilslice∧n=0)∨∃ b cs,v = .slice b 0 n (.skip 0)∧b<h.next∧h.get b=some (.cells cs (rkOf te) true true)∧cs.wf∧cs.len=n*te.size∧∀ i,i<n*te.size→cs.get? i=xs[i]?)
theorem Ow.sl {h:H} {v:V} {te:TI} {n:Nat} {xs:List V} (s:Ow h v te n xs):Sl h v te.size n xs:=by
 obtain ⟨h1,h2⟩:=s
 refine ⟨h1,h2.imp id ?_⟩
 rintro ⟨b,cs,rfl,h3,h4,_,_,h5⟩
 exact ⟨b,0,_,cs,_,_,_,rfl,h3,h4,fun i hi=>by rw [Nat.zero_add]; exact h5 i hi⟩
def vblk:V→Option Nat
 | .slice b _ _ _=>some b
 | _=>none
theorem Ow.keep {h h':H} {v:V} {te:TI} {n:Nat} {xs:List V} (s:Ow h v te n xs) (hn:h.next≤h'.next) (hg:∀ b,vblk v=some b→h'.get b=h.get b):Ow h' v te n xs:=by
 obtain ⟨h1,h2⟩:=s
 refine ⟨h1,h2.imp id ?_⟩
 rintro ⟨b,cs,rfl,h3,h4,h5⟩
 exact ⟨b,cs,rfl,Nat.lt_of_lt_of_le h3 hn,by rw [hg b rfl]; exact h4,h5⟩
theorem Ow.ext {h h':H} {v:V} {te:TI} {n m:Nat} {xs:List V} (s:Ow h v te n xs) (e:Ext h h' m):Ow h' v te n xs:=by
 refine s.keep e.le fun b hb=>e.get b ?_
 obtain ⟨_,⟨rfl,_⟩ | ⟨b',cs,rfl,h3,_⟩⟩:=s
 ·cases hb
 ·cases hb; exact h3
theorem Ow.nil (h:H) (te:TI):Ow h .nilslice te 0 []:=⟨by simp,.inl ⟨rfl,rfl⟩⟩
theorem Sl.src {h:H} {v:V} {esz n:Nat} {xs:List V} (s:Sl h v esz n xs) (he:0<esz) (hn:0<n):srcCells esz h v=some (n,xs):=by
 obtain ⟨h0,⟨rfl,rfl⟩ | ⟨b,o,cp,cs,k,w,op,rfl,hb,hg,hc⟩⟩:=s
 ·omega
 ·unfold srcCells
  simp only [hg]
  rw [Cs.range_is (Nat.mul_pos hn he) h0 hc]
theorem put_none {cs:Cs} {o:Nat} {vs:List V} (h:cs.len<o+vs.length):cs.put o vs=none:=by
 cases hp:cs.put o vs with
 | none=>rfl
 | some c'=>have:=(Cs.put_eq hp).1; omega
theorem growNew_is {k:Rk} {te:TI} {h:H} {cs:Cs} {need:Nat} (hb:need*te.bytes≤1099511627776) (hn:h.next<T.top) :
  growNew k te h (some cs) need=some (.slice h.next 0 need (.skip 0),h.new (.cells cs k true true)):=by
 unfold growNew newC
 rw [Nat.ble_eq_true_of_le hb,cond_true,(blt_iff _ _).2 hn,cond_true]
theorem Ow.appTo {h:H} {v:V} {te:TI} {n m:Nat} {xs ys:List V} (s:Ow h v te n xs) (hys:ys.length=m*te.size) (hm:0<m) (hok:teOk te=true)
  (ho:allOne ys=true) (hsz:(n+m)*te.size≤262143) (hby:(n+m)*te.bytes≤1099511627776) (hn:h.next<T.top) :
  ∃ v' h',Go.Sim.appTo te h m ys v=some (v',h')∧Ow h' v' te (n+m) (xs++ys)∧h.next≤h'.next∧h'.next≤h.next+1∧(∀ b,b<h.next→vblk v≠some b→h'.get b=h.get b)∧vblk v'=some h.next∧h'.low≤h.low∧(∀ m,m≤h.low→(∀ b,vblk v=some b→m≤b)→m≤h'.low):=by
 have hs0:0<te.size:=by
  unfold teOk at hok
  simp only [Bool.and_eq_true] at hok
  exact (blt_iff _ _).1 hok.1.1
 have hmul:(n+m)*te.size=n*te.size+m*te.size:=Nat.add_mul _ _ _
 obtain ⟨h0,⟨rfl,rfl⟩ | ⟨b,cs,rfl,hb,hg,hw,hl,hc⟩⟩:=s
 ·have hx0:xs=[]:=List.eq_nil_of_length_eq_zero (by rw [h0]; simp)
  subst hx0
  obtain ⟨cs,h1,h2⟩:=Cs.ofL_some (l:=ys) (by rw [hys]; simp at hsz; omega)
  obtain ⟨h3,h4⟩:=Cs.ofL_eq h1
  refine ⟨.slice h.next 0 m (.skip 0),h.new (.cells cs (rkOf te) true true),?_,?_,by rw [new_next]; omega,by rw [new_next]; omega,fun b hb _=>get_new_old _ hn hb,rfl,Nat.le_refl _,fun m hm _=>hm⟩
  ·unfold Go.Sim.appTo
   have:Nat.beq m 0=false:=by cases hm0:Nat.beq m 0 with
    | false=>rfl
    | true=>have:=Nat.eq_of_beq_eq_true hm0; omega
   rw [this,cond_false,ho,cond_true,h1]
   exact growNew_is (by simpa using hby) hn
  ·refine ⟨by simp [hys],.inr ⟨h.next,cs,by rw [Nat.zero_add],by rw [new_next]; omega,get_new_self _ hn,h2,by rw [h3,hys,Nat.zero_add],fun i _=>by rw [h4]; rfl⟩⟩
 ·obtain ⟨cs',h1,h2⟩:=Cs.app_some (cs:=cs) (vs:=ys) (by rw [hl,hys]; omega)
  obtain ⟨h3,h4⟩:=Cs.app_eq h1
  have hbt:b<T.top:=by omega
  have hn2:(killB h b).next<T.top:=hn
  refine ⟨.slice (killB h b).next 0 (n+m) (.skip 0),(killB h b).new (.cells cs' (rkOf te) true true),?_,?_,by rw [new_next]; exact Nat.le_succ _,by rw [new_next]; exact Nat.le_refl _,fun i hi hne=>?_,rfl,(by show (h.upd b none).low≤_; rw [H.low_upd]; exact Nat.min_le_left _ _),fun m hm hb2=>(by show m≤(h.upd b none).low; rw [H.low_upd]; exact Nat.le_min.2 ⟨hm,hb2 b rfl⟩)⟩
  ·unfold Go.Sim.appTo
   simp only [hg]
   unfold appSkip
   have e1:(true && true && Nat.beq te.size (rkOf te).n && Nat.beq 0 (0*te.size) && allOne ys && Nat.ble (0+n*te.size) cs.len)=true:=by
    simp [rkOf,ho,hl]
   rw [e1,cond_true]
   have e2:Nat.beq m 0=false:=by cases hm0:Nat.beq m 0 with
    | false=>rfl
    | true=>have:=Nat.eq_of_beq_eq_true hm0; omega
   rw [e2,cond_false]
   have e3:appIn h b 0 n (.skip 0) te.size (n+m) cs (rkOf te) true ys=none:=by
    unfold appIn
    have hpos:0<m*te.size:=Nat.mul_pos hm hs0
    rw [put_none (by rw [hl,hys]; omega)]
   rw [e3]
   simp only
   unfold appEnd
   have e4:(Nat.beq 0 0 && Nat.beq cs.len (0+n*te.size) && Nat.ble (rkOf te).fz (0+n*te.size) && (Nat.beq (rkOf te).ty 0 || Nat.beq (rkOf te).ty (te.id+1)))=true:=by
    simp [rkOf,hl]
   rw [e4,cond_true,h1]
   exact growNew_is hby hn2
  ·refine ⟨by rw [List.length_append,h0,hys,hmul],.inr ⟨(killB h b).next,cs',rfl,by rw [new_next]; exact Nat.lt_succ_self _,get_new_self _ hn2,h2,by rw [h3,hl,hys,hmul],fun i hi=>?_⟩⟩
   rw [h4,hl]
   by_cases hi2:i<n*te.size
   ·rw [if_pos hi2,hc i hi2,List.getElem?_append_left (by rw [h0]; exact hi2)]
   ·rw [if_neg hi2,List.getElem?_append_right (by rw [h0]; omega),h0]
  ·have hne:i≠b:=fun e=>hne (by rw [e]; rfl)
   rw [get_new_old _ hn2 (show i<(killB h b).next from hi)]
   exact get_upd_ne _ hbt hne
theorem Ow.append {h:H} {v x:V} {te ti:TI} {n m t e:Nat} {xs ys:List V} (s:Ow h v te n xs) (hx:Sl h x te.size m ys) (hm:0<m) (ht:c.ty.get t=some ti) (hd:ti.desc = .slice e) (he:c.ty.get e=some te) (hok:teOk te=true)
  (ho:allOne ys=true) (hsz:(n+m)*te.size≤262143) (hby:(n+m)*te.bytes≤1099511627776) (hn:h.next<T.top) :
  ∃ v' h',aappend c t h v x=some (v',h')∧Ow h' v' te (n+m) (xs++ys)∧h.next≤h'.next∧h'.next≤h.next+1∧(∀ b,b<h.next→vblk v≠some b→h'.get b=h.get b)∧vblk v'=some h.next∧h'.low≤h.low∧(∀ m,m≤h.low→(∀ b,vblk v=some b→m≤b)→m≤h'.low):=by
 have hs0:0<te.size:=by
  unfold teOk at hok
  simp only [Bool.and_eq_true] at hok
  exact (blt_iff _ _).1 hok.1.1
 have hap:aappend c t h v x=Go.Sim.appTo te h m ys v:=by
  unfold aappend
  rw [ht]
  simp only [hd,he,hok,cond_true,hx.src hs0 hm]
 rw [hap]
 exact s.appTo hx.1 hm hok ho hsz hby hn
theorem Ow.zeros {h:H} {v u z:V} {te ti:TI} {n m t e:Nat} {xs:List V} (s:Ow h v te n xs) (hm:0<m) (ht:c.ty.get t=some ti) (hd:ti.desc = .slice e) (he:c.ty.get e=some te) (hok:teOk te=true) (hz:te.zero=some z) (hzc:z.cells=[u]) (h1:te.size=1) (hu:u.one=true)
  (hsz:n+m≤262143) (hby:(n+m)*te.bytes≤1099511627776) (hn:h.next<T.top) :
  ∃ v' h',aappZ c t h v (.int .i64 (m:Int))=some (v',h')∧Ow h' v' te (n+m) (xs++List.replicate m u)∧h.next≤h'.next∧h'.next≤h.next+1∧(∀ b,b<h.next→vblk v≠some b→h'.get b=h.get b)∧vblk v'=some h.next∧h'.low≤h.low∧(∀ m,m≤h.low→(∀ b,vblk v=some b→m≤b)→m≤h'.low):=by
 have hap:aappZ c t h v (.int .i64 (m:Int))=Go.Sim.appTo te h m (List.replicate m u) v:=by
  unfold aappZ
  rw [ht]
  have hb:m*te.bytes≤1099511627776:=Nat.le_trans (Nat.mul_le_mul_right _ (Nat.le_add_left _ _)) hby
  have e1:Nat.beq te.size 1=true:=by rw [h1]; rfl
  simp only [hd,he,hok,e1,Bool.and_self,cond_true,hz,hzc]
  show cond (Nat.ble (m*te.bytes) 1099511627776) _ none=_
  rw [Nat.ble_eq_true_of_le hb,cond_true]
 rw [hap]
 exact s.appTo (by rw [List.length_replicate,h1,Nat.mul_one]) hm hok (allOne_iff.2 fun w hw=>by rw [List.eq_of_mem_replicate hw]; exact hu) (by rw [h1]; omega) hby hn
theorem Ow.zeros0 {h:H} {v u z:V} {te ti:TI} {n t e:Nat} {xs:List V} (s:Ow h v te n xs) (ht:c.ty.get t=some ti) (hd:ti.desc = .slice e) (he:c.ty.get e=some te) (hok:teOk te=true) (hz:te.zero=some z) (hzc:z.cells=[u]) (h1:te.size=1):aappZ c t h v (.int .i64 0)=some (v,h):=by
 have e1:Nat.beq te.size 1=true:=by rw [h1]; rfl
 unfold aappZ
 rw [ht]
 simp only [hd,he,hok,e1,Bool.and_self,cond_true,hz,hzc]
 show cond (Nat.ble (0*te.bytes) 1099511627776) _ none=_
 rw [Nat.zero_mul,show Nat.ble 0 1099511627776=true from rfl,cond_true]
 obtain ⟨h0,⟨rfl,rfl⟩ | ⟨b,cs,rfl,hb,hg,hw,hl,hc⟩⟩:=s
 ·rfl
 ·unfold Go.Sim.appTo
  simp only [hg]
  unfold appSkip
  have e1:(true && true && Nat.beq te.size (rkOf te).n && Nat.beq 0 (0*te.size) && allOne ([]:List V) && Nat.ble (0+n*te.size) cs.len)=true:=by
   simp [rkOf,hl,allOne]
  rw [show List.replicate 0 u=[] from rfl,e1,cond_true]
  rfl
theorem buildSlice1 {h:H} {t e:Nat} {ti te:TI} {z u:V} {ys:List V} (ht:c.ty.get t=some ti) (hd:ti.desc = .slice e) (he:c.ty.get e=some te) (hz:te.zero=some z) (hzl:lenIs z.cells te.size=true) (hu:u.cells=ys) (hl:ys.length=te.size) (hs:te.size≤16) (ho:allOne ys=true)
  (hn:h.next<T.top):∃ v h',abuildSlice c t 1 [(0,u)] h=some (v,h')∧Sl h' v te.size 1 ys∧Ext h h' 1∧vblk v=some h.next:=by
 obtain ⟨cs,h1,h2⟩:=Cs.ofL_some (l:=ys) (by rw [hl]; omega)
 obtain ⟨h3,h4⟩:=Cs.ofL_eq h1
 refine ⟨.slice h.next 0 1 (.exact 1),h.new (.cells cs ⟨0,e+1,0⟩ true false),?_,⟨by rw [hl,Nat.one_mul],.inr ⟨h.next,0,_,cs,_,_,_,rfl,by rw [new_next]; omega,get_new_self _ hn,fun i _=>by rw [h4,Nat.zero_add]⟩⟩,Ext.new _ hn,rfl⟩
 have hzl2:=lenIs_iff.1 hzl
 have hf:afill c (fun i=>some (i*te.size,te.size)) (zerosL z.cells 1) [(0,u)]=some ys:=by
  unfold afill
  simp only [Nat.zero_mul,hu]
  have:lenIs ys te.size=true:=lenIs_iff.2 hl
  rw [this,cond_true]
  have hz1:zerosL z.cells 1=z.cells:=by simp [zerosL]
  rw [hz1]
  obtain ⟨r,hr⟩:=Cs.splice_some (n:=0) (vs:=ys) (l:=z.cells) (by rw [hl,hzl2]; omega)
  rw [hr]
  simp only [afill]
  congr 1
  obtain ⟨g1,g2,g3⟩:=splice_eq hr
  apply List.ext_getElem?
  intro i
  rw [g3 i]
  by_cases hi:i<ys.length
  ·rw [if_pos ⟨Nat.zero_le _,by omega⟩]; rfl
  ·rw [if_neg (by omega),List.getElem?_eq_none (by omega),List.getElem?_eq_none (by omega)]
 unfold abuildSlice
 rw [ht]
 simp only [hd,he,hz]
 have hb:Nat.ble (1*te.size) 1048576=true:=Nat.ble_eq_true_of_le (by omega)
 rw [hb,cond_true,hzl,cond_true,hf]
 simp only
 unfold anew newC
 rw [ho,cond_true,(blt_iff _ _).2 hn,cond_true,h1]
end
end Go.Sim
