/- TG. No condition. -/
import Derived.Test.YtnpeieeomokomaaGreatZTF
import Derived.Test.YtnpeieeomokomaaGreatZTA
import Derived.Test.YtnpeieeomokomaaGreatZTB
import Derived.Test.YtnpeieeomokomaaGreatZTE
namespace Go.Proofs.YtnpeieeomokomaaGreat
open Go.Sim
structure GD (log:Nat) (l:List Int):Prop where
 lg:log=5∨log=6
 pos:1≤l.length
 len:l.length≤12
 low:∀ x∈l,-1≤x
 last:l.getLast?≠some 0
 pts:pts l=2^log
def stp (log:Nat):Nat:=2^log/2+2^log/8+3
def nxt (log m:Nat):Nat→Nat→Nat
 | 0,p=>p
 | f+1,p=>if p<2^log-m then p else nxt log m f ((p+stp log) % 2^log)
def plc (log m:Nat):Nat→Nat
 | 0=>0
 | k+1=>nxt log m 13 ((plc log m k+stp log) % 2^log)
def rare:List Int→Nat→Nat→List Int→List Int
 | [],_,_,out=>out
 | p :: l,s,n,out=>if p = -1 then rare l (s+1) (n-1) (out.set (n-1) s) else rare l (s+1) n out
def putn (log m:Nat) (s:Nat):Nat→Nat→List Int→List Int
 | 0,_,out=>out
 | c+1,k,out=>putn log m s c (k+1) (out.set (plc log m k) s)
def puts (log m:Nat):List Int→Nat→Nat→List Int→List Int
 | [],_,_,out=>out
 | p :: l,s,k,out=>puts log m l (s+1) (k+p.toNat) (putn log m s p.toNat k out)
def nrare (l:List Int):Nat:=(l.filter fun x=>decide (x = -1)).length
def sprd (log:Nat) (l:List Int):List Int:=puts log (nrare l) l 0 0 (rare l 0 (2^log) (List.replicate (2^log) 0))
def chkPlc (log m:Nat):Bool :=
 ((List.range 64).all fun p=>decide (nxt log m 13 ((p+stp log) % 2^log)<2^log-m)) &&
 ((List.range (2^log-m)).all fun q=>(List.range (2^log-m)).any fun k=>decide (plc log m k=q))
theorem chkPlc_all:((List.range 13).all fun m=>chkPlc 5 m && chkPlc 6 m)=true:=by decide +kernel
theorem chkPlc_at {log m:Nat} (hl:log=5∨log=6) (hm:m≤12):chkPlc log m=true:=by
 have h:=List.all_eq_true.1 chkPlc_all m (List.mem_range.2 (by omega))
 rw [Bool.and_eq_true] at h
 rcases hl with rfl | rfl
 ·exact h.1
 ·exact h.2
theorem pow_log {log:Nat} (hl:log=5∨log=6):32≤2^log∧2^log≤64:=by rcases hl with rfl | rfl <;> decide
theorem nxt_lt {log m p:Nat} (hl:log=5∨log=6) (hm:m≤12) (hp:p<2^log):nxt log m 13 ((p+stp log) % 2^log)<2^log-m:=by
 have h:=chkPlc_at hl hm
 unfold chkPlc at h
 rw [Bool.and_eq_true] at h
 exact of_decide_eq_true (List.all_eq_true.1 h.1 p (List.mem_range.2 (by have:=pow_log hl; omega)))
theorem plc_lt {log m:Nat} (hl:log=5∨log=6) (hm:m≤12) (k:Nat):plc log m k<2^log-m:=by
 have hp:=pow_log hl
 cases k with
 | zero=>show 0<_; omega
 | succ k=>exact nxt_lt hl hm (by have:=plc_lt hl hm k; omega)
theorem plc_all {log m q:Nat} (hl:log=5∨log=6) (hm:m≤12) (hq:q<2^log-m):∃ k,k<2^log-m∧plc log m k=q:=by
 have h:=chkPlc_at hl hm
 unfold chkPlc at h
 rw [Bool.and_eq_true] at h
 obtain ⟨k,h1,h2⟩:=List.any_eq_true.1 (List.all_eq_true.1 h.2 q (List.mem_range.2 hq))
 exact ⟨k,List.mem_range.1 h1,of_decide_eq_true h2⟩
theorem rare_len:∀ {l:List Int} {s n:Nat} {out:List Int},(rare l s n out).length=out.length
 | [],_,_,_=>rfl
 | p :: l,s,n,out=>by
  unfold rare
  split
  ·rw [rare_len,List.length_set]
  ·exact rare_len
theorem putn_len {log m s:Nat}:∀ {c k:Nat} {out:List Int},(putn log m s c k out).length=out.length
 | 0,_,_=>rfl
 | c+1,k,out=>by unfold putn; rw [putn_len,List.length_set]
theorem puts_len {log m:Nat}:∀ {l:List Int} {s k:Nat} {out:List Int},(puts log m l s k out).length=out.length
 | [],_,_,_=>rfl
 | p :: l,s,k,out=>by unfold puts; rw [puts_len,putn_len]
theorem sprd_len (log:Nat) (l:List Int):(sprd log l).length=2^log:=by unfold sprd; rw [puts_len,rare_len,List.length_replicate]
theorem nrare_cons (p:Int) (l:List Int):nrare (p :: l)=(if p = -1 then 1 else 0)+nrare l:=by
 unfold nrare
 rw [List.filter_cons]
 by_cases h:p = -1
 ·rw [if_pos h,if_pos (by simp [h]),List.length_cons]; omega
 ·rw [if_neg h,if_neg (by simp [h])]; omega
theorem nrare_le (l:List Int):nrare l≤l.length:=List.length_filter_le _ _
def nput (l:List Int):Nat:=(l.map Int.toNat).sum
theorem nput_cons (p:Int) (l:List Int):nput (p :: l)=p.toNat+nput l:=by simp [nput]
theorem pts_cons (p:Int) (l:List Int):pts (p :: l)=pt p+pts l:=by simp [pts]
theorem nput_pts:∀ {l:List Int},(∀ x∈l,-1≤x)→((nput l+nrare l:Nat):Int)=pts l
 | [],_=>rfl
 | p :: l,h=>by
  have h1:=nput_pts (l:=l) fun x hx=>h x (List.mem_cons_of_mem _ hx)
  have h2:=h p (List.mem_cons_self ..)
  rw [nput_cons,nrare_cons,pts_cons]
  unfold pt
  by_cases c:p = -1
  ·rw [if_pos c,if_pos (by omega)]
   have:p.toNat=0:=by omega
   omega
  ·rw [if_neg c,if_neg (by omega)]
   omega
theorem GD.cells {log:Nat} {l:List Int} (g:GD log l):nput l+nrare l=2^log:=by
 have h:=nput_pts g.low
 rw [g.pts] at h
 have:((2^log:Nat):Int)=2^log:=by simp
 omega
def Occ (l:List Int) (x:Int):Prop:=∃ s:Nat,x=s∧∃ p,l[s]? = some p∧p≠0
theorem rare_occ {all:List Int}:∀ {l:List Int} {s n:Nat} {out:List Int},all.drop s=l→nrare l≤n→n≤out.length→(∀ i x,n≤i→out[i]? = some x→Occ all x)→∀ i x,n-nrare l≤i→(rare l s n out)[i]? = some x→Occ all x
 | [],s,n,out,_,_,_,h=>fun i x hi hx=>h i x (by have:nrare []=0:=rfl; omega) hx
 | p :: l,s,n,out,hd,hr,hn,h=>by
  have hd2:all.drop (s+1)=l:=by rw [← List.drop_drop,hd]; rfl
  have hs:all[s]? = some p:=by
   have:=congrArg (fun l:List Int=>l[0]?) hd
   rw [List.getElem?_drop] at this
   simpa using this
  rw [nrare_cons] at hr ⊢
  unfold rare
  split
  ·rename_i c
   rw [if_pos c] at hr
   refine fun i x hi hx=>rare_occ (n:=n-1) hd2 (by omega) (by rw [List.length_set]; omega) (fun i x hi hx=>?_) i x (by omega) hx
   by_cases e:i=n-1
   ·subst e
    rw [List.getElem?_set_self (by omega)] at hx
    cases hx
    exact ⟨s,rfl,p,hs,by omega⟩
   ·rw [List.getElem?_set_ne (by omega)] at hx
    exact h i x (by omega) hx
  ·rename_i c
   rw [if_neg c] at hr
   exact fun i x hi hx=>rare_occ hd2 (by omega) hn h i x (by omega) hx
theorem putn_occ {all:List Int} {log m s:Nat} {p:Int} (hl:log=5∨log=6) (hm:m≤12) (hs:all[s]? = some p) (hp:p≠0):∀ {c k:Nat} {out:List Int},out.length=2^log →
  (∀ i x,2^log-m≤i→out[i]? = some x→Occ all x)→(∀ j x,j<k→out[plc log m j]? = some x→Occ all x) →
  (∀ i x,2^log-m≤i→(putn log m s c k out)[i]? = some x→Occ all x)∧(∀ j x,j<k+c→(putn log m s c k out)[plc log m j]? = some x→Occ all x)
 | 0,k,out,_,h1,h2=>⟨h1,h2⟩
 | c+1,k,out,ho,h1,h2=>by
  unfold putn
  have hk:=plc_lt hl hm k
  have r:=putn_occ hl hm hs hp (c:=c) (k:=k+1) (out:=out.set (plc log m k) s) (by rw [List.length_set]; exact ho) (fun i x hi hx=>?_) (fun j x hj hx=>?_)
  ·exact ⟨r.1,fun j x hj hx=>r.2 j x (by omega) hx⟩
  ·rw [List.getElem?_set_ne (by omega)] at hx
   exact h1 i x hi hx
  ·by_cases e:plc log m j=plc log m k
   ·rw [e,List.getElem?_set_self (by omega)] at hx
    cases hx
    exact ⟨s,rfl,p,hs,hp⟩
   ·rw [List.getElem?_set_ne (fun q=>e q.symm)] at hx
    by_cases e2:j=k
    ·exact absurd (by rw [e2]) e
    ·exact h2 j x (by omega) hx
theorem puts_occ {all:List Int} {log m:Nat} (hl:log=5∨log=6) (hm:m≤12):∀ {l:List Int} {s k:Nat} {out:List Int},all.drop s=l→out.length=2^log →
  (∀ i x,2^log-m≤i→out[i]? = some x→Occ all x)→(∀ j x,j<k→out[plc log m j]? = some x→Occ all x) →
  (∀ i x,2^log-m≤i→(puts log m l s k out)[i]? = some x→Occ all x)∧(∀ j x,j<k+nput l→(puts log m l s k out)[plc log m j]? = some x→Occ all x)
 | [],s,k,out,_,_,h1,h2=>⟨h1,h2⟩
 | p :: l,s,k,out,hd,ho,h1,h2=>by
  have hd2:all.drop (s+1)=l:=by rw [← List.drop_drop,hd]; rfl
  have hs:all[s]? = some p:=by
   have:=congrArg (fun l:List Int=>l[0]?) hd
   rw [List.getElem?_drop] at this
   simpa using this
  unfold puts
  rw [nput_cons]
  by_cases c:p=0
  ·subst c
   show (∀ i x,_→(puts log m l (s+1) (k+0) out)[i]? = some x→_)∧(∀ j x,j<k+(0+nput l)→(puts log m l (s+1) (k+0) out)[plc log m j]? = some x→_)
   rw [Nat.zero_add]
   exact puts_occ hl hm hd2 ho h1 h2
  ·obtain ⟨r1,r2⟩:=putn_occ hl hm hs c (c:=p.toNat) (k:=k) ho h1 h2
   have r:=puts_occ hl hm hd2 (by rw [putn_len]; exact ho) r1 r2
   exact ⟨r.1,fun j x hj hx=>r.2 j x (by omega) hx⟩
theorem sprd_occ {log:Nat} {l:List Int} (g:GD log l) {i:Nat} {x:Int} (hx:(sprd log l)[i]? = some x):Occ l x:=by
 have hm:nrare l≤12:=Nat.le_trans (nrare_le l) g.len
 have hp:=pow_log g.lg
 have hc:=g.cells
 have h1:=rare_occ (all:=l) (l:=l) (s:=0) (n:=2^log) (out:=List.replicate (2^log) 0) rfl (by omega) (by rw [List.length_replicate]; exact Nat.le_refl _) (fun i x hi hx=>by
  rw [List.getElem?_eq_none (by rw [List.length_replicate]; exact hi)] at hx; cases hx)
 obtain ⟨h2,h3⟩:=puts_occ (all:=l) (l:=l) (s:=0) (k:=0) g.lg hm rfl (by rw [rare_len,List.length_replicate]) h1 (fun j x hj _=>absurd hj (Nat.not_lt_zero _))
 by_cases c:i<2^log-nrare l
 ·obtain ⟨k,hk,rfl⟩:=plc_all g.lg hm c
  exact h3 k x (by omega) hx
 ·exact h2 i x (by omega) hx
end Go.Proofs.YtnpeieeomokomaaGreat
namespace Go.Proofs.YtnpeieeomokomaaGreat
open Go.Sim
abbrev Cl:=Int×Nat×Nat
def cbits (log x:Nat):Nat:=log-(nbits x-1)
def cbase (log x:Nat):Nat:=x*2^cbits log x-2^log
def cel (log:Nat) (s:Int) (x:Nat):Cl:=(s,cbits log x,cbase log x)
def cels (log:Nat):(Int→Nat)→List Int→List Cl
 | _,[]=>[]
 | nx,s :: l=>cel log s (nx s) :: cels log (fun j=>if j=s then nx s+1 else nx j) l
def num0 (l:List Int) (s:Int):Nat:=(l[s.toNat]?.getD 0).natAbs
def dtab (log:Nat) (l:List Int):List Cl:=cels log (num0 l) (sprd log l)
theorem cels_len {log:Nat}:∀ {nx:Int→Nat} {l:List Int},(cels log nx l).length=l.length
 | _,[]=>rfl
 | nx,s :: l=>by unfold cels; rw [List.length_cons,cels_len,List.length_cons]
theorem dtab_len (log:Nat) (l:List Int):(dtab log l).length=2^log:=by unfold dtab; rw [cels_len,sprd_len]
theorem nbits_mono1 {x:Nat} (h:1≤x):1≤nbits x:=by unfold nbits; rw [if_neg (by omega)]; omega
theorem cel_facts {log x:Nat} (h1:1≤x) (h2:x<2^(log+1)):nbits x-1≤log∧cbits log x≤log∧2^log≤x*2^cbits log x∧x*2^cbits log x≤2^(log+1)∧cbase log x+2^cbits log x≤2^log:=by
 have a:=nbits_mono1 h1
 have b:=nbits_le (n:=x) (by omega)
 have c:=nbits_lt x
 have d:nbits x≤log+1:=nbits_bound h2
 have e:nbits x-1+cbits log x=log:=by unfold cbits; omega
 have e1:2^log=2^(nbits x-1)*2^cbits log x:=by rw [← Nat.pow_add,e]
 have e2:2^nbits x=2*2^(nbits x-1):=by rw [← Nat.pow_succ']; congr 1; omega
 have f1:2^(nbits x-1)*2^cbits log x≤x*2^cbits log x:=Nat.mul_le_mul_right _ b
 have f2:(x+1)*2^cbits log x≤2^nbits x*2^cbits log x:=Nat.mul_le_mul_right _ c
 rw [e2,Nat.mul_assoc,← e1,Nat.add_mul,Nat.one_mul] at f2
 have e3:2^(log+1)=2*2^log:=Nat.pow_succ'
 have e4:0<2^cbits log x:=Nat.pow_pos (by decide)
 refine ⟨by omega,by unfold cbits; omega,by omega,by omega,?_⟩
 unfold cbase
 omega
theorem cels_facts {all:List Int} {log:Nat}:∀ {nx:Int→Nat} {l:List Int} {k:Nat},(∀ s∈l,Occ all s∧1≤nx s)→(∀ s,nx s≤k)→k+l.length≤2^(log+1) →
  ∀ c∈cels log nx l,Occ all c.1∧c.2.1≤log∧c.2.2+2^c.2.1≤2^log
 | _,[],_,_,_,_=>fun c hc=>by cases hc
 | nx,s :: l,k,h1,h2,h3=>fun c hc=>by
  rw [List.length_cons] at h3
  have hs:=h1 s (List.mem_cons_self ..)
  have hk:=h2 s
  rcases List.mem_cons.1 hc with rfl | hc
  ·obtain ⟨a1,a2,a3,a4,a5⟩:=cel_facts (log:=log) hs.2 (by omega)
   exact ⟨hs.1,a2,a5⟩
  ·refine cels_facts (k:=k+1) (fun s' hs'=>⟨(h1 s' (List.mem_cons_of_mem _ hs')).1,?_⟩) (fun s'=>?_) (by omega) c hc
   ·have:=(h1 s' (List.mem_cons_of_mem _ hs')).2
    show 1≤(if s'=s then nx s+1 else nx s')
    split <;> omega
   ·have:=h2 s'
    show (if s'=s then nx s+1 else nx s')≤k+1
    split <;> omega
theorem pts_mem:∀ {l:List Int} {x:Int},(∀ y∈l,-1≤y)→x∈l→(x.natAbs:Int)≤pts l
 | y :: l,x,h,hx=>by
  have h0:0≤pts l:=by
   have:=nput_pts (l:=l) fun z hz=>h z (List.mem_cons_of_mem _ hz)
   omega
  have h1:=h y (List.mem_cons_self ..)
  rw [pts_cons]
  rcases List.mem_cons.1 hx with rfl | hx
  ·unfold pt; split <;> omega
  ·have:=pts_mem (l:=l) (fun z hz=>h z (List.mem_cons_of_mem _ hz)) hx
   unfold pt; split <;> omega
theorem num0_le {log:Nat} {l:List Int} (g:GD log l) (s:Int):num0 l s≤2^log:=by
 unfold num0
 cases h:l[s.toNat]? with
 | none=>simp
 | some p =>
  have:=pts_mem g.low (List.mem_of_getElem? h)
  rw [g.pts] at this
  have e:((2^log:Nat):Int)=2^log:=by simp
  simp only [Option.getD_some]
  omega
theorem num0_occ {l:List Int} {s:Int} (h:Occ l s):1≤num0 l s:=by
 obtain ⟨n,rfl,p,h1,h2⟩:=h
 unfold num0
 rw [Int.toNat_natCast,h1]
 simp only [Option.getD_some]
 omega
theorem dtab_facts {log:Nat} {l:List Int} (g:GD log l):∀ c∈dtab log l,Occ l c.1∧c.2.1≤log∧c.2.2+2^c.2.1≤2^log:=by
 have hp:=pow_log g.lg
 refine cels_facts (k:=2^log) (fun s hs=>?_) (num0_le g) (by rw [sprd_len,Nat.pow_succ]; omega)
 obtain ⟨i,hi⟩:=List.getElem?_of_mem hs
 have:=sprd_occ g hi
 exact ⟨this,num0_occ this⟩
def two (cs:List Cl) (s:List UInt8):Nat→Nat→Nat→Nat→List Int→Option (List Int)
 | 0,_,_,_,_=>none
 | f+1,left,a,b,out=>match cs[a]? with
  | none=>none
  | some c =>
   if left<c.2.1 then
    (if f=0∨0<left then none else match cs[b]? with | none=>none | some d=>some (out++[c.1,d.1]))
   else two cs s f (left-c.2.1) b (c.2.2+bnum s left c.2.1) (out++[c.1])
def rdTwo (log:Nat) (l:List Int) (s:List UInt8):Int×List Int :=
 if bsize s<0 then (22,[])
 else if bsize s<log then (21,[])
 else if bsize s<2*log then (21,[])
 else match two (dtab log l) s 255 ((bsize s).toNat-log-log) (bnum s (bsize s).toNat log) (bnum s ((bsize s).toNat-log) log) [] with
 | none=>(21,[])
 | some out=>(0,out)
theorem dtab_sym {log:Nat} {l:List Int} (g:GD log l) {c:Cl} (hc:c∈dtab log l):0≤c.1∧c.1<12:=by
 obtain ⟨⟨s,h1,p,h2,_⟩,_⟩:=dtab_facts g c hc
 have:=(List.getElem?_eq_some_iff.1 h2).1
 have:=g.len
 omega
theorem two_in {log:Nat} {l:List Int} (g:GD log l) {s:List UInt8}:∀ {f left a b:Nat} {out r:List Int},two (dtab log l) s f left a b out=some r→inB out=true→f+out.length=255→inB r=true∧r.length≤255
 | 0,_,_,_,_,_,h,_,_=>by cases h
 | f+1,left,a,b,out,r,h,ho,hf=>by
  unfold two at h
  cases ha:(dtab log l)[a]? with
  | none=>rw [ha] at h; cases h
  | some c =>
   rw [ha] at h
   have hc:=dtab_sym g (List.mem_of_getElem? ha)
   have h1:inB [c.1]=true:=by simp [inB]; omega
   simp only at h
   split at h
   ·split at h
    ·cases h
    ·rename_i hn
     cases hb:(dtab log l)[b]? with
     | none=>rw [hb] at h; cases h
     | some d =>
      rw [hb] at h
      have hd:=dtab_sym g (List.mem_of_getElem? hb)
      cases h
      refine ⟨?_,by simp; omega⟩
      rw [inB_app,ho]
      simp [inB]; omega
   ·exact two_in g h (by rw [inB_app,ho,h1]; rfl) (by simp; omega)
theorem rdTwo_in {log:Nat} {l:List Int} (g:GD log l) {s:List UInt8}:inB (rdTwo log l s).2=true∧(rdTwo log l s).2.length≤255:=by
 unfold rdTwo
 split
 ·exact ⟨rfl,by simp⟩
 ·split
  ·exact ⟨rfl,by simp⟩
  ·split
   ·exact ⟨rfl,by simp⟩
   ·split
    ·exact ⟨rfl,by simp⟩
    ·rename_i h
     exact two_in g h rfl rfl
theorem rdProbs_good {s:List UInt8} {symbols log:Nat}:∀ {f left p:Nat} {l r:List Int} {q:Nat},rdProbs s symbols f left p l=some (r,q)→l.length≤symbols→(∀ x∈l,-1≤x)→pts l+left=2^log→(left=0→l.getLast?≠some 0∧1≤l.length) →
  (∀ x∈r,-1≤x)∧pts r=2^log∧r.getLast?≠some 0∧1≤r.length∧r.length≤symbols
 | 0,_,_,_,_,_,h,_,_,_,_=>by cases h
 | f+1,left,p,l,r,q,h,hn,h1,h2,h3=>by
  unfold rdProbs at h
  split at h
  ·rename_i c
   cases h
   exact ⟨h1,by rw [← h2,c]; omega,(h3 c).1,(h3 c).2,hn⟩
  ·rename_i c
   cases ho:rdOne s left p with
   | none=>rw [ho] at h; cases h
   | some x =>
    obtain ⟨v,p'⟩:=x
    rw [ho] at h
    obtain ⟨hv,_⟩:=rdOne_le (by omega) ho
    simp only at h
    split at h
    ·cases h
    ·rename_i hls
     split at h
     ·rename_i hv1
      cases hz:rdZeros s symbols (symbols+1) p' (l.length+1) with
      | none=>rw [hz] at h; cases h
      | some y =>
       obtain ⟨n,p2⟩:=y
       rw [hz] at h
       simp only at h
       have hzl:∀ {f p n m q:Nat},rdZeros s symbols f p n=some (m,q)→m≤symbols:=by
        intro f
        induction f with
        | zero=>intro p n m q h; cases h
        | succ f ih =>
         intro p n m q h
         unfold rdZeros at h
         split at h
         ·cases h
         ·split at h
          ·cases h
          ·split at h
           ·exact ih h
           ·cases h; omega
       have hm:=hzl hz
       refine rdProbs_good h (by simp; omega) (fun x hx=>?_) ?_ (fun g=>absurd g c)
       ·rcases List.mem_append.1 hx with hx | hx
        ·exact h1 x hx
        ·rw [List.eq_of_mem_replicate hx]; decide
       ·rw [pts_app]
        have:∀ k,pts (List.replicate k 0)=0:=fun k=>by
         induction k with
         | zero=>rfl
         | succ k ih=>rw [List.replicate_succ,pts_cons,ih]; rfl
        rw [this]
        omega
     ·rename_i hv1
      refine rdProbs_good h (by simp; omega) (fun x hx=>?_) ?_ (fun g=>?_)
      ·rcases List.mem_append.1 hx with hx | hx
       ·exact h1 x hx
       ·rw [List.mem_singleton.1 hx]; omega
      ·rw [pts_app,pts_one]
       unfold pt
       split <;> omega
      ·refine ⟨?_,by simp⟩
       rw [List.getLast?_append]
       simp
       omega
theorem rdDist_good {s:List UInt8} {log p:Nat} {l:List Int} (h:rdDist s 6 12=some (log,l,p)):GD log l:=by
 unfold rdDist at h
 split at h
 ·cases h
 ·split at h
  ·cases h
  ·rename_i c1 c2
   cases hr:rdProbs s 12 (12+2) (2^(fnum s 0 4+5)) 4 [] with
   | none=>rw [hr] at h; cases h
   | some x =>
    obtain ⟨r,q⟩:=x
    rw [hr] at h
    simp only [Option.map_some,Option.some.injEq,Prod.mk.injEq] at h
    obtain ⟨rfl,rfl,rfl⟩:=h
    have hp:0<2^(fnum s 0 4+5):=Nat.pow_pos (by decide)
    obtain ⟨a1,a2,a3,a4,a5⟩:=rdProbs_good (log:=fnum s 0 4+5) hr (by simp) (fun x hx=>by cases hx) (by simp [pts]) (fun g=>by omega)
    exact ⟨by omega,a4,a5,a1,a3,a2⟩
end Go.Proofs.YtnpeieeomokomaaGreat
namespace Go.Proofs.YtnpeieeomokomaaGreat
open Go.Sim
def nibs (s:List UInt8) (a:Nat) (n:Nat):List Int:=(List.range n).map fun i=>((if i % 2=0 then (s[a+i/2]?.getD 0).toNat/16 else (s[a+i/2]?.getD 0).toNat % 16:Nat):Int)
structure Rd where
 l:List Int
 next:Nat
 e:Int
 fat:Int
def rdDirect (s:List UInt8) (a h:Nat):Rd :=
 if s.length<a+1+(h-127+1)/2 then ⟨[],0,5,s.length⟩
 else if rgtV (nibs s (a+1) (h-127))=0 then ⟨nibs s (a+1) (h-127),a+1+(h-127+1)/2,0,0⟩
 else ⟨[],0,21,a⟩
def rdFse (b:List UInt8) (a fin:Nat):Rd :=
 match rdDist b 6 12 with
 | none=>⟨[],0,if rdAcc b 6 then 31 else 23,a+1⟩
 | some (log,l,p) =>
  if (rdTwo log l (b.drop ((p+7)/8))).1≠0 then ⟨[],0,(rdTwo log l (b.drop ((p+7)/8))).1,a+1+(p+7)/8⟩
  else if rgtV (rdTwo log l (b.drop ((p+7)/8))).2=0 then ⟨(rdTwo log l (b.drop ((p+7)/8))).2,fin,0,0⟩
  else ⟨[],0,21,a⟩
def rdTree (s:List UInt8) (at':Int):Rd :=
 if at'<0∨s.length<at' then ⟨[],0,2,0⟩
 else match s[at'.toNat]? with
 | none=>⟨[],0,5,at'⟩
 | some c =>
  if 127<c.toNat then rdDirect s at'.toNat c.toNat
  else if s.length<at'.toNat+1+c.toNat then ⟨[],0,5,s.length⟩
  else rdFse ((s.drop (at'.toNat+1)).take c.toNat) at'.toNat (at'.toNat+1+c.toNat)
def trn (m:Nat) (l:List Int):List Int:=l.map fun x=>if x≠0 then (m:Int)+1-x else 0
def lens (l:List Int):List Int:=trn (nbits (wsum l)) (l++[((nbits (wrest l):Nat):Int)])
theorem nibs_len (s:List UInt8) (a n:Nat):(nibs s a n).length=n:=by simp [nibs]
theorem trn_len (m:Nat) (l:List Int):(trn m l).length=l.length:=by simp [trn]
theorem rdTree_len (s:List UInt8) (a:Int):(rdTree s a).l.length≤255:=by
 unfold rdTree
 split
 ·simp
 ·split
  ·simp
  ·rename_i c hc
   have:=c.toNat_lt
   split
   ·unfold rdDirect
    split
    ·simp
    ·split
     ·simp only [nibs_len]; omega
     ·simp
   ·split
    ·simp
    ·unfold rdFse
     split
     ·simp
     ·rename_i log l p hd
      split
      ·simp
      ·split
       ·exact (rdTwo_in (rdDist_good hd)).2
       ·simp
end Go.Proofs.YtnpeieeomokomaaGreat
