/- R. No condition. -/
import Derived.Test.YtnpeieeomokomaaGreatZQ
namespace Go.Sim
section
variable {P:Program}{c:Ctx}{orc:Nat->List V->H->Option (V×H)}{rd:Option Nat}{ih:Bool->Code->St->Option Out}
variable {ops:Array Oper}{m:Nat}{st:Nat->St}{ρ0:Env}{D0:Nat->Prop}{a0:Act}{w0:World}
def Add (S:Nat->Prop) (k:Nat):Nat->Prop:=λj=>S j\/j=k
structure Inv (ops:Array Oper) (m:Nat) (st:Nat->St) (ρ0:Env) (D0:Nat->Prop) (w0:World) (S:Nat->Prop) (J:Nat) (tm:Tm) (ρ:Env) (a:Act) (w:World):Prop where
 lt:∀j,S j->j<J
 le:J<=m
 closed:Closed ops.toList S
 nst:∀i,i<m->¬qf (st i) (st (i+1))->(S i↔i<J)
 tmv:zPF ops st S tm
 tmR:TmR ρ (DS D0 st S) (st 0).n tm a.tmps
 dfr:a.defers=(st 0).dfr.map (AD.conc ρ)
 hr:HR ρ (DS D0 st S) (st J).heap w
 size:w0.heap.size<=w.heap.size
 os:w.os=w0.os
 tape:w.tape=w0.tape
 output:w.output=w0.output
 agree:Agree D0 ρ0 ρ
 img:∀id o',DS D0 st S id->(st 0).heap.next<=id->(st J).heap.get id=some o'->w0.heap.size<=ρ.blk id \/
  ∃j o,D0 j/\(st 0).heap.get j=some o/\o.wr=true/\ρ0.blk j=ρ.blk id/\(st J).heap.get j=none
 frame:∀r,r<w0.heap.size->(∀j o,D0 j->(st 0).heap.get j=some o->o.wr=true->ρ0.blk j≠r)->w.heap[r]? = w0.heap[r]?
variable (B:Base P c orc rd ih ops m st ρ0 D0 a0 w0)
include B
theorem Base.looks {S:Nat->Prop}{tm:Tm}(hc:Closed ops.toList S) (_:∀j,S j->j<m) (ht:zPF ops st S tm) {k:Nat}{o:Oper}(hk:k<m) (hn:¬S k) (ho:ops[k]? = some o)
  (he:∀e∈o.after,wm e=true->S e.on):∀t,t∈xb ops.toList o->yB tm t=yB (st k).tm t:=by
 intro t hm;have hb:=ko hc k o (by simpa using ho) he;rcases ht t with⟨j,oj,hj,hoj,hd,hmax,hv⟩|⟨hno,hv⟩
 ·rw[hv]
  rcases Nat.lt_trichotomy j k with g|g|g
  ·refine(B.tm_range (p:=j+1) g (by omega) λi oi h1 h2 hoi hdi=>?_).symm
   rcases B.apart h2 hoi ho with h3|⟨h3,_⟩
   ·have:=hmax i oi (hb i h3) hoi hdi;omega
   ·exact(h3 t hdi).1 hm
  ·subst g;exact absurd hj hn
  ·rcases B.apart g ho hoj with h3|⟨_,h3⟩
   ·exact absurd (hc.bit hj h3) hn
   ·exact absurd hm (h3 t hd)
 ·rw[hv]
  refine(B.tm_range (oJ _) (by omega) λi oi _ h2 hoi hdi=>?_).symm
  rcases B.apart h2 hoi ho with h3|⟨h3,_⟩
  ·exact hno i oi (hb i h3) hoi hdi
  ·exact(h3 t hdi).1 hm
theorem Base.tm_add {S:Nat->Prop}{tm:Tm}(hc:Closed ops.toList S) (ht:zPF ops st S tm) {k:Nat}{o:Oper}(hn:¬S k) (ho:ops[k]? = some o)
  {v:V}(hv:(st (k+1)).tm=xa (st k).tm o.dst v) (hd:∀t,o.dst=some t->t<(st 0).n):zPF ops st (Add S k) (xa tm o.dst v):=by
 intro t;by_cases hdt:o.dst=some t
 ·have htop:t<Tb.top:=oI (hd t hdt) B.k0.tm.cap
  refine .inl ⟨k,o,.inr rfl,ho,hdt,λj' o' hj' ho' hd'=>?_,?_⟩
  ·rcases hj' with hj'|rfl
   ·rcases Nat.lt_or_ge k j' with g|g
    ·rcases B.apart g ho ho' with h3|⟨h3,_⟩
     ·exact absurd (hc.bit hj' h3) hn
     ·exact absurd hd' (h3 t hdt).2
    ·exact g
   ·exact oO _
  ·rw[hv,hdt]
   simp only[xa];rw[xg _ _ _ _ htop,xg _ _ _ _ htop,if_pos rfl,if_pos rfl]
 ·have hg:yB (xa tm o.dst v) t=yB tm t:=by
   cases hd':o.dst with
   | none=>rfl
   | some d =>
    simp only[xa];rw[xg _ _ _ _ (oI (hd d hd') B.k0.tm.cap),if_neg (λe=>hdt (by rw[hd',e]))]
  rw[hg];rcases ht t with⟨j,oj,hj,hoj,hd,hmax,hv⟩|⟨hno,hv⟩
  ·refine .inl ⟨j,oj,.inl hj,hoj,hd,λj' o' hj' ho' hd'=>?_,hv⟩
   rcases hj' with hj'|rfl
   ·exact hmax j' o' hj' ho' hd'
   ·rw[ho]at ho';cases ho';exact absurd hd' hdt
  ·refine .inr ⟨λj' o' hj' ho' hd'=>?_,hv⟩
   rcases hj' with hj'|rfl
   ·exact hno j' o' hj' ho' hd'
   ·rw[ho]at ho';cases ho';exact absurd hd' hdt
theorem Inv.combine {S : Nat -> Prop}{J : Nat}{tm : Tm}{ρ : Env}{a : Act}{w : World}(I : Inv ops m st ρ0 D0 w0 S J tm ρ a w) {k : Nat}{o : Oper}(hk : k < m) (hn : ¬S k) (ho : ops[k]? = some o)
    (he : ∀e ∈ o.after, wm e = true -> S e.on) {J' : Nat}(hJ' : J' = max J (k + 1)) {g g1 : H}{D' : Nat -> Prop}{ρ' : Env}{w' : World}{v : V}
    (hD' : ∀id, D' id -> DS D0 st S id) (_ : ∀id, D0 id -> D' id) (mv : Mv ρ D' g w ρ' g1 w') (hr' : HR ρ' (Dx D' g g1) g1 w') (hv : v.In (Dx D' g g1)) (hlt : ∀id, D' id -> id < g.next)
    (ha : ∀id, Dx D' g g1 id -> (st J').heap.get id = g1.get id)
    (hb : ∀id, DS D0 st S id -> ¬D' id -> g1.next <= id /\ (st J').heap.get id = (st J).heap.get id)
    (hc : ∀id, DS D0 st (Add S k) id ↔ DS D0 st S id \/ (g.next <= id /\ id < g1.next))
    (he' : ∀id, D' id -> (st J).heap.get id = g.get id)
    (hf : (∀id, DS D0 st S id -> D' id) \/ ∀id o', g.next <= id -> id < g1.next -> g1.get id = some o' -> w.heap.size <= ρ'.blk id)
    (htm : (st (k + 1)).tm = xa (st k).tm o.dst v) (hdst : ∀t, o.dst = some t -> t < (st 0).n)
    (hnst : ∀i, J <= i -> i < k -> qf (st i) (st (i + 1))) :
    Inv ops m st ρ0 D0 w0 (Add S k) J' (xa tm o.dst v) (Env.mix g1.next ρ' ρ) (a.put o.dst (v.conc ρ')) w' := by
  have hJm : J' <= m := by have := I.le;omega
  have hmix1 : ∀id, id < g1.next -> (Env.mix g1.next ρ' ρ).blk id = ρ'.blk id := λid h => by simp only[Env.mix, if_pos h]
  have hmix2 : ∀id, g1.next <= id -> (Env.mix g1.next ρ' ρ).blk id = ρ.blk id := λid h => by simp only[Env.mix];rw[if_neg (by omega)]
  have ag1 : Agree (Dx D' g g1) ρ' (Env.mix g1.next ρ' ρ) := λid hd => by
    have := hr'.lt id hd;simp only[Env.mix, if_pos this];exact⟨trivial, trivial, trivial⟩
  have ag2 : Agree (DS D0 st S) ρ (Env.mix g1.next ρ' ρ) := λid hd => by
    by_cases hd' : D' id
    · have h1 := ag1 id (.inl hd')
      have h2 := mv.agree id hd';exact⟨h1.1.trans h2.1, h1.2.1.trans h2.2.1, h1.2.2.trans h2.2.2⟩
    · have h1 := (hb id hd hd').1
      simp only[Env.mix];rw[if_neg (by omega), if_neg (by omega), if_neg (by omega)];exact⟨rfl, rfl, rfl⟩
  have sub2 : ∀id, DS D0 st S id -> DS D0 st (Add S k) id := λid h => (hc id).2 (.inl h)
  have sub1 : ∀id, Dx D' g g1 id -> DS D0 st (Add S k) id := λid h => h.elim (λh => sub2 id (hD' id h)) λh => (hc id).2 (.inr h)
  have hDlt : ∀id, DS D0 st (Add S k) id -> id < (st J').heap.next := by
    rintro id (h|⟨j, hj, h1, h2⟩)
    · exact oI (B.k0.hr.lt id h) (B.next_mono (oJ _) hJm)
    · have hjJ : j + 1 <= J' := by
        rcases hj with hj|rfl
        · have := I.lt j hj;omega
        · omega
      exact oI h2 (B.next_mono hjJ hJm)
  have out : ∀id o', DS D0 st S id -> ¬D' id -> (st J').heap.get id = some o' -> (st J).heap.get id = some o' /\ g1.next <= id /\ ρ.blk id < w.heap.size /\ w'.heap[ρ.blk id]? = w.heap[ρ.blk id]? := by
    intro id o' h1 h2 h3;obtain⟨h4, h5⟩ := hb id h1 h2;rw[h5]at h3;have h6 := I.hr.lt_size h1 h3;refine⟨h3, h4, h6, mv.frame _ h6 λj oj hj hgj hwj e => ?_⟩
    have hj2 := hD' j hj;have := I.hr.inj j id oj o' hj2 h1 (by rw[he' j hj];exact hgj) h3 hwj e;subst this;exact h2 hj
  refine
    { lt := λj hj => ?_, le := hJm, closed := ?_, nst := λi hi hq => ?_, tmv := B.tm_add I.closed I.tmv hn ho htm hdst, tmR := ?_, dfr := ?_, hr := ?_
      size := oP I.size mv.size, os := mv.os.trans I.os, tape := mv.tape.trans I.tape, output := mv.output.trans I.output, agree := λid hd => ?_, img := ?_, frame := ?_ }
  · rcases hj with hj|rfl
    · have := I.lt j hj;omega
    · omega
  · intro j oj hj hoj e hm hke
    rcases hj with hj|rfl
    · exact .inl (I.closed j oj hj hoj e hm hke)
    · have : oj = o := by
        have h1 : ops[j]? = some oj := by simpa using hoj
        rw[ho]at h1;cases h1;rfl
      subst this;exact .inl (he e hm hke)
  · constructor
    · rintro(hj|rfl)
      · have := I.lt i hj;omega
      · omega
    · intro hiJ
      rcases Nat.lt_or_ge i J with g'|g'
      · exact .inl ((I.nst i hi hq).2 g')
      · rcases Nat.lt_or_ge i k with g2|g2
        · exact absurd (hnst i g' g2) hq
        · exact .inr (by omega)
  · have h1 : TmR (Env.mix g1.next ρ' ρ) (DS D0 st (Add S k)) (st 0).n tm a.tmps := I.tmR.agree sub2 ag2
    have hvc : v.conc ρ' = v.conc (Env.mix g1.next ρ' ρ) := (V.conc_agree ag1 v hv).symm;rw[hvc];cases hd : o.dst with
    | none => exact h1
    | some t => exact h1.put (hdst t hd) (V.In_mono sub1 v hv)
  · have : (a.put o.dst (v.conc ρ')).defers = a.defers := by cases o.dst<;>rfl
    rw[this, I.dfr];exact(ZW (λid hd => ag2 id (.inl hd)) B.k0.dfrIn).symm
  · refine⟨B.cap hJm, hDlt, λid o' hd hg => ?_, λi j oi oj hi hj hgi hgj hwi hij => ?_⟩
    · by_cases hx : Dx D' g g1 id
      · rw[ha id hx]at hg
        rw[(ag1 id hx).1];exact(hr'.rel id o' hx hg).agree hx sub1 ag1
      · have hS : DS D0 st S id := ((hc id).1 hd).elim (λh => h) λh => absurd (.inr h) hx
        obtain⟨h3, h4, _, h6⟩ := out id o' hS (λh => hx (.inl h)) hg
        rw[(ag2 id hS).1, h6];exact(I.hr.rel id o' hS h3).agree hS sub2 ag2
    · by_cases hxi : Dx D' g g1 i
      · rw[(ag1 i hxi).1]at hij
        by_cases hxj : Dx D' g g1 j
        · rw[(ag1 j hxj).1]at hij
          exact hr'.inj i j oi oj hxi hxj (by rw[<-ha i hxi];exact hgi) (by rw[<-ha j hxj];exact hgj) hwi hij
        · exfalso
          have hSj : DS D0 st S j := ((hc j).1 hj).elim (λh => h) λh => absurd (.inr h) hxj
          obtain⟨h3, h4, h5, _⟩ := out j oj hSj (λh => hxj (.inl h)) hgj
          rw[(ag2 j hSj).1]at hij;rcases hxi with hxi|hxi
          · rw[(mv.agree i hxi).1]at hij
            have hgi' : g1.get i = some oi := by rw[<-ha i (.inl hxi)];exact hgi
            obtain⟨o2, h7, h8⟩ := mv.old i oi (hlt i hxi) hgi';have := I.hr.inj i j o2 oj (hD' i hxi) hSj (by rw[he' i hxi];exact h7) h3 (by rw[<-h8];exact hwi) hij;subst this;exact hxj (.inl hxi)
          · rcases hf with hf|hf
            · exact hxj (.inl (hf j hSj))
            · have := hf i oi hxi.1 hxi.2 (by rw[<-ha i (.inr hxi)];exact hgi)
              omega
      · have hSi : DS D0 st S i := ((hc i).1 hi).elim (λh => h) λh => absurd (.inr h) hxi
        obtain⟨h3, h4, h5, _⟩ := out i oi hSi (λh => hxi (.inl h)) hgi
        rw[(ag2 i hSi).1]at hij;by_cases hxj : Dx D' g g1 j
        · exfalso
          rw[(ag1 j hxj).1]at hij;rcases hxj with hxj|hxj
          · rw[(mv.agree j hxj).1]at hij
            have hgj' : g1.get j = some oj := by rw[<-ha j (.inl hxj)];exact hgj
            obtain⟨o2, h7, h8⟩ := mv.old j oj (hlt j hxj) hgj';have := I.hr.inj i j oi o2 hSi (hD' j hxj) h3 (by rw[he' j hxj];exact h7) hwi hij;subst this;exact hxi (.inl hxj)
          · rcases hf with hf|hf
            · exact hxi (.inl (hf i hSi))
            · have := hf j oj hxj.1 hxj.2 (by rw[<-ha j (.inr hxj)];exact hgj)
              omega
        · have hSj : DS D0 st S j := ((hc j).1 hj).elim (λh => h) λh => absurd (.inr h) hxj
          obtain⟨h3', _⟩ := out j oj hSj (λh => hxj (.inl h)) hgj
          rw[(ag2 j hSj).1]at hij;exact I.hr.inj i j oi oj hSi hSj h3 h3' hwi hij
  · have h1 := I.agree id hd
    have h2 := ag2 id (.inl hd);exact⟨h2.1.trans h1.1, h2.2.1.trans h1.2.1, h2.2.2.trans h1.2.2⟩
  · intro id o' hd h0 hg
    have hJJ : J <= J' := by omega
    have dead : ∀j, D0 j -> (st J).heap.get j = none -> (st J').heap.get j = none := λj hj hn => by
      cases hg' : (st J').heap.get j with
      | none => rfl
      | some q =>
        obtain⟨q2, h7, _⟩ := B.old_range hJJ hJm (I.hr.lt j (.inl hj)) hg';rw[hn]at h7;cases h7
    rcases(hc id).1 hd with hS|hfr
    · rw[(ag2 id hS).1]
      have hold : ∃o2, (st J).heap.get id = some o2 := by
        by_cases hd' : D' id
        · rw[ha id (.inl hd')]at hg
          obtain⟨o2, h7, _⟩ := mv.old id o' (hlt id hd') hg;exact⟨o2, by rw[he' id hd'];exact h7⟩
        · exact⟨o', (out id o' hS hd' hg).1⟩
      obtain⟨o2, h7⟩ := hold;exact(I.img id o2 hS h0 h7).imp (λh => h) λ⟨j, o, d1, d2, d3, d4, d5⟩ => ⟨j, o, d1, d2, d3, d4, dead j d1 d5⟩
    · rw[hmix1 id hfr.2]
      rcases(mv.img id o' hfr.1 hfr.2 (by rw[<-ha id (.inr hfr)];exact hg)).2 with h1|⟨j, oj, d1, d2, d3, d4, d5⟩
      · exact .inl (oP I.size h1)
      · have hgJ : (st J).heap.get j = some oj := by rw[he' j d1];exact d2
        have hjn : (st J').heap.get j = none := by rw[ha j (.inl d1)];exact d5
        have hS := hD' j d1;have hcase : D0 j \/ (st 0).heap.next <= j := by
          rcases hS with h|⟨i, hi, h1, _⟩
          · exact .inl h
          · have h2 := I.lt i hi
            have h3 := I.le;exact .inr (oP (B.next_mono (oJ _) (by omega)) h1)
        rcases hcase with hcase|hcase
        · obtain⟨o2, h7, h8⟩ := B.old_range (oJ _) I.le (B.k0.hr.lt j hcase) hgJ
          exact .inr ⟨j, o2, hcase, h7, by rw[<-h8];exact d3, by rw[<-d4];exact(I.agree j hcase).1.symm, hjn⟩
        · rcases I.img j oj hS hcase hgJ with h1|⟨j0, o0, e1, e2, e3, e4, e5⟩
          · exact .inl (by rw[<-d4];exact h1)
          · exact .inr ⟨j0, o0, e1, e2, e3, e4.trans d4, dead j0 e1 e5⟩
  · intro r hrl hr0
    rw[mv.frame r (oI hrl I.size) λj oj hj hgj hwj e => ?_]
    · exact I.frame r hrl hr0
    · have hgJ : (st J).heap.get j = some oj := by rw[he' j hj];exact hgj
      have hS := hD' j hj;have hcase : D0 j \/ (st 0).heap.next <= j := by
        rcases hS with h|⟨i, hi, h1, _⟩
        · exact .inl h
        · have h2 := I.lt i hi
          have h3 := I.le;exact .inr (oP (B.next_mono (oJ _) (by omega)) h1)
      rcases hcase with hcase|hcase
      · obtain⟨o2, h7, h8⟩ := B.old_range (oJ _) I.le (B.k0.hr.lt j hcase) hgJ
        exact hr0 j o2 hcase h7 (by rw[<-h8];exact hwj) (by rw[<-(I.agree j hcase).1];exact e)
      · rcases I.img j oj hS hcase hgJ with h1|⟨j0, o0, e1, e2, e3, e4, _⟩
        · omega
        · exact hr0 j0 o0 e1 e2 e3 (e4.trans e)
end
end Go.Sim
namespace Go.Sim
theorem ORel.and {ρ ρ2:Env}{D E:Nat->Prop}{id:Nat}{o:O}{x y:Option Obj}(h:ORel ρ D id o x) (h2:ORel ρ2 E id o y):ORel ρ (λi=>D i/\E i) id o x:=by
 cases o with
 | cells l esz wr op =>
  obtain⟨c,e,fz,h1,h3,h4,h5⟩:=h;obtain⟨_,_,_,_,_,h6,_⟩:=h2;exact⟨c,e,fz,h1,h3,λi v hv=>V.In_and v (h4 i v hv) (h6 i v hv),h5⟩
 | map es clock =>
  exact⟨h.1,λe he=>⟨V.In_and _ (h.2 e he).1 (h2.2 e he).1,V.In_and _ (h.2 e he).2 (h2.2 e he).2⟩⟩
 | loop s p n tm params assign body dfr =>
  obtain⟨fn,tmps,h1,h3,h4⟩:=h;obtain⟨_,_,_,h5,h6⟩:=h2;exact⟨fn,tmps,h1,⟨h3.size,h3.cap,h3.val,λt=>V.In_and _ (h3.inn t) (h5.inn t)⟩,h4,h6⟩
 | deferred b=>exact h
 | strIter l pos=>exact h
 | mapIter r since seen stepped=>exact⟨h.1,λr hr=>⟨h.2 r hr,h2.2 r hr⟩⟩
theorem zMp {d:Option Tmp}{tm:Tm}{v u:V}(hd:∀t,d=some t->t<Tb.top) (e:xa tm d v=xa tm d u) (tm2:Tm):xa tm2 d v=xa tm2 d u:=by
 cases d with
 | none=>rfl
 | some t =>
  simp only[xa]at e ⊢;have h1:=congrArg (λx:Tm=>yB x t) e;simp only[xg _ _ _ _ (hd t rfl),if_true]at h1;rw[h1]
theorem zBy {tm tm2:Tm}{b:Nat}{o:Oper}(h:∀x∈o.op.operands,yQ tm x=yQ tm2 x):wQ tm b o=wQ tm2 b o:=by
 unfold wQ;cases ho:o.op<;>try rfl
 case load t a =>
  rw[ho]at h;simp only[h a (by simp[Op.operands])]
 case slice t a lo hi mx =>
  rw[ho]at h;simp only[h a (by simp[Op.operands])]
 case convert s d a =>
  rw[ho]at h;simp only[h a (by simp[Op.operands])]
theorem zGP {ops:List Oper}{o:Oper}{t:Tmp}(h:Operand.tmp t∈o.op.operands):t∈xb ops o :=
 List.mem_append_right _ (List.mem_filterMap.2 ⟨.tmp t,by simpa using h,rfl⟩)
theorem zAw {ops:List Oper}{o:Oper}{tm tm2:Tm}(h:∀t,t∈xb ops o->yB tm t=yB tm2 t):∀x∈o.op.operands,yQ tm x=yQ tm2 x:=by
 intro x hx;cases x with
 | tmp t=>simp only[yQ,h t (zGP hx)]
 | _=>rfl
section
variable {P:Program}{c:Ctx}{orc:Nat->List V->H->Option (V×H)}{rd:Option Nat}{ih:Bool->Code->St->Option Out}
variable {ops:Array Oper}{m:Nat}{st:Nat->St}{ρ0:Env}{D0:Nat->Prop}{a0:Act}{w0:World}
theorem zAe {ops:List Oper}{o:Oper}{tm tm2:Tm}(h:∀t,t∈xb ops o->yB tm t=yB tm2 t):zZ ops tm o=zZ ops tm2 o:=by
 unfold zZ;cases hg:o.guard with
 | none=>rfl
 | some g =>
  obtain⟨j,wt⟩:=g;simp only;cases hj:ops[j]? with
  | none=>rfl
  | some o' =>
   simp only;cases hd:o'.dst with
   | none=>rfl
   | some d =>
    simp only;rw[h d (List.mem_append_left _ (by simp only[hg,hj,hd];exact List.mem_singleton.2 rfl))]
theorem Inv.step (B:Base P c orc rd ih ops m st ρ0 D0 a0 w0) {S:Nat->Prop}{J:Nat}{tm:Tm}{ρ:Env}{a:Act}{w:World}(I:Inv ops m st ρ0 D0 w0 S J tm ρ a w) {k:Nat}{o:Oper}(hk:k<m) (hn:¬S k) (ho:ops[k]? = some o)
  (he:∀e∈o.after,wm e=true->S e.on) {K:Act->World->Prop}{Q:Exit->Act->World->Prop}
  (hK:∀J' tm' ρ' a' w',Inv ops m st ρ0 D0 w0 (Add S k) J' tm' ρ' a' w'->K a' w'):wpOpIn (Fx (rd.map ρ0.blk)) 0 P ops Q k K a w:=by
 unfold wpOpIn;simp only[ho];have hlook:=B.looks I.closed (λj hj=>oI (I.lt j hj) I.le) I.tmv hk hn ho he
 have hbe:=ko I.closed k o (by simpa using ho) he;have kS:StR ρ (DS D0 st S) { n:=(st 0).n,tm:=tm,dfr:=(st 0).dfr,heap:=(st J).heap } a w:=⟨I.tmR,I.dfr,λd hd=>AD.In_mono (λ_ h=>.inl h) (B.k0.dfrIn d hd),I.hr⟩
 have hwant:Region.wanted o (yielded ops a.tmps)=zZ ops.toList (st k).tm o:=by
  rw[xR kS];exact zAe hlook
 rw[hwant];obtain⟨o',ho',hstep,af⟩:=B.hs k hk;rw[ho]at ho';cases ho';have hops:∀x∈o.op.operands,yQ tm x=yQ (st k).tm x:=zAw hlook;have hJm:=I.le;have hnst:∀i,J<=i->i<k->qf (st i) (st (i+1)):=by
  intro i h1 h2;refine Classical.byContradiction λhq=>?_
  obtain⟨oi,hoi,_,afi⟩:=B.hs i (by omega);rcases afi.eff with h|⟨_,b,_,_,h3⟩|⟨_,h3⟩
  ·exact hq h
  ·have:=(I.nst i (by omega) hq).1 (hbe i (h3 k h2 hk))
   omega
  ·have:=(I.nst i (by omega) hq).1 (hbe i (h3 k h2 hk))
   omega
 have hkq:k<J->qf (st k) (st (k+1)):=λh=>Classical.byContradiction λhq=>hn ((I.nst k hk hq).2 h)
 have hDlt:∀id,DS D0 st S id->id<(st J).heap.next:=I.hr.lt;have hadd:∀id,DS D0 st (Add S k) id↔DS D0 st S id\/((st k).heap.next<=id/\id<(st (k+1)).heap.next):=by
  intro id;constructor
  ·rintro(h|⟨j,hj|rfl,h⟩)
   ·exact .inl (.inl h)
   ·exact .inl (.inr ⟨j,hj,h⟩)
   ·exact .inr h
  ·rintro((h|⟨j,hj,h⟩)|h)
   ·exact .inl h
   ·exact .inr ⟨j,.inl hj,h⟩
   ·exact .inr ⟨k,.inr rfl,h⟩
 have hgo:J<=k->(∀id,DS D0 st S id->(st k).heap.get id=(st J).heap.get id)/\HR ρ (DS D0 st S) (st k).heap w:=by
  intro hJk;have h1:∀id,DS D0 st S id->(st k).heap.get id=(st J).heap.get id:=λid hd=>B.quiet_range hJk (by omega) hnst (hDlt id hd)
  refine⟨h1,B.cap (by omega),λid hd=>oI (hDlt id hd) (B.next_mono hJk (by omega)),λid o' hd hg=>I.hr.rel id o' hd (by rw[<-h1 id hd];exact hg),λi j oi oj hi hj hgi hgj=>?_⟩
  exact I.hr.inj i j oi oj hi hj (by rw[<-h1 i hi];exact hgi) (by rw[<-h1 j hj];exact hgj)
 have hmax1:k<J->max J (k+1)=J:=λh=>by omega
 have hmax2:J<=k->max J (k+1)=k+1:=λh=>by omega
 rcases hstep with⟨hw,hp⟩|⟨hw,s',hst,hlow,hd,hs1⟩
 ·rw[hw,if_neg (by simp)]
  refine⟨λ_ _=>trivial,?_⟩
  obtain⟨g1,hs1⟩:=yW hp;have hheap:(st (k+1)).heap=(st k).heap:=by rw[hs1]
  have htm:(st (k+1)).tm=xa (st k).tm o.dst zC:=by rw[hs1]
  have hdst:∀t,o.dst=some t->t<(st 0).n:=λt ht=>by rw[<-B.n_eq (q:=k) (by omega)];exact g1 t ht
  have hc:∀g:H,∀id,DS D0 st (Add S k) id↔DS D0 st S id\/(g.next<=id/\id<g.next):=λg id=>by
   rw[hadd id,hheap];constructor
   ·rintro(h|h)
    ·exact .inl h
    ·omega
   ·rintro(h|h)
    ·exact .inl h
    ·omega
  rw[<-xO ρ];rcases Nat.lt_or_ge k J with hkJ|hJk
  ·exact hK _ _ _ _ _ (I.combine B hk hn ho he rfl (g:=(st J).heap) (g1:=(st J).heap) (D':=DS D0 st S) (λ_ h=>h) (λ_ h=>.inl h) (Mv.refl _ _ _ _) (by rw[zk];exact I.hr) (xY _) hDlt
    (λid _=>by rw[hmax1 hkJ]) (λid h1 h2=>absurd h1 h2) (hc _) (λ_ _=>rfl) (.inr λid o' h1 h2 _=>by omega) htm hdst hnst)
  ·obtain⟨h1,h2⟩:=hgo hJk
   exact hK _ _ _ _ _ (I.combine B hk hn ho he rfl (g:=(st k).heap) (g1:=(st k).heap) (D':=DS D0 st S) (λ_ h=>h) (λ_ h=>.inl h) (Mv.refl _ _ _ _) (by rw[zk];exact h2) (xY _) h2.lt
    (λid _=>by rw[hmax2 hJk,hheap]) (λid h1 h2=>absurd h1 h2) (hc _) (λid hd=>(h1 id hd).symm) (.inr λid o' h1 h2 _=>by omega) htm hdst hnst)
 ·rw[hw,if_pos rfl]
  obtain⟨v0,hd0,hs',htr⟩:=zBP hst;have e3:=htr tm hops;have hdst:∀t,o.dst=some t->t<(st 0).n:=λt ht=>by rw[<-B.n_eq (q:=k) (by omega)];exact hd0 t ht
  have hdtop:∀t,o.dst=some t->t<Tb.top:=λt ht=>oI (hdst t ht) B.k0.tm.cap
  have htm0:(st (k+1)).tm=xa (st k).tm o.dst v0:=by rw[hs1,hs'];rfl
  have hnx:(st (k+1)).heap.next=s'.heap.next:=by rw[hs1];rfl
  have hgt:∀id,(st (k+1)).heap.get id=s'.heap.get id:=λid=>by rw[hs1];rfl
  rw[<-wu I.agree B.hl];obtain⟨ρt,at',wt,kt⟩:=B.kt k hk;have hopS:∀x∈o.op.operands,∀v,yQ tm x=some v->a.eval x=v.conc ρ/\v.In (DS D0 st S):=λx _ v hv=>wU kS x v hv
  have hfr:qf (st k) (st (k+1))->∀{D':Nat->Prop}{ρ':Env}{w':World},(∀id,D' id->id<(st k).heap.next)->Mv ρ D' (low0 (st k).heap) w ρ' s'.heap w' ->
    ∀id o',(low0 (st k).heap).next<=id->id<s'.heap.next->s'.heap.get id=some o'->w.heap.size<=ρ'.blk id:=by
   intro hq D' ρ' w' hlt mv id o' h1 h2 h3;rcases(mv.img id o' h1 h2 h3).2 with h4|⟨j,oj,hj,hgj,_,_,hnone⟩
   ·exact h4
   ·have h5:=hq j (hlt j hj)
    rw[hgt,hnone]at h5;have hgj:(st k).heap.get j=some oj:=hgj;rw[hgj]at h5;cases h5
  have hcs:∀id,DS D0 st (Add S k) id↔DS D0 st S id\/((low0 (st k).heap).next<=id/\id<s'.heap.next):=λid=>by rw[hadd id,hnx];exact Iff.rfl
  have hputv:∀v,xa tm o.dst v0=xa tm o.dst v->(st (k+1)).tm=xa (st k).tm o.dst v:=λv hv=>by rw[htm0];exact zMp hdtop hv _
  rcases Nat.lt_or_ge k J with hkJ|hJk
  ·by_cases hex:∃i,k<i/\i<J/\¬qf (st i) (st (i+1))
   ·-- a store went ahead: the operation does not look at its block
    have hsee:∀i,k<i->i<J->¬qf (st i) (st (i+1))->Yj o=true\/∃b,wQ tm b o=true/\∀id,id≠b->(st (i+1)).heap.get id=(st i).heap.get id:=by
     intro i h1 h2 hq;have hSi:=(I.nst i (by omega) hq).2 h2;obtain⟨oi,hoi,_,afi⟩:=B.hs i (by omega);rcases afi.eff with h|⟨_,b,h3,h4,_⟩|⟨h4,_⟩
     ·exact absurd h hq
     case inr.inr =>
      rcases h4 k o h1 (by simpa using ho)with h5|⟨h5,_⟩
      ·exact absurd (I.closed.bit hSi h5) hn
      ·exact .inl h5
     ·rcases h4 k o h1 (by simpa using ho)with h5|⟨h5,h6⟩
      ·exact absurd (I.closed.bit hSi h5) hn
      ·refine .inr ⟨b,?_,h3⟩
       rw[<-h5];refine zBy (zAw (ops:=ops.toList) λt ht=>?_)
       rw[hlook t ht];exact(B.tm_range (Nat.le_of_lt h1) (by omega) λj oj h7 h8 h9 h10=>h6 j oj t h7 h8 (by simpa using h9) h10 ht).symm
    obtain⟨i0,h1,h2,h3⟩:=hex;obtain⟨b0,hb0⟩:∃b0,wQ tm b0 o=true:=by
     rcases hsee i0 h1 h2 h3 with h|⟨b0,hb0,_⟩
     ·exact⟨0,zLO h tm 0⟩
     ·exact⟨b0,hb0⟩
    have e4:=e3;unfold z6 at e4;cases hop:yD c o (yQ tm) (low0 (st k).heap)with
    | none=>simp only[hop]at e4;cases e4
    | some an =>
     obtain⟨v,rfl,hall⟩:=zK4 hb0 hop;simp only[hop]at e4;rw[qT (s:={ st k with heap:=low0 (st k).heap,tm:=tm }) hd0]at e4;simp only[oA,oB,true_and]at e4;have hheap:s'.heap=low0 (st k).heap:=(congrArg St.heap e4).symm;have hputs:xa tm o.dst v=xa tm o.dst v0:=congrArg St.tm e4;have hload:∀t x b' o',o.op = .load t x->yQ tm x=some (.ptr b' o')->(st J).heap.get b'=(low0 (st k).heap).get b':=by
      intro t x b' o' hl hx;have hx':yQ (st k).tm x=some (.ptr b' o'):=by rw[<-hops x (by rw[hl];simp[Op.operands])];exact hx
      have hin:=(wU kt x _ hx').2;simp only[V.In]at hin;refine B.same_range (Nat.le_of_lt hkJ) hJm (kt.hr.lt _ hin) λi h4 h5 h6=>?_
      by_cases hq:qf (st i) (st (i+1))
      ·exact hq b' h6
      ·have hik:k<i:=by
        rcases Nat.eq_or_lt_of_le h4 with rfl|g
        ·exact absurd (hkq hkJ) hq
        ·exact g
       rcases hsee i hik h5 hq with h7|⟨b,h7,h8⟩
       ·exfalso
        unfold Yj at h7;simp only[hl]at h7;cases h7
       refine h8 b' λe=>?_
       subst e;unfold wQ at h7;simp only[hl,hx]at h7;simp at h7
     have hJop:=hall (st J).heap hload;have e5:z6 c orc rd.isSome ih o { n:=(st 0).n,tm:=tm,dfr:=(st 0).dfr,heap:=(st J).heap } = some (.normal,{ n:=(st 0).n,tm:=xa tm o.dst v,dfr:=(st 0).dfr,heap:=(st J).heap }):=by
      unfold z6;simp only[hJop];rw[qT (s:={ n:=(st 0).n,tm:=tm,dfr:=(st 0).dfr,heap:=(st J).heap }) hdst]
     refine YZ B.ok B.hor B.hih e5 rfl hopS I.hr ?_;intro ρ' v' w' mv hr' hv' htm';have htm':xa tm o.dst v=xa tm o.dst v':=htm';refine hK _ _ _ _ _ (I.combine B hk hn ho he rfl (g:=(st J).heap) (g1:=(st J).heap) (D':=DS D0 st S) (λ_ h=>h) (λ_ h=>.inl h) mv hr' hv' hDlt
      (λid _=>by rw[hmax1 hkJ]) (λid h1 h2=>absurd h1 h2) (λid=>?_) (λ_ _=>rfl) (.inr λid o' h1 h2 _=>by omega) (hputv v' (by rw[<-hputs,htm'])) hdst hnst)
     rw[hcs id,hheap];constructor
     ·rintro(h|h)
      ·exact .inl h
      ·omega
     ·rintro(h|h)
      ·exact .inl h
      ·omega
   ·-- only new blocks came up ahead
    have hq2:∀i,k<=i->i<J->qf (st i) (st (i+1)):=by
     intro i h1 h2;rcases Nat.eq_or_lt_of_le h1 with rfl|g
     ·exact hkq hkJ
     ·exact Classical.byContradiction λhq=>hex ⟨i,g,h2,hq⟩
    have hback:∀id,id<(st k).heap.next->(st J).heap.get id=(st k).heap.get id:=λid h=>B.quiet_range (Nat.le_of_lt hkJ) hJm hq2 h
    have hsub:∀id,DS D0 st S id->id<(st k).heap.next->Dx D0 (st 0).heap (st k).heap id:=by
     rintro id (h|⟨j,hj,h1,h2⟩) h3
     ·exact .inl h
     ·have hjJ:=I.lt j hj
      exact .inr ⟨oP (B.next_mono (oJ _) (by omega)) h1,h3⟩
    have hrk:HR ρ (λid=>DS D0 st S id/\id<(st k).heap.next) (low0 (st k).heap) w:=by
     refine⟨B.cap (by omega),λid h=>h.2,λid o' h hg=>?_,λi j oi oj hi hj hgi hgj=>?_⟩
     ·have hg:(st k).heap.get id=some o':=hg
      have h1:=I.hr.rel id o' h.1 (by rw[hback id h.2];exact hg);have h2:=kt.hr.rel id o' (hsub id h.1 h.2) hg;have h3:=h1.and h2;refine h3.agree (D:=λi=>DS D0 st S i/\Dx D0 (st 0).heap (st k).heap i) ⟨h.1,hsub id h.1 h.2⟩ (λi hi=>⟨hi.1,kt.hr.lt i hi.2⟩) (Agree.refl _ _)
     ·exact I.hr.inj i j oi oj hi.1 hj.1 (by rw[hback i hi.2];exact hgi) (by rw[hback j hj.2];exact hgj)
    refine YZ B.ok B.hor B.hih e3 hd (λx hx v hv=>?_) hrk ?_
    ·obtain⟨h1,h2⟩:=hopS x hx v hv
     have h3:=(wU kt x v (by rw[<-hops x hx];exact hv)).2;exact⟨h1,V.In_and v h2 (V.In_mono kt.hr.lt v h3)⟩
    ·intro ρ' v w' mv hr' hv htm'
     have htm':xa tm o.dst v0=xa tm o.dst v:=htm';refine hK _ _ _ _ _ (I.combine B hk hn ho he rfl (g:=low0 (st k).heap) (g1:=s'.heap) (D':=λid=>DS D0 st S id/\id<(st k).heap.next) (λ_ h=>h.1)
      (λid h=>⟨.inl h,oI (B.k0.hr.lt id h) (B.next_mono (oJ _) (by omega))⟩) mv hr' hv (λ_ h=>h.2) (λid hd=>?_) (λid h1 h2=>?_) hcs (λid h=>hback id h.2) (.inr (hfr (hkq hkJ) (λ_ h=>h.2) mv)) (hputv v htm') hdst hnst)
     ·rw[hmax1 hkJ,<-hgt id]
      refine B.quiet_range (by omega) hJm (λi h1 h2=>hq2 i (by omega) h2) ?_
      rw[hnx];exact hr'.lt id hd
     ·rw[hmax1 hkJ]
      refine⟨?_,rfl⟩;have h3:(st k).heap.next<=id:=Nat.le_of_not_lt λh=>h2 ⟨h1,h⟩
      rcases h1 with h|⟨j,hj,h4,h5⟩
      ·have:=oI (B.k0.hr.lt id h) (B.next_mono (q:=k) (oJ _) (by omega));omega
      ·have hjJ:=I.lt j hj
       rcases Nat.lt_trichotomy j k with g|g|g
       ·have:=B.next_mono (p:=j+1) (q:=k) g (by omega);omega
       ·subst g;exact absurd hj hn
       ·have:=B.next_mono (p:=k+1) (q:=j) g (by omega)
        rw[hnx]at this;omega
  ·obtain⟨h1,h2⟩:=hgo hJk
   refine YZ B.ok B.hor B.hih e3 hd hopS h2.low0 ?_;intro ρ' v w' mv hr' hv htm';have htm':xa tm o.dst v0=xa tm o.dst v:=htm';exact hK _ _ _ _ _ (I.combine B hk hn ho he rfl (g:=low0 (st k).heap) (g1:=s'.heap) (D':=DS D0 st S) (λ_ h=>h) (λ_ h=>.inl h) mv hr' hv h2.lt
    (λid _=>by rw[hmax2 hJk,hgt]) (λid h1 h2=>absurd h1 h2) hcs (λid hd=>(h1 id hd).symm) (.inl λ_ h=>h) (hputv v htm') hdst hnst)
end
end Go.Sim
namespace Go.Sim
section
variable {P:Program}{c:Ctx}{orc:Nat->List V->H->Option (V×H)}{rd:Option Nat}{ih:Bool->Code->St->Option Out}
variable {ops:Array Oper}{m:Nat}{st:Nat->St}{ρ0:Env}{D0:Nat->Prop}{a0:Act}{w0:World}
theorem Inv.finish (B:Base P c orc rd ih ops m st ρ0 D0 a0 w0) {S:Nat->Prop}{J:Nat}{tm:Tm}{ρ:Env}{a:Act}{w:World}(I:Inv ops m st ρ0 D0 w0 S J tm ρ a w) (hall:∀i,i<m->S i) :
  Mv ρ0 D0 (st 0).heap w0 ρ (st m).heap w/\StR ρ (Dx D0 (st 0).heap (st m).heap) (st m) a w:=by
 have hJ:J=m:=by
  have h1:=I.le;rcases Nat.eq_or_lt_of_le h1 with h|h
  ·exact h
  ·have:=I.lt J (hall J h);omega
 subst hJ;have hDS:DS D0 st S=Dx D0 (st 0).heap (st J).heap:=by
  funext id
  simp only[eq_iff_iff];constructor
  ·rintro(h|⟨j,hj,h1,h2⟩)
   ·exact .inl h
   ·have:=I.lt j hj
    exact .inr ⟨oP (B.next_mono (oJ _) (by omega)) h1,oI h2 (B.next_mono (p:=j+1) this (oO _))⟩
  ·rintro(h|⟨h1,h2⟩)
   ·exact .inl h
   ·obtain⟨j,h3,h4⟩:=Base.born h1 h2
    exact .inr ⟨j,hall j h3,h4⟩
 have htm:∀t,yB tm t=yB (st J).tm t:=by
  intro t;rcases I.tmv t with⟨j,oj,hj,hoj,hd,hmax,hv⟩|⟨hno,hv⟩
  ·rw[hv]
   have:=I.lt j hj;exact(B.tm_range (p:=j+1) this (oO _) λi oi h1 h2 hoi hdi=>by have:=hmax i oi (hall i h2) hoi hdi;omega).symm
  ·rw[hv]
   exact(B.tm_range (oJ _) (oO _) λi oi _ h2 hoi hdi=>hno i oi (hall i h2) hoi hdi).symm
 have hr:=I.hr;have htr:=I.tmR;rw[hDS]at hr htr;refine⟨⟨B.next_mono (oJ _) (oO _),I.size,I.os,I.tape,I.output,I.agree,λid o' h hg=>B.old_range (oJ _) (oO _) h hg,λid o' h1 h2 h3=>?_,I.frame,B.low_mono (oO _),λid h1 h2=>B.kept_range (oO _) h1 h2⟩,?_⟩
 ·refine⟨?_,I.img id o' (by rw[hDS];exact .inr ⟨h1,h2⟩) h1 h3⟩
  obtain⟨j,h4,h5,h6⟩:=Base.born h1 h2;obtain⟨o2,h7,h8⟩:=B.old_range (p:=j+1) h4 (oO _) h6 h3;obtain⟨o,_,_,af⟩:=B.hs j h4;rw[h8];exact af.wr id o2 h5 h6 h7
 ·refine⟨⟨?_,?_,λt=>?_,λt=>?_⟩,?_,?_,hr⟩
  ·rw[B.n_eq (oO _)];exact htr.size
  ·rw[B.n_eq (oO _)];exact htr.cap
  ·rw[<-htm t];exact htr.val t
  ·rw[<-htm t];exact htr.inn t
  ·rw[B.dfr_eq (oO _)];exact I.dfr
  ·rw[B.dfr_eq (oO _)];exact λd hd=>AD.In_mono xZ (B.k0.dfrIn d hd)
theorem Inv.start (B : Base P c orc rd ih ops m st ρ0 D0 a0 w0) {S : Nat -> Prop}(hS : ∀j, ¬S j) : Inv ops m st ρ0 D0 w0 S 0 (st 0).tm ρ0 a0 w0 := by
  have hDS : DS D0 st S = D0 := by
    funext id
    simp only[eq_iff_iff];constructor
    · rintro(h|⟨j, hj, _⟩)
      · exact h
      · exact absurd hj (hS j)
    · exact .inl
  refine { lt := λj hj => absurd hj (hS j), le := oJ _, closed := λj o hj => absurd hj (hS j), nst := λi _ _ => ⟨λh => absurd h (hS i), λh => by omega⟩
           tmv := λt => .inr ⟨λj o hj => absurd hj (hS j), rfl⟩, tmR := by rw[hDS];exact B.k0.tm, dfr := B.k0.dfr, hr := by rw[hDS];exact B.k0.hr
           size := oO _, os := rfl, tape := rfl, output := rfl, agree := Agree.refl _ _, img := λid o' hd h0 _ => ?_, frame := λ_ _ _ => rfl }
  rw[hDS]at hd;have := B.k0.hr.lt id hd
  exfalso;omega
theorem zJX (ok:CtxOK P c) (hor:yg P c orc) (hih:ju P ih) {i:Nat}{o:Oper}(ho:ops[i]? = some o) {l:List Oper}{s sf s0:St}{x:AX}(e:xk c orc rd.isSome ih ops.toList (o::l) s=some (.done x sf))
  {ρ:Env}{w:World}{a:Act}(hlt:∀id,D0 id->id<s0.heap.next) (hl:∀l,rd=some l->D0 l) (m:Mv ρ0 D0 s0.heap w0 ρ s.heap w) (k:StR ρ (Dx D0 s0.heap s.heap) s a w) {K:Act->World->Prop}
  (hK:∀s1 ρ1 a1 w1,xk c orc rd.isSome ih ops.toList l s1=some (.done x sf)->Mv ρ0 D0 s0.heap w0 ρ1 s1.heap w1->StR ρ1 (Dx D0 s0.heap s1.heap) s1 a1 w1->K a1 w1) :
  wpOpIn (Fx (rd.map ρ0.blk)) 0 P ops (Ends ρ0 D0 s0 w0 x sf) i K a w:=by
 unfold wpOpIn;simp only[ho];rw[xR k];simp only[xk]at e;cases hw:zZ ops.toList s.tm o with
 | true =>
  simp only[hw,oK]at e;rw[if_pos rfl];rw[<-wu m.agree hl];split at e
  ·rename_i s1 hs1
   refine xz ok hor hih hs1 k ?_ (λv hv=>by cases hv);intro _ ρ' a' w' m' _ k';rw[xS (D:=D0) m.next m'.next]at k';exact hK s1 ρ' a' w' e (Mv.trans hlt m m') k'
  ·rename_i y s1 hy hs1
   simp only[oA,Out.done.injEq]at e;obtain⟨rfl,rfl⟩:=e;refine xz ok hor hih hs1 k (λhn=>absurd hn hy) ?_;intro v hv ρ' w' m' k' hvi;subst hv;have hDx:=xS (D:=D0) m.next m'.next;exact⟨ρ',Mv.trans hlt m m',by rw[<-hDx];exact k',rfl,by rw[<-hDx];exact hvi⟩
  ·cases e
 | false =>
  simp only[hw,oL]at e;rw[if_neg (by simp)];split at e
  ·rename_i s1 hs1
   obtain⟨k2,hh⟩:=StR.put k (xY _) hs1;rw[xO]at k2;exact⟨λ_ _=>trivial,hK s1 ρ _ w e (by rw[hh];exact m) (by rw[hh];exact k2)⟩
  ·cases e
theorem ka {listed:Array Bool}{i:Nat}(h:i<listed.size):(listed.setIfInBounds i true).getD i false=true:=by
 simp[h]
theorem Ou {md:Region.Mode}{i:Nat}{listed:Array Bool}(h:i∈Region.ready md ops listed):i<ops.size/\listed.getD i false=false/\i<listed.size:=by
 obtain⟨h1,o,ho,_⟩:=mem_ready.1 h;refine⟨?_,?_,?_⟩
 ·rcases Nat.lt_or_ge i ops.size with g|g
  ·exact g
  ·rw[Array.getElem?_eq_none g]at ho;cases ho
 all_goals
  rcases Nat.lt_or_ge i listed.size with g|g
  ·first|exact g|(simpa [g]using h1)
  ·simp[Array.getD_eq_getD_getElem?,Array.getElem?_eq_none g]at h1
theorem ZI {md:Region.Mode}{i:Nat}{listed:Array Bool}(h:i∈Region.ready md ops listed) {o:Oper}(ho:ops[i]? = some o):∀e∈o.after,wm e=true->listed.getD e.on false=true:=by
 obtain⟨_,o',ho',he⟩:=mem_ready.1 h;rw[ho]at ho';cases ho';exact λe hm hk=>he e hm (zKk hk)
theorem zO6 (B:Base P c orc rd ih ops m st ρ0 D0 a0 w0) {md:Region.Mode}(hmd:zHO md ops) {x:AX}{sf:St}:∀(fuel j:Nat) (listed:Array Bool) (s:St) (ρ:Env) (a:Act) (w:World),m<=j->j<=ops.size->ops.size-j<=fuel->listed.size=ops.size ->
  Closed ops.toList (λi=>listed.getD i false=true)->(∀i,i<ops.size->(listed.getD i false=true↔i<j))->xk c orc rd.isSome ih ops.toList (ops.toList.drop j) s=some (.done x sf) ->
  Mv ρ0 D0 (st 0).heap w0 ρ s.heap w->StR ρ (Dx D0 (st 0).heap s.heap) s a w->wpAnyIn (Fx (rd.map ρ0.blk)) 0 P md ops (Ends ρ0 D0 (st 0) w0 x sf) fuel listed a w:=by
 intro fuel;have hend:∀(j:Nat) (s:St) (ρ:Env) (a:Act) (w:World),j=ops.size->xk c orc rd.isSome ih ops.toList (ops.toList.drop j) s=some (.done x sf) ->
   Mv ρ0 D0 (st 0).heap w0 ρ s.heap w->StR ρ (Dx D0 (st 0).heap s.heap) s a w->Ends ρ0 D0 (st 0) w0 x sf .normal a w:=by
  intro j s ρ a w hj e mv k;rw[List.drop_of_length_le (by simp;omega)]at e;simp only[xk,oA,Out.done.injEq]at e;obtain⟨rfl,rfl⟩:=e;exact⟨ρ,mv,k,rfl,trivial⟩
 induction fuel with
 | zero =>
  intro j listed s ρ a w hmj hj hf hsz hcl hli e mv k;refine⟨?_,hend j s ρ a w (by omega) e mv k⟩;rw[List.eq_nil_iff_forall_not_mem];intro i hi;obtain⟨h1,h2,_⟩:=Ou hi;rw[(hli i h1).2 (by omega)]at h2;cases h2
 | succ fuel ihf =>
  intro j listed s ρ a w hmj hj hf hsz hcl hli e mv k;refine⟨λhnil=>?_,λi hi=>?_⟩
  ·have hjN:j=ops.size:=by
    rcases Nat.eq_or_lt_of_le hj with h|h
    ·exact h
    ·have:=(hli j h).1 (zBN B.hm hmd hnil hsz j h);omega
   exact hend j s ρ a w hjN e mv k
  ·obtain⟨h1,h2,h3⟩:=Ou hi
   have ho:ops[i]? = some ops[i]:=Array.getElem?_eq_getElem h1;have hbe:=ko hcl i ops[i] (by simp) (ZI hi ho);have hij:i=j:=by
    have hge:j<=i:=Nat.le_of_not_lt λh=>by rw[(hli i h1).2 h]at h2;cases h2
    rcases Nat.eq_or_lt_of_le hge with h|h
    ·exact h.symm
    ·have:=hbe j (Zq _ _ i (by rw[<-B.hmeq];omega) (by simpa using h1) j h)
     have:=(hli j (by omega)).1 this;omega
   subst hij;have hdrop:ops.toList.drop i=ops[i]::ops.toList.drop (i+1):=by
    rw[List.drop_eq_getElem_cons (by simpa using h1)];simp
   rw[hdrop]at e;refine zJX B.ok B.hor B.hih ho e B.k0.hr.lt B.hl mv k ?_;intro s1 ρ1 a1 w1 e1 mv1 k1;have hget:∀i',(listed.setIfInBounds i true).getD i' false=true↔(listed.getD i' false=true\/i'=i):=by
    intro i';by_cases hii:i'=i
    ·subst hii;simp[ka h3]
    ·rw[getD_set_ne false (λh=>hii h.symm)];simp[hii]
   refine ihf (i+1) _ s1 ρ1 a1 w1 (by omega) (by omega) (by omega) (by simpa using hsz) ?_ ?_ e1 mv1 k1
   ·intro j' o' hj' ho' e' hm hk
    rcases(hget j').1 hj' with h|rfl
    ·exact(hget _).2 (.inl (hcl j' o' h ho' e' hm hk))
    ·have ho':ops[j']? = some o':=by simpa using ho'
     exact(hget _).2 (.inl (ZI hi ho' e' hm hk))
   ·intro i' hi'
    rw[hget i',hli i' hi'];omega
def xM (listed:Array Bool):Nat->Nat
 | 0=>0
 | n+1=>xM listed n+(if listed.getD n false=true then 0 else 1)
def left (ops:Array Oper) (listed:Array Bool):Nat:=xM listed ops.size
omit ops in
theorem zKp {listed:Array Bool}{i:Nat}:∀n,n<=i->xM (listed.setIfInBounds i true) n=xM listed n:=by
 intro n
 induction n with
 | zero=>intro _;rfl
 | succ n ih =>
  intro h;simp only[xM];rw[ih (by omega),getD_set_ne false (show i≠n by omega)]
omit ops in
theorem zPe {listed:Array Bool}{i:Nat}(h2:listed.getD i false=false) (h3:i<listed.size):∀n,i<n->xM (listed.setIfInBounds i true) n<xM listed n:=by
 intro n
 induction n with
 | zero=>intro h;omega
 | succ n ih =>
  intro h;simp only[xM];by_cases hin:i=n
  ·subst hin
   rw[zKp _ (oO _),ka h3,h2];simp
  ·rw[getD_set_ne false hin]
   have:=ih (by omega);omega
theorem zM4 {listed:Array Bool}{i:Nat}(h1:i<ops.size) (h2:listed.getD i false=false) (h3:i<listed.size):left ops (listed.setIfInBounds i true)<left ops listed :=
 zPe h2 h3 _ h1
omit ops in
theorem zKq {listed:Array Bool}:∀n,xM listed n=0->∀i,i<n->listed.getD i false=true:=by
 intro n
 induction n with
 | zero=>intro _ i h;omega
 | succ n ih =>
  intro h i hi;simp only[xM]at h;rcases Nat.lt_or_ge i n with g|g
  ·exact ih (by omega) i g
  ·have:i=n:=by omega
   subst this;by_cases hb:listed.getD i false=true
   ·exact hb
   ·rw[if_neg hb]at h;omega
omit ops in
theorem zWJ {listed:Array Bool}{m:Nat}:∀n,(∀i,i<n->listed.getD i false=true->i<m)->n-m<=xM listed n:=by
 intro n
 induction n with
 | zero=>intro _;omega
 | succ n ih =>
  intro h;have h1:=ih λi hi=>h i (by omega)
  simp only[xM];by_cases hb:listed.getD n false=true
  ·have:=h n (by omega) hb;omega
  ·rw[if_neg hb];omega
theorem zId (B:Base P c orc rd ih ops m st ρ0 D0 a0 w0) {md:Region.Mode}(hmd:zHO md ops) {x:AX}{sf:St}(e:xk c orc rd.isSome ih ops.toList (ops.toList.drop m) (st m)=some (.done x sf)) :
  ∀(fuel:Nat) (listed:Array Bool) (J:Nat) (tm:Tm) (ρ:Env) (a:Act) (w:World),left ops listed<=fuel->listed.size=ops.size->Inv ops m st ρ0 D0 w0 (λi=>listed.getD i false=true) J tm ρ a w ->
   wpAnyIn (Fx (rd.map ρ0.blk)) 0 P md ops (Ends ρ0 D0 (st 0) w0 x sf) fuel listed a w:=by
 intro fuel;have hdone:∀(fuel:Nat) (listed:Array Bool) (J:Nat) (tm:Tm) (ρ:Env) (a:Act) (w:World),left ops listed<=fuel->listed.size=ops.size->Inv ops m st ρ0 D0 w0 (λi=>listed.getD i false=true) J tm ρ a w ->
   (∀i,i<m->listed.getD i false=true)->wpAnyIn (Fx (rd.map ρ0.blk)) 0 P md ops (Ends ρ0 D0 (st 0) w0 x sf) fuel listed a w:=by
  intro fuel listed J tm ρ a w hf hsz I hall;obtain⟨mv,k⟩:=I.finish B hall;have hiff:∀i,i<ops.size->(listed.getD i false=true↔i<m):=λi _=>⟨λh=>oI (I.lt i h) I.le,hall i⟩
  exact zO6 B hmd fuel m listed (st m) ρ a w (oO _) B.m_le (oP (zWJ _ λi hi h=>(hiff i hi).1 h) hf) hsz I.closed hiff e mv k
 induction fuel with
 | zero =>
  intro listed J tm ρ a w hf hsz I;exact hdone 0 listed J tm ρ a w hf hsz I λi hi=>zKq _ (Nat.le_zero.1 hf) i (oI hi B.m_le)
 | succ fuel ihf =>
  intro listed J tm ρ a w hf hsz I;by_cases hall:∀i,i<m->listed.getD i false=true
  ·exact hdone (fuel+1) listed J tm ρ a w hf hsz I hall
  ·have hex:∃i,i<m/\listed.getD i false=false:=by
    refine Classical.byContradiction λh=>hall λi hi=>?_
    cases hb:listed.getD i false with
    | true=>rfl
    | false=>exact absurd ⟨i,hi,hb⟩ h
   obtain⟨i0,hi0,hb0⟩:=hex;refine⟨λhnil=>?_,λi hi=>?_⟩
   ·have:=zBN B.hm hmd hnil hsz i0 (oI hi0 B.m_le)
    rw[hb0]at this;cases this
   ·obtain⟨h1,h2,h3⟩:=Ou hi
    have ho:ops[i]? = some ops[i]:=Array.getElem?_eq_getElem h1;have hed:=ZI hi ho;have him:i<m:=by
     refine Nat.lt_of_not_le λhmi=>?_
     have hbe:=ko I.closed i ops[i] (by simp) hed;have:=hbe i0 (Zq _ _ i (by rw[<-B.hmeq];exact hmi) (by simpa using h1) i0 (by omega));rw[hb0]at this;cases this
    refine I.step B him (by rw[h2];simp) ho hed ?_;intro J' tm' ρ' a' w' I';have hS:Add (λi=>listed.getD i false=true) i=λi'=>(listed.setIfInBounds i true).getD i' false=true:=by
     funext i'
     simp only[eq_iff_iff,Add];by_cases hii:i'=i
     ·subst hii;simp[ka h3]
     ·rw[getD_set_ne false (λh=>hii h.symm)];simp[hii]
    rw[hS]at I';exact ihf _ J' tm' ρ' a' w' (by have:=zM4 h1 h2 h3;omega) (by simpa using hsz) I'
theorem zD8 (ok:CtxOK P c) (hor:yg P c orc) (hih:ju P ih) {id:Nat}{ops:Array Oper}{s s':St}{x:AX}{m:Nat}(hm:xD ops.toList=some m)
  (e:yJ c orc rd.isSome ih ops.toList (zp ops.toList []) m m 0 ops.toList s=some (.done x s')):SimC P rd (.region id ops true) s x s':=by
 intro ρ D w a k hl;have hmle:m<=ops.toList.length:=by
  unfold xD at hm;cases hc:(qZ ops.toList (zp ops.toList []) 0 ops.toList && (!(Region.departs ops.toList.toArray) || (Ox ops.toList (Region.linearise .gc ops.toList.toArray 0) [] && YH (Region.linearise .gc ops.toList.toArray 0) ops.toList.length)))with
  | false=>simp only[hc,oL]at hm;cases hm
  | true =>
   simp only[hc,oK,oA]at hm;rw[<-hm];exact Jj _ _
 obtain⟨st,h0,h1,h2,h3⟩:=z00 (rd:=rd) ok hor hih (ops:=ops) m 0 ops.toList s e (by simp) hmle k hl;simp only[Nat.zero_add]at h1 h3;subst h0
 let w1:World:={ w with drawn:=w.drawn+1 }
 have k1:StR ρ D (st 0) a w1:=⟨k.tm,k.dfr,k.dfrIn,k.hr.of_heap rfl⟩;have B:Base P c orc rd ih ops m st ρ D a w1:=⟨ok,hor,hih,hm,h1,k1,h2,hl⟩;have mv0:Mv ρ D (st 0).heap w ρ (st 0).heap w1:=Mv.of_heap rfl rfl rfl rfl;refine wpIn_mono (Q:=Ends ρ D (st 0) w1 x s') (wpIn_region_draw λt=>?_) ?_
 ·refine Oa _ ops t (λl=>wpOpsIn (Fx (rd.map ρ.blk)) 0 P ops (Ends ρ D (st 0) w1 x s') l a w1) λmd hmd t=>?_
  refine wpAnyIn_sound ops.size t _ a w1 ?_;have hS:∀j,¬((Array.replicate ops.size false).getD j false=true):=λj h=>by
   simp only[Array.getD_eq_getD_getElem?,Array.getElem?_replicate]at h;split at h<;>simp at h
  refine zId B hmd h3 ops.size _ 0 (st 0).tm ρ a w1 ?_ (by simp) (Inv.start B hS);unfold left;have:∀(l:Array Bool) n,xM l n<=n:=λl n=>by
   induction n with
   | zero=>exact oO _
   | succ n ih=>simp only[xM];split<;>omega
  exact this _ _
 ·rintro ex a' w' ⟨ρ',mv,k',rfl,hx⟩
  refine⟨ρ',Mv.trans k.hr.lt mv0 (by rw[zk];exact mv),k',rfl,hx⟩
end
end Go.Sim
