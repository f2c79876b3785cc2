/- Z. No condition. -/
import Derived.Test.YtnpeieeomokomaaGreatZX
import Derived.Test.YtnpeieeomokomaaGreatZY
namespace Go.Sim
structure One (A:V→List V):Prop where
 conc:∀ ρ ρ' v v',V.conc ρ v=V.conc ρ' v'→(A v).map (V.conc ρ)=(A v').map (V.conc ρ')
 get:∀ D v,(∀ a∈A v,a.In D)→v.In D
 put:∀ D v,v.In D→∀ a∈A v,a.In D
theorem One.struct {pre post:List V} (h1:∀ a∈pre,Plain a) (h2:∀ a∈post,Plain a):One fun v=>.agg (pre++[v]) :: post:=by
 refine ⟨fun ρ ρ' v v' e=>?_,fun D v h=>?_,fun D v h a ha=>?_⟩
 ·have e1:pre.map (V.conc ρ)=pre.map (V.conc ρ'):=List.map_congr_left fun a ha=>((h1 a ha).1 ρ).trans ((h1 a ha).1 ρ').symm
  rw [List.map_cons,List.map_cons,List.map_congr_left fun a ha=>((h2 a ha).1 ρ).trans ((h2 a ha).1 ρ').symm]
  simp only [V.conc,V.concL_eq,List.map_append,List.map_cons,List.map_nil,e,e1]
 ·have h3:=h _ (List.mem_cons_self ..)
  simp only [V.In] at h3
  exact V.InL_iff.1 h3 v (by simp)
 ·rcases List.mem_cons.1 ha with rfl | ha
  ·simp only [V.In]
   refine V.InL_iff.2 fun a ha=>?_
   rcases List.mem_append.1 ha with ha | ha
   ·exact (h1 a ha).2 D
   ·rw [List.mem_singleton.1 ha]; exact h
  ·exact (h2 a ha).2 D
theorem SimF.ro {P:Program} {f:Nat} {A:V→List V} (hA:One A) {b o n:Nat} {cp:Cap} {esz:Nat} {xs:List V} {r:V} {h:H} {cs:Cs} {k:Rk} {w op:Bool}
  (hg:h.get b=some (.cells cs k w op)) (hc:∀ i,i<n*esz→cs.get? (o+i)=xs[i]?) (hl:xs.length=n*esz) (hx:∀ x∈xs,Plain x) (hr:Plain r)
  (s:∀ cap,∃ h1,SimF P f (A (.slice 0 0 n (.exact cap))) (hRO xs) (.ret r h1)):SimF P f (A (.slice b o n cp)) h (.ret r h):=by
 intro ρ D wd hR hin
 have hDb:D b:=by have:=hA.get D _ hin; simpa [V.In] using this
 obtain ⟨c,e,fz,hb,hcell,_,_⟩:=hR.rel b _ hDb hg
 obtain ⟨h1,s1⟩:=s (cp.val ρ b)
 have hR0:HR (envRO (ρ.blk b) (ρ.off b+o)) (fun i=>i=0) (hRO xs) wd:=by
  refine HR_RO hb (fun i v hv=>?_) (fun v hv=>((hx v hv).1 _).trans ((hx v hv).1 _).symm) fun v hv=>(hx v hv).2 _
  have hi:i<n*esz:=by have:=(List.getElem?_eq_some_iff.1 hv).1; omega
  have:=hcell (o+i) v (by rw [hc i hi]; exact hv)
  rw [(hx v (List.mem_of_getElem? hv)).1 ρ] at this
  rw [Nat.add_assoc]; exact this
 have h2:=s1 _ _ wd hR0 (hA.put _ _ (by simp [V.In]))
 rw [hA.conc (envRO (ρ.blk b) (ρ.off b+o)) ρ (.slice 0 0 n (.exact (cp.val ρ b))) (.slice b o n cp) (by simp [V.conc,envRO,Cap.val])] at h2
 refine CallsIn.mono h2 ?_
 rintro e' w' ⟨ρ',rfl,m,_,_⟩
 have fr:∀ r,r<wd.heap.size→w'.heap[r]? = wd.heap[r]?:=fun k hk=>m.frame k hk fun j ob hj hg hw=>by
  subst hj
  rw [hRO_get] at hg
  cases hg; cases hw
 refine ⟨ρ,by rw [hr.1 ρ',hr.1 ρ],⟨Nat.le_refl _,m.size,m.os,m.tape,m.output,fun _ _=>⟨rfl,rfl,rfl⟩,fun id o' _ hg=>⟨o',hg,rfl⟩,fun id o' g1 g2 _=>by omega,fun r hr _=>fr r hr,Nat.le_refl _,fun _ _ _=>rfl⟩,?_,hr.2 _⟩
 rw [Dx_same]
 refine ⟨hR.cap,hR.lt,fun id o hd hg=>?_,hR.inj⟩
 have h3:=hR.rel id o hd hg
 rcases Nat.lt_or_ge (ρ.blk id) wd.heap.size with q | q
 ·rw [fr _ q]; exact h3
 ·exfalso
  rw [Array.getElem?_eq_none q] at h3
  cases o <;> simp [ORel] at h3
theorem sl_hRO {xs:List V} {esz n cap:Nat} (hl:xs.length=n*esz):Sl (hRO xs) (.slice 0 0 n (.exact cap)) esz n xs :=
 ⟨hl,.inr ⟨0,0,_,_,_,_,_,rfl,by rw [hRO_next]; decide,hRO_get _,fun i _=>by rw [Nat.zero_add]; exact Cs.getL_eq xs i⟩⟩
theorem hRO_low (xs:List V):(hRO xs).low=T.top:=rfl
theorem RF.ro {P:Program} {c:Ctx} {f:Nat} {A:V→List V} (hA:One A) {v r:V} {esz n:Nat} {xs:List V} {h:H} {Q:V→H→Prop} (sl:Sl h v esz n xs) (hx:∀ x∈xs,Plain x) (hr:Plain r)
  (rf:∀ v0 h0,Sl h0 v0 esz n xs→h0.next≤1→h0.low=T.top→RF P c f (A v0) h0 fun r' _=>r'=r) (hq:Q r h):RF P c f (A v) h Q:=by
 obtain ⟨hl,⟨rfl,rfl⟩ | ⟨b,o,cp,cs,k,w,op,rfl,hb,hg,hc⟩⟩:=sl
 ·obtain ⟨r',h',⟨hf,s⟩,rfl⟩:=rf .nilslice H0 ⟨hl,.inl ⟨rfl,rfl⟩⟩ (Nat.zero_le _) rfl
  refine ⟨r',h,⟨hf,?_⟩,hq⟩
  intro ρ D wd hR hin
  have h1:=s env0 (fun _=>False) wd (HR_none _ _) (hA.put _ _ (by simp [V.In]))
  rw [hA.conc env0 ρ .nilslice .nilslice (by simp [V.conc])] at h1
  refine CallsIn.mono h1 ?_
  rintro e w' ⟨ρ',rfl,m,_,_⟩
  have fr:∀ r,r<wd.heap.size→w'.heap[r]? = wd.heap[r]?:=fun k hk=>m.frame k hk fun _ _ hj=>hj.elim
  refine ⟨ρ,by rw [hr.1 ρ',hr.1 ρ],⟨Nat.le_refl _,m.size,m.os,m.tape,m.output,fun _ _=>⟨rfl,rfl,rfl⟩,fun id o' _ hg=>⟨o',hg,rfl⟩,fun id o' g1 g2 _=>by omega,fun r hr _=>fr r hr,Nat.le_refl _,fun _ _ _=>rfl⟩,?_,hr.2 _⟩
  rw [Dx_same]
  refine ⟨hR.cap,hR.lt,fun id o hd hg=>?_,hR.inj⟩
  have h2:=hR.rel id o hd hg
  rcases Nat.lt_or_ge (ρ.blk id) wd.heap.size with q | q
  ·rw [fr _ q]; exact h2
  ·exfalso
   rw [Array.getElem?_eq_none q] at h2
   cases o <;> simp [ORel] at h2
 ·have rs:∀ cap,∃ h1,(∃ fi,c.fn.get f=some fi)∧SimF P f (A (.slice 0 0 n (.exact cap))) (hRO xs) (.ret r h1):=fun cap=>by
   obtain ⟨r',h',⟨hf,s⟩,rfl⟩:=rf (.slice 0 0 n (.exact cap)) (hRO xs) (sl_hRO hl) (by rw [hRO_next]; decide) (hRO_low _)
   exact ⟨h',hf,s⟩
  obtain ⟨_,hf,_⟩:=rs 0
  exact ⟨r,h,⟨hf,SimF.ro hA hg hc hl hx hr fun cap=>by obtain ⟨h1,_,s⟩:=rs cap; exact ⟨h1,s⟩⟩,hq⟩
theorem plain_iface {t:TypeId} {v:V} (h:Plain v):Plain (.iface t v):=⟨fun ρ=>by simp only [V.conc,h.1 ρ],fun D=>by simp only [V.In]; exact h.2 D⟩
theorem plain_nilptr:Plain .nilptr:=⟨fun _=>by simp [V.conc],fun _=>by simp [V.In]⟩
theorem plain_nilslice:Plain .nilslice:=⟨fun _=>by simp [V.conc],fun _=>by simp [V.In]⟩
theorem plain_nilIface:Plain .nilIface:=⟨fun _=>by simp [V.conc],fun _=>by simp [V.In]⟩
def plainB:V→Bool
 | .int _ _=>true
 | .bool _=>true
 | .str _=>true
 | .nilptr=>true
 | .nilslice=>true
 | .nilIface=>true
 | .iface _ v=>plainB v
 | .agg l=>plainL l
 | .tuple l=>plainL l
 | _=>false
where
 plainL:List V→Bool
  | []=>true
  | v :: l=>plainB v && plainL l
mutual
theorem plainB_out:∀ {v:V},plainB v=true→Plain v
 | .int _ _,_=>plain_int _ _
 | .bool _,_=>plain_bool _
 | .str _,_=>plain_str _
 | .nilptr,_=>plain_nilptr
 | .nilslice,_=>plain_nilslice
 | .nilIface,_=>plain_nilIface
 | .iface _ v,h=>plain_iface (plainB_out (v:=v) (by simpa [plainB] using h))
 | .agg l,h=>plain_agg (plainL_out (l:=l) (by simpa [plainB] using h))
 | .tuple l,h=>plain_tuple (plainL_out (l:=l) (by simpa [plainB] using h))
 | .ptr ..,h=>by simp [plainB] at h
 | .slice ..,h=>by simp [plainB] at h
 | .map ..,h=>by simp [plainB] at h
 | .nilmap,h=>by simp [plainB] at h
 | .func ..,h=>by simp [plainB] at h
 | .yield ..,h=>by simp [plainB] at h
 | .nilFunc,h=>by simp [plainB] at h
theorem plainL_out:∀ {l:List V},plainB.plainL l=true→∀ x∈l,Plain x
 | [],_=>fun _ h=>by cases h
 | v :: l,h=>fun x hx=>by
  simp only [plainB.plainL,Bool.and_eq_true] at h
  rcases List.mem_cons.1 hx with e | hx
  ·rw [e]; exact plainB_out h.1
  ·exact plainL_out h.2 x hx
end
theorem plain_ints (l:List Int):∀ x∈l.map (fun n=>V.int .i64 n),Plain x:=fun x hx=>by
 obtain ⟨_,_,rfl⟩:=List.mem_map.1 hx; exact plain_int _ _
end Go.Sim
namespace Go.Sim
open Go (TypeDesc)
def entAt:List Ent→Int→Option V
 | [],_=>none
 | e :: es,k=>match e.key with
  | .int .i64 n=>if k=n then some e.val else entAt es k
  | _=>entAt es k
def MapI (h:H) (r:Nat) (f:Int→Option V):Prop:=∃ es clock,h.get r=some (.map es clock)∧(∀ e∈es,∃ n,e.key = .int .i64 n)∧∀ k,entAt es k=f k
theorem eqF_iff (a b:Int):eqF a b=decide (a=b):=by
 cases a with
 | ofNat a=>cases b with
  | ofNat b =>
   show Nat.beq a b=_
   cases h:Nat.beq a b with
   | true=>rw [Nat.eq_of_beq_eq_true h]; simp
   | false =>
    have:=Nat.ne_of_beq_eq_false h
    exact (decide_eq_false fun e=>this (Int.ofNat.inj e)).symm
  | negSucc b=>exact (decide_eq_false fun e=>by cases e).symm
 | negSucc a=>cases b with
  | ofNat b=>exact (decide_eq_false fun e=>by cases e).symm
  | negSucc b =>
   show Nat.beq a b=_
   cases h:Nat.beq a b with
   | true=>rw [Nat.eq_of_beq_eq_true h]; simp
   | false =>
    have:=Nat.ne_of_beq_eq_false h
    exact (decide_eq_false fun e=>this (Int.negSucc.inj e)).symm
section
variable {c:Ctx} {t kt et:Nat} {ti tk te:TI} {z:V}
theorem aeq_int (hk:c.ty.get kt=some tk) (hd:tk.desc = .int .i64) (a b:Int):aeq c 30 kt (.int .i64 a) (.int .i64 b)=some (decide (a=b)):=by
 have e:aeq c 30 kt (.int .i64 a) (.int .i64 b)=some (eqF a b):=by
  show (match c.ty.get kt with | none=>none | some ti=>_)=_
  rw [hk]
  simp only [hd]
  rfl
 rw [e,eqF_iff]
theorem afind_int (hk:c.ty.get kt=some tk) (hd:tk.desc = .int .i64) (k:Int):∀ (es:List Ent) (i:Nat),(∀ e∈es,∃ n,e.key = .int .i64 n) →
  (entAt es k=none→afind c kt (.int .i64 k) es i=some none) ∧
  (∀ v,entAt es k=some v→∃ j e,afind c kt (.int .i64 k) es i=some (some (i+j,e))∧e.val=v∧e.key = .int .i64 k ∧
   ∀ v',(∀ e∈setE es j (.int .i64 k) v',∃ n,e.key = .int .i64 n)∧∀ k',entAt (setE es j (.int .i64 k) v') k'=if k'=k then some v' else entAt es k')
 | [],i,_=>⟨fun _=>rfl,fun v h=>by cases h⟩
 | e :: es,i,hi=>by
  obtain ⟨n,hn⟩:=hi e (List.mem_cons_self ..)
  have hr:=fun e he=>hi e (List.mem_cons_of_mem _ he)
  obtain ⟨ih1,ih2⟩:=afind_int hk hd k es (i+1) hr
  have ea:∀ k',entAt (e :: es) k'=if k'=n then some e.val else entAt es k':=fun k'=>by
   show (match e.key with | .int .i64 n=>_ | _=>_)=_
   rw [hn]
  have ef:afind c kt (.int .i64 k) (e :: es) i=(match some (decide (k=n)) with | some true=>some (some (i,e)) | some false=>afind c kt (.int .i64 k) es (i+1) | none=>none):=by
   show (match aeq c 30 kt (.int .i64 k) e.key with | some true=>_ | some false=>_ | none=>_)=_
   rw [hn,aeq_int hk hd]
  by_cases c1:k=n
  ·subst c1
   refine ⟨fun h=>?_,fun v h=>?_⟩
   ·rw [ea,if_pos rfl] at h; cases h
   ·rw [ea,if_pos rfl] at h
    cases h
    refine ⟨0,e,by rw [ef,decide_eq_true rfl]; rfl,rfl,hn,fun v'=>⟨fun e' he'=>?_,fun k'=>?_⟩⟩
    ·rcases List.mem_cons.1 he' with rfl | he'
     ·exact ⟨_,rfl⟩
     ·exact hr _ he'
    ·show (if k'=k then some v' else entAt es k')=_
     rw [ea]
     by_cases c2:k'=k
     ·rw [if_pos c2,if_pos c2]
     ·rw [if_neg c2,if_neg c2,if_neg c2]
  ·have ef2:afind c kt (.int .i64 k) (e :: es) i=afind c kt (.int .i64 k) es (i+1):=by rw [ef,decide_eq_false c1]
   refine ⟨fun h=>?_,fun v h=>?_⟩
   ·rw [ea,if_neg c1] at h
    rw [ef2]; exact ih1 h
   ·rw [ea,if_neg c1] at h
    obtain ⟨j,e2,h1,h2,h3,h4⟩:=ih2 v h
    refine ⟨j+1,e2,by rw [ef2,h1,Nat.add_assoc,Nat.add_comm 1 j],h2,h3,fun v'=>⟨fun e' he'=>?_,fun k'=>?_⟩⟩
    ·rcases List.mem_cons.1 he' with rfl | he'
     ·exact ⟨_,hn⟩
     ·exact (h4 v').1 _ he'
    ·show (match e.key with | .int .i64 n=>if k'=n then some e.val else entAt (setE es j (.int .i64 k) v') k' | _=>_)=_
     rw [hn]
     simp only
     rw [(h4 v').2,ea]
     by_cases c2:k'=n
     ·rw [if_pos c2,if_pos c2,if_neg (fun g=>c1 (g.symm.trans c2))]
     ·rw [if_neg c2,if_neg c2]
theorem entAt_app (es:List Ent) (e:Ent) (k:Int) (h:entAt es k=none):entAt (es++[e]) k=entAt [e] k:=by
 induction es with
 | nil=>rfl
 | cons x es ih =>
  simp only [List.cons_append]
  unfold entAt at h ⊢
  split at h
  ·rename_i n hn
   split at h
   ·cases h
   ·rename_i hk
    rw [if_neg hk]; exact ih h
  ·exact ih h
theorem entAt_app2 (es:List Ent) (e:Ent) (k:Int) (v:V) (h:entAt es k=some v):entAt (es++[e]) k=some v:=by
 induction es with
 | nil=>cases h
 | cons x es ih =>
  simp only [List.cons_append]
  unfold entAt at h ⊢
  split at h
  ·rename_i n hn
   split at h
   ·rename_i hk; rw [if_pos hk]; exact h
   ·rename_i hk; rw [if_neg hk]; exact ih h
  ·exact ih h
theorem akey_int (hk:c.ty.get kt=some tk) (hd:tk.desc = .int .i64) (k:Int):akey c kt (.int .i64 k)=true:=by
 unfold akey
 simp only [hk,hd]
theorem MapI.look {h:H} {r:Nat} {f:Int→Option V} (m:MapI h r f) (ht:c.ty.get t=some ti) (hm:ti.desc = .map kt et) (hk:c.ty.get kt=some tk) (hd:tk.desc = .int .i64) (he:c.ty.get et=some te) (hz:te.zero=some z) (k:Int) (ok:Bool) :
  alook c t h (.map r) (.int .i64 k) ok=some (match f k with | some v=>lookV ok v true | none=>lookV ok z false):=by
 obtain ⟨es,clock,hg,hi,hf⟩:=m
 obtain ⟨i1,i2⟩:=afind_int hk hd k es 0 hi
 unfold alook mapEs
 simp only [ht,hm,hg]
 unfold alookIn
 rw [akey_int hk hd,cond_true]
 cases hfk:f k with
 | none =>
  rw [i1 ((hf k).trans hfk)]
  simp only [he,hz]
 | some v =>
  obtain ⟨j,e,h1,h2,_⟩:=i2 v ((hf k).trans hfk)
  rw [h1]
  simp only [h2]
theorem MapI.upd {h:H} {r:Nat} {f:Int→Option V} (m:MapI h r f) (ht:c.ty.get t=some ti) (hm:ti.desc = .map kt et) (hk:c.ty.get kt=some tk) (hd:tk.desc = .int .i64) (hr:r<T.top) (k:Int) (v:V) :
  ∃ es clock,aupd c t h (.map r) (.int .i64 k) v=some (h.upd r (some (.map es clock)))∧MapI (h.upd r (some (.map es clock))) r (fun j=>if j=k then some v else f j):=by
 obtain ⟨es,clock,hg,hi,hf⟩:=m
 obtain ⟨i1,i2⟩:=afind_int hk hd k es 0 hi
 have e1:aupd c t h (.map r) (.int .i64 k) v=(match afind c kt (.int .i64 k) es 0 with
     | some (some (i,e))=>cond (sameV e.key (.int .i64 k)) (some (h.upd r (some (.map (setE es i (.int .i64 k) v) clock)))) none
     | some none=>some (h.upd r (some (.map (es++[⟨.int .i64 k,v,clock⟩]) (clock+1))))
     | none=>none):=by
  unfold aupd
  simp only [ht,hm,hg]
  rw [akey_int hk hd,cond_true]
  rfl
 cases hfk:f k with
 | none =>
  have h0:=(hf k).trans hfk
  refine ⟨es++[⟨.int .i64 k,v,clock⟩],clock+1,by rw [e1,i1 h0],_,_,get_upd_self _ hr,fun e he=>?_,fun k'=>?_⟩
  ·rcases List.mem_append.1 he with he | he
   ·exact hi e he
   ·rw [List.mem_singleton.1 he]; exact ⟨_,rfl⟩
  ·cases hk':entAt es k' with
   | none =>
    rw [entAt_app _ _ _ hk']
    show (if k'=k then some v else none)=if k'=k then some v else f k'
    rw [← hf k',hk']
   | some v' =>
    rw [entAt_app2 _ _ _ _ hk']
    have:k'≠k:=fun g=>by rw [g,h0] at hk'; cases hk'
    show some v'=if k'=k then some v else f k'
    rw [if_neg this,← hf k',hk']
 | some v0 =>
  obtain ⟨j,e,h1,h2,h3,h4⟩:=i2 v0 ((hf k).trans hfk)
  rw [Nat.zero_add] at h1
  refine ⟨setE es j (.int .i64 k) v,clock,?_,_,_,get_upd_self _ hr,(h4 v).1,fun k'=>by rw [(h4 v).2,hf]⟩
  have:sameV e.key (.int .i64 k)=true:=by
   rw [h3]
   show (kindEq .i64 .i64 && eqF k k)=true
   rw [eqF_iff]; simp; rfl
  rw [e1,h1]
  simp only [this,cond_true]
theorem aop_makeMap {o:Oper} {m:Nat} {e:Operand→Option V} {h:H} (ho:o.op = .makeMap m none) (hn:h.next<T.top):aop c o e h=some (.val (.map h.next) (h.new (.map [] 0))):=by
 unfold aop
 simp only [ho]
 unfold anewMap
 rw [show Nat.blt h.next T.top=true from (blt_iff _ _).2 hn]
 rfl
theorem MapI.new {h:H} (hn:h.next<T.top):MapI (h.new (.map [] 0)) h.next (fun _=>none):=⟨[],0,get_new_self _ hn,fun _ h=>(by cases h),fun _=>rfl⟩
theorem MapI.mono {h h':H} {r:Nat} {f:Int→Option V} (m:MapI h r f) (e:h'.get r=h.get r):MapI h' r f:=by
 obtain ⟨es,clock,hg,h2⟩:=m
 exact ⟨es,clock,e.trans hg,h2⟩
end
end Go.Sim
namespace Go.Sim
theorem shrI_i64 {a:Int} {n:Nat} (h:n≤64):intB .shr .i64 a (n:Int)=some (.int .i64 (a/((2^n:Nat):Int))):=by
 show cond (ltF (n:Int) 0) none (some (V.int .i64 (shrF a (cond (Nat.ble n 64) n 64))))=_
 rw [Nat.ble_eq_true_of_le h,cond_true,ltF_eq]
 have h3:decide ((n:Int)<0)=false:=by simp
 rw [h3,cond_false,shrF_eq]
 have h1:((2:Int)^n)=((2^n:Nat):Int):=by simp
 rw [h1,Int.fdiv_eq_ediv_of_nonneg _ (Int.natCast_nonneg _)]
theorem shrN_u8 {a n:Nat} (h:n≤8):intB .shr .u8 (a:Int) (n:Int)=some (.int .u8 ((a/2^n:Nat):Int)):=by
 show cond (ltF (n:Int) 0) none (some (V.int .u8 (shrF (a:Int) (cond (Nat.ble n 8) n 8))))=_
 rw [Nat.ble_eq_true_of_le h,cond_true,ltF_eq]
 have h3:decide ((n:Int)<0)=false:=by simp
 rw [h3,cond_false]
 congr 2
 show Int.ofNat (Nat.shiftRight a n)=_
 rw [show Nat.shiftRight a n=a >>> n from rfl,Nat.shiftRight_eq_div_pow]
 rfl
theorem wrapK_u8 {n:Nat} (h:n<256):IntKind.u8.wrap (n:Int)=(n:Int):=by
 rw [← wrapF_eq,wrapN_u8,Nat.mod_eq_of_lt h]
theorem andN_u8 {a b:Nat} (ha:a<256) (hb:b<256):intB .and .u8 (a:Int) (b:Int)=some (.int .u8 ((a &&& b:Nat):Int)):=by
 show some (V.int .u8 (IntKind.u8.wrap (((BitVec.ofInt 8 (a:Int) &&& BitVec.ofInt 8 (b:Int)).toNat:Nat):Int)))=_
 rw [BitVec.toNat_and,ofInt_nat (show a<2^8 from ha),ofInt_nat (show b<2^8 from hb)]
 rw [wrapK_u8 (Nat.lt_of_le_of_lt Nat.and_le_left ha)]
theorem orN_i64 {a b:Nat} (ha:a<9223372036854775808) (hb:b<9223372036854775808):intB .or .i64 (a:Int) (b:Int)=some (.int .i64 ((a ||| b:Nat):Int)):=by
 show some (V.int .i64 (IntKind.i64.wrap (((BitVec.ofInt 64 (a:Int) ||| BitVec.ofInt 64 (b:Int)).toNat:Nat):Int)))=_
 rw [BitVec.toNat_or,ofInt_nat (show a<2^64 by omega),ofInt_nat (show b<2^64 by omega)]
 rw [wrapK_i64 (show a ||| b<2^63 from Nat.or_lt_two_pow ha hb)]
theorem div_pos_iff {a:Int} {n:Nat} (h:0<n):0<a/(n:Int)↔(n:Int)≤a:=by
 constructor
 ·intro h1
  have h2:(1:Int)≤a/(n:Int):=h1
  have:=(Int.le_ediv_iff_mul_le (by omega:(0:Int)<n)).1 h2
  omega
 ·intro h1
  have:=(Int.le_ediv_iff_mul_le (c:=(n:Int)) (a:=1) (b:=a) (by omega)).2 (by omega)
  omega
def hi (n:Int):Int:=if 0<n then (n.toNat.log2:Int) else -1
def hiU (n:Int) (i:Nat):Int:=if 0<n∧0<i then ((min n.toNat.log2 (i-1):Nat):Int) else -1
theorem pow_pos2 (i:Nat):0<2^i:=Nat.pow_pos (by decide)
theorem hiU_step (n:Int) (i:Nat):hiU n (i+1)=if ((2^i:Nat):Int)≤n then (i:Int) else hiU n i:=by
 have hp:=pow_pos2 i
 unfold hiU
 by_cases h:0<n
 ·have hn:n.toNat≠0:=by omega
  by_cases c:((2^i:Nat):Int)≤n
  ·have:i≤n.toNat.log2:=(Nat.le_log2 hn).2 (by omega)
   rw [if_pos c,if_pos ⟨h,by omega⟩]
   omega
  ·have:¬ i≤n.toNat.log2:=fun g=>c (by have:=(Nat.le_log2 hn).1 g; omega)
   rw [if_neg c,if_pos ⟨h,by omega⟩]
   by_cases h0:0<i
   ·rw [if_pos ⟨h,h0⟩]; omega
   ·exfalso; omega
 ·rw [if_neg (by omega),if_neg (by omega),if_neg (by omega)]
theorem hiU_63 {n:Int} (h:n<9223372036854775808):hiU n 63=hi n:=by
 unfold hiU hi
 by_cases c:0<n
 ·have hn:n.toNat≠0:=by omega
  have:n.toNat.log2<63:=(Nat.log2_lt hn).2 (by omega)
  rw [if_pos c,if_pos ⟨c,by decide⟩]
  omega
 ·rw [if_neg c,if_neg (by omega)]
theorem hi_nat {n:Nat} (h:n≠0):hi n=n.log2:=by unfold hi; rw [if_pos (by omega)]; rfl
def nbits (n:Nat):Nat:=if n=0 then 0 else n.log2+1
theorem hi_nbits (n:Nat):hi n+1=nbits n:=by
 unfold nbits
 by_cases h:n=0
 ·subst h; rfl
 ·rw [hi_nat h,if_neg h]; rfl
theorem nbits_lt (n:Nat):n<2^nbits n:=by
 unfold nbits
 split
 ·rename_i h; subst h; exact pow_pos2 _
 ·exact Nat.lt_log2_self
theorem nbits_le {n:Nat} (h:n≠0):2^(nbits n-1)≤n:=by
 unfold nbits
 rw [if_neg h]
 exact Nat.log2_self_le h
theorem nbits_bound {n k:Nat} (h:n<2^k):nbits n≤k:=by
 unfold nbits
 split
 ·exact Nat.zero_le _
 ·rename_i h0
  exact (Nat.log2_lt h0).2 h
theorem pow2_iff {n:Nat} (h:n≠0):n &&& (n-1)=0↔n=2^n.log2:=by
 rw [Nat.and_sub_one_eq_zero_iff_isPowerOfTwo h]
 constructor
 ·rintro ⟨k,rfl⟩
  rw [Nat.log2_two_pow]
 ·intro e
  exact ⟨_,e⟩
def sbit (s:List UInt8) (i:Nat):Nat:=match s[i/8]? with
 | some b=>b.toNat/2^(i % 8) % 2
 | none=>0
theorem sbit_lt (s:List UInt8) (i:Nat):sbit s i<2:=by
 unfold sbit
 split
 ·exact Nat.mod_lt _ (by decide)
 ·decide
theorem sbit_some {s:List UInt8} {i:Nat} {b:UInt8} (h:s[i/8]? = some b):sbit s i=b.toNat/2^(i % 8) % 2:=by unfold sbit; rw [h]
theorem sbit_none {s:List UInt8} {i:Nat} (h:8*s.length≤i):sbit s i=0:=by
 unfold sbit
 rw [List.getElem?_eq_none (by omega)]
def fnum (s:List UInt8) (p:Nat):Nat→Nat
 | 0=>0
 | n+1=>fnum s p n+sbit s (p+n)*2^n
theorem fnum_lt (s:List UInt8) (p n:Nat):fnum s p n<2^n:=by
 induction n with
 | zero=>simp [fnum]
 | succ n ih =>
  have h1:=sbit_lt s (p+n)
  have h2:sbit s (p+n)*2^n≤1*2^n:=Nat.mul_le_mul_right _ (by omega)
  show fnum s p n+sbit s (p+n)*2^n<2^(n+1)
  rw [Nat.pow_succ]
  omega
def bnum (s:List UInt8) (left:Nat):Nat→Nat
 | 0=>0
 | n+1=>2*bnum s left n+(if n<left then sbit s (left-1-n) else 0)
theorem bnum_lt (s:List UInt8) (left n:Nat):bnum s left n<2^n:=by
 induction n with
 | zero=>simp [bnum]
 | succ n ih =>
  have h2:(if n<left then sbit s (left-1-n) else 0)<2:=by
   split
   ·exact sbit_lt _ _
   ·decide
  show 2*bnum s left n+_<2^(n+1)
  rw [Nat.pow_succ]
  omega
end Go.Sim
namespace Go.Sim
abbrev Qy:=(Nat×List V)×(H×V)
variable (c:Ctx)
def stepG (o:Oper) (s:St) (vals:List V):Option (List Qy×St×List V) :=
 match aop c o (evx s.tm) s.heap with
 | some (.val v h)=>match putD s o.dst v h with | some s'=>some ([],s',vals) | none=>none
 | some (.skip h)=>match putD s o.dst undefV h with | some s'=>some ([],s',vals) | none=>none
 | some (.call f args) =>
  match vals with
  | v :: vals'=>match putD s o.dst v s.heap with | some s'=>some ([((f,args),(s.heap,v))],s',vals') | none=>none
  | []=>none
 | _=>none
def opsG (ops:List Oper):List Oper→St→List V→Option (List Qy×St)
 | [],s,_=>some ([],s)
 | o :: l,s,vals =>
  cond (wantedB ops s.tm o)
   (match stepG c o s vals with
   | some (qs,s',vals')=>(match opsG ops l s' vals' with | some (qs2,s2)=>some (qs++qs2,s2) | none=>none)
   | none=>none)
   (match putD s o.dst undefV s.heap with | some s'=>opsG ops l s' vals | none=>none)
def drawG (ops : List Oper) (bs : List Nat) (m : Nat) : Nat → Nat → List Oper → St → List V → Option (List Qy × St)
  | _, _, [], s, _ => some ([], s)
  | 0, _, l, s, vals => opsG c ops l s vals
  | r + 1, k, o :: l, s, vals =>
    cond (wantedB ops s.tm o)
      (match stepG c o { s with heap := { s.heap with low := T.top } } vals with
      | some (qs, s', vals') =>
        cond (Nat.ble s.heap.next s'.heap.low || storeOk ops bs m k s.tm o)
          (cond (sameLen s.dfr s'.dfr)
            (match drawG ops bs m r (k + 1) l { s' with heap := { s'.heap with low := cond (Nat.ble s.heap.low s'.heap.low) s.heap.low s'.heap.low } } vals' with | some (qs2, s2) => some (qs ++ qs2, s2) | none => none) none) none
      | none => none)
      (match putD s o.dst undefV s.heap with | some s' => drawG ops bs m r (k + 1) l s' vals | none => none)
variable {c}
def Ans (orc:Nat→List V→H→Option (V×H)) (qs:List Qy):Prop:=∀ q∈qs,orc q.1.1 q.1.2 q.2.1=some (q.2.2,q.2.1)
theorem stepG_sound {orc:Nat→List V→H→Option (V×H)} {rd:Bool} {ih:Bool→Code→St→Option Out} {o:Oper} {s s':St} {vals vals':List V} {qs:List Qy} (e:stepG c o s vals=some (qs,s',vals')) (ho:Ans orc qs):stepOp c orc rd ih o s=some (.normal,s'):=by
 unfold stepG at e
 unfold stepOp
 cases ha:aop c o (evx s.tm) s.heap with
 | none=>rw [ha] at e; cases e
 | some an =>
  rw [ha] at e
  cases an with
  | val v h =>
   simp only at e ⊢
   cases hp:putD s o.dst v h with
   | none=>rw [hp] at e; cases e
   | some s1=>rw [hp] at e; simp only [Option.some.injEq,Prod.mk.injEq] at e ⊢; exact ⟨trivial,e.2.1⟩
  | skip h =>
   simp only at e ⊢
   cases hp:putD s o.dst undefV h with
   | none=>rw [hp] at e; cases e
   | some s1=>rw [hp] at e; simp only [Option.some.injEq,Prod.mk.injEq] at e ⊢; exact ⟨trivial,e.2.1⟩
  | call f args =>
   simp only at e ⊢
   cases vals with
   | nil=>cases e
   | cons v vals1 =>
    simp only at e
    cases hp:putD s o.dst v s.heap with
    | none=>rw [hp] at e; cases e
    | some s1 =>
     rw [hp] at e
     simp only [Option.some.injEq,Prod.mk.injEq] at e
     obtain ⟨rfl,rfl,rfl⟩:=e
     have:=ho _ (List.mem_cons_self ..)
     unfold callO
     simp only at this
     rw [this]
     simp only [hp]
  | _=>cases e
theorem opsG_sound {orc:Nat→List V→H→Option (V×H)} {rd:Bool} {ih:Bool→Code→St→Option Out} {ops:List Oper}:∀ (l:List Oper) {s s':St} {vals:List V} {qs:List Qy},opsG c ops l s vals=some (qs,s')→Ans orc qs→opsF c orc rd ih ops l s=some (.done .normal s'):=by
 intro l
 induction l with
 | nil=>intro s s' vals qs e _; simp only [opsG,Option.some.injEq,Prod.mk.injEq] at e; rw [opsF,e.2]
 | cons o l hi =>
  intro s s' vals qs e ho
  rw [opsG] at e
  rw [opsF]
  cases hw:wantedB ops s.tm o with
  | true =>
   rw [hw,cond_true] at e
   rw [cond_true]
   cases hs:stepG c o s vals with
   | none=>rw [hs] at e; cases e
   | some x =>
    obtain ⟨q1,s1,vals1⟩:=x
    rw [hs] at e
    simp only at e
    cases hl:opsG c ops l s1 vals1 with
    | none=>rw [hl] at e; cases e
    | some y =>
     obtain ⟨q2,s2⟩:=y
     rw [hl] at e
     simp only [Option.some.injEq,Prod.mk.injEq] at e
     obtain ⟨rfl,rfl⟩:=e
     rw [stepG_sound hs fun q hq=>ho q (List.mem_append_left _ hq)]
     exact hi hl fun q hq=>ho q (List.mem_append_right _ hq)
  | false =>
   rw [hw,cond_false] at e
   rw [cond_false]
   cases hp:putD s o.dst undefV s.heap with
   | none=>rw [hp] at e; cases e
   | some s1=>rw [hp] at e; exact hi e ho
theorem drawG_sound {orc:Nat→List V→H→Option (V×H)} {rd:Bool} {ih:Bool→Code→St→Option Out} {ops:List Oper} {bs:List Nat} {m:Nat}:∀ (l:List Oper) (r k:Nat) {s s':St} {vals:List V} {qs:List Qy},drawG c ops bs m r k l s vals=some (qs,s')→Ans orc qs→drawF c orc rd ih ops bs m r k l s=some (.done .normal s'):=by
 intro l
 induction l with
 | nil =>
  intro r k s s' vals qs e _
  cases r <;> (simp only [drawG,Option.some.injEq,Prod.mk.injEq] at e; rw [drawF,e.2])
 | cons o l hi =>
  intro r k s s' vals qs e ho
  cases r with
  | zero=>exact opsG_sound _ e ho
  | succ r =>
   rw [drawG] at e
   rw [drawF]
   cases hw:wantedB ops s.tm o with
   | true =>
    rw [hw,cond_true] at e
    rw [cond_true]
    cases hs:stepG c o { s with heap:={ s.heap with low:=T.top } } vals with
    | none=>rw [hs] at e; cases e
    | some x =>
     obtain ⟨q1,s1,vals1⟩:=x
     rw [hs] at e
     simp only at e
     cases h1:(Nat.ble s.heap.next s1.heap.low || storeOk ops bs m k s.tm o) with
     | false=>rw [h1,cond_false] at e; cases e
     | true =>
      rw [h1,cond_true] at e
      cases h2:sameLen s.dfr s1.dfr with
      | false=>rw [h2,cond_false] at e; cases e
      | true =>
       rw [h2,cond_true] at e
       cases hl:drawG c ops bs m r (k+1) l { s1 with heap:={ s1.heap with low:=cond (Nat.ble s.heap.low s1.heap.low) s.heap.low s1.heap.low } } vals1 with
       | none=>rw [hl] at e; cases e
       | some y =>
        obtain ⟨q2,s2⟩:=y
        rw [hl] at e
        simp only [Option.some.injEq,Prod.mk.injEq] at e
        obtain ⟨rfl,rfl⟩:=e
        rw [stepG_sound hs fun q hq=>ho q (List.mem_append_left _ hq)]
        simp only
        rw [h1,cond_true,h2,cond_true]
        exact hi r (k+1) hl fun q hq=>ho q (List.mem_append_right _ hq)
   | false =>
    rw [hw,cond_false] at e
    rw [cond_false]
    cases hp:putD s o.dst undefV s.heap with
    | none=>rw [hp] at e; cases e
    | some s1=>rw [hp] at e; exact hi r (k+1) e ho
open Classical in
noncomputable def hitQ (f:Nat) (args:List V) (h:H) (q:Qy):Bool:=decide (q.1=(f,args)∧q.2.1=h)
open Classical in
theorem hitQ_iff {f:Nat} {args:List V} {h:H} {q:Qy}:hitQ f args h q=true↔q.1=(f,args)∧q.2.1=h:=by unfold hitQ; exact decide_eq_true_iff
noncomputable def orcQ (qs:List Qy):Nat→List V→H→Option (V×H):=fun f args h=>(qs.find? (hitQ f args h)).map fun q=>(q.2.2,h)
variable {P:Program}
theorem orcQ_ok {qs:List Qy} (hq:∀ q∈qs,(∃ fi,c.fn.get q.1.1=some fi)∧SimF P q.1.1 q.1.2 q.2.1 (.ret q.2.2 q.2.1)):OrcOk P c (orcQ qs):=by
 intro f args h v h' e
 unfold orcQ at e
 cases hf:qs.find? (hitQ f args h) with
 | none=>rw [hf] at e; cases e
 | some q =>
  rw [hf] at e
  simp only [Option.map_some,Option.some.injEq,Prod.mk.injEq] at e
  obtain ⟨rfl,rfl⟩:=e
  have hk:=hitQ_iff.1 (List.find?_some hf)
  have:=hq q (List.mem_of_find?_eq_some hf)
  obtain ⟨hk1,hk2⟩:=hk
  rw [hk1,hk2] at this
  exact this
theorem orcQ_ans {qs:List Qy} (hc:∀ a∈qs,∀ b∈qs,a.1=b.1→a.2.2=b.2.2):Ans (orcQ qs) qs:=by
 intro q hq
 unfold orcQ
 cases hf:qs.find? (hitQ q.1.1 q.1.2 q.2.1) with
 | none =>
  exact absurd (hitQ_iff.2 ⟨rfl,rfl⟩) (List.find?_eq_none.1 hf q hq)
 | some q' =>
  have hk:=hitQ_iff.1 (List.find?_some hf)
  have h1:=hc q' (List.mem_of_find?_eq_some hf) q hq hk.1
  simp only [Option.map_some,h1]
theorem wpDr.ans {b:Bool} {ops:List Oper} {m:Nat} {s s':St} {vals:List V} {qs:List Qy} {Q:AX→St→Prop} (hm:drawOk ops=some m) (e:drawG c ops (befores ops []) m m 0 ops s vals=some (qs,s'))
  (hq:∀ q∈qs,(∃ fi,c.fn.get q.1.1=some fi)∧SimF P q.1.1 q.1.2 q.2.1 (.ret q.2.2 q.2.1)) (hc:∀ a∈qs,∀ b∈qs,a.1=b.1→a.2.2=b.2.2) (h:Q .normal s'):wpDr P c b ops s Q :=
 ⟨orcQ qs,m,.normal,s',orcQ_ok hq,hm,drawG_sound _ _ _ e (orcQ_ans hc),h⟩
theorem RF.same {f:Nat} {args:List V} {h:H} {v:V} (r:RF P c f args h fun v' h'=>v'=v∧h'=h):(∃ fi,c.fn.get f=some fi)∧SimF P f args h (.ret v h):=by
 obtain ⟨v',h',⟨h1,h2⟩,rfl,rfl⟩:=r
 exact ⟨h1,h2⟩
end Go.Sim
namespace Go.Sim
def Blk (S:Nat→Prop) (b0:Nat) (h:H):Nat→List (Nat×O)→Prop
 | _,[]=>True
 | top,(p,o) :: l=>p<top∧(S p∨b0≤p)∧h.get p=some o∧Blk S b0 h p l
theorem Blk.lt {S:Nat→Prop} {b0:Nat} {h:H}:∀ {top:Nat} {l:List (Nat×O)},Blk S b0 h top l→∀ q∈l,q.1<top
 | _,[],_=>fun q hq=>by cases hq
 | top,(p,o) :: l,⟨h1,_,_,h4⟩=>fun q hq=>by
  rcases List.mem_cons.1 hq with rfl | hq
  ·exact h1
  ·exact Nat.lt_trans (h4.lt q hq) h1
theorem Blk.up {S:Nat→Prop} {b0:Nat} {h:H} {top top':Nat} (ht:top≤top'):∀ {l:List (Nat×O)},Blk S b0 h top l→Blk S b0 h top' l
 | [],_=>trivial
 | (_,_) :: _,⟨h1,h2,h3,h4⟩=>⟨Nat.lt_of_lt_of_le h1 ht,h2,h3,h4⟩
theorem Blk.keep {S:Nat→Prop} {b0:Nat} {h h':H}:∀ {top:Nat} {l:List (Nat×O)},Blk S b0 h top l→(∀ q∈l,h'.get q.1=h.get q.1)→Blk S b0 h' top l
 | _,[],_,_=>trivial
 | top,(p,o) :: l,⟨h1,h2,h3,h4⟩,hk=>⟨h1,h2,(hk _ (List.mem_cons_self ..)).trans h3,h4.keep fun q hq=>hk q (List.mem_cons_of_mem _ hq)⟩
theorem Blk.at {S:Nat→Prop} {b0:Nat} {h:H}:∀ {top:Nat} {l:List (Nat×O)} (i:Nat) {p:Nat} {o:O},Blk S b0 h top l→l[i]? = some (p,o)→p<top∧(S p∨b0≤p)∧h.get p=some o
 | _,[],i,_,_,_,e=>by cases e
 | top,(_,_) :: l,0,p,o,⟨h1,h2,h3,h4⟩,e=>by cases e; exact ⟨h1,h2,h3⟩
 | top,(_,_) :: l,i+1,p,o,⟨h1,h2,h3,h4⟩,e=>by
  obtain ⟨a,b,c⟩:=h4.at i e
  exact ⟨Nat.lt_trans a h1,b,c⟩
theorem Blk.put {S:Nat→Prop} {b0:Nat} {h h':H}:∀ {top:Nat} {l:List (Nat×O)} (i:Nat) {p:Nat} {o o':O},Blk S b0 h top l→l[i]? = some (p,o)→h'.get p=some o'→(∀ q∈l,q.1≠p→h'.get q.1=h.get q.1)→Blk S b0 h' top (l.set i (p,o'))
 | _,[],i,_,_,_,_,e,_,_=>by cases e
 | top,(_,_) :: l,0,p,o,o',⟨h1,h2,h3,h4⟩,e,hp,hk=>by
  cases e
  exact ⟨h1,h2,hp,h4.keep fun q hq=>hk q (List.mem_cons_of_mem _ hq) (Nat.ne_of_lt (h4.lt q hq))⟩
 | top,(p1,_) :: l,i+1,p,o,o',⟨h1,h2,h3,h4⟩,e,hp,hk=>by
  have hlt:=(h4.at i e).1
  exact ⟨h1,h2,(hk _ (List.mem_cons_self ..) (Nat.ne_of_gt hlt)).trans h3,h4.put i e hp fun q hq=>hk q (List.mem_cons_of_mem _ hq)⟩
structure Vw (S:Nat→Prop) (hb h:H) (c:Nat) (l:List (Nat×O)):Prop where
 ex:ExtX S hb h c
 bk:Blk S hb.next h h.next l
section
variable {S:Nat→Prop} {hb h h':H} {c m i p:Nat} {l:List (Nat×O)} {o:O}
theorem ExtX.refl0 (S:Nat→Prop) (h:H):ExtX S h h 0:=⟨Nat.le_refl _,Nat.le_refl _,fun _ _ _=>rfl,Nat.le_refl _,fun _ h1 _ _=>h1⟩
theorem Vw.nil:Vw S h h 0 []:=⟨ExtX.refl0 _ _,trivial⟩
theorem Vw.one (hg:h.get p=some o) (hp:p<h.next) (hs:S p):Vw S h h 0 [(p,o)]:=⟨ExtX.refl0 _ _,hp,.inl hs,hg,trivial⟩
theorem Vw.top (v:Vw S hb h c l):h.next≤hb.next+c:=v.ex.top
theorem Vw.le (v:Vw S hb h c l):hb.next≤h.next:=v.ex.le
theorem Vw.low (v:Vw S hb h c l):h.low≤hb.low:=v.ex.low
theorem Vw.more (v:Vw S hb h c l) (hm:c≤m):Vw S hb h m l:=⟨⟨v.ex.le,by have:=v.ex.top; omega,v.ex.get,v.ex.low,v.ex.lo⟩,v.bk⟩
theorem Vw.get (v:Vw S hb h c l) (i:Nat) (e:l[i]? = some (p,o)):h.get p=some o:=(v.bk.at i e).2.2
theorem Vw.lt (v:Vw S hb h c l) (i:Nat) (e:l[i]? = some (p,o)):p<h.next:=(v.bk.at i e).1
theorem Vw.own (v:Vw S hb h c l) (i:Nat) (e:l[i]? = some (p,o)):S p∨hb.next≤p:=(v.bk.at i e).2.1
theorem Vw.new (v:Vw S hb h c l) (e:h'=h.new o) (hn:h.next<T.top):Vw S hb h' (c+1) ((h.next,o) :: l):=by
 obtain ⟨n1,x1,g1⟩:=made_new e hn
 exact ⟨v.ex.andThen (ExtX.of (S:=fun _=>False) x1) (fun _ g=>g.elim),by rw [n1]; exact Nat.lt_succ_self _,.inr v.le,g1,v.bk.keep fun q hq=>x1.get _ (v.bk.lt q hq)⟩
theorem Vw.upd (v:Vw S hb h c l) (i:Nat) {o':O} (e:l[i]? = some (p,o)) (ht:h.next≤T.top):Vw S hb (h.upd p (some o')) c (l.set i (p,o')):=by
 have hp:p<T.top:=Nat.lt_of_lt_of_le (v.lt i e) ht
 exact ⟨v.ex.upd _ hp (v.own i e),v.bk.put i e (get_upd_self _ hp) fun q _ hq=>get_upd_ne _ hp hq⟩
theorem Vw.ext (v:Vw S hb h c l) (x:Ext h h' m):Vw S hb h' (c+m) l :=
 ⟨v.ex.trans (ExtX.of x),(v.bk.keep fun q hq=>x.get _ (v.bk.lt q hq)).up x.le⟩
theorem Vw.extX (v:Vw S hb h c l) (i:Nat) {o':O} (e:l[i]? = some (p,o)) (x:ExtX (· = p) h h' m) (g:h'.get p=some o'):Vw S hb h' (c+m) (l.set i (p,o')):=by
 have y:=v.ex.andThen x fun b hb=>by subst hb; exact v.own i e
 exact ⟨y,(v.bk.put i e g fun q hq hn=>x.get _ (v.bk.lt q hq) hn).up x.le⟩
theorem Vw.apart {S2:Nat→Prop} (v:Vw S hb h c l) (x:ExtX S2 h h' m) (hS:∀ b,S2 b→S b∨hb.next≤b) (hl:∀ q∈l,¬ S2 q.1):Vw S hb h' (c+m) l :=
 ⟨v.ex.andThen x hS,(v.bk.keep fun q hq=>x.get _ (v.bk.lt q hq) (hl q hq)).up x.le⟩
theorem Blk.drop {b0:Nat}:∀ {top:Nat} {l:List (Nat×O)} (n:Nat),Blk S b0 h top l→Blk S b0 h top (l.drop n)
 | _,_,0,b=>b
 | _,[],_+1,_=>trivial
 | _,(_,_) :: _,n+1,⟨h1,_,_,h4⟩=>(h4.drop n).up (Nat.le_of_lt h1)
theorem Vw.drop (v:Vw S hb h c l) (n:Nat):Vw S hb h c (l.drop n):=⟨v.ex,v.bk.drop n⟩
theorem Vw.toExt (v:Vw S hb h c l) (hS:∀ b,S b→hb.next≤b):Ext hb h c:=by
 have:=ExtX.ext (Ext.refl hb) v.ex hS
 exact this.mono (by omega)
abbrev none0:Nat→Prop:=fun _=>False
theorem Vw.ex0 (v:Vw none0 hb h c l):Ext hb h c:=v.toExt fun _ g=>g.elim
variable {cx:Ctx}
theorem Vw.st (v:Vw S hb h c l) (i:Nat) {t f:Nat} {ti:TI} {cs cs':Cs} {k:Rk} {op:Bool} {u:V} (e:l[i]? = some (p,.cells cs k true op)) (hn:h.next≤T.top) (ht:cx.ty.get t=some ti) (hl:lenIs u.cells ti.size=true) (hf:k.fz≤f) (ho:allOne u.cells=true)
  (hp:cs.put f u.cells=some cs'):∃ h',ast cx t h (.ptr p f) u=some h'∧Vw S hb h' c (l.set i (p,.cells cs' k true op))∧h'.next=h.next∧∀ b,b≠p→h'.get b=h.get b :=
 ⟨_,ast_at ht (v.get i e) hl hf ho hp,v.upd i e hn,rfl,fun _ hb=>get_upd_ne _ (Nat.lt_of_lt_of_le (v.lt i e) hn) hb⟩
theorem Vw.ld1 (v:Vw S hb h c l) (i:Nat) {t f:Nat} {ti:TI} {cs:Cs} {k:Rk} {w op:Bool} {u:V} (e:l[i]? = some (p,.cells cs k w op)) (ht:cx.ty.get t=some ti) (hd:isAggD ti.desc=false) (hv:cs.get? f=some u):ald cx t h (.ptr p f)=some u:=ald_one ht hd (v.get i e) hv
theorem Vw.ldA (v:Vw S hb h c l) (i:Nat) {t f:Nat} {ti:TI} {cs:Cs} {k:Rk} {w op:Bool} {x:List V} (e:l[i]? = some (p,.cells cs k w op)) (ht:cx.ty.get t=some ti) (hd:isAggD ti.desc=true) (hv:cs.range f ti.size=some x):ald cx t h (.ptr p f)=some (.agg x):=ald_agg ht hd (v.get i e) hv
def Sep (S:Nat→Prop) (b0:Nat) (l:List (Nat×O)) (v:V):Prop:=∀ b,vblk v=some b→(S b∨b0≤b)∧∀ q∈l,q.1≠b
theorem Ow.blk {h:H} {v:V} {te:TI} {n:Nat} {xs:List V} (s:Ow h v te n xs) {b:Nat} (hb:vblk v=some b):b<h.next:=by
 obtain ⟨_,⟨rfl,_⟩ | ⟨b',cs,rfl,h3,_⟩⟩:=s
 ·cases hb
 ·cases hb; exact h3
theorem Ow.one1 {h:H} {v:V} {te:TI} {n:Nat} {xs:List V} (s:Ow h v te n xs):v.cells=[v]∧allOne [v]=true:=by
 obtain ⟨_,⟨rfl,_⟩ | ⟨b',cs,rfl,h3,_⟩⟩:=s
 ·exact ⟨rfl,rfl⟩
 ·exact ⟨rfl,rfl⟩
theorem Vw.grow {v v':V} {te:TI} {k:Nat} {xs:List V} (w:Vw S hb h c l) (sp:Sep S hb.next l v)
  (a:Ow h' v' te k xs∧h.next≤h'.next∧h'.next≤h.next+1∧(∀ b,b<h.next→vblk v≠some b→h'.get b=h.get b)∧vblk v'=some h.next∧h'.low≤h.low∧(∀ m,m≤h.low→(∀ b,vblk v=some b→m≤b)→m≤h'.low)) :
  Vw S hb h' (c+1) l∧Ow h' v' te k xs∧Sep S hb.next l v':=by
 obtain ⟨a1,a2,a3,a4,a5,a6,a7⟩:=a
 refine ⟨w.apart (ExtX.append a2 a3 a4 a6 a7) (fun b g=>(sp b g).1) (fun q hq g=>(sp _ g).2 q hq rfl),a1,fun b g=>?_⟩
 rw [a5] at g
 cases g
 exact ⟨.inr w.le,fun q hq=>Nat.ne_of_lt (w.bk.lt q hq)⟩
end
def Row (cs:Cs) (n:Nat) (xs:List V):Prop:=cs.wf∧cs.len=n∧xs.length=n∧∀ i,i<n→cs.get? i=xs[i]?
abbrev oRow (cs:Cs):O:=.cells cs ⟨0,0,0⟩ true false
theorem Row.sl {h:H} {b n:Nat} {cp:Cap} {cs:Cs} {k:Rk} {w op:Bool} {xs:List V} (r:Row cs n xs) (hb:b<h.next) (hg:h.get b=some (.cells cs k w op)):Sl h (.slice b 0 n cp) 1 n xs :=
 ⟨by rw [r.2.2.1,Nat.mul_one],.inr ⟨b,0,cp,cs,k,w,op,rfl,hb,hg,fun i hi=>by rw [Nat.zero_add]; exact r.2.2.2 i (by omega)⟩⟩
section
variable {S:Nat→Prop} {hb h h':H} {c m i p:Nat} {l:List (Nat×O)} {o:O} {cx:Ctx}
theorem Row.make {te ti:TI} {k t e:Nat} {z:V} (ht:cx.ty.get t=some ti) (hd:ti.desc = .slice e) (he:cx.ty.get e=some te) (hz:te.zero=some z) (hzc:z.cells=[z]) (hs:te.size=1) (hk:k≤262143) (hb:te.bytes*k≤1099511627776) (hn:h.next<T.top) :
  ∃ cs,amake cx t (.int .i64 k) (.int .i64 k) h=some (.slice h.next 0 k (.exact k),h.new (oRow cs))∧Row cs k (List.replicate k z):=by
 obtain ⟨cs,h1,h2⟩:=Cs.rep_some (v:=z) hk
 obtain ⟨h3,h4⟩:=Cs.rep_eq h1
 refine ⟨cs,?_,h2,h3,by rw [List.length_replicate],fun i hi=>by rw [h4,if_pos hi,List.getElem?_replicate,if_pos hi]⟩
 unfold amake
 have e2:asNatI (k:Int)=some k:=rfl
 simp only [e2,ht,hd,he,hz]
 have hle:lenIs z.cells te.size=true:=lenIs_iff.2 (by rw [hzc,hs]; rfl)
 rw [Nat.ble_eq_true_of_le (Nat.le_refl k),Nat.ble_eq_true_of_le (show k≤4294967296 by omega),Nat.ble_eq_true_of_le hb,hle]
 simp only [Bool.and_self,cond_true]
 unfold zerosC newC
 rw [hzc]
 simp only [h1,(blt_iff _ _).2 hn,cond_true]
theorem Vw.set (v:Vw S hb h c l) (i:Nat) {e n j:Nat} {te:TI} {cs:Cs} {k:Rk} {op:Bool} {u:V} {xs:List V} (r:Row cs n xs) (hi:l[i]? = some (p,.cells cs k true op)) (hn:h.next≤T.top) (hj:j<n) (he:cx.ty.get e=some te) (hs:te.size=1) (hf:k.fz=0) (hu:u.cells=[u]) (ho:u.one=true) :
  ∃ h' cs',ast cx e h (.ptr p j) u=some h'∧Row cs' n (xs.set j u)∧Vw S hb h' c (l.set i (p,.cells cs' k true op))∧h'.next=h.next:=by
 obtain ⟨cs',p1,p2⟩:=Cs.put_some (cs:=cs) r.1 (o:=j) (vs:=[u]) (by rw [r.2.1]; simp; omega)
 obtain ⟨_,p3,p4⟩:=Cs.put_eq p1
 obtain ⟨h',e1,w,n1,_⟩:=v.st (cx:=cx) i (t:=e) (f:=j) (u:=u) (cs':=cs') hi hn he (lenIs_iff.2 (by rw [hu,hs]; rfl)) (by rw [hf]; exact Nat.zero_le _) (by rw [hu]; simp [allOne,ho]) (by rw [hu]; exact p1)
 refine ⟨h',cs',e1,⟨p2,by rw [p3,r.2.1],by rw [List.length_set,r.2.2.1],fun a ha=>?_⟩,w,n1⟩
 rw [p4]
 by_cases c1:a=j
 ·subst c1
  rw [if_pos ⟨Nat.le_refl _,by simp⟩,Nat.sub_self,List.getElem?_set_self (by rw [r.2.2.1]; exact hj)]
  rfl
 ·rw [if_neg (by simp; omega),List.getElem?_set_ne (fun q=>c1 q.symm)]
  exact r.2.2.2 a ha
theorem aidx_row {t e b n j:Nat} {cp:Cap} {ti te:TI} (ht:cx.ty.get t=some ti) (hd:ti.desc = .slice e) (he:cx.ty.get e=some te) (hs:te.size=1) (hj:j<n):aidx cx t (.slice b 0 n cp) (.int .i64 j)=some (.ptr b j):=by
 unfold aidx
 show (match asNatI (Int.ofNat j),cx.ty.get t with | some i,some ti=>_ | _,_=>_)=_
 simp only [asNatI,ht,hd,he,(blt_iff _ _).2 hj,cond_true,hs,Nat.mul_one,Nat.zero_add]
end
def RowE (cs:Cs) (esz n k:Nat) (xs:List V):Prop:=cs.wf∧cs.len=k*esz∧xs.length=n*esz∧n≤k∧∀ i,i<n*esz→cs.get? i=xs[i]?
theorem RowE.sl {h:H} {b esz n m:Nat} {cp:Cap} {cs:Cs} {k:Rk} {w op:Bool} {xs:List V} (r:RowE cs esz n m xs) (hb:b<h.next) (hg:h.get b=some (.cells cs k w op)):Sl h (.slice b 0 n cp) esz n xs :=
 ⟨r.2.2.1,.inr ⟨b,0,cp,cs,k,w,op,rfl,hb,hg,fun i hi=>by rw [Nat.zero_add]; exact r.2.2.2.2 i hi⟩⟩
theorem Vw.app {S:Nat→Prop} {hb h:H} {c p:Nat} {l:List (Nat×O)} {cx:Ctx} (v:Vw S hb h c l) (i:Nat) {te ti:TI} {n m k t e:Nat} {cs:Cs} {kk:Rk} {op:Bool} {x:V} {xs ys:List V} (hi:l[i]? = some (p,.cells cs kk true op)) (r:RowE cs te.size n k xs) (hx:Sl h x te.size m ys) (hm:0<m)
  (ht:cx.ty.get t=some ti) (hd:ti.desc = .slice e) (he:cx.ty.get e=some te) (hok:teOk te=true) (ho:allOne ys=true) (hk:n+m≤k) (hf:kk.fz=0) (hn:h.next≤T.top) :
  ∃ h' cs',aappend cx t h (.slice p 0 n (.exact k)) x=some (.slice p 0 (n+m) (.exact k),h')∧RowE cs' te.size (n+m) k (xs++ys)∧Vw S hb h' c (l.set i (p,.cells cs' kk true op))∧h'.next=h.next:=by
 have hs0:0<te.size:=by
  unfold teOk at hok
  simp only [Bool.and_eq_true] at hok
  exact (blt_iff _ _).1 hok.1.1
 have hys:ys.length=m*te.size:=hx.1
 have hap:aappend cx t h (.slice p 0 n (.exact k)) x=appTo te h m ys (.slice p 0 n (.exact k)):=by
  unfold aappend
  rw [ht]
  simp only [hd,he,hok,cond_true,hx.src hs0 hm]
 have hmul:(n+m)*te.size=n*te.size+m*te.size:=Nat.add_mul _ _ _
 have hkm:(n+m)*te.size≤k*te.size:=Nat.mul_le_mul_right _ hk
 obtain ⟨hw,hl,h0,hnk,hc⟩:=r
 obtain ⟨cs',p1,p2⟩:=Cs.put_some (cs:=cs) hw (o:=0+n*te.size) (vs:=ys) (by rw [hl,hys]; omega)
 obtain ⟨_,p3,p4⟩:=Cs.put_eq p1
 refine ⟨h.upd p (some (.cells cs' kk true op)),cs',?_,⟨p2,by rw [p3,hl],by rw [List.length_append,h0,hys,hmul],hk,fun j hj=>?_⟩,v.upd i hi hn,rfl⟩
 ·rw [hap]
  unfold appTo
  simp only [v.get i hi]
  unfold appExact
  rw [Nat.ble_eq_true_of_le hk,cond_true,ho]
  simp only [Bool.and_true,cond_true]
  unfold appIn
  rw [p1]
  simp only [hf,Nat.ble_eq_true_of_le (Nat.zero_le _),cond_true]
 ·rw [p4]
  by_cases hi2:j<n*te.size
  ·rw [if_neg (by omega),hc j hi2,List.getElem?_append_left (by rw [h0]; exact hi2)]
  ·rw [if_pos (by omega),List.getElem?_append_right (by rw [h0]; omega),h0,Nat.zero_add]
end Go.Sim
namespace Go.Sim
open Go (Oper)
variable {c:Ctx} {orc:Nat→List V→H→Option (V×H)} {b:Bool} {ih:Bool→Code→St→Option Out}
theorem aop_load {o:Oper} {t:Nat} {a:Operand} {e:Operand→Option V} {h:H} {p v:V} (ho:o.op = .load t a) (he:e a=some p) (hl:ald c t h p=some v):aop c o e h=some (.val v h):=by
 unfold aop
 simp only [ho,he,hl]
 rfl
theorem aop_store {o:Oper} {t:Nat} {a x:Operand} {e:Operand→Option V} {h h':H} {p v:V} (ho:o.op = .store t a x) (he:e a=some p) (hx:e x=some v) (hs:ast c t h p v=some h'):aop c o e h=some (.skip h'):=by
 unfold aop
 simp only [ho,he,hx,hs]
theorem lowM_top {h:H} (hl:h.low≤T.top):lowM h (topH h)=h:=by
 show (⟨h.tbl,h.next,cond (Nat.ble h.low T.top) h.low T.top⟩:H)=h
 rw [Nat.ble_eq_true_of_le hl,cond_true]
theorem drawF_val {o:Oper} {l ops:List Oper} {bs:List Nat} {m r k n t:Nat} {tm:Tm} {d:List AD} {h:H} {v:V} {res:Option Out} (hg:o.guard=none) (ha:aop c o (evx tm) (topH h)=some (.val v (topH h))) (hd:o.dst=some t) (ht:Nat.blt t n=true) (hn:h.next≤T.top) (hl:h.low≤T.top)
  (e:drawF c orc b ih ops bs m r (k+1) l ⟨n,Tb.set tm t v,d,h⟩=res):drawF c orc b ih ops bs m (r+1) k (o :: l) ⟨n,tm,d,h⟩=res:=by
 have hw:wantedB ops tm o=true:=by unfold wantedB; rw [hg]
 have hst:stepOp c orc b ih o ⟨n,tm,d,topH h⟩=some (.normal,⟨n,Tb.set tm t v,d,topH h⟩):=by
  unfold stepOp
  simp only [ha]
  unfold putD
  simp only [hd,ht,cond_true]
 show cond (wantedB ops tm o) (match stepOp c orc b ih o ⟨n,tm,d,topH h⟩ with | some (.normal,s')=>_ | _=>none) _=_
 rw [hw,cond_true,hst]
 show cond (Nat.ble h.next T.top || _) (cond (sameLen d d) (drawF c orc b ih ops bs m r (k+1) l ⟨n,Tb.set tm t v,d,lowM h (topH h)⟩) none) none=_
 rw [Nat.ble_eq_true_of_le hn,Bool.true_or,cond_true,sameLen_refl,cond_true,lowM_top hl]
 exact e
theorem drawF_st {o:Oper} {l ops:List Oper} {bs:List Nat} {m r k n:Nat} {tm:Tm} {d:List AD} {h h1:H} {res:Option Out} (hg:o.guard=none) (ha:aop c o (evx tm) (topH h)=some (.skip h1)) (hd:o.dst=none) (hs:storeOk ops bs m k tm o=true)
  (e:drawF c orc b ih ops bs m r (k+1) l ⟨n,tm,d,lowM h h1⟩=res):drawF c orc b ih ops bs m (r+1) k (o :: l) ⟨n,tm,d,h⟩=res:=by
 have hw:wantedB ops tm o=true:=by unfold wantedB; rw [hg]
 have hst:stepOp c orc b ih o ⟨n,tm,d,topH h⟩=some (.normal,⟨n,tm,d,h1⟩):=by
  unfold stepOp
  simp only [ha]
  unfold putD
  simp only [hd]
 show cond (wantedB ops tm o) (match stepOp c orc b ih o ⟨n,tm,d,topH h⟩ with | some (.normal,s')=>_ | _=>none) _=_
 rw [hw,cond_true,hst]
 show cond (_ || storeOk ops bs m k tm o) (cond (sameLen d d) (drawF c orc b ih ops bs m r (k+1) l ⟨n,tm,d,lowM h h1⟩) none) none=_
 rw [hs,Bool.or_true,cond_true,sameLen_refl,cond_true]
 exact e
theorem opsF_st {o:Oper} {ops:List Oper} {n:Nat} {tm:Tm} {d:List AD} {h h1:H} (hg:o.guard=none) (ha:aop c o (evx tm) h=some (.skip h1)) (hd:o.dst=none):opsF c orc b ih ops [o] ⟨n,tm,d,h⟩=some (.done .normal ⟨n,tm,d,h1⟩):=by
 have hw:wantedB ops tm o=true:=by unfold wantedB; rw [hg]
 have hst:stepOp c orc b ih o ⟨n,tm,d,h⟩=some (.normal,⟨n,tm,d,h1⟩):=by
  unfold stepOp
  simp only [ha]
  unfold putD
  simp only [hd]
 show cond (wantedB ops tm o) (match stepOp c orc b ih o ⟨n,tm,d,h⟩ with | some (.normal,s')=>_ | some (x,s')=>_ | none=>none) _=_
 rw [hw,cond_true,hst]
 rfl
theorem lowM_upd {h:H} {p:Nat} {o:Option O} (hp:p<T.top):lowM h ((topH h).upd p o)=h.upd p o:=by
 cases h with
 | mk t n l =>
  show (⟨t.set p o,n,cond (Nat.ble l (cond (Nat.ble T.top p) T.top p)) l (cond (Nat.ble T.top p) T.top p)⟩:H)=⟨t.set p o,n,cond (Nat.ble l p) l p⟩
  have:Nat.ble T.top p=false:=by
   cases hb:Nat.ble T.top p with
   | false=>rfl
   | true=>have:=Nat.le_of_ble_eq_true hb; omega
  rw [this,cond_false]
theorem beq_ne {a b:Nat} (h:a≠b):Nat.beq a b=false:=by
 cases hb:Nat.beq a b with
 | false=>rfl
 | true=>exact absurd (Nat.eq_of_beq_eq_true hb) h
end Go.Sim
