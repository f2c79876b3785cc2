/- Z. No condition. -/
import Derived.Test.YtnpeieeomokomaaGreatZX
import Derived.Test.YtnpeieeomokomaaGreatZY
noncomputable section
namespace Go.Sim
structure One (A:V->List V):Prop where
 conc:∀ρ ρ' v v',V.conc ρ v=V.conc ρ' v'->(A v).map (V.conc ρ)=(A v').map (V.conc ρ')
 get:∀D v,(∀a∈A v,a.In D)->v.In D
 put:∀D v,v.In D->∀a∈A v,a.In D
theorem One.list {pre post:List V}(h1:∀a∈pre,Plain a) (h2:∀a∈post,Plain a):One λv=>pre++v::post:=by
 refine⟨λρ ρ' v v' e=>?_,λD v h=>h v (by simp),λD v h a ha=>?_⟩
 ·rw[List.map_append,List.map_append,List.map_cons,List.map_cons,e]
  rw[List.map_congr_left λa ha=>((h1 a ha).1 ρ).trans ((h1 a ha).1 ρ').symm,List.map_congr_left λa ha=>((h2 a ha).1 ρ).trans ((h2 a ha).1 ρ').symm]
 ·rcases List.mem_append.1 ha with ha|ha
  ·exact(h1 a ha).2 D
  ·rcases oY.1 ha with rfl|ha
   ·exact h
   ·exact(h2 a ha).2 D
theorem One.struct {pre post:List V}(h1:∀a∈pre,Plain a) (h2:∀a∈post,Plain a):One λv=>.agg (pre++[v])::post:=by
 refine⟨λρ ρ' v v' e=>?_,λD v h=>?_,λD v h a ha=>?_⟩
 ·have e1:pre.map (V.conc ρ)=pre.map (V.conc ρ'):=List.map_congr_left λa ha=>((h1 a ha).1 ρ).trans ((h1 a ha).1 ρ').symm
  rw[List.map_cons,List.map_cons,List.map_congr_left λa ha=>((h2 a ha).1 ρ).trans ((h2 a ha).1 ρ').symm]
  simp only[V.conc,V.concL_eq,List.map_append,List.map_cons,List.map_nil,e,e1]
 ·have h3:=h _ (List.mem_cons_self ..)
  simp only[V.In]at h3;exact V.InL_iff.1 h3 v (by simp)
 ·rcases oY.1 ha with rfl|ha
  ·simp only[V.In]
   refine V.InL_iff.2 λa ha=>?_
   rcases List.mem_append.1 ha with ha|ha
   ·exact(h1 a ha).2 D
   ·rw[List.mem_singleton.1 ha];exact h
  ·exact(h2 a ha).2 D
theorem SimF.ro {P:Program}{f:Nat}{A:V->List V}(hA:One A) {b o n:Nat}{cp:Cap}{esz:Nat}{xs:List V}{r:V}{h:H}{cs:Cs}{k:Rk}{w op:Bool}
  (hg:h.get b=some (.cells cs k w op)) (hc:∀i,i<n*esz->cs.get? (o+i)=xs[i]?) (hl:xs.length=n*esz) (hx:∀x∈xs,Plain x) (hr:Plain r)
  (s:∀cap,∃h1,SimF P f (A (.slice 0 0 n (.exact cap))) (hRO xs) (.ret r h1)):SimF P f (A (.slice b o n cp)) h (.ret r h):=by
 intro ρ D wd hR hin;have hDb:D b:=by have:=hA.get D _ hin;simpa [V.In]using this
 obtain⟨c,e,fz,hb,hcell,_,_⟩:=hR.rel b _ hDb hg;obtain⟨h1,s1⟩:=s (cp.val ρ b);have hR0:HR (zDf (ρ.blk b) (ρ.off b+o)) (λi=>i=0) (hRO xs) wd:=by
  refine zXf hb (λi v hv=>?_) (λv hv=>((hx v hv).1 _).trans ((hx v hv).1 _).symm) λv hv=>(hx v hv).2 _
  have hi:i<n*esz:=by have:=(List.getElem?_eq_some_iff.1 hv).1;omega
  have:=hcell (o+i) v (by rw[hc i hi];exact hv);rw[(hx v (List.mem_of_getElem? hv)).1 ρ]at this;rw[Nat.add_assoc];exact this
 have h2:=s1 _ _ wd hR0 (hA.put _ _ (by simp[V.In]));rw[hA.conc (zDf (ρ.blk b) (ρ.off b+o)) ρ (.slice 0 0 n (.exact (cp.val ρ b))) (.slice b o n cp) (by simp[V.conc,zDf,Cap.val])]at h2;refine CallsIn.mono h2 ?_;rintro e' w' ⟨ρ',rfl,m,_,_⟩;have fr:∀r,r<wd.heap.size->w'.heap[r]? = wd.heap[r]?:=λk hk=>m.frame k hk λj ob hj hg hw=>by
  subst hj;rw[Ys]at hg;cases hg;cases hw
 refine⟨ρ,by rw[hr.1 ρ',hr.1 ρ],⟨oO _,m.size,m.os,m.tape,m.output,λ_ _=>⟨rfl,rfl,rfl⟩,λid o' _ hg=>⟨o',hg,rfl⟩,λid o' g1 g2 _=>by omega,λr hr _=>fr r hr,oO _,λ_ _ _=>rfl⟩,?_,hr.2 _⟩
 rw[KC];refine⟨hR.cap,hR.lt,λid o hd hg=>?_,hR.inj⟩
 have h3:=hR.rel id o hd hg;rcases Nat.lt_or_ge (ρ.blk id) wd.heap.size with q|q
 ·rw[fr _ q];exact h3
 ·exfalso
  rw[Array.getElem?_eq_none q]at h3;cases o<;>simp[ORel]at h3
theorem zWj {xs:List V}{esz n cap:Nat}(hl:xs.length=n*esz):Sl (hRO xs) (.slice 0 0 n (.exact cap)) esz n xs :=
 ⟨hl,.inr ⟨0,0,_,_,_,_,_,rfl,by rw[wp];decide,Ys _,λi _=>by rw[Nat.zero_add];exact Cs.getL_eq xs i⟩⟩
theorem zPv (xs:List V):(hRO xs).low=T.top:=rfl
theorem RF.ro {P:Program}{c:Ctx}{f:Nat}{A:V->List V}(hA:One A) {v r:V}{esz n:Nat}{xs:List V}{h:H}{Q:V->H->Prop}(sl:Sl h v esz n xs) (hx:∀x∈xs,Plain x) (hr:Plain r)
  (rf:∀v0 h0,Sl h0 v0 esz n xs->h0.next<=1->h0.low=T.top->RF P c f (A v0) h0 λr' _=>r'=r) (hq:Q r h):RF P c f (A v) h Q:=by
 obtain⟨hl,⟨rfl,rfl⟩|⟨b,o,cp,cs,k,w,op,rfl,hb,hg,hc⟩⟩:=sl
 ·obtain⟨r',h',⟨hf,s⟩,rfl⟩:=rf .nilslice H0 ⟨hl,.inl ⟨rfl,rfl⟩⟩ (oJ _) rfl
  refine⟨r',h,⟨hf,?_⟩,hq⟩;intro ρ D wd hR hin;have h1:=s zBr (λ_=>False) wd (zB2 _ _) (hA.put _ _ (by simp[V.In]));rw[hA.conc zBr ρ .nilslice .nilslice (by simp[V.conc])]at h1;refine CallsIn.mono h1 ?_;rintro e w' ⟨ρ',rfl,m,_,_⟩;have fr:∀r,r<wd.heap.size->w'.heap[r]? = wd.heap[r]?:=λk hk=>m.frame k hk λ_ _ hj=>hj.elim
  refine⟨ρ,by rw[hr.1 ρ',hr.1 ρ],⟨oO _,m.size,m.os,m.tape,m.output,λ_ _=>⟨rfl,rfl,rfl⟩,λid o' _ hg=>⟨o',hg,rfl⟩,λid o' g1 g2 _=>by omega,λr hr _=>fr r hr,oO _,λ_ _ _=>rfl⟩,?_,hr.2 _⟩
  rw[KC];refine⟨hR.cap,hR.lt,λid o hd hg=>?_,hR.inj⟩
  have h2:=hR.rel id o hd hg;rcases Nat.lt_or_ge (ρ.blk id) wd.heap.size with q|q
  ·rw[fr _ q];exact h2
  ·exfalso
   rw[Array.getElem?_eq_none q]at h2;cases o<;>simp[ORel]at h2
 ·have rs:∀cap,∃h1,(∃fi,c.fn.get f=some fi)/\SimF P f (A (.slice 0 0 n (.exact cap))) (hRO xs) (.ret r h1):=λcap=>by
   obtain⟨r',h',⟨hf,s⟩,rfl⟩:=rf (.slice 0 0 n (.exact cap)) (hRO xs) (zWj hl) (by rw[wp];decide) (zPv _);exact⟨h',hf,s⟩
  obtain⟨_,hf,_⟩:=rs 0;exact⟨r,h,⟨hf,SimF.ro hA hg hc hl hx hr λcap=>by obtain⟨h1,_,s⟩:=rs cap;exact⟨h1,s⟩⟩,hq⟩
theorem zEO {t:TypeId}{v:V}(h:Plain v):Plain (.iface t v):=⟨λρ=>by simp only[V.conc,h.1 ρ],λD=>by simp only[V.In];exact h.2 D⟩
theorem zCL:Plain .nilptr:=⟨λ_=>by simp[V.conc],λ_=>by simp[V.In]⟩
theorem OL:Plain .nilslice:=⟨λ_=>by simp[V.conc],λ_=>by simp[V.In]⟩
theorem OK:Plain .nilIface:=⟨λ_=>by simp[V.conc],λ_=>by simp[V.In]⟩
def jK:V->Bool
 | .int _ _=>true
 | .bool _=>true
 | .str _=>true
 | .nilptr=>true
 | .nilslice=>true
 | .nilIface=>true
 | .iface _ v=>jK v
 | .agg l=>plainL l
 | .tuple l=>plainL l
 | _=>false
where
 plainL:List V->Bool
  | []=>true
  | v::l=>jK v && plainL l
mutual
theorem ze:∀{v:V},jK v=true->Plain v
 | .int _ _,_=>xG _ _
 | .bool _,_=>zG3 _
 | .str _,_=>zJ3 _
 | .nilptr,_=>zCL
 | .nilslice,_=>OL
 | .nilIface,_=>OK
 | .iface _ v,h=>zEO (ze (v:=v) (by simpa [jK]using h))
 | .agg l,h=>zJ2 (zy (l:=l) (by simpa [jK]using h))
 | .tuple l,h=>zEP (zy (l:=l) (by simpa [jK]using h))
 | .ptr ..,h=>by simp[jK]at h
 | .slice ..,h=>by simp[jK]at h
 | .map ..,h=>by simp[jK]at h
 | .nilmap,h=>by simp[jK]at h
 | .func ..,h=>by simp[jK]at h
 | .yield ..,h=>by simp[jK]at h
 | .nilFunc,h=>by simp[jK]at h
theorem zy:∀{l:List V},jK.plainL l=true->∀x∈l,Plain x
 | [],_=>λ_ h=>by cases h
 | v::l,h=>λx hx=>by
  simp only[jK.plainL,oG]at h;rcases oY.1 hx with e|hx
  ·rw[e];exact ze h.1
  ·exact zy h.2 x hx
end
theorem qS (l:List Int):∀x∈l.map (λn=>V.int .i64 n),Plain x:=λx hx=>by
 obtain⟨_,_,rfl⟩:=List.mem_map.1 hx;exact xG _ _
open Go (TypeDesc)
def wn:List Ent->Int->Option V
 | [],_=>none
 | e::es,k=>match e.key with
  | .int .i64 n=>if k=n then some e.val else wn es k
  | _=>wn es k
def MapI (h:H) (r:Nat) (f:Int->Option V):Prop:=∃es clock,h.get r=some (.map es clock)/\(∀e∈es,∃n,e.key = .int .i64 n)/\∀k,wn es k=f k
theorem zHa (a b:Int):eqF a b=decide (a=b):=by
 cases a with
 | ofNat a=>cases b with
  | ofNat b =>
   show Nat.beq a b=_;cases h:Nat.beq a b with
   | true=>rw[oF h];simp
   | false =>
    have:=Nat.ne_of_beq_eq_false h;exact(decide_eq_false λe=>this (Int.ofNat.inj e)).symm
  | negSucc b=>exact(decide_eq_false λe=>by cases e).symm
 | negSucc a=>cases b with
  | ofNat b=>exact(decide_eq_false λe=>by cases e).symm
  | negSucc b =>
   show Nat.beq a b=_;cases h:Nat.beq a b with
   | true=>rw[oF h];simp
   | false =>
    have:=Nat.ne_of_beq_eq_false h;exact(decide_eq_false λe=>this (Int.negSucc.inj e)).symm
section
variable {c:Ctx}{t kt et:Nat}{ti tk te:TI}{z:V}
theorem zP1 (hk:c.ty.get kt=some tk) (hd:tk.desc = .int .i64) (a b:Int):aeq c 30 kt (.int .i64 a) (.int .i64 b)=some (decide (a=b)):=by
 have e:aeq c 30 kt (.int .i64 a) (.int .i64 b)=some (eqF a b):=by
  show(match c.ty.get kt with|none=>none|some ti=>_)=_;rw[hk];simp only[hd];rfl
 rw[e,zHa]
theorem Xa (hk:c.ty.get kt=some tk) (hd:tk.desc = .int .i64) (k:Int):∀(es:List Ent) (i:Nat),(∀e∈es,∃n,e.key = .int .i64 n) ->
  (wn es k=none->wT c kt (.int .i64 k) es i=some none) /\
  (∀v,wn es k=some v->∃j e,wT c kt (.int .i64 k) es i=some (some (i+j,e))/\e.val=v/\e.key = .int .i64 k /\
   ∀v',(∀e∈JP es j (.int .i64 k) v',∃n,e.key = .int .i64 n)/\∀k',wn (JP es j (.int .i64 k) v') k'=if k'=k then some v' else wn es k')
 | [],i,_=>⟨λ_=>rfl,λv h=>by cases h⟩
 | e::es,i,hi=>by
  obtain⟨n,hn⟩:=hi e (List.mem_cons_self ..);have hr:=λe he=>hi e (oH _ he)
  obtain⟨ih1,ih2⟩:=Xa hk hd k es (i+1) hr;have ea:∀k',wn (e::es) k'=if k'=n then some e.val else wn es k':=λk'=>by
   show(match e.key with | .int .i64 n=>_|_=>_)=_;rw[hn]
  have ef:wT c kt (.int .i64 k) (e::es) i=(match some (decide (k=n))with|some true=>some (some (i,e))|some false=>wT c kt (.int .i64 k) es (i+1)|none=>none):=by
   show(match aeq c 30 kt (.int .i64 k) e.key with|some true=>_|some false=>_|none=>_)=_
   rw[hn,zP1 hk hd]
  by_cases c1:k=n
  ·subst c1
   refine⟨λh=>?_,λv h=>?_⟩
   ·rw[ea,if_pos rfl]at h;cases h
   ·rw[ea,if_pos rfl]at h
    cases h;refine⟨0,e,by rw[ef,decide_eq_true rfl];rfl,rfl,hn,λv'=>⟨λe' he'=>?_,λk'=>?_⟩⟩
    ·rcases oY.1 he' with rfl|he'
     ·exact⟨_,rfl⟩
     ·exact hr _ he'
    ·show(if k'=k then some v' else wn es k')=_
     rw[ea];by_cases c2:k'=k
     ·rw[if_pos c2,if_pos c2]
     ·rw[if_neg c2,if_neg c2,if_neg c2]
  ·have ef2:wT c kt (.int .i64 k) (e::es) i=wT c kt (.int .i64 k) es (i+1):=by rw[ef,decide_eq_false c1]
   refine⟨λh=>?_,λv h=>?_⟩
   ·rw[ea,if_neg c1]at h
    rw[ef2];exact ih1 h
   ·rw[ea,if_neg c1]at h
    obtain⟨j,e2,h1,h2,h3,h4⟩:=ih2 v h;refine⟨j+1,e2,by rw[ef2,h1,Nat.add_assoc,Nat.add_comm 1 j],h2,h3,λv'=>⟨λe' he'=>?_,λk'=>?_⟩⟩
    ·rcases oY.1 he' with rfl|he'
     ·exact⟨_,hn⟩
     ·exact(h4 v').1 _ he'
    ·show(match e.key with | .int .i64 n=>if k'=n then some e.val else wn (JP es j (.int .i64 k) v') k'|_=>_)=_
     rw[hn];simp only;rw[(h4 v').2,ea];by_cases c2:k'=n
     ·rw[if_pos c2,if_pos c2,if_neg (λg=>c1 (g.symm.trans c2))]
     ·rw[if_neg c2,if_neg c2]
theorem zJC (es:List Ent) (e:Ent) (k:Int) (h:wn es k=none):wn (es++[e]) k=wn [e] k:=by
 induction es with
 | nil=>rfl
 | cons x es ih =>
  simp only[List.cons_append];unfold wn at h ⊢;split at h
  ·rename_i n hn
   split at h
   ·cases h
   ·rename_i hk
    rw[if_neg hk];exact ih h
  ·exact ih h
theorem zFt (es:List Ent) (e:Ent) (k:Int) (v:V) (h:wn es k=some v):wn (es++[e]) k=some v:=by
 induction es with
 | nil=>cases h
 | cons x es ih =>
  simp only[List.cons_append];unfold wn at h ⊢;split at h
  ·rename_i n hn
   split at h
   ·rename_i hk;rw[if_pos hk];exact h
   ·rename_i hk;rw[if_neg hk];exact ih h
  ·exact ih h
theorem zDL (hk:c.ty.get kt=some tk) (hd:tk.desc = .int .i64) (k:Int):Jq c kt (.int .i64 k)=true:=by
 unfold Jq;simp only[hk,hd]
theorem MapI.look {h:H}{r:Nat}{f:Int->Option V}(m:MapI h r f) (ht:c.ty.get t=some ti) (hm:ti.desc = .map kt et) (hk:c.ty.get kt=some tk) (hd:tk.desc = .int .i64) (he:c.ty.get et=some te) (hz:te.zero=some z) (k:Int) (ok:Bool) :
  JZ c t h (.map r) (.int .i64 k) ok=some (match f k with|some v=>qy ok v true|none=>qy ok z false):=by
 obtain⟨es,clock,hg,hi,hf⟩:=m;obtain⟨i1,i2⟩:=Xa hk hd k es 0 hi;unfold JZ zM8;simp only[ht,hm,hg];unfold KG;rw[zDL hk hd,oK];cases hfk:f k with
 | none =>
  rw[i1 ((hf k).trans hfk)];simp only[he,hz]
 | some v =>
  obtain⟨j,e,h1,h2,_⟩:=i2 v ((hf k).trans hfk);rw[h1];simp only[h2]
theorem MapI.upd {h:H}{r:Nat}{f:Int->Option V}(m:MapI h r f) (ht:c.ty.get t=some ti) (hm:ti.desc = .map kt et) (hk:c.ty.get kt=some tk) (hd:tk.desc = .int .i64) (hr:r<T.top) (k:Int) (v:V) :
  ∃es clock,zAY c t h (.map r) (.int .i64 k) v=some (h.upd r (some (.map es clock)))/\MapI (h.upd r (some (.map es clock))) r (λj=>if j=k then some v else f j):=by
 obtain⟨es,clock,hg,hi,hf⟩:=m;obtain⟨i1,i2⟩:=Xa hk hd k es 0 hi;have e1:zAY c t h (.map r) (.int .i64 k) v=(match wT c kt (.int .i64 k) es 0 with
     | some (some (i,e))=>cond (Jc e.key (.int .i64 k)) (some (h.upd r (some (.map (JP es i (.int .i64 k) v) clock)))) none
     | some none=>some (h.upd r (some (.map (es++[⟨.int .i64 k,v,clock⟩]) (clock+1))))
     | none=>none):=by
  unfold zAY;simp only[ht,hm,hg];rw[zDL hk hd,oK];rfl
 cases hfk:f k with
 | none =>
  have h0:=(hf k).trans hfk;refine⟨es++[⟨.int .i64 k,v,clock⟩],clock+1,by rw[e1,i1 h0],_,_,xp _ hr,λe he=>?_,λk'=>?_⟩
  ·rcases List.mem_append.1 he with he|he
   ·exact hi e he
   ·rw[List.mem_singleton.1 he];exact⟨_,rfl⟩
  ·cases hk':wn es k' with
   | none =>
    rw[zJC _ _ _ hk'];show(if k'=k then some v else none)=if k'=k then some v else f k'
    rw[<-hf k',hk']
   | some v' =>
    rw[zFt _ _ _ _ hk'];have:k'≠k:=λg=>by rw[g,h0]at hk';cases hk'
    show some v'=if k'=k then some v else f k'
    rw[if_neg this,<-hf k',hk']
 | some v0 =>
  obtain⟨j,e,h1,h2,h3,h4⟩:=i2 v0 ((hf k).trans hfk);rw[Nat.zero_add]at h1;refine⟨JP es j (.int .i64 k) v,clock,?_,_,_,xp _ hr,(h4 v).1,λk'=>by rw[(h4 v).2,hf]⟩
  have:Jc e.key (.int .i64 k)=true:=by
   rw[h3];show(xE .i64 .i64 && eqF k k)=true;rw[zHa];simp;rfl
  rw[e1,h1];simp only[this,oK]
theorem zDQ {o:Oper}{m:Nat}{e:Operand->Option V}{h:H}(ho:o.op = .makeMap m none) (hn:h.next<T.top):yD c o e h=some (.val (.map h.next) (h.new (.map [] 0))):=by
 unfold yD;simp only[ho];unfold KH;rw[show Nat.blt h.next T.top=true from(z8 _ _).2 hn];rfl
theorem MapI.new {h:H}(hn:h.next<T.top):MapI (h.new (.map [] 0)) h.next (λ_=>none):=⟨[],0,zw _ hn,λ_ h=>(by cases h),λ_=>rfl⟩
theorem MapI.mono {h h':H}{r:Nat}{f:Int->Option V}(m:MapI h r f) (e:h'.get r=h.get r):MapI h' r f:=by
 obtain⟨es,clock,hg,h2⟩:=m;exact⟨es,clock,e.trans hg,h2⟩
end
end Go.Sim
namespace Go.Sim
theorem zOX {a:Int}{n:Nat}(h:n<=64):zj .shr .i64 a (n:Int)=some (.int .i64 (a/((2^n:Nat):Int))):=by
 show cond (Xz (n:Int) 0) none (some (V.int .i64 (zCi a (cond (Nat.ble n 64) n 64))))=_;rw[oC h,oK,yo];have h3:decide ((n:Int)<0)=false:=by simp
 rw[h3,oL,zIH];have h1:((2:Int)^n)=((2^n:Nat):Int):=by simp
 rw[h1,Int.fdiv_eq_ediv_of_nonneg _ (Int.natCast_nonneg _)]
theorem zOt {n:Nat}(h:n<256):IntKind.u8.wrap (n:Int)=(n:Int):=by
 rw[<-xI,yf,oZ h]
theorem zQG {a b:Nat}(ha:a<9223372036854775808) (hb:b<9223372036854775808):zj .or .i64 (a:Int) (b:Int)=some (.int .i64 ((a ||| b:Nat):Int)):=by
 show some (V.int .i64 (IntKind.i64.wrap (((BitVec.ofInt 64 (a:Int) ||| BitVec.ofInt 64 (b:Int)).toNat:Nat):Int)))=_;rw[BitVec.toNat_or,xX (show a<2^64 by omega),xX (show b<2^64 by omega)];rw[zBY (show a ||| b<2^63 from Nat.or_lt_two_pow ha hb)]
theorem J5 {a:Int}{n:Nat}(h:0<n):0<a/(n:Int)↔(n:Int)<=a:=by
 constructor
 ·intro h1
  have h2:(1:Int)<=a/(n:Int):=h1;have:=(Int.le_ediv_iff_mul_le (by omega:(0:Int)<n)).1 h2;omega
 ·intro h1
  have:=(Int.le_ediv_iff_mul_le (c:=(n:Int)) (a:=1) (b:=a) (by omega)).2 (by omega);omega
def hi (n:Int):Int:=if 0<n then (n.toNat.log2:Int) else -1
def hiU (n:Int) (i:Nat):Int:=if 0<n/\0<i then ((min n.toNat.log2 (i-1):Nat):Int) else -1
theorem XE (i:Nat):0<2^i:=Nat.pow_pos (by decide)
theorem zDr (n:Int) (i:Nat):hiU n (i+1)=if ((2^i:Nat):Int)<=n then (i:Int) else hiU n i:=by
 have hp:=XE i;unfold hiU;by_cases h:0<n
 ·have hn:n.toNat≠0:=by omega
  by_cases c:((2^i:Nat):Int)<=n
  ·have:i<=n.toNat.log2:=(Nat.le_log2 hn).2 (by omega)
   rw[if_pos c,if_pos ⟨h,by omega⟩];omega
  ·have:¬i<=n.toNat.log2:=λg=>c (by have:=(Nat.le_log2 hn).1 g;omega)
   rw[if_neg c,if_pos ⟨h,by omega⟩];by_cases h0:0<i
   ·rw[if_pos ⟨h,h0⟩];omega
   ·exfalso;omega
 ·rw[if_neg (by omega),if_neg (by omega),if_neg (by omega)]
theorem zWU {n:Int}(h:n<9223372036854775808):hiU n 63=hi n:=by
 unfold hiU hi;by_cases c:0<n
 ·have hn:n.toNat≠0:=by omega
  have:n.toNat.log2<63:=(Nat.log2_lt hn).2 (by omega);rw[if_pos c,if_pos ⟨c,by decide⟩];omega
 ·rw[if_neg c,if_neg (by omega)]
theorem zWV {n:Nat}(h:n≠0):hi n=n.log2:=by unfold hi;rw[if_pos (by omega)];rfl
def zT (n:Nat):Nat:=if n=0 then 0 else n.log2+1
theorem kG (n:Nat):hi n+1=zT n:=by
 unfold zT;by_cases h:n=0
 ·subst h;rfl
 ·rw[zWV h,if_neg h];rfl
theorem ZA (n:Nat):n<2^zT n:=by
 unfold zT;split
 ·rename_i h;subst h;exact XE _
 ·exact Nat.lt_log2_self
theorem zMc {n:Nat}(h:n≠0):2^(zT n-1)<=n:=by
 unfold zT;rw[if_neg h];exact Nat.log2_self_le h
theorem yE {n k:Nat}(h:n<2^k):zT n<=k:=by
 unfold zT;split
 ·exact oJ _
 ·rename_i h0
  exact(Nat.log2_lt h0).2 h
theorem zER {n:Nat}(h:n≠0):n &&& (n-1)=0↔n=2^n.log2:=by
 rw[Nat.and_sub_one_eq_zero_iff_isPowerOfTwo h];constructor
 ·rintro⟨k,rfl⟩
  rw[Nat.log2_two_pow]
 ·intro e
  exact⟨_,e⟩
abbrev Qy:=(Nat×List V)×(H×V)
variable (c:Ctx)
def stepG (o:Oper) (s:St) (vals:List V):Option (List Qy×St×List V) :=
 match yD c o (yQ s.tm) s.heap with
 | some (.val v h)=>match yF s o.dst v h with|some s'=>some ([],s',vals)|none=>none
 | some (.skip h)=>match yF s o.dst zC h with|some s'=>some ([],s',vals)|none=>none
 | some (.call f args) =>
  match vals with
  | v::vals'=>match yF s o.dst v s.heap with|some s'=>some ([((f,args),(s.heap,v))],s',vals')|none=>none
  | []=>none
 | _=>none
def XB (ops:List Oper):List Oper->St->List V->Option (List Qy×St)
 | [],s,_=>some ([],s)
 | o::l,s,vals =>
  cond (zZ ops s.tm o)
   (match stepG c o s vals with
   | some (qs,s',vals')=>(match XB ops l s' vals' with|some (qs2,s2)=>some (qs++qs2,s2)|none=>none)
   | none=>none)
   (match yF s o.dst zC s.heap with|some s'=>XB ops l s' vals|none=>none)
def jZ (ops : List Oper) (bs : List Nat) (m : Nat) : Nat -> Nat -> List Oper -> St -> List V -> Option (List Qy × St)
  | _, _, [], s, _ => some ([], s)
  | 0, _, l, s, vals => XB c ops l s vals
  | r + 1, k, o::l, s, vals =>
    cond (zZ ops s.tm o)
      (match stepG c o { s with heap := { s.heap with low := T.top } } vals with
      | some (qs, s', vals') =>
        cond (Nat.ble s.heap.next s'.heap.low || wA ops bs m k s.tm o)
          (cond (yl s.dfr s'.dfr)
            (match jZ ops bs m r (k + 1) l { s' with heap := { s'.heap with low := cond (Nat.ble s.heap.low s'.heap.low) s.heap.low s'.heap.low } } vals' with|some (qs2, s2) => some (qs ++ qs2, s2)|none => none) none) none
      | none => none)
      (match yF s o.dst zC s.heap with|some s' => jZ ops bs m r (k + 1) l s' vals|none => none)
variable {c}
def Ans (orc:Nat->List V->H->Option (V×H)) (qs:List Qy):Prop:=∀q∈qs,orc q.1.1 q.1.2 q.2.1=some (q.2.2,q.2.1)
theorem Ji {orc:Nat->List V->H->Option (V×H)}{rd:Bool}{ih:Bool->Code->St->Option Out}{o:Oper}{s s':St}{vals vals':List V}{qs:List Qy}(e:stepG c o s vals=some (qs,s',vals')) (ho:Ans orc qs):z6 c orc rd ih o s=some (.normal,s'):=by
 unfold stepG at e;unfold z6;cases ha:yD c o (yQ s.tm) s.heap with
 | none=>rw[ha]at e;cases e
 | some an =>
  rw[ha]at e;cases an with
  | val v h =>
   simp only at e ⊢;cases hp:yF s o.dst v h with
   | none=>rw[hp]at e;cases e
   | some s1=>rw[hp]at e;simp only[oA,oB]at e ⊢;exact⟨trivial,e.2.1⟩
  | skip h =>
   simp only at e ⊢;cases hp:yF s o.dst zC h with
   | none=>rw[hp]at e;cases e
   | some s1=>rw[hp]at e;simp only[oA,oB]at e ⊢;exact⟨trivial,e.2.1⟩
  | call f args =>
   simp only at e ⊢;cases vals with
   | nil=>cases e
   | cons v vals1 =>
    simp only at e;cases hp:yF s o.dst v s.heap with
    | none=>rw[hp]at e;cases e
    | some s1 =>
     rw[hp]at e;simp only[oA,oB]at e;obtain⟨rfl,rfl,rfl⟩:=e;have:=ho _ (List.mem_cons_self ..);unfold xe;simp only at this;rw[this];simp only[hp]
  | _=>cases e
theorem zGY {orc:Nat->List V->H->Option (V×H)}{rd:Bool}{ih:Bool->Code->St->Option Out}{ops:List Oper}:∀(l:List Oper) {s s':St}{vals:List V}{qs:List Qy},XB c ops l s vals=some (qs,s')->Ans orc qs->xk c orc rd ih ops l s=some (.done .normal s'):=by
 intro l
 induction l with
 | nil=>intro s s' vals qs e _;simp only[XB,oA,oB]at e;rw[xk,e.2]
 | cons o l hi =>
  intro s s' vals qs e ho;rw[XB]at e;rw[xk];cases hw:zZ ops s.tm o with
  | true =>
   rw[hw,oK]at e;rw[oK];cases hs:stepG c o s vals with
   | none=>rw[hs]at e;cases e
   | some x =>
    obtain⟨q1,s1,vals1⟩:=x;rw[hs]at e;simp only at e;cases hl:XB c ops l s1 vals1 with
    | none=>rw[hl]at e;cases e
    | some y =>
     obtain⟨q2,s2⟩:=y;rw[hl]at e;simp only[oA,oB]at e;obtain⟨rfl,rfl⟩:=e;rw[Ji hs λq hq=>ho q (List.mem_append_left _ hq)]
     exact hi hl λq hq=>ho q (List.mem_append_right _ hq)
  | false =>
   rw[hw,oL]at e;rw[oL];cases hp:yF s o.dst zC s.heap with
   | none=>rw[hp]at e;cases e
   | some s1=>rw[hp]at e;exact hi e ho
theorem zD9 {orc:Nat->List V->H->Option (V×H)}{rd:Bool}{ih:Bool->Code->St->Option Out}{ops:List Oper}{bs:List Nat}{m:Nat}:∀(l:List Oper) (r k:Nat) {s s':St}{vals:List V}{qs:List Qy},jZ c ops bs m r k l s vals=some (qs,s')->Ans orc qs->yJ c orc rd ih ops bs m r k l s=some (.done .normal s'):=by
 intro l
 induction l with
 | nil =>
  intro r k s s' vals qs e _;cases r<;>(simp only[jZ,oA,oB]at e;rw[yJ,e.2])
 | cons o l hi =>
  intro r k s s' vals qs e ho;cases r with
  | zero=>exact zGY _ e ho
  | succ r =>
   rw[jZ]at e;rw[yJ];cases hw:zZ ops s.tm o with
   | true =>
    rw[hw,oK]at e;rw[oK];cases hs:stepG c o { s with heap:={ s.heap with low:=T.top } } vals with
    | none=>rw[hs]at e;cases e
    | some x =>
     obtain⟨q1,s1,vals1⟩:=x;rw[hs]at e;simp only at e;cases h1:(Nat.ble s.heap.next s1.heap.low || wA ops bs m k s.tm o)with
     | false=>rw[h1,oL]at e;cases e
     | true =>
      rw[h1,oK]at e;cases h2:yl s.dfr s1.dfr with
      | false=>rw[h2,oL]at e;cases e
      | true =>
       rw[h2,oK]at e;cases hl:jZ c ops bs m r (k+1) l { s1 with heap:={ s1.heap with low:=cond (Nat.ble s.heap.low s1.heap.low) s.heap.low s1.heap.low } } vals1 with
       | none=>rw[hl]at e;cases e
       | some y =>
        obtain⟨q2,s2⟩:=y;rw[hl]at e;simp only[oA,oB]at e;obtain⟨rfl,rfl⟩:=e;rw[Ji hs λq hq=>ho q (List.mem_append_left _ hq)]
        simp only;rw[h1,oK,h2,oK];exact hi r (k+1) hl λq hq=>ho q (List.mem_append_right _ hq)
   | false =>
    rw[hw,oL]at e;rw[oL];cases hp:yF s o.dst zC s.heap with
    | none=>rw[hp]at e;cases e
    | some s1=>rw[hp]at e;exact hi r (k+1) e ho
open Classical in
def zLZ (f:Nat) (args:List V) (h:H) (q:Qy):Bool:=decide (q.1=(f,args)/\q.2.1=h)
open Classical in
theorem Kx {f:Nat}{args:List V}{h:H}{q:Qy}:zLZ f args h q=true↔q.1=(f,args)/\q.2.1=h:=by unfold zLZ;exact decide_eq_true_iff
def zMh (qs:List Qy):Nat->List V->H->Option (V×H):=λf args h=>(qs.find? (zLZ f args h)).map λq=>(q.2.2,h)
variable {P:Program}
theorem zQI {qs:List Qy}(hq:∀q∈qs,(∃fi,c.fn.get q.1.1=some fi)/\SimF P q.1.1 q.1.2 q.2.1 (.ret q.2.2 q.2.1)):yg P c (zMh qs):=by
 intro f args h v h' e;unfold zMh at e;cases hf:qs.find? (zLZ f args h)with
 | none=>rw[hf]at e;cases e
 | some q =>
  rw[hf]at e;simp only[oX,oA,oB]at e;obtain⟨rfl,rfl⟩:=e;have hk:=Kx.1 (List.find?_some hf);have:=hq q (List.mem_of_find?_eq_some hf);obtain⟨hk1,hk2⟩:=hk;rw[hk1,hk2]at this;exact this
theorem zMi {qs:List Qy}(hc:∀a∈qs,∀b∈qs,a.1=b.1->a.2.2=b.2.2):Ans (zMh qs) qs:=by
 intro q hq;unfold zMh;cases hf:qs.find? (zLZ q.1.1 q.1.2 q.2.1)with
 | none =>
  exact absurd (Kx.2 ⟨rfl,rfl⟩) (List.find?_eq_none.1 hf q hq)
 | some q' =>
  have hk:=Kx.1 (List.find?_some hf);have h1:=hc q' (List.mem_of_find?_eq_some hf) q hq hk.1;simp only[oX,h1]
theorem wpDr.ans {b:Bool}{ops:List Oper}{m:Nat}{s s':St}{vals:List V}{qs:List Qy}{Q:AX->St->Prop}(hm:xD ops=some m) (e:jZ c ops (zp ops []) m m 0 ops s vals=some (qs,s'))
  (hq:∀q∈qs,(∃fi,c.fn.get q.1.1=some fi)/\SimF P q.1.1 q.1.2 q.2.1 (.ret q.2.2 q.2.1)) (hc:∀a∈qs,∀b∈qs,a.1=b.1->a.2.2=b.2.2) (h:Q .normal s'):wpDr P c b ops s Q :=
 ⟨zMh qs,m,.normal,s',zQI hq,hm,zD9 _ _ _ e (zMi hc),h⟩
theorem RF.same {f:Nat}{args:List V}{h:H}{v:V}(r:RF P c f args h λv' h'=>v'=v/\h'=h):(∃fi,c.fn.get f=some fi)/\SimF P f args h (.ret v h):=by
 obtain⟨v',h',⟨h1,h2⟩,rfl,rfl⟩:=r;exact⟨h1,h2⟩
end Go.Sim
namespace Go.Sim
def Blk (S:Nat->Prop) (b0:Nat) (h:H):Nat->List (Nat×O)->Prop
 | _,[]=>True
 | top,(p,o)::l=>p<top/\(S p\/b0<=p)/\h.get p=some o/\Blk S b0 h p l
theorem Blk.lt {S:Nat->Prop}{b0:Nat}{h:H}:∀{top:Nat}{l:List (Nat×O)},Blk S b0 h top l->∀q∈l,q.1<top
 | _,[],_=>λq hq=>by cases hq
 | top,(p,o)::l,⟨h1,_,_,h4⟩=>λq hq=>by
  rcases oY.1 hq with rfl|hq
  ·exact h1
  ·exact Nat.lt_trans (h4.lt q hq) h1
theorem Blk.up {S:Nat->Prop}{b0:Nat}{h:H}{top top':Nat}(ht:top<=top'):∀{l:List (Nat×O)},Blk S b0 h top l->Blk S b0 h top' l
 | [],_=>trivial
 | (_,_)::_,⟨h1,h2,h3,h4⟩=>⟨oI h1 ht,h2,h3,h4⟩
theorem Blk.keep {S:Nat->Prop}{b0:Nat}{h h':H}:∀{top:Nat}{l:List (Nat×O)},Blk S b0 h top l->(∀q∈l,h'.get q.1=h.get q.1)->Blk S b0 h' top l
 | _,[],_,_=>trivial
 | top,(p,o)::l,⟨h1,h2,h3,h4⟩,hk=>⟨h1,h2,(hk _ (List.mem_cons_self ..)).trans h3,h4.keep λq hq=>hk q (oH _ hq)⟩
theorem Blk.at {S:Nat->Prop}{b0:Nat}{h:H}:∀{top:Nat}{l:List (Nat×O)}(i:Nat) {p:Nat}{o:O},Blk S b0 h top l->l[i]? = some (p,o)->p<top/\(S p\/b0<=p)/\h.get p=some o
 | _,[],i,_,_,_,e=>by cases e
 | top,(_,_)::l,0,p,o,⟨h1,h2,h3,h4⟩,e=>by cases e;exact⟨h1,h2,h3⟩
 | top,(_,_)::l,i+1,p,o,⟨h1,h2,h3,h4⟩,e=>by
  obtain⟨a,b,c⟩:=h4.at i e;exact⟨Nat.lt_trans a h1,b,c⟩
theorem Blk.put {S:Nat->Prop}{b0:Nat}{h h':H}:∀{top:Nat}{l:List (Nat×O)}(i:Nat) {p:Nat}{o o':O},Blk S b0 h top l->l[i]? = some (p,o)->h'.get p=some o'->(∀q∈l,q.1≠p->h'.get q.1=h.get q.1)->Blk S b0 h' top (l.set i (p,o'))
 | _,[],i,_,_,_,_,e,_,_=>by cases e
 | top,(_,_)::l,0,p,o,o',⟨h1,h2,h3,h4⟩,e,hp,hk=>by
  cases e;exact⟨h1,h2,hp,h4.keep λq hq=>hk q (oH _ hq) (Nat.ne_of_lt (h4.lt q hq))⟩
 | top,(p1,_)::l,i+1,p,o,o',⟨h1,h2,h3,h4⟩,e,hp,hk=>by
  have hlt:=(h4.at i e).1;exact⟨h1,h2,(hk _ (List.mem_cons_self ..) (Nat.ne_of_gt hlt)).trans h3,h4.put i e hp λq hq=>hk q (oH _ hq)⟩
structure Vw (S:Nat->Prop) (hb h:H) (c:Nat) (l:List (Nat×O)):Prop where
 ex:ExtX S hb h c
 bk:Blk S hb.next h h.next l
section
variable {S:Nat->Prop}{hb h h':H}{c m i p:Nat}{l:List (Nat×O)}{o:O}
theorem ExtX.refl0 (S:Nat->Prop) (h:H):ExtX S h h 0:=⟨oO _,oO _,λ_ _ _=>rfl,oO _,λ_ h1 _ _=>h1⟩
theorem Vw.nil:Vw S h h 0 []:=⟨ExtX.refl0 _ _,trivial⟩
theorem Vw.top (v:Vw S hb h c l):h.next<=hb.next+c:=v.ex.top
theorem Vw.le (v:Vw S hb h c l):hb.next<=h.next:=v.ex.le
theorem Vw.low (v:Vw S hb h c l):h.low<=hb.low:=v.ex.low
theorem Vw.more (v:Vw S hb h c l) (hm:c<=m):Vw S hb h m l:=⟨⟨v.ex.le,by have:=v.ex.top;omega,v.ex.get,v.ex.low,v.ex.lo⟩,v.bk⟩
theorem Vw.get (v:Vw S hb h c l) (i:Nat) (e:l[i]? = some (p,o)):h.get p=some o:=(v.bk.at i e).2.2
theorem Vw.lt (v:Vw S hb h c l) (i:Nat) (e:l[i]? = some (p,o)):p<h.next:=(v.bk.at i e).1
theorem Vw.own (v:Vw S hb h c l) (i:Nat) (e:l[i]? = some (p,o)):S p\/hb.next<=p:=(v.bk.at i e).2.1
theorem Vw.new (v:Vw S hb h c l) (e:h'=h.new o) (hn:h.next<T.top):Vw S hb h' (c+1) ((h.next,o)::l):=by
 obtain⟨n1,x1,g1⟩:=zM6 e hn;exact⟨v.ex.andThen (ExtX.of (S:=λ_=>False) x1) (λ_ g=>g.elim),by rw[n1];exact Nat.lt_succ_self _,.inr v.le,g1,v.bk.keep λq hq=>x1.get _ (v.bk.lt q hq)⟩
theorem Vw.upd (v:Vw S hb h c l) (i:Nat) {o':O}(e:l[i]? = some (p,o)) (ht:h.next<=T.top):Vw S hb (h.upd p (some o')) c (l.set i (p,o')):=by
 have hp:p<T.top:=oI (v.lt i e) ht;exact⟨v.ex.upd _ hp (v.own i e),v.bk.put i e (xp _ hp) λq _ hq=>yy _ hp hq⟩
theorem Vw.ext (v:Vw S hb h c l) (x:Ext h h' m):Vw S hb h' (c+m) l :=
 ⟨v.ex.trans (ExtX.of x),(v.bk.keep λq hq=>x.get _ (v.bk.lt q hq)).up x.le⟩
theorem Vw.apart {S2:Nat->Prop}(v:Vw S hb h c l) (x:ExtX S2 h h' m) (hS:∀b,S2 b->S b\/hb.next<=b) (hl:∀q∈l,¬S2 q.1):Vw S hb h' (c+m) l :=
 ⟨v.ex.andThen x hS,(v.bk.keep λq hq=>x.get _ (v.bk.lt q hq) (hl q hq)).up x.le⟩
theorem Blk.drop {b0:Nat}:∀{top:Nat}{l:List (Nat×O)}(n:Nat),Blk S b0 h top l->Blk S b0 h top (l.drop n)
 | _,_,0,b=>b
 | _,[],_+1,_=>trivial
 | _,(_,_)::_,n+1,⟨h1,_,_,h4⟩=>(h4.drop n).up (Nat.le_of_lt h1)
theorem Vw.drop (v:Vw S hb h c l) (n:Nat):Vw S hb h c (l.drop n):=⟨v.ex,v.bk.drop n⟩
theorem Vw.toExt (v:Vw S hb h c l) (hS:∀b,S b->hb.next<=b):Ext hb h c:=by
 have:=ExtX.ext (Ext.refl hb) v.ex hS;exact this.mono (by omega)
abbrev zW:Nat->Prop:=λ_=>False
theorem Vw.ex0 (v:Vw zW hb h c l):Ext hb h c:=v.toExt λ_ g=>g.elim
variable {cx:Ctx}
theorem Vw.st (v:Vw S hb h c l) (i:Nat) {t f:Nat}{ti:TI}{cs cs':Cs}{k:Rk}{op:Bool}{u:V}(e:l[i]? = some (p,.cells cs k true op)) (hn:h.next<=T.top) (ht:cx.ty.get t=some ti) (hl:wL u.cells ti.size=true) (hf:k.fz<=f) (ho:zU u.cells=true)
  (hp:cs.put f u.cells=some cs'):∃h',yA cx t h (.ptr p f) u=some h'/\Vw S hb h' c (l.set i (p,.cells cs' k true op))/\h'.next=h.next/\∀b,b≠p->h'.get b=h.get b :=
 ⟨_,k9 ht (v.get i e) hl hf ho hp,v.upd i e hn,rfl,λ_ hb=>yy _ (oI (v.lt i e) hn) hb⟩
theorem Vw.ld1 (v:Vw S hb h c l) (i:Nat) {t f:Nat}{ti:TI}{cs:Cs}{k:Rk}{w op:Bool}{u:V}(e:l[i]? = some (p,.cells cs k w op)) (ht:cx.ty.get t=some ti) (hd:xi ti.desc=false) (hv:cs.get? f=some u):zO cx t h (.ptr p f)=some u:=zBa ht hd (v.get i e) hv
theorem Vw.ldA (v:Vw S hb h c l) (i:Nat) {t f:Nat}{ti:TI}{cs:Cs}{k:Rk}{w op:Bool}{x:List V}(e:l[i]? = some (p,.cells cs k w op)) (ht:cx.ty.get t=some ti) (hd:xi ti.desc=true) (hv:cs.range f ti.size=some x):zO cx t h (.ptr p f)=some (.agg x):=zHU ht hd (v.get i e) hv
def Sep (S:Nat->Prop) (b0:Nat) (l:List (Nat×O)) (v:V):Prop:=∀b,ym v=some b->(S b\/b0<=b)/\∀q∈l,q.1≠b
theorem Ow.blk {h:H}{v:V}{te:TI}{n:Nat}{xs:List V}(s:Ow h v te n xs) {b:Nat}(hb:ym v=some b):b<h.next:=by
 obtain⟨_,⟨rfl,_⟩|⟨b',cs,rfl,h3,_⟩⟩:=s
 ·cases hb
 ·cases hb;exact h3
theorem Ow.one1 {h:H}{v:V}{te:TI}{n:Nat}{xs:List V}(s:Ow h v te n xs):v.cells=[v]/\zU [v]=true:=by
 obtain⟨_,⟨rfl,_⟩|⟨b',cs,rfl,h3,_⟩⟩:=s
 ·exact⟨rfl,rfl⟩
 ·exact⟨rfl,rfl⟩
theorem Sl.one1 {h:H}{v:V}{k n:Nat}{xs:List V}(s:Sl h v k n xs):v.cells=[v]/\zU [v]=true:=by
 obtain⟨_,⟨rfl,_⟩|⟨b,o,cp,cs,k,w,op,rfl,_⟩⟩:=s
 ·exact⟨rfl,rfl⟩
 ·exact⟨rfl,rfl⟩
theorem Vw.grow {v v':V}{te:TI}{k:Nat}{xs:List V}(w:Vw S hb h c l) (sp:Sep S hb.next l v)
  (a:Ow h' v' te k xs/\h.next<=h'.next/\h'.next<=h.next+1/\(∀b,b<h.next->ym v≠some b->h'.get b=h.get b)/\ym v'=some h.next/\h'.low<=h.low/\(∀m,m<=h.low->(∀b,ym v=some b->m<=b)->m<=h'.low)) :
  Vw S hb h' (c+1) l/\Ow h' v' te k xs/\Sep S hb.next l v':=by
 obtain⟨a1,a2,a3,a4,a5,a6,a7⟩:=a;refine⟨w.apart (ExtX.append a2 a3 a4 a6 a7) (λb g=>(sp b g).1) (λq hq g=>(sp _ g).2 q hq rfl),a1,λb g=>?_⟩
 rw[a5]at g;cases g;exact⟨.inr w.le,λq hq=>Nat.ne_of_lt (w.bk.lt q hq)⟩
end
def Row (cs:Cs) (n:Nat) (xs:List V):Prop:=cs.wf/\cs.len=n/\xs.length=n/\∀i,i<n->cs.get? i=xs[i]?
abbrev yv (cs:Cs):O:=.cells cs ⟨0,0,0⟩ true false
theorem Row.sl {h:H}{b n:Nat}{cp:Cap}{cs:Cs}{k:Rk}{w op:Bool}{xs:List V}(r:Row cs n xs) (hb:b<h.next) (hg:h.get b=some (.cells cs k w op)):Sl h (.slice b 0 n cp) 1 n xs :=
 ⟨by rw[r.2.2.1,Nat.mul_one],.inr ⟨b,0,cp,cs,k,w,op,rfl,hb,hg,λi hi=>by rw[Nat.zero_add];exact r.2.2.2 i (by omega)⟩⟩
section
variable {S:Nat->Prop}{hb h h':H}{c m i p:Nat}{l:List (Nat×O)}{o:O}{cx:Ctx}
theorem Row.make {te ti:TI}{k t e:Nat}{z:V}(ht:cx.ty.get t=some ti) (hd:ti.desc = .slice e) (he:cx.ty.get e=some te) (hz:te.zero=some z) (hzc:z.cells=[z]) (hs:te.size=1) (hk:k<=262143) (hb:te.bytes*k<=1099511627776) (hn:h.next<T.top) :
  ∃cs,we cx t (.int .i64 k) (.int .i64 k) h=some (.slice h.next 0 k (.exact k),h.new (yv cs))/\Row cs k (List.replicate k z):=by
 obtain⟨cs,h1,h2⟩:=Cs.rep_some (v:=z) hk;obtain⟨h3,h4⟩:=Cs.rep_eq h1;refine⟨cs,?_,h2,h3,by rw[List.length_replicate],λi hi=>by rw[h4,if_pos hi,List.getElem?_replicate,if_pos hi]⟩
 unfold we;have e2:xB (k:Int)=some k:=rfl;simp only[e2,ht,hd,he,hz];have hle:wL z.cells te.size=true:=yO.2 (by rw[hzc,hs];rfl);rw[oC (oO k),oC (show k<=4294967296 by omega),oC hb,hle];simp only[Bool.and_self,oK];unfold zCs ky;rw[hzc];simp only[h1,(z8 _ _).2 hn,oK]
theorem Vw.set (v:Vw S hb h c l) (i:Nat) {e n j:Nat}{te:TI}{cs:Cs}{k:Rk}{op:Bool}{u:V}{xs:List V}(r:Row cs n xs) (hi:l[i]? = some (p,.cells cs k true op)) (hn:h.next<=T.top) (hj:j<n) (he:cx.ty.get e=some te) (hs:te.size=1) (hf:k.fz=0) (hu:u.cells=[u]) (ho:u.one=true) :
  ∃h' cs',yA cx e h (.ptr p j) u=some h'/\Row cs' n (xs.set j u)/\Vw S hb h' c (l.set i (p,.cells cs' k true op))/\h'.next=h.next:=by
 obtain⟨cs',p1,p2⟩:=Cs.put_some (cs:=cs) r.1 (o:=j) (vs:=[u]) (by rw[r.2.1];simp;omega);obtain⟨_,p3,p4⟩:=Cs.put_eq p1;obtain⟨h',e1,w,n1,_⟩:=v.st (cx:=cx) i (t:=e) (f:=j) (u:=u) (cs':=cs') hi hn he (yO.2 (by rw[hu,hs];rfl)) (by rw[hf];exact oJ _) (by rw[hu];simp[zU,ho]) (by rw[hu];exact p1);refine⟨h',cs',e1,⟨p2,by rw[p3,r.2.1],by rw[oc,r.2.2.1],λa ha=>?_⟩,w,n1⟩
 rw[p4];by_cases c1:a=j
 ·subst c1
  rw[if_pos ⟨oO _,by simp⟩,Nat.sub_self,List.getElem?_set_self (by rw[r.2.2.1];exact hj)];rfl
 ·rw[if_neg (by simp;omega),oW (λq=>c1 q.symm)]
  exact r.2.2.2 a ha
theorem zr {t e b n j:Nat}{cp:Cap}{ti te:TI}(ht:cx.ty.get t=some ti) (hd:ti.desc = .slice e) (he:cx.ty.get e=some te) (hs:te.size=1) (hj:j<n):zV cx t (.slice b 0 n cp) (.int .i64 j)=some (.ptr b j):=by
 unfold zV;show(match xB (Int.ofNat j),cx.ty.get t with|some i,some ti=>_|_,_=>_)=_
 simp only[xB,ht,hd,he,(z8 _ _).2 hj,oK,hs,Nat.mul_one,Nat.zero_add]
end
end Go.Sim
namespace Go.Sim
open Go (Oper)
variable {c:Ctx}{orc:Nat->List V->H->Option (V×H)}{b:Bool}{ih:Bool->Code->St->Option Out}
theorem zK5 {o:Oper}{t:Nat}{a:Operand}{e:Operand->Option V}{h:H}{p v:V}(ho:o.op = .load t a) (he:e a=some p) (hl:zO c t h p=some v):yD c o e h=some (.val v h):=by
 unfold yD;simp only[ho,he,hl];rfl
theorem zED {h:H}(hl:h.low<=T.top):yh h (za h)=h:=by
 show(⟨h.tbl,h.next,cond (Nat.ble h.low T.top) h.low T.top⟩:H)=h;rw[oC hl,oK]
theorem zEE {h:H}{p:Nat}{o:Option O}(hp:p<T.top):yh h ((za h).upd p o)=h.upd p o:=by
 cases h with
 | mk t n l =>
  show(⟨t.set p o,n,cond (Nat.ble l (cond (Nat.ble T.top p) T.top p)) l (cond (Nat.ble T.top p) T.top p)⟩:H)=⟨t.set p o,n,cond (Nat.ble l p) l p⟩;have:Nat.ble T.top p=false:=by
   cases hb:Nat.ble T.top p with
   | false=>rfl
   | true=>have:=oE hb;omega
  rw[this,oL]
end Go.Sim
