/- P. No condition. -/
import Derived.Test.YtnpeieeomokomaaGreatZO
namespace Go.Sim
section
variable {P:Program}{c:Ctx}{orc:Nat->List V->H->Option (V×H)}{rd:Option Nat}
theorem Jx {ρ:Env}{D:Nat->Prop}{n:Nat}:∀(ps:List Tmp) (vs:List V) (tm tm':Tm) (arr:Array Value),xy ps vs n tm=some tm'->TmR ρ D n tm arr->(∀v∈vs,v.In D) ->
  ps.length=vs.length/\TmR ρ D n tm' ((ps.zip (vs.map (V.conc ρ))).foldl (λtmps (x:Tmp×Value)=>tmps.setIfInBounds x.1 x.2) arr):=by
 intro ps
 induction ps with
 | nil =>
  intro vs tm tm' arr e k _;cases vs with
  | nil=>simp only[xy,oA]at e;subst e;exact⟨rfl,k⟩
  | cons v vs=>simp[xy]at e
 | cons p ps ih =>
  intro vs tm tm' arr e k hin;cases vs with
  | nil=>simp[xy]at e
  | cons v vs =>
   simp only[xy]at e;cases hb:Nat.blt p n with
   | false=>simp[hb]at e
   | true =>
    simp only[hb,oK]at e;obtain⟨i1,i2⟩:=ih vs _ tm' _ e (k.put ((z8 _ _).1 hb) (hin v (List.mem_cons_self ..))) (λu hu=>hin u (oH _ hu))
    exact⟨by simp[i1],i2⟩
theorem zKO {ps:Array Tmp}{vs:List Value}{arr:Array Value}:(ps.zip vs.toArray).foldl (λtmps (x:Tmp×Value)=>tmps.setIfInBounds x.1 x.2) arr=(ps.toList.zip vs).foldl (λtmps (x:Tmp×Value)=>tmps.setIfInBounds x.1 x.2) arr:=by
 rw[<-Array.foldl_toList];simp
theorem qY {ih:Bool->Code->St->Option Out}(hih:ju P ih) {l:Nat}{args:List V}{h:H}{out:CallOut}(e:kb ih l args h=some out):zUv P l args h out:=by
 intro ρ D w hr hd hin;unfold kb at e;split at e
 ·rename_i st pend n tm params assign body df hg
  split at e
  ·cases e
  ·rename_i tm' htm
   split at e
   ·rename_i s1 hs1
    obtain⟨fn,tmps,hw,htmR,hdf⟩:=hr.rel l _ hd hg;obtain⟨p1,p2⟩:=Jx params.toList args tm tm' tmps htm htmR hin;have hy:=run_yield (P:=P) (w:=w) (args:=(args.map (V.conc ρ)).toArray) hw (by simpa using p1.symm);refine⟨fn,_,assign,body,hy,?_⟩;have hd':∀k,some l=some k->D k:=λk hk=>by cases hk;exact hd
    refine roundIn_of_wpIn (F:=Fx none) trivial ?_;have hz:=zKO (ps:=params) (vs:=args.map (V.conc ρ)) (arr:=tmps);have hk0:StR ρ D { n:=n,tm:=tm',dfr:=[],heap:=h } { tmps:=(params.zip (args.map (V.conc ρ)).toArray).foldl (λtmps (x:Tmp×Value)=>tmps.setIfInBounds x.1 x.2) tmps,defers:=[] } w :=
     ⟨by rw[hz];exact p2,rfl,λ_ h=>(by cases h),hr⟩
    refine wpIn_mono (hih (some l) _ _ _ _ hs1 ρ D w _ hk0 hd') ?_;rintro ex a1 w1 ⟨ρ1,m1,k1,rfl,_⟩;have m1:Mv ρ D h w ρ1 s1.heap w1:=m1;have k1:StR ρ1 (Dx D h s1.heap) s1 a1 w1:=k1;show ∃w₂,_;unfold JK at e;split at e
    ·rename_i pend2 n2 tm2 ps2 as2 bd2 df2 hg2
     split at e
     ·rename_i x s2 hs2
      have hd1:Dx D h s1.heap l:=.inl hd;obtain⟨fn2,tmps2,hw2,htm2,hdf2⟩:=k1.hr.rel l _ hd1 hg2;have hO:ORel ρ1 (Dx D h s1.heap) l (.loop .busy pend2 n2 tm2 ps2 as2 bd2 df2) (some (.loop { state:=.busy,pending:=pend2,fn:=fn2,tmps:=tmps2,params:=ps2,assign:=as2,body:=bd2,defers:=ρ1.blk df2 })):=⟨fn2,tmps2,rfl,htm2,hdf2⟩;have hr2:=k1.hr.upd hd1 hg2 rfl rfl hO;have m2:=Mv.upd (o':=.loop .busy pend2 n2 tm2 ps2 as2 bd2 df2) (x:=.loop { state:=.busy,pending:=pend2,fn:=fn2,tmps:=tmps2,params:=ps2,assign:=as2,body:=bd2,defers:=ρ1.blk df2 }) k1.hr hd1 hg2 rfl rfl;have hb1:ρ1.blk l=ρ.blk l:=(m1.agree l hd).1;refine⟨_,by rw[<-hb1];exact run_beginRound hw2 rfl,?_⟩;have hDx0:Dx (Dx D h s1.heap) s1.heap (s1.heap.upd l (some (.loop .busy pend2 n2 tm2 ps2 as2 bd2 df2)))=Dx D h s1.heap:=wa (yx _ _ _);have k2:=k1.step m2 (by rw[hDx0];exact hr2);rw[hDx0]at k2;have hb:=hih (some l) _ _ _ _ hs2 ρ1 (Dx D h s1.heap) _ a1 k2 (λk hk=>by cases hk;exact hd1);rw[show((Fx none).inRound (ρ.blk l))=Fx ((some l).map ρ1.blk)from by simp[Fx,Fence.inRound,hb1]];refine wpIn_mono hb ?_;rintro ex2 a2 w2 ⟨ρ2,m3,k3,rfl,hx2⟩;clear hx2;have m3':Mv ρ D h w ρ2 s2.heap w2:=Mv.trans hr.lt m1 (Mv.trans k1.hr.lt m2 (by rw[hDx0];exact m3));have hDx1:Dx (Dx D h s1.heap) (s1.heap.upd l (some (.loop .busy pend2 n2 tm2 ps2 as2 bd2 df2))) s2.heap=Dx D h s2.heap:=xS (h1:=s1.heap.upd l (some (.loop .busy pend2 n2 tm2 ps2 as2 bd2 df2))) m1.next m3.next;rw[hDx1]at k3;unfold j3 at e;split at e
      ·rename_i st4 pend4 n4 tm4 ps4 as4 bd4 df4 _ hg4
       have hd4:Dx D h s2.heap l:=.inl hd;obtain⟨fn4,tmps4,hw4,htm4,hdf4⟩:=k3.hr.rel l _ hd4 hg4;have hb4:ρ2.blk l=ρ.blk l:=(m3'.agree l hd).1;have fin:∀(st5:LoopState) (j:Option Code) (v:V),(∀D,v.In D)->v.conc ρ2 = .bool j.isNone->st5=(if j.isNone then .ready else .done) ->
         ∃v' w',(Instr.endRound (ρ.blk l) j).run P w2 = .ok v' w'/\CallOut.post ρ D h w (.ret v (s2.heap.upd l (some (.loop st5 j n4 tm4 ps4 as4 bd4 df4)))) (.returned v') w':=by
        intro st5 j v hv hvc hst;have hO5:ORel ρ2 (Dx D h s2.heap) l (.loop st5 j n4 tm4 ps4 as4 bd4 df4) (some (.loop { state:=st5,pending:=j,fn:=fn4,tmps:=tmps4,params:=ps4,assign:=as4,body:=bd4,defers:=ρ2.blk df4 })):=⟨fn4,tmps4,rfl,htm4,hdf4⟩;refine⟨_,_,by rw[<-hb4];exact run_endRound j hw4,ρ2,by rw[hvc],?_,?_,hv _⟩
        ·have m5:=Mv.upd (o':=.loop st5 j n4 tm4 ps4 as4 bd4 df4) (x:=.loop { state:=st5,pending:=j,fn:=fn4,tmps:=tmps4,params:=ps4,assign:=as4,body:=bd4,defers:=ρ2.blk df4 }) k3.hr hd4 hg4 rfl rfl
         subst hst;exact Mv.trans hr.lt m3' m5
        ·have:=k3.hr.upd hd4 hg4 rfl rfl hO5
         subst hst;exact this
       split at e
       ·simp only[oA]at e;subst e
        exact fin .ready none (.bool true) (λ_=>by simp[V.In]) (by simp[V.conc]) rfl
       ·simp only[oA]at e;subst e
        exact fin .done (some .ret) (.bool false) (λ_=>by simp[V.In]) (by simp[V.conc]) rfl
       ·rename_i id
        simp only[oA]at e;subst e;exact fin .done (some (.exit id)) (.bool false) (λ_=>by simp[V.In]) (by simp[V.conc]) rfl
       ·cases e
      ·cases e
     ·cases e
    ·cases e
   ·cases e
 ·cases e
def zXt:Option Code->AX->Prop
 | none,x=>x = .normal
 | some .ret,x=>x = .ret
 | some (.exit id),x=>x = .exit id
 | _,_=>False
theorem XO (ok:CtxOK P c) (hor:yg P c orc) {ih:Bool->Code->St->Option Out}(hih:ju P ih) {f:Operand}{params:Array Tmp}{assign body:Code}{s:St}{x:AX}{s':St}
  (e:qW c orc ih rd.isSome f params assign body s=some (.done x s')):SimC P rd (.rangeFunc f params assign body) s x s':=by
 intro ρ D w a k hl;unfold qW at e;split at e
 ·rename_i g first captured hf
  cases hc:(rd.isSome || !(Nat.blt (s.heap.next+1) T.top))with
  | true=>simp[hc]at e
  | false =>
   simp only[hc,oL]at e;simp only[Bool.or_eq_false_iff,Bool.not_eq_false']at hc;obtain⟨hrd,hcap⟩:=hc;have hcap':=(z8 _ _).1 hcap;have hrn:rd=none:=by cases rd with|none=>rfl|some l=>simp at hrd
   subst hrn;split at e
   ·rename_i v3 h3 hcall
    obtain⟨f1,f2⟩:=wU k _ _ hf;simp only[V.In,V.InL_iff]at f2;refine wpIn_rangeFunc (F:=Fx none) (λfn _=>?_);have g0:s.heap.next<T.top:=by omega
    have hnd:¬D s.heap.next:=λhd=>by have:=k.hr.lt _ hd;omega
    have r1:=k.hr.new (o:=.deferred true) (x:=.deferred (some [])) 0 g0 rfl;have m1:=Mv.new (o:=.deferred true) (x:=.deferred (some [])) k.hr 0 g0 rfl;generalize hh1:s.heap.new (.deferred true)=h1 at *;have hn1:h1.next=s.heap.next+1:=by rw[<-hh1];rfl
    generalize hρ1:ρ.at s.heap.next w.heap.size 0=ρ1 at *;have hb1:ρ1.blk s.heap.next=w.heap.size:=by rw[<-hρ1];simp
    have hnew1:Dx D s.heap h1 s.heap.next:=.inr ⟨oO _,by omega⟩;have hnd1:¬Dx D s.heap h1 h1.next:=λhd=>by have:=r1.lt _ hd;omega
    have g1:h1.next<T.top:=by omega
    have htm1:TmR ρ1 (Dx D s.heap h1) s.n s.tm a.tmps:=k.tm.agree xZ m1.agree
    let L:Loop:={ state:=.ready,pending:=none,fn,tmps:=a.tmps,params,assign,body,defers:=w.heap.size }
    let w1:=w.alloc (.deferred (some []))
    have hag2:Agree (Dx D s.heap h1) ρ1 (ρ1.at h1.next w1.heap.size 0):=Env.at_agree hnd1;have hO2:ORel (ρ1.at h1.next w1.heap.size 0) (Dx (Dx D s.heap h1) h1 (h1.new (.loop .ready none s.n s.tm params assign body s.heap.next))) h1.next (.loop .ready none s.n s.tm params assign body s.heap.next) (some (.loop L)) :=
     ⟨fn,a.tmps,by rw[(hag2 _ hnew1).1,hb1],htm1.agree xZ hag2,xZ _ hnew1⟩
    have r2:=r1.new (x:=.loop L) 0 g1 hO2;have m2:=Mv.new (o:=.loop .ready none s.n s.tm params assign body s.heap.next) (x:=.loop L) r1 0 g1 rfl;have hh2:(s.heap.next+1)=h1.next:=hn1.symm;rw[hh2]at hcall e;generalize hh2':h1.new (.loop .ready none s.n s.tm params assign body s.heap.next)=h2 at *;have hn2:h2.next=h1.next+1:=by rw[<-hh2'];rfl
    generalize hρ2:ρ1.at h1.next w1.heap.size 0=ρ2 at *;have hb2:ρ2.blk h1.next=w1.heap.size:=by rw[<-hρ2];simp
    have hnew2:Dx (Dx D s.heap h1) h1 h2 h1.next:=.inr ⟨oO _,by omega⟩;have m12:Mv ρ D s.heap w ρ2 h2 (w1.alloc (.loop L)):=Mv.trans k.hr.lt m1 m2;have hDx2:Dx (Dx D s.heap h1) h1 h2=Dx D s.heap h2:=xS (by omega) (by omega);rw[hDx2]at r2 hnew2;have hin:∀v∈first++(.yield h1.next::captured),v.In (Dx D s.heap h2):=by
     intro v hv;rcases List.mem_append.1 hv with q|q
     ·exact V.In_mono xZ _ (f2.2.1 v q)
     ·rcases oY.1 q with rfl|q
      ·simp only[V.In];exact hnew2
      ·exact V.In_mono xZ _ (f2.2.2 v q)
    have hsim:=kQ ok hor hih hcall ρ2 _ _ r2 hin;have hconc:∀(v:V),v.In D->v.conc ρ2=v.conc ρ:=λv hv=>V.conc_agree m12.agree v hv
    obtain⟨fi,hfi⟩:=Kh hor hcall;have hargs:((first++(.yield h1.next::captured)).map (V.conc ρ2)).toArray=((V.concL ρ first).toArray ++ #[Value.func (.yield (w.heap.size+1)) #[] #[]])++(V.concL ρ captured).toArray:=by
     apply Array.ext';have e1:first.map (V.conc ρ2)=V.concL ρ first:=by rw[V.concL_eq];exact List.map_congr_left λv hv=>hconc v (f2.2.1 v hv)
     have e2:captured.map (V.conc ρ2)=V.concL ρ captured:=by rw[V.concL_eq];exact List.map_congr_left λv hv=>hconc v (f2.2.2 v hv)
     have hw1:w1.heap.size=w.heap.size+1:=by simp[w1]
     simp[e1,e2,V.conc,hb2,hw1]
    have hw1:w1.heap.size=w.heap.size+1:=by simp[w1]
    refine⟨w.heap.size+1,[{ target:=.collected w.heap.size,args:=#[] }],w1.alloc (.loop L),
     { target:=.fn (.func g) (V.concL ρ captured).toArray,args:=(V.concL ρ first).toArray ++ #[Value.func (.yield (w.heap.size+1)) #[] #[]] },w1.alloc (.loop L),g,
     ((first++(.yield h1.next::captured)).map (V.conc ρ2)).toArray,w1.alloc (.loop L),run_enterLoop_outer fn a.tmps params assign body,?_,λ_ _=>trivial,?_,λh=>by simp[Fx]at h,?_⟩
    ·simp only[resolve,f1,V.conc,Deferred.ofValue,Sem.run_pure]
     congr 2
     simp[Act.eval]
    ·simp only[invoke]
     rw[<-hargs];exact jz ok hfi _ _
    ·refine CallsIn.mono hsim ?_
     rintro ex w3 ⟨ρ3,rfl,m3,r3,_⟩;unfold j2 at e;split at e
     ·rename_i st pend n4 tm4 ps4 as4 bd4 df4 hg4
      have hm:Mv ρ D s.heap w ρ3 h3 w3:=Mv.trans k.hr.lt m12 m3;have hDx3:Dx (Dx D s.heap h2) h2 h3=Dx D s.heap h3:=xS (by omega) m3.next;rw[hDx3]at r3;have hd4:Dx D s.heap h3 h1.next:=.inr ⟨by omega,by have:=m3.next;omega⟩;have hd0:Dx D s.heap h3 s.heap.next:=.inr ⟨oO _,by have:=m3.next;omega⟩;obtain⟨fn4,tmps4,hw4,htm4,hdf4⟩:=r3.rel _ _ hd4 hg4;have hb4:ρ3.blk h1.next=w.heap.size+1:=by rw[(m3.agree _ hnew2).1,hb2,hw1]
      have hb0:ρ3.blk s.heap.next=w.heap.size:=by
       rw[(m3.agree _ (by rw[<-hDx2];exact xZ _ hnew1)).1,(m2.agree _ hnew1).1,hb1]
      have hO5:ORel ρ3 (Dx D s.heap h3) h1.next (.loop .exhausted pend n4 tm4 ps4 as4 bd4 df4) (some (.loop { state:=.exhausted,pending:=pend,fn:=fn4,tmps:=tmps4,params:=ps4,assign:=as4,body:=bd4,defers:=ρ3.blk df4 })):=⟨fn4,tmps4,rfl,htm4,hdf4⟩;have r5:=r3.upd hd4 hg4 rfl rfl hO5;have m5:=Mv.upd (o':=.loop .exhausted pend n4 tm4 ps4 as4 bd4 df4) (x:=.loop { state:=.exhausted,pending:=pend,fn:=fn4,tmps:=tmps4,params:=ps4,assign:=as4,body:=bd4,defers:=ρ3.blk df4 }) r3 hd4 hg4 rfl rfl;have hmm:Mv ρ D s.heap w ρ3 (h3.upd h1.next (some (.loop .exhausted pend n4 tm4 ps4 as4 bd4 df4))) _:=Mv.trans k.hr.lt hm m5;have hstR:StR ρ3 (Dx D s.heap (h3.upd h1.next (some (.loop .exhausted pend n4 tm4 ps4 as4 bd4 df4)))) { n:=s.n,tm:=s.tm,dfr:=.coll s.heap.next::s.dfr,heap:=h3.upd h1.next (some (.loop .exhausted pend n4 tm4 ps4 as4 bd4 df4)) }
        { a with defers:=[{ target:=.collected w.heap.size,args:=#[] }]++a.defers } (w3.putObj (ρ3.blk h1.next) (.loop { state:=.exhausted,pending:=pend,fn:=fn4,tmps:=tmps4,params:=ps4,assign:=as4,body:=bd4,defers:=ρ3.blk df4 })):=by
       refine⟨k.tm.agree xZ hmm.agree,?_,?_,r5⟩
       ·simp only[List.map_cons,AD.conc,hb0,List.singleton_append]
        rw[k.dfr,ZW hmm.agree k.dfrIn]
       ·intro d hd
        rcases oY.1 hd with rfl|q
        ·exact hd0
        ·exact AD.In_mono xZ (k.dfrIn d q)
      rw[hb4]at hw4 hstR hmm;have fin:∀(x1:AX),st≠.busy->(∀v,x1≠.panic v)->zXt pend x1 ->
        x=x1->s' = { n:=s.n,tm:=s.tm,dfr:=.coll s.heap.next::s.dfr,heap:=h3.upd h1.next (some (.loop .exhausted pend n4 tm4 ps4 as4 bd4 df4)) } ->
        rangePost (Fx none) 0 P (w.heap.size+1) (Ends ρ D s w x s') { a with defers:=[{ target:=.collected w.heap.size,args:=#[] }]++a.defers } (.returned (v3.conc ρ3)) w3:=by
       rintro x1 hst hnp hp rfl rfl;refine⟨pend,_,run_endLoop hw4 hst,?_⟩;clear e hw4 hO5 r5 m5 hg4;generalize hH:h3.upd h1.next (some (.loop .exhausted pend n4 tm4 ps4 as4 bd4 df4))=hE at *;generalize hW:w3.putObj (w.heap.size+1) (.loop { state:=.exhausted,pending:=pend,fn:=fn4,tmps:=tmps4,params:=ps4,assign:=as4,body:=bd4,defers:=ρ3.blk df4 })=wE at *;clear hH hW;cases pend with
       | none=>(change x = .normal at hp);subst hp;exact⟨ρ3,hmm,hstR,rfl,trivial⟩
       | some j =>
        cases j with
        | ret=>(change x = .ret at hp);subst hp;exact wpIn_ret ⟨ρ3,hmm,hstR,rfl,trivial⟩
        | exit id=>(change x = .exit id at hp);subst hp;exact wpIn_exit ⟨ρ3,hmm,hstR,rfl,trivial⟩
        | _=>exact hp.elim
      split at e
      ·cases e
      ·rename_i hnb
       cases pend with
       | none =>
        simp only[oA,Out.done.injEq]at e;exact fin .normal (λh=>hnb h) (λ_ h=>by cases h) rfl e.1.symm e.2.symm
       | some j =>
        cases j with
        | ret =>
         simp only[oA,Out.done.injEq]at e;exact fin .ret (λh=>hnb h) (λ_ h=>by cases h) rfl e.1.symm e.2.symm
        | exit id =>
         simp only[oA,Out.done.injEq]at e;exact fin (.exit id) (λh=>hnb h) (λ_ h=>by cases h) rfl e.1.symm e.2.symm
        | _=>simp at e
     ·cases e
   ·cases e
 ·cases e
end
end Go.Sim
namespace Go.Sim
section
variable {P:Program}{c:Ctx}{orc:Nat->List V->H->Option (V×H)}{rd:Option Nat}
theorem zIf {o:Oper}{ev:Operand->Option V}{h:H}{an:AN}{cl:Call}(ho:o.op = .defer cl) (e:yD c o ev h=some an):∃d,an = .dfr d:=by
 unfold yD at e;simp only[ho]at e;split at e
 ·split at e
  ·simp only[oA]at e;exact⟨_,e.symm⟩
  ·cases e
 ·cases e
theorem JO {o:Oper}{ev:Operand->Option V}{h:H}{an:AN}(e:yD c o ev h=some an) (hd:rd.isSome=true->∀d,an≠.dfr d) (r:Nat->Nat) (a:Operand->Value):Oper.semAt (rd.map r) a o=execOp a o:=by
 cases rd with
 | none=>rfl
 | some l =>
  refine Oper.semAt_eq _ _ _ λcl hcl=>?_
  obtain⟨d,hd'⟩:=zIf hcl e;exact hd rfl d hd'
theorem xz (ok:CtxOK P c) (hor:yg P c orc) {ih:Bool->Code->St->Option Out}(hih:ju P ih) {o:Oper}{s s':St}{x:AX}
  (e:z6 c orc rd.isSome ih o s=some (x,s')) {ρ:Env}{D:Nat->Prop}{w:World}{a:Act}(k:StR ρ D s a w) {next:Act->World->Prop}{Q:Exit->Act->World->Prop}
  (hn:x = .normal->∀ρ' v w',Mv ρ D s.heap w ρ' s'.heap w'->(s.dfr=s'.dfr\/rd=none)->StR ρ' (Dx D s.heap s'.heap) s' v w'->next v w')
  (hq:∀v,x = .panic v->∀ρ' w',Mv ρ D s.heap w ρ' s'.heap w'->StR ρ' (Dx D s.heap s'.heap) s' a w'->v.In (Dx D s.heap s'.heap)->Q (.panic [{ v:=v.conc ρ',recovered:=false }]) a w') :
  o.wpIn (Fx (rd.map ρ.blk)) 0 P a w next Q:=by
 refine⟨λ_ _=>trivial,?_⟩
 unfold z6 at e;cases hop:yD c o (yQ s.tm) s.heap with
 | none=>simp[hop]at e
 | some an =>
  have hsem:=JO (rd:=rd) hop;have hs:=Xc (P:=P) (a:=a.eval) ok hop k.hr (λy _ v hv=>wU k y v hv);have put:∀(v:V) (h':H) (ρ':Env) (w':World) (s2:St),yF s o.dst v h'=some s2->Mv ρ D s.heap w ρ' h' w'->HR ρ' (Dx D s.heap h') h' w'->v.In (Dx D s.heap h') ->
    Mv ρ D s.heap w ρ' s2.heap w'/\StR ρ' (Dx D s.heap s2.heap) s2 (a.put o.dst (v.conc ρ')) w':=by
   intro v h' ρ' w' s2 hp m r hv;rw[zBK]at hp;have k1:=k.step m r;have hp':yF { s with heap:=h' } o.dst v ({ s with heap:=h' }:St).heap=some s2:=hp;obtain⟨k2,hh⟩:=StR.put k1 hv hp';have hh:s2.heap=h':=hh;rw[hh];exact⟨m,k2⟩
  have dfrPut:∀(v:V) (h':H) (s2:St),yF s o.dst v h'=some s2->s.dfr=s2.dfr:=by
   intro v h' s2 hp;unfold yF at hp;split at hp
   ·simp only[oA]at hp;subst hp;rfl
   ·rename_i t _
    cases hb:Nat.blt t s.n with
    | false=>simp[hb]at hp
    | true=>simp only[hb,oK,oA]at hp;subst hp;rfl
  simp only[hop]at e;cases an with
  | val v h' =>
   rw[show(Fx (rd.map ρ.blk)).round=rd.map ρ.blk from rfl,hsem (λ_ _ h=>by cases h)];obtain⟨ρ',w',hr,m,r,hv⟩:=hs;simp only at e;split at e
   ·rename_i s2 hp
    simp only[oA,oB]at e;obtain⟨rfl,rfl⟩:=e;obtain⟨m2,k2⟩:=put v h' ρ' w' _ hp m r hv;rw[hr];exact hn rfl _ _ _ m2 (.inl (dfrPut _ _ _ hp)) k2
   ·cases e
  | skip h' =>
   rw[show(Fx (rd.map ρ.blk)).round=rd.map ρ.blk from rfl,hsem (λ_ _ h=>by cases h)];obtain⟨w',hr,m,r⟩:=hs;simp only at e;split at e
   ·rename_i s2 hp
    simp only[oA,oB]at e;obtain⟨rfl,rfl⟩:=e;obtain⟨m2,k2⟩:=put zC h' ρ w' _ hp m r (xY _);rw[hr];rw[xO]at k2;exact hn rfl _ _ _ m2 (.inl (dfrPut _ _ _ hp)) k2
   ·cases e
  | call f args =>
   rw[show(Fx (rd.map ρ.blk)).round=rd.map ρ.blk from rfl,hsem (λ_ _ h=>by cases h)];obtain⟨hin,hr⟩:=hs;simp only at e;cases hcall:xe c orc ih f args s.heap with
   | none=>simp[hcall]at e
   | some out =>
    obtain⟨fi,hfi⟩:=Kh hor hcall;rw[hr,jz ok hfi];refine⟨λh=>by simp[Fx]at h,Ki none _ (CallsIn.mono (kQ ok hor hih hcall ρ D w k.hr hin) ?_)⟩
    simp only[hcall]at e;cases out with
    | ret v h' =>
     simp only at e;rintro en w' ⟨ρ',rfl,m,r,hv⟩;split at e
     ·rename_i s2 hp
      simp only[oA,oB]at e;obtain⟨rfl,rfl⟩:=e;obtain⟨m2,k2⟩:=put v h' ρ' w' _ hp m r hv;exact hn rfl _ _ _ m2 (.inl (dfrPut _ _ _ hp)) k2
     ·cases e
    | panic v h' =>
     simp only[oA,oB]at e;obtain⟨rfl,rfl⟩:=e;rintro en w' ⟨ρ',rfl,m,r,hv⟩;exact hq v rfl ρ' w' m (k.step m r) hv
  | round l args =>
   rw[show(Fx (rd.map ρ.blk)).round=rd.map ρ.blk from rfl,hsem (λ_ _ h=>by cases h)];obtain⟨hl,hin,hr⟩:=hs;simp only at e;cases hround:kb ih l args s.heap with
   | none=>simp[hround]at e
   | some out =>
    simp only[hround]at e;obtain⟨fn,tmps,y,z,hy,hR⟩:=qY hih hround ρ D w k.hr hl hin;rw[hr,hy];refine⟨λh=>by simp[Fx]at h,YU none _ (RoundIn.mono hR ?_)⟩
    cases out with
    | ret v h' =>
     simp only at e;rintro en w' ⟨ρ',rfl,m,r,hv⟩;split at e
     ·rename_i s2 hp
      simp only[oA,oB]at e;obtain⟨rfl,rfl⟩:=e;obtain⟨m2,k2⟩:=put v h' ρ' w' _ hp m r hv;exact hn rfl _ _ _ m2 (.inl (dfrPut _ _ _ hp)) k2
     ·cases e
    | panic v h'=>simp at e
  | dfr d =>
   cases rd with
   | some l=>simp at e
   | none =>
    obtain⟨hdi,hr⟩:=hs;simp only[Option.isSome_none,oL]at e;split at e
    ·rename_i s2 hp
     simp only[oA,oB]at e;obtain⟨rfl,rfl⟩:=e;rw[show(Fx (Option.map ρ.blk none)).round=none from rfl,Oper.semAt_none,hr];have k1:StR ρ D { s with dfr:=d::s.dfr } { a with defers:=d.conc ρ::a.defers } w :=
      ⟨k.tm,by simp[k.dfr],λd' hd'=>by rcases oY.1 hd' with rfl|q<;>first|exact hdi|exact k.dfrIn _ q,k.hr⟩
     obtain⟨k2,hh⟩:=StR.put (s':=s2) k1 (xY D) hp;have hh:s2.heap=s.heap:=hh;refine hn rfl ρ _ w ?_ (.inr rfl) ?_
     ·rw[hh];exact Mv.refl _ _ _ _
     ·rw[hh,zk]
      rw[xO]at k2;exact k2
    ·cases e
  | recover=>simp at e
  | pan v h' =>
   rw[show(Fx (rd.map ρ.blk)).round=rd.map ρ.blk from rfl,hsem (λ_ _ h=>by cases h)];obtain⟨rfl,hv,hr⟩:=hs;simp only[oA,oB]at e;obtain⟨rfl,rfl⟩:=e;rw[hr];exact hq v rfl ρ w (Mv.refl _ _ _ _) (by rw[zk];exact k) (by rw[zk];exact hv)
theorem xR {ρ:Env}{D:Nat->Prop}{s:St}{a:Act}{w:World}(k:StR ρ D s a w) (ops:Array Oper) (o:Oper):Region.wanted o (yielded ops a.tmps)=zZ ops.toList s.tm o:=by
 unfold Region.wanted zZ yielded;cases o.guard with
 | none=>rfl
 | some g =>
  obtain⟨j,wt⟩:=g;simp only[Array.getElem?_toList];cases ops[j]? with
  | none=>simp
  | some o' =>
   simp only[Option.bind_some];cases o'.dst with
   | none=>simp
   | some d =>
    simp only[Option.bind_some];have hval:=k.tm.val d;rw[Array.getD_eq_getD_getElem?]at hval;cases hx:a.tmps[d]? with
    | some y =>
     rw[hx]at hval;simp only[Option.getD_some]at hval;simp only[hval];cases hg:yB s.tm d<;>simp[V.conc]
    | none =>
     rw[hx]at hval;simp only[Option.getD_none]at hval;simp only;cases hg:yB s.tm d<;>rw[hg]at hval<;>first|rfl|simp[V.conc,undef]at hval
theorem zGX (ok:CtxOK P c) (hor:yg P c orc) {ih:Bool->Code->St->Option Out}(hih:ju P ih) {ops:Array Oper} :
  ∀(l:List Oper) (is:List Nat),is.mapM (λi=>ops[i]?)=some l->∀{s s':St}{x:AX},xk c orc rd.isSome ih ops.toList l s=some (.done x s') ->
  ∀{ρ0:Env}{D0:Nat->Prop}{s0:St}{w0:World}{ρ:Env}{w:World}{a:Act},(∀id,D0 id->id<s0.heap.next)->(∀l,rd=some l->D0 l)->Mv ρ0 D0 s0.heap w0 ρ s.heap w->StR ρ (Dx D0 s0.heap s.heap) s a w ->
  wpOpsIn (Fx (rd.map ρ0.blk)) 0 P ops (Ends ρ0 D0 s0 w0 x s') is a w:=by
 intro l
 induction l with
 | nil =>
  intro is his s s' x e ρ0 D0 s0 w0 ρ w a hlt hl m k;cases is with
  | nil =>
   simp only[xk,oA,Out.done.injEq]at e;obtain⟨rfl,rfl⟩:=e;exact⟨ρ,m,k,rfl,trivial⟩
  | cons i is =>
   simp only[List.mapM_cons,Option.bind_eq_bind,Option.bind_eq_some_iff]at his;obtain⟨o,_,l',_,h⟩:=his;simp at h
 | cons o l ih' =>
  intro is his s s' x e ρ0 D0 s0 w0 ρ w a hlt hl m k;cases is with
  | nil=>simp at his
  | cons i is =>
   simp only[List.mapM_cons,Option.bind_eq_bind,Option.bind_eq_some_iff]at his;obtain⟨o',ho,l',hl',h⟩:=his;simp only[Option.pure_def,oA,List.cons.injEq]at h;obtain⟨rfl,rfl⟩:=h;simp only[wpOpsIn,ho];rw[xR k];simp only[xk]at e;cases hw:zZ ops.toList s.tm o' with
   | true =>
    simp only[hw,oK]at e;rw[if_pos rfl];have hl2:∀l,rd=some l->Dx D0 s0.heap s.heap l:=λq hq=>.inl (hl q hq)
    rw[<-wu m.agree hl];split at e
    ·rename_i s1 hs1
     refine xz ok hor hih hs1 k ?_ (λv hv=>by cases hv);intro _ ρ' a' w' m' _ k';rw[wu m.agree hl];rw[xS (D:=D0) m.next m'.next]at k';exact ih' is hl' e hlt hl (Mv.trans hlt m m') k'
    ·rename_i y s1 hy hs1
     simp only[oA,Out.done.injEq]at e;obtain⟨rfl,rfl⟩:=e;refine xz ok hor hih hs1 k (λhn=>absurd hn hy) ?_;intro v hv ρ' w' m' k' hvi;subst hv;have hDx:=xS (D:=D0) m.next m'.next;exact⟨ρ',Mv.trans hlt m m',by rw[<-hDx];exact k',rfl,by rw[<-hDx];exact hvi⟩
    ·cases e
   | false =>
    simp only[hw,oL]at e;rw[if_neg (by simp)];split at e
    ·rename_i s1 hs1
     obtain⟨k2,hh⟩:=StR.put k (xY _) hs1;rw[xO]at k2;exact⟨λ_ _=>trivial,ih' is hl' e hlt hl (by rw[hh];exact m) (by rw[hh];exact k2)⟩
    ·cases e
theorem OB (ops:Array Oper):(List.range ops.size).mapM (λi=>ops[i]?)=some ops.toList:=by
 have h:∀(l:List Oper) (p:List Oper),(List.range' p.length l.length).mapM (λi=>(p++l)[i]?)=some l:=by
  intro l
  induction l with
  | nil=>intro p;simp
  | cons a l ih =>
   intro p;have:=ih (p++[a]);simp only[oR,oS,List.length_nil,Nat.zero_add,List.append_assoc,List.singleton_append]at this;simp[List.range'_succ,List.mapM_cons,this]
 have:=h ops.toList [];simp only[List.length_nil,List.nil_append,Array.length_toList,<-List.range_eq_range',Array.getElem?_toList]at this;exact this
end
end Go.Sim
