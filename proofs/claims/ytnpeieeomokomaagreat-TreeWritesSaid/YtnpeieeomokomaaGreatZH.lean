/- H. No condition. -/
import Derived.Test.YtnpeieeomokomaaGreatZE
import Derived.Lib.Builder
namespace Go.Sim
section
variable {P:Program}{c:Ctx}{ρ:Env}{D:Nat->Prop}{h:H}{w:World}
theorem zA4 (f:Value->ByteArray->Sem (ForInStep ByteArray)) (hf:∀(n:Int) (s:ByteArray) (w:World),(f (.int .u8 n) s).run P w = .ok (.yield (s.push (UInt8.ofNat n.toNat))) w) :
  ∀{l:List V}{y:List UInt8},xQ l=some y->∀(s:ByteArray) (w:World),(forIn (m:=Sem) ((l.map (V.conc ρ))) s f).run P w = .ok ⟨s.data++y.toArray⟩ w:=by
 intro l
 induction l with
 | nil=>intro y e s w;simp only[xQ,oA]at e;subst e;simp
 | cons v l ih =>
  intro y e s w;cases v with
  | int k n =>
   cases k<;>simp only[xQ]at e<;>try (cases e;done)
   cases hb:xQ l with
   | none=>simp[hb]at e
   | some q =>
    simp only[hb,oA]at e;subst e;simp only[List.map_cons,V.conc,List.forIn_cons,Sem.run_bind,hf,Result.andThen_ok];rw[ih hb]
    congr 2
    apply Array.ext';simp[ByteArray.push]
  | _=>simp[xQ]at e
theorem yX (l:List UInt8):yG l=l.map λb=>V.int .u8 (b.toNat:Int):=by
 induction l with
 | nil=>rfl
 | cons b l ih=>simp[yG,ih]
theorem jc (l:List UInt8):∀v∈yG l,v.In D:=by
 intro v hv;rw[yX]at hv;obtain⟨b,_,rfl⟩:=List.mem_map.1 hv;simp[V.In]
theorem Yy {r:Option Cs}{esz:Rk}{op:Bool}{b:Nat}{h':H}(e:ky h r esz op=some (b,h')) :
  h.next<T.top/\∃cs,r=some cs/\b=h.next/\h'=h.new (.cells cs esz true op):=by
 unfold ky at e;cases h1:Nat.blt h.next T.top with
 | false=>simp[h1]at e
 | true =>
  cases r with
  | none=>simp[h1]at e
  | some cs =>
   simp only[h1,oK,oA,oB]at e;exact⟨(z8 _ _).1 h1,cs,rfl,e.1.symm,e.2.symm⟩
theorem zK3 {l:List V}{esz:Rk}{op:Bool}{b:Nat}{h':H}(e:qi h l esz op=some (b,h')):zU l=true/\ky h (Cs.ofL l) esz op=some (b,h'):=by
 unfold qi at e;cases h2:zU l with
 | false=>simp[h2]at e
 | true=>simp only[h2,oK]at e;exact⟨rfl,e⟩
theorem zP5 {l:List V}{esz:Rk}{op:Bool}{b:Nat}{h':H}(e:qi h l esz op=some (b,h')) :
  h.next<T.top/\zU l=true/\∃cs,cs.len=l.length/\(∀i,cs.get? i=l[i]?)/\b=h.next/\h'=h.new (.cells cs esz true op):=by
 obtain⟨h1,h2⟩:=zK3 e;obtain⟨h3,cs,h4,h5,h6⟩:=Yy h2;obtain⟨h7,h8⟩:=Cs.ofL_eq h4;exact⟨h3,h1,cs,h7,h8,h5,h6⟩
theorem J8 (r:HR ρ D h w) {rc:Option Cs}{l:List V}{esz:Rk}{b:Nat}{h':H}(e:ky h rc esz false=some (b,h')) (hl:∀cs,rc=some cs->cs.len=l.length/\∀i,cs.get? i=l[i]?) (hin:∀v∈l,v.In D) (t:TypeId) (hk:∀u,esz.ty=u+1->t=u) :
  ∃ρ',Mv ρ D h w ρ' h' (w.alloc (.cells (l.map (V.conc ρ)).toArray t))/\HR ρ' (Dx D h h') h' (w.alloc (.cells (l.map (V.conc ρ)).toArray t))/\Dx D h h' b /\
   ρ'.blk b=w.heap.size/\ρ'.off b=0:=by
 obtain⟨hn,cs,h1,rfl,rfl⟩:=Yy e;obtain⟨c1,c2⟩:=hl cs h1;obtain⟨a1,a2⟩:=KP r hn (l:=cs) (esz:=esz) (op:=false) (λi v hv=>hin v (List.mem_of_getElem? (by rw[<-c2];exact hv))) (l.map (V.conc ρ)).toArray t (0,0) 0 (λi v hv=>by rw[c2]at hv;simp[hv]) (λi _ _=>by simp) (by simp[c1]) (by simp[c1]) (λu hu=>⟨hk u hu,.inl rfl⟩)
 exact⟨_,a2,a1,zB1,Env.at_blk _ _ _ _,Env.at_off _ _ _ _⟩
theorem YN (r:HR ρ D h w) {l:List V}{esz:Rk}{b:Nat}{h':H}(e:qi h l esz false=some (b,h')) (hin:∀v∈l,v.In D) (t:TypeId) (hk:∀u,esz.ty=u+1->t=u) :
  ∃ρ',Mv ρ D h w ρ' h' (w.alloc (.cells (l.map (V.conc ρ)).toArray t))/\HR ρ' (Dx D h h') h' (w.alloc (.cells (l.map (V.conc ρ)).toArray t))/\Dx D h h' b /\
   ρ'.blk b=w.heap.size/\ρ'.off b=0:=J8 r (zK3 e).2 (λ_ h=>Cs.ofL_eq h) hin t hk
theorem zFz {b n:Nat}{cs:Array Value}{e:TypeId}{fz:Nat×Nat}(h:w.heap[b]? = some (.cells cs e fz)) :
  w.freeze ⟨b,n,none⟩ 1=w.putObj b (.cells cs e (if fz.1 == fz.2 then (n,n+1) else (min fz.1 n,max fz.2 (n+1)))):=by
 have hb:b<w.heap.size:=by
  rcases Nat.lt_or_ge b w.heap.size with g|g
  ·exact g
  ·rw[Array.getElem?_eq_none g]at h;cases h
 unfold World.freeze World.putObj;rw[if_neg (by decide)]
 congr 1
 apply Array.ext_getElem?;intro i;obtain⟨lo,hi⟩:=fz;rw[Array.getElem?_modify];by_cases hi2:b=i
 ·subst hi2
  have hv:w.heap[b] = .cells cs e (lo,hi):=by simpa [Array.getElem?_eq_getElem hb]using h
  simp[hb,hv]
 ·simp[hi2]
theorem zDF (ok:CtxOK P c) {s d:TypeId}{v r:V}{h':H}(e:yt c s d h v=some (r,h')) (hr:HR ρ D h w) (hv:v.In D) :
  Post ρ D h w ((convert s d (v.conc ρ)).run P w) r h':=by
 unfold yt at e;split at e
 ·rename_i ts td hts htd
  obtain⟨i1,k1⟩:=ok.ty s ts hts;obtain⟨i2,k2⟩:=ok.ty d td htd;split at e
  ·rename_i k k' kk n hd1 hd2
   simp only[oA,oB]at e;obtain⟨rfl,rfl⟩:=e;refine Post.of_eq ?_ (Post.pure hr (v:=.int k' (zN k' n)) (by simp[V.In]));simp[convert,z7 k1,z7 k2,hd1,hd2,V.conc,Conv.intToInt,xI]
  ·rename_i l hd1 hd2
   simp only[oA,oB]at e;obtain⟨rfl,rfl⟩:=e;refine Post.of_eq ?_ (Post.pure hr (v:=.str l) (by simp[V.In]));simp[convert,z7 k1,z7 k2,hd1,hd2,V.conc]
  ·rename_i el l hd1 hd2
   split at e
   ·rename_i te hte
    obtain⟨i3,k3⟩:=ok.ty el te hte;split at e
    ·rename_i hd3
     split at e
     ·rename_i b h1 hn
      simp only[oA,oB]at e;obtain⟨rfl,rfl⟩:=e;obtain⟨g1,g2,ccs,cl,cg,rfl,rfl⟩:=zP5 hn;generalize hcp:Question.cut (Question.appendCap l.length 0 el) (w.tape w.drawn (Question.appendCap l.length 0 el))=cp;have hge:l.length<=cp:=by rw[<-hcp];simp only[Question.cut];omega
      have hrd:HR ρ D h w.drew:=hr.of_heap rfl
      let cs:Array Value:=(yG l |>.map (V.conc ρ)).toArray++Array.replicate (cp-l.length) (.int .u8 0)
      have hcs:cs.size=cp:=by simp[cs,yX];omega
      obtain⟨a1,a2⟩:=KP hrd g1 (l:=ccs) (esz:=⟨1,0,0⟩) (op:=true) (λi v hv=>jc l v (List.mem_of_getElem? (by rw[<-cg];exact hv))) cs el (cp,cp+1) cp
       (λi v hv=>by
        rw[cg]at hv;have hi:i<(yG l).length:=(List.getElem?_eq_some_iff.1 hv).1;simp only[cs];rw[Array.getElem?_append_left (by simpa using hi)];simp[hv])
       (λi hi _=>by rw[hcs]at hi;omega) (by rw[hcs,cl,yX];simpa using hge) (by rw[hcs];simp) (λt ht=>by cases ht)
      refine⟨_,_,?_,Mv.trans hr.lt (Mv.of_heap (w':=w.drew) rfl rfl rfl rfl) (by rw[zk];exact a2),a1,by simp only[V.In];exact zB1⟩;have e1:(l.toArray.map λb=>Value.int .u8 (b.toNat:Int))=((yG l).map (V.conc ρ)).toArray:=by
       apply Array.ext';simp[yX,V.conc]
      have hsz:(w.drew.alloc (.cells cs el)).shape? w.drew.heap.size=some (el,cs.size):=by
       unfold World.shape?;rw[World.alloc_heap_new]
      simp only[convert,z7 k1,z7 k2,hd1,hd2,V.conc,Sem.run_bind,Result.andThen_ok,z7 k3,hd3,Conv.stringToBytes,run_choose,Question.forced,if_false,Bool.false_eq_true,World.drew_eq,e1,jO,hcp];simp only[newRow,Sem.run_bind,run_newObj,Result.andThen_ok,World.alloc_eq,Sem.run_pure,markStringish,run_shape];rw[show((yG l).map (V.conc ρ)).toArray++Array.replicate (cp-l.length) (Value.int IntKind.u8 0)=cs from rfl,hsz];simp only[run_freeze,Result.andThen_ok,yu,Nat.add_zero];have hfr:(w.drew.alloc (.cells cs el)).freeze ⟨w.drew.heap.size,cs.size,none⟩ 1=w.drew.alloc (.cells cs el (cp,cp+1)):=by
       unfold World.freeze;simp only[World.alloc,hcs];rw[if_neg (by decide)]
       congr 1
       apply Array.ext_getElem?;intro i;rw[Array.getElem?_modify,Array.getElem?_push,Array.getElem?_push];by_cases hi:i=w.drew.heap.size
       ·subst hi;simp
       ·simp only[hi,if_false]
        rw[if_neg (by omega)]
      simp only[Cap.val,Env.at_blk,Env.at_off,Env.at_cap,Nat.sub_zero];rw[show(⟨(⟨w.drew.heap.size,0,none⟩:Addr).block,cs.size,none⟩:Addr)=⟨w.drew.heap.size,cs.size,none⟩from rfl,hfr]
     ·cases e
    ·cases e
   ·cases e
  ·rename_i el hd1 hd2
   split at e
   ·rename_i te hte
    obtain⟨i3,k3⟩:=ok.ty el te hte;split at e
    ·rename_i hd3
     simp only[oA,oB]at e;obtain⟨rfl,rfl⟩:=e;refine Post.of_eq ?_ (Post.pure hr (v:=.str []) (by simp[V.In]));simp[convert,z7 k1,z7 k2,hd1,hd2,V.conc,z7 k3,hd3,Conv.bytesToString];rfl
    ·cases e
   ·cases e
  ·rename_i tp b o hd1 hd2
   simp only[V.In]at hv;split at e
   ·rename_i tt l esz wr op htt hg
    obtain⟨i3,k3⟩:=ok.ty tp tt htt;cases hb:Nat.blt 0 tt.size with
    | false=>simp[hb]at e
    | true =>
     have hs:=(z8 _ _).1 hb;simp only[hb,oK]at e;split at e
     ·rename_i u hu
      simp only[oA,oB]at e;obtain⟨rfl,rfl⟩:=e;refine Post.of_eq ?_ (Post.pure hr (v:=.ptr b o) (by simpa [V.In]using hv));obtain⟨c0,ee,fz,hx,hc,_,_⟩:=hr.rel b _ hv hg;have hcell:=hc _ _ hu;have hlt:ρ.off b+o<c0.size:=by
       rcases Nat.lt_or_ge (ρ.off b+o) c0.size with g|g
       ·exact g
       ·rw[Array.getElem?_eq_none g]at hcell;cases hcell
      have hsh:w.shape? (ρ.blk b)=some (ee,c0.size):=by unfold World.shape?;rw[hx]
      exact Go.Lib.run_to_unsafe w ⟨ρ.blk b,ρ.off b+o,none⟩ (by rw[k1.und,hd1]) (by rw[k2.und,hd2]) k3.info (by rw[k3.size];omega) hsh hlt
     ·cases e
   ·cases e
  ·rename_i up b o hd1 hd2
   simp only[V.In]at hv;split at e
   ·rename_i tu l esz htu hg
    obtain⟨i3,k3⟩:=ok.ty up tu htu;split at e
    ·rename_i et het
     split at e
     ·rename_i te hte
      obtain⟨i4,k4⟩:=ok.ty et te hte;cases hb:(Nat.blt 0 te.size && Nat.beq l.len te.size && c.lies et up o)with
      | false=>simp[hb]at e
      | true =>
       simp only[hb,oK,oA,oB]at e;obtain⟨rfl,rfl⟩:=e;simp only[oG]at hb;obtain⟨⟨b1,b2⟩,b3⟩:=hb;have hs:=(z8 _ _).1 b1;have hlen:=oF b2;refine Post.of_eq ?_ (Post.pure hr (v:=.ptr b o) (by simpa [V.In]using hv));obtain⟨c0,ee,fz,hx,hc,_,hw⟩:=hr.rel b _ hv hg;obtain⟨hoff,_,_,hsz,hty⟩:=hw rfl;obtain⟨rfl,_⟩:=hty et het;simp only[Bool.false_eq_true,if_false]at hsz;have hsh:w.shape? (ρ.blk b)=some (ee,c0.size):=by unfold World.shape?;rw[hx]
       have hcells:P.cellsOf ee=te.size:=by simp[Program.cellsOf,k4.info,k4.size]
       have hl:=ok.lies _ _ _ b3;refine Go.Lib.run_from_unsafe w ⟨ρ.blk b,ρ.off b+o,none⟩ (by rw[k1.und,hd1]) (by rw[k2.und,hd2]) k3.info hsh ?_;rw[hcells,hsz,hlen,Nat.div_self hs,hoff,Nat.zero_add];exact hl
     ·cases e
    ·cases e
   ·cases e
  ·rename_i el b o len cp hd1 hd2
   simp only[V.In]at hv;split at e
   ·rename_i te hte
    obtain⟨i3,k3⟩:=ok.ty el te hte;split at e
    ·rename_i hd3
     split at e
     ·rename_i l esz wr op hg
      split at e
      ·rename_i x hx
       split at e
       ·rename_i y hy
        ·simp only[oA,oB]at e;obtain⟨rfl,rfl⟩:=e
         obtain⟨p1,_,_⟩:=wR (P:=P) hr hv hg hx;refine Post.of_eq ?_ (Post.pure hr (v:=.str y) (by simp[V.In]));simp only[convert,z7 k1,z7 k2,hd1,hd2,V.conc,Sem.run_bind,Result.andThen_ok,z7 k3,hd3,Conv.bytesToString,p1];rw[<-Array.forIn_toList];simp only;rw[zA4 (P:=P) (ρ:=ρ) _ (λn s w=>by simp) hy ByteArray.empty w];simp
       ·cases e
      ·cases e
     ·cases e
    ·cases e
   ·cases e
  ·rename_i el0 el b o len cp hd1 hd2
   simp only[V.In]at hv;cases hsd:Nat.beq s d with
   | false=>simp[hsd]at e
   | true =>
   have hsd:=oF hsd;subst hsd;simp only[Nat.beq_refl,oK]at e;split at e
   ·rename_i te hte
    obtain⟨i3,k3⟩:=ok.ty el te hte;split at e
    ·rename_i hd3
     split at e
     ·rename_i l esz op hg
      cases hz:(Nat.beq esz.fz 0 && Nat.blt 0 esz.ty)with
      | false=>simp[hz]at e
      | true =>
       simp only[hz,oK,oA,oB]at e;obtain⟨rfl,rfl⟩:=e;simp only[oG]at hz;have hz1:=oF hz.1;have hz2:=(z8 _ _).1 hz.2;obtain⟨c0,ee,fz,hxx,hcell,hcin,hw⟩:=hr.rel b _ hv hg;obtain⟨hoff,hfz,hle,hsz,hty⟩:=hw rfl;have hsh:w.shape? (ρ.blk b)=some (ee,c0.size):=by unfold World.shape?;rw[hxx]
       have hfr:=zFz (w:=w) (n:=c0.size) hxx;obtain⟨et,het⟩:∃et,esz.ty=et+1:=⟨esz.ty-1,by omega⟩;have hlo:fz.1=fz.2:=by
        rcases(hty et het).2 with g|g
        ·exact g
        ·omega
       have hO:ORel ρ D b (.cells l ⟨esz.n,0,0⟩ true op) (some (.cells c0 ee (if fz.1 == fz.2 then (c0.size,c0.size+1) else (min fz.1 c0.size,max fz.2 (c0.size+1))))):=by
        refine⟨c0,ee,_,rfl,hcell,hcin,λ_=>⟨hoff,?_,hle,hsz,λt ht=>by cases ht⟩⟩
        intro i hi _;rw[if_pos (by simpa using hlo)];simp only;omega
       refine⟨ρ,w.putObj (ρ.blk b) (.cells c0 ee (if fz.1 == fz.2 then (c0.size,c0.size+1) else (min fz.1 c0.size,max fz.2 (c0.size+1)))),?_,Mv.upd hr hv hg rfl rfl,by rw[wa (yx _ _ _)];exact HR.upd hr hv hg rfl rfl hO,by rw[wa (yx _ _ _)];simpa [V.In]using hv⟩;rw[<-hfr];simp only[convert,z7 k1,hd1,Sem.run_bind,Result.andThen_ok];have htd2:ts=td:=by rw[hts]at htd;exact Option.some.inj htd
       have hel:el0=el:=by rw[<-htd2,hd1]at hd2;injection hd2
       subst hel;simp only[V.conc,z7 k3,hd3,Sem.run_bind,Result.andThen_ok,beq_self_eq_true,markStringish,run_shape,hsh,run_freeze,Sem.run_pure]
     ·cases e
    ·cases e
   ·cases e
  ·cases e
 ·cases e
end
end Go.Sim
