/- L. No condition. -/
import Derived.Test.YtnpeieeomokomaaGreatZK
namespace Go.Sim
section
variable {P:Program}{c:Ctx}{ρ:Env}{D:Nat->Prop}{h:H}{w:World}
theorem J0 (r:HR ρ D h w) {t tx ty:TypeId}{el:Nat}{te:TI}{i2:TypeInfo}(k2:TyOK P el te i2) (ht:P.underlying t=some (.slice el))
  {b o len n need:Nat}{esz':Rk}{cp:Cap}{l:Cs}{new:List V}{op:Bool}{x:Value}{v:V}{h':H}(e:Zg h b o len cp te.size need l esz' op new=some (v,h')) (hneed:need=len+n)
  (hd:D b) (hg:h.get b=some (.cells l esz' true op)) (hnew:∀u∈new,u.In D) (h1:zU new=true)
  (hs:SrcR P t tx ty el i2 x n (new.map (V.conc ρ)) w) (hroom:need<=cp.val ρ b) :
  Post ρ D h w ((Builtin.append_ #[t,tx] ty #[(V.slice b o len cp).conc ρ,x]).run P w) v h':=by
 subst hneed;unfold Zg at e;split at e
 ·rename_i l' hl'
  cases hfk:Nat.ble esz'.fz (o+len*te.size)with
  | false=>rw[hfk]at e;cases e
  | true =>
  rw[hfk,oK]at e;simp only[oA,oB]at e;obtain⟨rfl,rfl⟩:=e;obtain⟨_,s2,s3,s4,s5⟩:=j5 (P:=P) r hd hg hnew h1 hl' (oE hfk);have hrun:=hs.room (ρ.blk b) (ρ.off b+o) len (cp.val ρ b) hroom
   (λj hj=>by rw[od]at hj;rw[k2.size,Nat.add_assoc (ρ.off b)];exact s4 j hj)
   (λj hj=>by rw[od]at hj;rw[k2.size,Nat.add_assoc (ρ.off b)];exact s5 j hj)
  rw[k2.size,Nat.add_assoc (ρ.off b)]at hrun;exact⟨ρ,_,by rw[V.conc,hrun,V.conc],s3,by rw[wa (yx _ _ _)];exact s2,by rw[wa (yx _ _ _)];simpa [V.In]using hd⟩
 ·cases e
theorem z0U {el:Nat}{te:TI}{i2:TypeInfo}(k2:TyOK P el te i2):∀u,(wv te).ty=u+1->el=u:=λu hu=>by
 have:=k2.id;simp only[wv]at hu;omega
theorem zVK {l cs:Cs}{old new:List V}{m:Nat}(p3:old.length=m) (hold:l.range 0 m=some old) (hll:l.len=m) (h:l.app new=some cs) :
  cs.len=(old++new).length/\∀i,cs.get? i=(old++new)[i]?:=by
 obtain⟨a,b⟩:=Cs.app_eq h;obtain⟨_,_,r3⟩:=Cs.range_eq hold;refine⟨by rw[a,oR];omega,λi=>?_⟩
 rw[b i];by_cases hi:i<l.len
 ·rw[if_pos hi,List.getElem?_append_left (by omega),r3 i (by omega),Nat.zero_add]
 ·rw[if_neg hi,List.getElem?_append_right (by omega)]
  congr 1;omega
theorem J1 {t tx ty el:TypeId}{te:TI}{i2:TypeInfo}(k2:TyOK P el te i2) (ht:P.underlying t=some (.slice el)) (hok:kc te=true) {n:Nat}{new:List V}{s v:V}{x:Value}{h':H}
  (e:appTo te h n new s=some (v,h')) (r:HR ρ D h w) (hs:s.In D) (h0:n=0->new=[]) (hS:zU new=true->SrcR P t tx ty el i2 x n (new.map (V.conc ρ)) w/\(∀u∈new,u.In D)/\new.length=n*te.size) :
  Post ρ D h w ((Builtin.append_ #[t,tx] ty #[s.conc ρ,x]).run P w) v h':=by
 obtain⟨ts,tb,z,hz,hzl⟩:=Oo hok;unfold appTo at e;split at e
 ·-- nil
  cases hn0:Nat.beq n 0 with
  | true =>
   have n0:=oF hn0;simp only[hn0,oK,oA,oB]at e;obtain⟨rfl,rfl⟩:=e;subst n0;have new0:new=[]:=h0 rfl;obtain⟨hS,_,_⟩:=hS (by rw[new0];rfl);refine Post.of_eq ?_ (Post.pure r (v:=.nilslice) (by simp[V.In]));simpa [V.conc]using hS.none rfl none 0 0 (oO _)
  | false =>
   simp only[hn0,oL]at e;have hn:0<n:=by
    rcases Nat.eq_zero_or_pos n with g|g
    ·subst g;simp at hn0
    ·exact g
   cases hone:zU new with
   | false =>
    rw[hone,oL]at e;unfold jS ky at e;cases hb1:Nat.ble (n*te.bytes) 1099511627776<;>cases hb2:Nat.blt h.next T.top<;>simp[hb1,hb2]at e
   | true =>
   rw[hone,oK]at e;obtain⟨hS,hin,hnl⟩:=hS hone;have:=YG (P:=P) (h:=h) r (Mv.refl _ _ _ _) rfl r.lt (ty:=ty) k2 ht hok (base:=none) (len:=0) (cap:=0) (n:=n) (x:=x) (old:=[]) (new:=new) (v:=v) (h':=h') (kr:=wv te) rfl (z0U k2) (λ_ h=>Cs.ofL_eq h)
    (by simpa using e) (λu hu=>by simp at hu) hin (by simp) hnl (by simp[Builtin.firstCells]) hS (by omega)
   simpa [V.conc]using this
 ·-- a slice
  rename_i b o len cp;simp only[V.In]at hs;split at e
  ·rename_i l esz' wr op hg
   split at e
   ·-- a known capacity
    rename_i kk;unfold qj at e;cases hle:Nat.ble (len+n) kk with
    | true =>
     simp only[hle,oK]at e;cases hwr:(wr && zU new)with
     | false=>simp[hwr]at e
     | true =>
      simp only[hwr,oK]at e;simp only[oG]at hwr;obtain⟨rfl,hone⟩:=hwr;obtain⟨hS,hin,hnl⟩:=hS hone;exact J0 r k2 ht e rfl hs hg hin hone hS (by simpa [Cap.val]using oE hle)
    | false =>
     simp only[hle,oL]at e;have hlt:kk<len+n:=by have:=(jD _ _).1 hle;omega
     cases hrc:zBb l o (len*te.size) new with
     | none =>
      rw[hrc]at e;unfold jS ky at e;cases hb1:Nat.ble ((len+n)*te.bytes) 1099511627776<;>cases hb2:Nat.blt h.next T.top<;>simp[hb1,hb2]at e
     | some ccs =>
     obtain⟨old,hold,hone,hofl⟩:∃old,l.range o (len*te.size)=some old/\zU new=true/\Cs.ofL (old++new)=some ccs:=by
      unfold zBb at hrc;split at hrc
      ·rename_i old hold
       cases h1:zU new with
       | false=>simp[h1]at hrc
       | true=>rw[h1,oK]at hrc;exact⟨old,hold,rfl,hrc⟩
      ·cases hrc
     rw[hrc]at e;obtain⟨p1,p2,p3⟩:=wR (P:=P) (w:=w.drew) (r.of_heap rfl) hs hg hold;obtain⟨hS,hin,hnl⟩:=hS hone;have:=YG (P:=P) (h:=h) r (Mv.refl _ _ _ _) rfl r.lt (ty:=ty) k2 ht hok (base:=some ⟨ρ.blk b,ρ.off b+o,none⟩) (len:=len) (cap:=kk) (n:=n) (x:=x) (kr:=wv te) rfl (z0U k2) (rc:=some ccs) (λcs h=>by cases h;exact Cs.ofL_eq hofl) e p2 hin p3 hnl
      (by simp only[Builtin.firstCells];exact p1) hS hlt
     simpa [V.conc,Cap.val]using this
   ·-- an unknown one
    rename_i kk;unfold Yb at e;cases hcnd:(wr && op && Nat.beq te.size esz'.n && Nat.beq o (kk*te.size) && zU new && Nat.ble (o+len*te.size) l.len)with
    | false=>simp[hcnd]at e
    | true =>
     simp only[hcnd,oK]at e;simp only[oG]at hcnd;obtain⟨⟨⟨⟨⟨c1,c2⟩,c3⟩,c4⟩,hone⟩,c5⟩:=hcnd;subst c1;subst c2;have c3':=oF c3;have c4':=oF c4;obtain⟨hS,hin,hnl⟩:=hS hone;obtain⟨cc,ee,fz,hxx,hcell,hcin,hw⟩:=r.rel b _ hs hg;obtain⟨hoff,hfz,hlel,hsz,hty⟩:=hw rfl;have hsz':cc.size=ρ.cap b*te.size:=by rw[hsz,<-c3'];simp
     have room:∀m,o+m*te.size<=l.len->kk+m<=ρ.cap b:=by
      intro m hm;have h1:(kk+m)*te.size<=ρ.cap b*te.size:=by rw[Nat.add_mul];omega
      exact Nat.le_of_mul_le_mul_right h1 ts
     have hlen':o+len*te.size<=l.len:=oE c5;obtain⟨old,hold⟩:=Cs.range_some hlen';obtain⟨p1,p2,p3⟩:=wR (P:=P) (w:=w.drew) (r.of_heap rfl) hs hg hold;cases hn0:Nat.beq n 0 with
     | true =>
      have n0:=oF hn0;subst n0;simp only[hn0,oK,oA,oB]at e;obtain⟨rfl,rfl⟩:=e;have new0:new=[]:=List.eq_nil_of_length_eq_zero (by omega);subst new0;have hcap:=room len hlen';refine Post.of_eq ?_ (Post.pure r (v:=.slice b o len (.skip kk)) (by simpa [V.In]using hs));simpa [V.conc,Cap.val]using hS.none rfl (some ⟨ρ.blk b,ρ.off b+o,none⟩) len (ρ.cap b-kk) (by omega)
     | false =>
      simp only[hn0,oL]at e;have hn:0<n:=by
       rcases Nat.eq_zero_or_pos n with g|g
       ·subst g;simp at hn0
       ·exact g
      split at e
      ·-- within the known row
       rename_i q2 hq2;simp only[oA]at e;subst e;have hfit:o+(len+n)*te.size<=l.len:=by
        unfold Zg at hq2;split at hq2
        ·rename_i l' hl'
         obtain⟨s1,_,_⟩:=Cs.put_eq hl';rw[Nat.add_mul];omega
        ·cases hq2
       have:=room (len+n) hfit;exact J0 r k2 ht hq2 rfl hs hg hin hone hS (by simp only[Cap.val];omega)
      ·-- at its end
       unfold K6 at e;cases hend:(Nat.beq kk 0 && Nat.beq l.len (o+len*te.size) && Nat.ble esz'.fz (o+len*te.size) && (Nat.beq esz'.ty 0 || Nat.beq esz'.ty (te.id+1)))with
       | false=>simp[hend]at e
       | true =>
        simp only[hend,oK]at e;simp only[oG]at hend;have k0:=oF hend.1.1.1;have hll:=oF hend.1.1.2;have hfk:=oE hend.1.2;have hkt:∀u,esz'.ty=u+1->el=u:=λu hu=>by
         have:=hend.2;simp only[Bool.or_eq_true]at this;rcases this with g|g
         ·have:=oF g;omega
         ·have g1:esz'.ty=te.id+1:=oF g
          have g2:te.id=el:=k2.id;have g3:u+1=te.id+1:=hu.symm.trans g1;exact g2.symm.trans (Nat.succ.inj g3).symm
        subst k0;have o0:o=0:=by omega
        subst o0;rw[Nat.zero_add]at hll;by_cases hroom:len+n<=ρ.cap b
        ·-- it grows in its place
         unfold jS at e;cases hb:Nat.ble ((len+n)*te.bytes) 1099511627776 with
         | false=>simp[hb]at e
         | true =>
          simp only[hb,oK]at e;split at e
          ·rename_i b' h1 hnn
           simp only[oA,oB]at e;obtain⟨rfl,rfl⟩:=e;obtain⟨g1,ccs,g2,rfl,rfl⟩:=Yy hnn;obtain⟨ca,cg⟩:=Cs.app_eq g2;have hroomc:ρ.off b+len*te.size+(new.map (V.conc ρ)).length<=cc.size:=by
            rw[hoff,od,hnl,hsz',Nat.zero_add,<-Nat.add_mul];exact Nat.mul_le_mul_right _ hroom
           obtain⟨c',e1,e2,e3⟩:=XQ (new.map (V.conc ρ)) hxx hroomc;have hrun:=hS.room (ρ.blk b) (ρ.off b+0) len (ρ.cap b-0) (by omega)
            (λj hj=>by
             rw[k2.size,Nat.add_zero,jY hxx,Array.getElem?_eq_getElem (by omega)];rfl)
            (λj hj=>by
             rw[k2.size,Nat.add_zero];exact Zm hxx (hfz _ (by omega) (by omega)))
           rw[k2.size,Nat.add_zero,e1]at hrun;have hO:ORel (ρ.at h.next (ρ.blk b) (ρ.cap b)) (Dx D h ((h.upd b none).new (.cells ccs esz' true true))) h.next (.cells ccs esz' true true) (some (.cells c' ee fz)):=by
            have hnd:¬D h.next:=λhd=>by have:=r.lt _ hd;omega
            have hag:Agree D ρ (ρ.at h.next (ρ.blk b) (ρ.cap b)):=Env.at_agree hnd;have hmem:∀i u,ccs.get? i=some u->u.In D:=λi u hu=>by
             rw[cg i]at hu;split at hu
             ·exact hcin i u hu
             ·exact hin u (List.mem_of_getElem? hu)
            refine⟨c',ee,fz,rfl,λi u hu=>?_,λi u hu=>V.In_mono xZ _ (hmem i u hu),λ_=>⟨Env.at_off _ _ _ _,by rw[e2];exact hfz,?_,?_,hty⟩⟩
            ·rw[Env.at_off,Nat.zero_add,V.conc_agree hag u (hmem i u hu),e3 i,hoff,Nat.zero_add,od]
             rw[cg i]at hu;by_cases hi:i<l.len
             ·rw[if_pos hi]at hu
              rw[if_neg (by omega)];have:=hcell i u hu
              rwa [hoff,Nat.zero_add]at this
             ·rw[if_neg hi]at hu
              have hi2:=(List.getElem?_eq_some_iff.1 hu).1;rw[if_pos (by omega),oU];rw[show i-len*te.size=i-l.len from by omega,hu];rfl
            ·rw[e2,hsz',ca,hnl,hll,<-Nat.add_mul];exact Nat.mul_le_mul_right _ hroom
            ·rw[e2,Env.at_cap,hsz'];simp[<-c3']
           refine⟨_,_,?_,Mv.move r hs hg rfl rfl g1 (ρ.cap b),HR.move r hs hg rfl g1 (ρ.cap b) hO,by simp only[V.In];exact .inr ⟨oO _,by simp[H.new_eq,kU,H.upd_eq]⟩⟩;simp only[V.conc,Cap.val,Nat.add_zero,Nat.sub_zero,kU,yx,Env.at_blk,Env.at_off,Env.at_cap]at hrun ⊢;rw[hrun,hoff]
          ·cases e
        ·-- it is laid qi
         have:=YG (P:=P) (h:=h) (h0:=kU h b) (r.kill hs) (Mv.kill r hs) rfl r.lt (ty:=ty) k2 ht hok (base:=some ⟨ρ.blk b,ρ.off b+0,none⟩) (len:=len) (cap:=ρ.cap b) (n:=n) (x:=x) (kr:=esz') c3'.symm hkt (rc:=l.app new) (λcs h=>zVK p3 hold hll h) e p2 hin p3 hnl
          (by simp only[Builtin.firstCells];exact p1) hS (by omega)
         simpa [V.conc,Cap.val]using this
  ·cases e
 ·cases e
theorem Ze (ok:CtxOK P c) {t tx:TypeId}{s x v:V}{h':H}(e:zo c t h s x=some (v,h')) (r:HR ρ D h w) (hs:s.In D) (hx:x.In D)
  (hk:(∃e',P.underlying tx=some (.slice e'))\/P.underlying tx=some .string) (ty:TypeId) :
  Post ρ D h w ((Builtin.append_ #[t,tx] ty #[s.conc ρ,x.conc ρ]).run P w) v h':=by
 unfold zo at e;split at e
 ·rename_i ti hti
  obtain⟨i,k⟩:=ok.ty t ti hti;split at e
  ·rename_i el hd
   have ht:P.underlying t=some (.slice el):=by rw[k.und,hd]
   split at e
   ·rename_i te hte
    obtain⟨i2,k2⟩:=ok.ty el te hte;cases hok:kc te with
    | false=>simp[hok]at e
    | true =>
     simp only[hok,oK]at e;split at e
     ·cases e
     ·rename_i n new hsrc
      refine J1 k2 ht hok e r hs (λn0=>?_) λhone=>?_
      ·subst n0
       unfold yZ at hsrc;split at hsrc
       ·simp only[oA,oB]at hsrc;exact hsrc.2.symm
       ·rename_i l
        cases hb:Nat.beq te.size 1 with
        | false=>simp[hb]at hsrc
        | true =>
         simp only[hb,oK,oA,oB]at hsrc;rw[yu,Nat.add_zero]at hsrc;have:=List.eq_nil_of_length_eq_zero hsrc.1;subst this;exact hsrc.2.symm
       ·split at hsrc
        ·split at hsrc
         ·rename_i y hy
          simp only[oA,oB]at hsrc;obtain⟨h1,rfl⟩:=hsrc;obtain⟨g1,_,_⟩:=Cs.range_eq hy;rw[h1,Nat.zero_mul]at g1;exact List.eq_nil_of_length_eq_zero g1
         ·cases hsrc
        ·cases hsrc
       ·cases hsrc
      ·obtain⟨hS,hin,hnl⟩:=zJs (P:=P) r hsrc hx hone hk
       exact⟨SrcR.of ht k2.info (by rw[k2.size];exact hS),hin,hnl⟩
   ·cases e
  ·cases e
 ·cases e
theorem zDC (ok:CtxOK P c) {t tx:TypeId}{ki:IntKind}{s x v:V}{h':H}(e:zKX c t h s x=some (v,h')) (r:HR ρ D h w) (hs:s.In D) (hk:P.underlying tx=some (.int ki)) (ty:TypeId) :
  Post ρ D h w ((Builtin.append_ #[t,tx] ty #[s.conc ρ,x.conc ρ]).run P w) v h':=by
 unfold zKX at e;split at e
 ·rename_i ti hti
  obtain⟨i,k⟩:=ok.ty t ti hti;split at e
  ·rename_i el hd
   have ht:P.underlying t=some (.slice el):=by rw[k.und,hd]
   split at e
   ·rename_i te hte
    obtain⟨i2,k2⟩:=ok.ty el te hte;cases hok:(kc te && Nat.beq te.size 1)with
    | false=>simp[hok]at e
    | true =>
     simp only[hok,oK]at e;simp only[oG]at hok;have hsz:=oF hok.2;split at e
     ·rename_i kk z hz
      cases hb:Nat.ble (kk*te.bytes) 1099511627776 with
      | false=>simp[hb]at e
      | true =>
       simp only[hb,oK]at e;split at e
       ·rename_i u hzu
        obtain⟨_,tb,_⟩:=Oo hok.1;obtain⟨zv,hz1,hz2⟩:=k2.zero z hz;obtain⟨hzc,hzi⟩:=Z3 hz2;have hbb:=oE hb;refine J1 k2 ht hok.1 e r hs (λn0=>by rw[n0];rfl) λhone=>⟨?_,?_,?_⟩
        ·rw[List.map_replicate]
         have hle:kk<=kk*te.bytes:=Nat.le_mul_of_pos_right _ tb;exact SrcR.zeros ht k2.info hk hz1 (u:=u.conc ρ) (by rw[<-hzc ρ,V.cells_conc,hzu];rfl) (by rw[k2.size,hsz]) (λh0=>V.one_conc ρ (jC.1 hone u (List.mem_replicate.2 ⟨by omega,rfl⟩))) (by rw[k2.bytes];exact hbb) (by omega)
        ·intro v hv
         rw[List.eq_of_mem_replicate hv];exact V.cells_In (hzi D) u (by rw[hzu];simp)
        ·rw[List.length_replicate,hsz,Nat.mul_one]
       ·cases e
     ·cases e
   ·cases e
  ·cases e
 ·cases e
theorem zAT (ok:CtxOK P c) {t tx:TypeId}{s x v:V}{h':H}(e:KD c tx t h s x=some (v,h')) (r:HR ρ D h w) (hs:s.In D) (hx:x.In D) (ty:TypeId) :
  Post ρ D h w ((Builtin.append_ #[t,tx] ty #[s.conc ρ,x.conc ρ]).run P w) v h':=by
 unfold KD at e;split at e
 ·rename_i ti hti
  obtain⟨i,k⟩:=ok.ty tx ti hti;split at e
  ·rename_i hd
   exact Ze ok e r hs hx (.inr (by rw[k.und,hd])) ty
  ·rename_i el hd
   exact Ze ok e r hs hx (.inl ⟨el,by rw[k.und,hd]⟩) ty
  ·rename_i ki hd
   exact zDC ok e r hs (by rw[k.und,hd]) ty
  ·cases e
 ·cases e
end
end Go.Sim
