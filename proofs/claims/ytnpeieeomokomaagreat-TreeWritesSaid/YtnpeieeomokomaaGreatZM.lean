/- M. No condition. -/
import Derived.Test.YtnpeieeomokomaaGreatZL
import Derived.Lib.UnsafeStr
namespace Go.Sim
section
variable {P:Program}{c:Ctx}{ρ:Env}{D:Nat->Prop}{h:H}{w:World}
theorem ku (r:HR ρ D h w) {esz:Nat}{x:V}{n m:Nat}{new cs:List V}(e:yZ esz h x=some (n,new)) (hx:x.In D) (hm:m<=n) (ht:kW (m*esz) new=some cs) :
  (Builtin.lenOf (x.conc ρ)).run P w = .ok n w/\(Builtin.firstCells esz m (x.conc ρ)).run P w = .ok (cs.map (V.conc ρ)).toArray w/\(∀v∈cs,v.In D):=by
 unfold yZ at e;split at e
 ·simp only[oA,oB]at e;obtain⟨rfl,rfl⟩:=e
  obtain⟨a,rfl⟩:=ZQ ht;exact⟨by simp[V.conc,Builtin.lenOf],by simp[V.conc,Builtin.firstCells],λ_ hv=>by simp at hv⟩
 ·rename_i l
  cases hb:Nat.beq esz 1 with
  | false=>simp[hb]at e
  | true =>
   have h1':=oF hb;simp only[hb,oK,oA,oB]at e;obtain⟨rfl,rfl⟩:=e;subst h1';rw[Nat.mul_one]at ht;obtain⟨a,rfl⟩:=ZQ ht;refine⟨by simp[V.conc,Builtin.lenOf,yu,jO],?_,λv hv=>jc l v (List.mem_of_mem_take hv)⟩
   simp only[V.conc,Builtin.firstCells,Sem.run_pure]
   congr 1
   apply Array.ext';simp only[yX,List.map_take,List.map_map];simp[ByteArray.data_extract]
   congr 1
 ·rename_i b o len cp
  simp only[V.In]at hx;split at e
  ·rename_i l esz' wr op hg
   split at e
   ·rename_i y hy
    ·simp only[oA,oB]at e;obtain⟨rfl,rfl⟩:=e
     obtain⟨a1,a2,a3⟩:=Cs.range_eq hy;obtain⟨b1,b2⟩:=ZQ ht;have hle:m*esz<=len*esz:=Nat.mul_le_mul_right _ hm;obtain⟨z,hz⟩:=Cs.range_some (c:=l) (o:=o) (k:=m*esz) (by omega);obtain⟨z1,z2,z3⟩:=Cs.range_eq hz;have hzc:z=cs:=by
      apply List.ext_getElem?;intro j;rw[b2,List.getElem?_take];by_cases hj:j<m*esz
      ·rw[if_pos hj,z3 j hj,a3 j (by omega)]
      ·rw[if_neg hj,oa (by omega)]
     subst hzc;obtain⟨p1,p2,p3⟩:=wR (P:=P) r hx hg hz;exact⟨rfl,p1,p2⟩
   ·cases e
  ·cases e
 ·cases e
theorem zDG (ok:CtxOK P c) {t:TypeId}{d x v:V}{h':H}(e:zHS c t h d x=some (v,h')) (r:HR ρ D h w) (hd:d.In D) (hx:x.In D) (ts:Array TypeId) (hts:ts.getD 0 0=t) (ty:TypeId) (hne:0<ts.size) :
  Post ρ D h w ((Builtin.copy_ ts ty #[d.conc ρ,x.conc ρ]).run P w) v h':=by
 have ht:ts[0]? = some t:=by
  rw[Array.getElem?_eq_getElem hne];simp only[Array.getD,hne,dif_pos]at hts;rw[<-hts];rfl
 unfold zHS at e;split at e
 ·rename_i ti hti
  obtain⟨i,k⟩:=ok.ty t ti hti;split at e
  ·rename_i el hdd
   split at e
   ·rename_i te hte
    obtain⟨i2,k2⟩:=ok.ty el te hte;split at e
    ·cases e
    ·rename_i n new hsrc
     split at e
     ·simp only[oA,oB]at e;obtain⟨rfl,rfl⟩:=e
      obtain⟨q1,q2,q3⟩:=ku (P:=P) (m:=0) (cs:=[]) r hsrc hx (oJ _) (by simp[kW]);refine Post.of_eq ?_ (Post.pure r (v:=.int .i64 0) (by simp[V.In]));simp only[List.map_nil]at q2;simp[Builtin.copy_,ht,z7 k,hdd,V.conc,q1,yI k2,q2,goInt]
     ·rename_i b o len cp
      simp only[V.In]at hd;split at e
      ·rename_i l esz op hg
       simp only at e;split at e
       ·rename_i cs hcs
        cases h1':cond (Nat.ble esz.fz o) (zU cs) false with
        | false=>rw[h1']at e;cases e
        | true =>
         rw[h1',oK]at e;obtain⟨hfk,h1⟩:=zD0 h1';split at e
         ·rename_i l' hl'
          simp only[oA,oB]at e;obtain⟨rfl,rfl⟩:=e;have hm:(cond (Nat.ble n len) n len)=Nat.min n len:=by
           cases hb:Nat.ble n len
           ·have:=(jD _ _).1 hb;rw[oL];exact(Nat.min_eq_right (by omega)).symm
           ·have:=oE hb;rw[oK];exact(Nat.min_eq_left this).symm
          rw[hm]at hcs ⊢;obtain⟨q1,q2,q3⟩:=ku (P:=P) r hsrc hx (Nat.min_le_left _ _) hcs;obtain⟨s1,s2,s3,_⟩:=j5 (P:=P) r hd hg q3 h1 hl' (oE hfk);refine⟨ρ,_,?_,s3,by rw[wa (yx _ _ _)];exact s2,by simp[V.In]⟩;simp[Builtin.copy_,ht,z7 k,hdd,V.conc,q1,yI k2,q2,goInt,s1]
         ·cases e
       ·cases e
      ·cases e
     ·cases e
   ·cases e
  ·cases e
 ·cases e
theorem zKN {z:List V}{k:Nat}{cs:Cs}(h:zCs z k=some cs):cs.len=(yp z k).length/\∀i,cs.get? i=(yp z k)[i]?:=by
 unfold zCs at h;split at h
 ·rename_i v
  obtain⟨a,b⟩:=Cs.rep_eq h;refine⟨by rw[a,ke];simp,λi=>?_⟩
  rw[b,zAJ];simp[Nat.mod_one]
 ·exact Cs.ofL_eq h
theorem zDO (ok:CtxOK P c) {t:TypeId}{a b v:V}{h':H}(e:we c t a b h=some (v,h')) (r:HR ρ D h w) :
  Post ρ D h w ((Instr.makeSlice t (a.conc ρ) (b.conc ρ)).run P w) v h':=by
 unfold we at e;split at e
 ·rename_i k1 ln k2' cn
  split at e
  ·rename_i l kk hl hk
   obtain rfl:=kl hl;obtain rfl:=kl hk;split at e
   ·rename_i ti hti
    obtain⟨i,k⟩:=ok.ty t ti hti;split at e
    ·rename_i el hd
     split at e
     ·rename_i te hte
      obtain⟨i2,k2⟩:=ok.ty el te hte;split at e
      ·rename_i z hz
       obtain⟨z1,z2⟩:=kL k2 hz ρ w;cases hc:(Nat.ble l kk && Nat.ble kk 4294967296 && Nat.ble (te.bytes*kk) 1099511627776 && wL z.cells te.size)with
       | false=>simp[hc]at e
       | true =>
        simp only[hc,oK]at e;simp only[oG]at hc;obtain⟨⟨⟨c1,c2⟩,c3⟩,c4⟩:=hc;have c1':=oE c1;have c2':=oE c2;have c3':=oE c3;have hlen:=yO.1 c4;split at e
        ·rename_i bb h1 hn
         simp only[oA,oB]at e;obtain⟨rfl,rfl⟩:=e;have hin:∀u∈yp z.cells kk,u.In D:=λv hv=>V.cells_In (z2 D) v (zAK _ _ v hv)
         obtain⟨ρ',m1,m2,m3,m4,m5⟩:=J8 r hn (λcs h=>zKN h) hin el (λu hu=>by cases hu);refine⟨ρ',_,?_,m1,m2,by simp only[V.In];exact m3⟩;have w1:IntKind.i64.wrap (l:Int)=(l:Int):=X1 _ (by omega) (by omega);have w2:IntKind.i64.wrap (kk:Int)=(kk:Int):=X1 _ (by omega) (by omega);have hb1:¬((te.bytes:Int)*(kk:Int) > 2^48):=by
          have:((te.bytes*kk:Nat):Int)<=1099511627776:=by omega
          have h2:((te.bytes*kk:Nat):Int)=(te.bytes:Int)*(kk:Int):=by simp
          rw[<-h2];have:(2:Int)^48=281474976710656:=rfl;omega
         have hk0:¬((kk:Int)<0):=by omega
         have hl0:¬((l:Int)<0):=by omega
         have hlk:¬((l:Int) > (kk:Int)):=by omega
         have hrow:((Array.range (kk*te.size)).map λi=>(if kk*te.size=0 then (#[]:Array Value) else (z.cells.map (V.conc ρ)).toArray)[i % (if kk*te.size=0 then (#[]:Array Value) else (z.cells.map (V.conc ρ)).toArray).size]!)=((yp z.cells kk).map (V.conc ρ)).toArray:=by
          by_cases h0:kk*te.size=0
          ·have:yp z.cells kk=[]:=by
            apply List.eq_nil_of_length_eq_zero;rw[ke,hlen,h0]
           rw[this,h0];simp
          ·simp only[h0,if_false]
           rw[<-hlen];exact zB0 z.cells kk (by rw[hlen];exact h0)
         simp only[Instr.makeSlice,Sem.run_bind,z7 k,hd,Result.andThen_ok,V.conc,asInt,asIntOf,Sem.run_pure,ZL k2,k2.bytes,w1,w2];simp only[hk0,hb1,hl0,hlk,decide_false,Bool.or_false,Bool.false_eq_true,if_false,oV,Sem.run_bind,run_askRoom,Result.andThen_ok,yI k2];by_cases h0:kk*te.size=0
         ·rw[if_pos h0]at hrow ⊢
          simp only[Sem.run_bind,Sem.run_pure,Result.andThen_ok];rw[hrow];simp[newRow,Cap.val,m4,m5]
         ·rw[if_neg h0]at hrow ⊢
          simp only[Sem.run_bind,Sem.run_pure,Result.andThen_ok,z1,V.cells_conc];rw[hrow];simp[newRow,Cap.val,m4,m5]
        ·cases e
      ·cases e
     ·cases e
    ·cases e
   ·cases e
  ·cases e
 ·cases e
end
end Go.Sim
namespace Go.Sim
section
variable {P:Program}{c:Ctx}{ρ:Env}{D:Nat->Prop}{h:H}{w:World}
theorem Xd {x v:V}(e:Zv h x=some v) (r:HR ρ D h w) (hx:x.In D) (ts:Array TypeId) (ty:TypeId) :
  (Builtin.unsafeSliceData_ ts ty #[x.conc ρ]).run P w = .ok (v.conc ρ) w/\v.In D:=by
 unfold Zv at e;split at e
 ·simp only[oA]at e;subst e
  exact⟨rfl,by simp[V.In]⟩
 ·rename_i b o n k
  simp only[oA]at e;subst e;refine⟨?_,by simpa [V.In]using hx⟩;simp only[V.conc,Cap.val];exact Go.Lib.run_unsafeSliceData_row w ts ty _ _ _ (by omega)
 ·rename_i b o n
  simp only[V.In]at hx;split at e
  ·rename_i l esz hg
   cases hb:Nat.blt 0 l.len with
   | false=>simp[hb]at e
   | true =>
   have hpos:=(z8 _ _).1 hb;simp only[hb,oK,oA]at e;subst e;refine⟨?_,by simpa [V.In]using hx⟩;simp only[V.conc,Cap.val];obtain⟨c0,ee,fz,_,_,_,hw⟩:=r.rel b _ hx hg;obtain⟨_,_,hle,hsz,_⟩:=hw rfl;refine Go.Lib.run_unsafeSliceData_row w ts ty _ _ _ ?_;intro h0;simp only[if_true]at hsz;have hc0:ρ.cap b=0:=by omega
   rw[hc0,Nat.zero_mul]at hsz;omega
  ·cases e
 ·cases e
theorem zJi:∀(l:List V) (y:List UInt8) (a:Addr) (acc:ByteArray),xQ l=some y->(∀j v,l[j]? = some v->w.cell? (a.add j)=some (v.conc ρ)) ->
  (loadBytes a acc l.length).run P w = .ok ⟨acc.data++y.toArray⟩ w:=by
 intro l
 induction l with
 | nil=>intro y a acc e _;simp only[xQ,oA]at e;subst e;simp[loadBytes]
 | cons v l ih =>
  intro y a acc e hc;cases v with
  | int k n =>
   cases k<;>simp only[xQ]at e<;>try (cases e;done)
   cases hb:xQ l with
   | none=>simp[hb]at e
   | some q =>
    simp only[hb,oA]at e;subst e;have h0:w.cell? a=some (.int .u8 n):=by
     have:=hc 0 _ rfl;simpa [Addr.add,V.conc]using this
    have h1:=ih q (a.add 1) (acc.push (UInt8.ofNat n.toNat)) hb (λj y hy=>by
     have:=hc (j+1) y (by simpa using hy);have e:(a.add 1).add j=a.add (j+1):=by
      unfold Addr.add;by_cases hj:j=0
      ·subst hj;simp
      ·simp[hj];omega
     rw[e];exact this)
    have hx:n.toNat.toUInt8=UInt8.ofNat n.toNat:=rfl;simp only[oS,loadBytes,Sem.run_bind,run_load,h0,Result.andThen,hx];rw[h1]
    congr 1
    apply ByteArray.ext;simp[ByteArray.push]
  | _=>simp[xQ]at e
theorem zGA {b n:Nat}{c:Array Value}{e:TypeId}{fz:Nat×Nat}(hn:n≠0) (h:w.heap[b]? = some (.cells c e fz)) :
  w.freeze ⟨b,0,none⟩ n=w.putObj b (.cells c e (if fz.1 == fz.2 then (0,n) else (0,max fz.2 n))):=by
 have hb:b<w.heap.size:=by
  rcases Nat.lt_or_ge b w.heap.size with g|g
  ·exact g
  ·rw[Array.getElem?_eq_none g]at h;cases h
 unfold World.freeze World.putObj;rw[if_neg hn]
 congr 1
 apply Array.ext_getElem?;intro i;obtain⟨lo,hi⟩:=fz;rw[Array.getElem?_modify];by_cases hi2:b=i
 ·subst hi2
  have hv:w.heap[b] = .cells c e (lo,hi):=by simpa [Array.getElem?_eq_getElem hb]using h
  simp[hb,hv]
 ·simp[hi2]
theorem Xe (ok:CtxOK P c) {pt:TypeId}{p n v:V}{h':H}(e:Zw c pt h p n=some (v,h')) (r:HR ρ D h w) (hp:p.In D) (ts:Array TypeId) (ty:TypeId) (hts:ts[0]? = some pt) :
  Post ρ D h w ((Builtin.unsafeString_ ts ty #[p.conc ρ,n.conc ρ]).run P w) v h':=by
 have hmax:IntKind.i64.max=9223372036854775807:=rfl;have hdef:∀(p:Option Addr) (n:Value),Builtin.unsafeString_ ts ty #[.pointer p,n] =
   (do
    let n <-asInt n
    let some pt:=ts[0]? | stuck "unsafe.String: no argument types"
    if n<0 then runtimePanic (.error "unsafe.String: len out of range")
    if n > IntKind.i64.max then unsupported (.unsafePointer "String: a length above the largest int")
    match p with
    | none =>
     if n=0 then pure (.string .empty)
     else runtimePanic (.error "unsafe.String: ptr is nil and len is not zero")
    | some a =>
     if n=0 then pure (.string .empty)
     else if <-variablesAt a (<-elemOf pt) n.toNat then do
      let s <-loadBytes a .empty n.toNat
      freeze a n.toNat
      pure (.string s)
     else unsupported (.unsafePointer "String: not so many bytes at ptr")):=λ_ _=>rfl
 have hemp:(⟨([]:List UInt8).toArray⟩:ByteArray) = .empty:=rfl;unfold Zw at e;split at e
 ·simp only[oA,oB]at e;obtain⟨rfl,rfl⟩:=e
  refine Post.of_eq ?_ (Post.pure r (v:=.str []) (by simp[V.In]));simp only[V.conc,hdef,hts];simp[asInt,asIntOf,hmax,hemp]
 ·simp only[oA,oB]at e;obtain⟨rfl,rfl⟩:=e
  refine Post.of_eq ?_ (Post.pure r (v:=.str []) (by simp[V.In]));simp only[V.conc,hdef,hts];simp[asInt,asIntOf,hmax,hemp]
 ·rename_i b k m hne
  simp only[V.In]at hp;split at e
  ·rename_i tp l esz op htp hg
   obtain⟨i1,k1⟩:=ok.ty pt tp htp;split at e
   ·rename_i u hd
    split at e
    ·rename_i tu htu
     obtain⟨i2,k2⟩:=ok.ty u tu htu;cases hc:(Nat.beq tu.size 1 && Nat.beq esz.ty (u+1) && Nat.ble m 4611686018427387904)with
     | false=>simp[hc]at e
     | true =>
      simp only[hc,oK]at e;simp only[oG]at hc;obtain⟨⟨c1,c2⟩,c3⟩:=hc;have c1':=oF c1;have c2':=oF c2;have c3':=oE c3;split at e
      ·rename_i x hx
       split at e
       ·rename_i y hy
        simp only[oA,oB]at e;obtain⟨rfl,rfl⟩:=e;have hm0:m≠0:=hne;obtain⟨hxl,t1,t2⟩:=Cs.range_eq hx;obtain⟨c0,ee,fz,hxx,hcell,hcin,hw⟩:=r.rel b _ hp hg;obtain⟨hoff,hfz,hle,hsz,hty⟩:=hw rfl;obtain⟨rfl,hfz2⟩:=hty u c2';have hcells:P.cellsOf ee=1:=by simp[Program.cellsOf,k2.info,k2.size,c1']
        have hsh:w.shape? (ρ.blk b)=some (ee,c0.size):=by unfold World.shape?;rw[hxx]
        have hlies:=Go.Lib.liesAt_bytes (P:=P) hcells (c0.size/P.cellsOf ee) m (by rw[hcells,Nat.div_one];omega);have hload:=zJi (P:=P) (ρ:=ρ) (w:=w) x y ⟨ρ.blk b,0,none⟩ .empty hy (λj u hu=>by
         rw[yL,jY hxx,Nat.zero_add];have hjm:j<m:=by rw[<-hxl];exact(List.getElem?_eq_some_iff.1 hu).1
         have:l.get? j=some u:=by
          rw[t2 j hjm,Nat.zero_add]at hu;exact hu
         have:=hcell _ _ this
         rwa [hoff,Nat.zero_add]at this)
        rw[hxl]at hload;have hfr:=zGA (w:=w) (n:=m) hm0 hxx;have hO:ORel ρ D b (.cells l ⟨esz.n,esz.ty,cond (Nat.ble esz.fz m) m esz.fz⟩ true op) (some (.cells c0 ee (if fz.1 == fz.2 then (0,m) else (0,max fz.2 m)))):=by
         refine⟨c0,ee,_,rfl,hcell,hcin,λ_=>⟨hoff,?_,hle,hsz,?_⟩⟩
         ·intro i hi hk
          have hmx:esz.fz<=i/\m<=i:=by
           cases hb:Nat.ble esz.fz m with
           | true=>simp only[hb,oK]at hk;have:=oE hb;omega
           | false=>simp only[hb,oL]at hk;have:=(jD _ _).1 hb;omega
          split
          ·simp;omega
          ·rename_i hne2
           rcases hfz2 with g|g
           ·exact absurd (by simpa using g) hne2
           ·simp;omega
         ·intro t ht
          have ht':esz.ty=t+1:=ht;refine⟨(hty t ht').1,?_⟩;have hmx:m<=(cond (Nat.ble esz.fz m) m esz.fz)/\esz.fz<=(cond (Nat.ble esz.fz m) m esz.fz):=by
           cases hb:Nat.ble esz.fz m with
           | true=>simp only[oK];have:=oE hb;omega
           | false=>simp only[oL];have:=(jD _ _).1 hb;omega
          right;split
          ·exact⟨rfl,hmx.1⟩
          ·rename_i hne2
           rcases hfz2 with g|g
           ·exact absurd (by simpa using g) hne2
           ·exact⟨rfl,by simp only;omega⟩
        refine⟨ρ,w.putObj (ρ.blk b) (.cells c0 ee (if fz.1 == fz.2 then (0,m) else (0,max fz.2 m))),?_,Mv.upd r hp hg rfl rfl,by rw[wa (yx _ _ _)];exact HR.upd r hp hg rfl rfl hO,by simp[V.In]⟩
        ·rw[<-hfr]
         simp only[V.conc,hdef,hts,hoff];have h1:¬(9223372036854775807:Int)<(m:Int):=by omega
         have h2:¬((m:Int)<0):=by omega
         have h3:¬((m:Int)=0):=by omega
         simp[asInt,asIntOf,hmax,h1,h2,hm0,variablesAt,hsh,elemOf,z7 k1,hd,hlies,hload]
       ·cases e
      ·cases e
    ·cases e
   ·cases e
  ·cases e
 ·cases e
end
end Go.Sim
