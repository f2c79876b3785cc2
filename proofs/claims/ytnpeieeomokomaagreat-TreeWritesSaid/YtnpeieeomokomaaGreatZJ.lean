/- J. No condition. -/
import Derived.Test.YtnpeieeomokomaaGreatZI
namespace Go.Sim
section
variable {P:Program}{c:Ctx}{ρ:Env}{D:Nat->Prop}{h:H}{w:World}
theorem zJG:∀(vs:List Value) (k off:Nat) (cs:Array Value),off+k+vs.length<=cs.size ->
  ((vs.zipIdx k).foldl (λcs (x:Value×Nat)=>cs.setIfInBounds (off+x.2) x.1) cs).size=cs.size /\
  ∀i,((vs.zipIdx k).foldl (λcs (x:Value×Nat)=>cs.setIfInBounds (off+x.2) x.1) cs)[i]? = if off+k<=i/\i<off+k+vs.length then vs[i-(off+k)]? else cs[i]?:=by
 intro vs
 induction vs with
 | nil=>intro k off cs _;exact⟨rfl,λi=>by rw[if_neg (by simp only[List.length_nil];omega)];rfl⟩
 | cons v vs ih =>
  intro k off cs hl;simp only[oS]at hl;simp only[List.zipIdx_cons,List.foldl_cons];obtain⟨h1,h2⟩:=ih (k+1) off (cs.setIfInBounds (off+k) v) (by simp;omega);refine⟨by rw[h1];simp,λi=>?_⟩
  rw[h2 i];by_cases hc:off+(k+1)<=i/\i<off+(k+1)+vs.length
  ·rw[if_pos hc,if_pos (by simp only[oS];omega)]
   obtain⟨q,hq⟩:∃q,i-(off+k)=q+1:=⟨i-(off+k)-1,by omega⟩;rw[hq,List.getElem?_cons_succ];congr 1;omega
  ·rw[if_neg hc]
   by_cases h5:i=off+k
   ·have hlt:off+k<cs.size:=by omega
    subst h5;rw[if_pos ⟨oO _,by simp only[oS];omega⟩];simp[hlt]
   ·rw[if_neg (by simp only[oS];omega),Array.getElem?_setIfInBounds,if_neg (by omega)]
theorem zDk {off:Nat}{vs l l':List V}(hs:jh off vs l=some l') :
  ((vs.map (V.conc ρ)).toArray.zipIdx.foldl (λcs (x:Value×Nat)=>cs.setIfInBounds (off+x.2) x.1) (l.map (V.conc ρ)).toArray)=(l'.map (V.conc ρ)).toArray:=by
 obtain⟨s1,s2,s3⟩:=qD hs;rw[<-Array.foldl_toList];simp only[Array.toList_zipIdx];obtain⟨h1,h2⟩:=zJG (vs.map (V.conc ρ)) 0 off (l.map (V.conc ρ)).toArray (by simpa using s1);apply Array.ext_getElem?;intro i;rw[h2 i];simp only[Nat.add_zero,od,List.getElem?_toArray,oU,s3 i];split<;>rfl
theorem YF {place:Nat->Option (Nat×Nat)}:∀(parts:List (Nat×V)) (cells r:List V),Zf c place cells parts=some r ->
  Instr.fill place (cells.map (V.conc ρ)).toArray (parts.map λp=>(p.1,p.2.conc ρ))=some (r.map (V.conc ρ)).toArray/\((∀v∈cells,v.In D)->(∀p∈parts,p.2.In D)->∀v∈r,v.In D):=by
 intro parts
 induction parts with
 | nil=>intro cells r e;simp only[Zf,oA]at e;subst e;exact⟨by simp[Instr.fill],λh _=>h⟩
 | cons p parts ih =>
  intro cells r e;obtain⟨i,v⟩:=p;simp only[Zf]at e;split at e
  ·cases e
  ·rename_i off size hp
   cases hl:wL v.cells size with
   | false=>simp[hl]at e
   | true =>
    simp only[hl,oK]at e;split at e
    ·rename_i q hq
     obtain⟨i1,i2⟩:=ih q r e;obtain⟨s1,s2,s3⟩:=qD hq;have hlen:=yO.1 hl;refine⟨?_,λhc hp'=>i2 (λx hx=>?_) (λp hp=>hp' p (oH _ hp))⟩
     ·simp only[List.map_cons,Instr.fill,hp,V.cells_conc,List.size_toArray,od,hlen]
      have:¬(off+size > cells.length):=by omega
      simp only[ne_eq,not_true_eq_false,decide_false,Bool.false_or,this];rw[<-i1,zDk (ρ:=ρ) hq];rfl
     ·rcases zGO hq x hx with g|g
      ·exact V.cells_In (hp' (i,v) (List.mem_cons_self ..)) x g
      ·exact hc x g
    ·cases e
theorem zCK (ok:CtxOK P c):∀(fs:List Field),zEq c fs=true->∀w,∃ps:List (Nat×Nat),
  (fs.mapM (m:=Sem) (λf=>do pure (f.offset,<-sizeOf f.type))).run P w = .ok ps w/\ps.length=fs.length/\∀i:Nat,ps[i]? = (match fs[i]? with|some f=>(match c.ty.get f.type with|some ti=>some (f.offset,ti.size)|none=>none)|none=>none):=by
 intro fs
 induction fs with
 | nil=>intro _ w;exact⟨[],by simp,rfl,λi=>by simp⟩
 | cons f fs ih =>
  intro e w;simp only[zEq]at e;split at e
  ·rename_i ti hti
   obtain⟨i,k⟩:=ok.ty _ _ hti;obtain⟨ps,h1,h2,h3⟩:=ih e w;refine⟨(f.offset,ti.size)::ps,?_,by simp[h2],λi=>?_⟩
   ·simp only[List.mapM_cons,Sem.run_bind,yI k,Result.andThen_ok,Sem.run_pure,h1]
   ·cases i with
    | zero=>simp[hti]
    | succ i=>simp[h3 i]
  ·cases e
theorem zB7 (ok:CtxOK P c) {t:TypeId}{parts:List (Nat×V)}{v:V}(e:wc c t parts=some v) (hp:∀p∈parts,p.2.In D) :
  (Instr.build t (parts.map λp=>(p.1,p.2.conc ρ)).toArray).run P w = .ok (v.conc ρ) w/\v.In D:=by
 unfold wc at e;split at e
 ·rename_i ti hti
  obtain⟨i,k⟩:=ok.ty t ti hti;split at e
  ·rename_i z hz
   obtain⟨z1,z2⟩:=kL k hz ρ w;split at e
   ·rename_i fs hd
    cases ha:zEq c fs.toList with
    | false=>simp[ha]at e
    | true =>
     simp only[ha,oK]at e;split at e
     ·rename_i q hq
      simp only[oA]at e;subst e;obtain⟨f1,f2⟩:=YF (ρ:=ρ) (D:=D) parts z.cells q hq;obtain⟨ps,p1,p2,p3⟩:=zCK ok fs.toList ha w;refine⟨?_,by simp only[V.In,V.InL_iff];exact f2 (V.cells_In (z2 D)) hp⟩;have hpl:(λx=>ps.toArray[x]?)=qt c fs:=by
       funext i
       have:=p3 i;simp only[Array.getElem?_toList]at this;simp only[List.getElem?_toArray,this,qt];cases fs[i]?<;>rfl
      have pm:(Array.mapM (m:=Sem) (λf:Field=>do pure (f.offset,<-sizeOf f.type)) fs).run P w = .ok ps.toArray w:=by
       rw[Array.mapM_eq_mapM_toList];simp only[Sem.run_map,p1,Result.andThen_ok]
      simp only[Instr.build,Sem.run_bind,z1,Result.andThen_ok,z7 k,hd,pm,V.cells_conc,hpl,f1,Sem.run_pure,wJ]
     ·cases e
   ·rename_i n el hd
    split at e
    ·rename_i te hte
     obtain⟨i2,k2⟩:=ok.ty el te hte;split at e
     ·rename_i q hq
      simp only[oA]at e;subst e;obtain⟨f1,f2⟩:=YF (ρ:=ρ) (D:=D) parts z.cells q hq;refine⟨?_,by simp only[V.In,V.InL_iff];exact f2 (V.cells_In (z2 D)) hp⟩;simp only[Instr.build,Sem.run_bind,z1,Result.andThen_ok,z7 k,hd,yI k2,V.cells_conc,f1,Sem.run_pure,wJ]
     ·cases e
    ·cases e
   ·cases e
  ·cases e
 ·cases e
theorem zAJ (z:List V):∀(n i:Nat),(yp z n)[i]? = if i<n*z.length then z[i % z.length]? else none:=by
 intro n
 induction n with
 | zero=>intro i;simp[yp]
 | succ n ih =>
  intro i;simp only[yp];by_cases hi:i<z.length
  ·rw[List.getElem?_append_left hi,if_pos (by rw[Nat.succ_mul];omega),oZ hi]
  ·rw[List.getElem?_append_right (by omega),ih]
   by_cases h2:i-z.length<n*z.length
   ·rw[if_pos h2,if_pos (by rw[Nat.succ_mul];omega),<-Nat.mod_eq_sub_mod (by omega)]
   ·rw[if_neg h2,if_neg (by rw[Nat.succ_mul];omega)]
theorem ke (z:List V):∀n:Nat,(yp z n).length=n*z.length:=by
 intro n
 induction n with
 | zero=>simp[yp]
 | succ n ih=>simp only[yp,oR,ih,Nat.succ_mul];omega
theorem zAK (z:List V):∀n:Nat,∀v∈yp z n,v∈z:=by
 intro n
 induction n with
 | zero=>intro v hv;simp[yp]at hv
 | succ n ih =>
  intro v hv;simp only[yp,List.mem_append]at hv;rcases hv with g|g
  ·exact g
  ·exact ih v g
theorem zB0 (z:List V) (n:Nat) (hz:n*z.length≠0) :
  ((Array.range (n*z.length)).map λi=>(z.map (V.conc ρ)).toArray[i % (z.map (V.conc ρ)).toArray.size]!)=((yp z n).map (V.conc ρ)).toArray:=by
 have hzl:0<z.length:=by
  rcases Nat.eq_zero_or_pos z.length with g|g
  ·rw[g]at hz;simp at hz
  ·exact g
 apply Array.ext_getElem?;intro i;simp only[List.getElem?_toArray,oU,zAJ,Array.getElem?_map,List.size_toArray,od];by_cases hi:i<n*z.length
 ·rw[if_pos hi]
  have hm:i % z.length<z.length:=Nat.mod_lt _ hzl;rw[Array.getElem?_range,if_pos hi];simp[hm]
 ·rw[if_neg hi,Array.getElem?_range,if_neg hi]
  rfl
theorem Y9 (ok:CtxOK P c) {t:TypeId}{n:Nat}{parts:List (Nat×V)}{v:V}{h':H}(e:zS c t n parts h=some (v,h')) (r:HR ρ D h w) (hp:∀p∈parts,p.2.In D) :
  Post ρ D h w ((Instr.buildSlice t n (parts.map λp=>(p.1,p.2.conc ρ)).toArray).run P w) v h':=by
 unfold zS at e;split at e
 ·rename_i ti hti
  obtain⟨i,k⟩:=ok.ty t ti hti;split at e
  ·rename_i el hd
   split at e
   ·rename_i te hte
    obtain⟨i2,k2⟩:=ok.ty el te hte;split at e
    ·rename_i z hz
     obtain⟨z1,z2⟩:=kL k2 hz ρ w;cases hb:Nat.ble (n*te.size) 1048576 with
     | false=>simp[hb]at e
     | true =>
      cases hl:wL z.cells te.size with
      | false=>simp[hb,hl]at e
      | true =>
       simp only[hb,hl,oK]at e;have hlen:=yO.1 hl;split at e
       ·rename_i q hq
        split at e
        ·rename_i b h1 hn
         simp only[oA,oB]at e;obtain⟨rfl,rfl⟩:=e;obtain⟨f1,f2⟩:=YF (ρ:=ρ) (D:=D) parts _ q hq;have hin:=f2 (λv hv=>V.cells_In (z2 D) v (zAK _ _ v hv)) hp
         obtain⟨ρ',m1,m2,m3,m4,m5⟩:=YN r hn hin el (λu hu=>by simpa using hu);refine⟨ρ',_,?_,m1,m2,by simp only[V.In];exact m3⟩;have hsmall:¬(n*te.size > 16777216):=by have:=oE hb;omega
         have hfill:Instr.fill (λi=>some (i*te.size,te.size)) ((Array.range (n*te.size)).map λi=>(if n*te.size=0 then (#[]:Array Value) else (z.cells.map (V.conc ρ)).toArray)[i % (if n*te.size=0 then (#[]:Array Value) else (z.cells.map (V.conc ρ)).toArray).size]!) (parts.map λp=>(p.1,p.2.conc ρ))=some (q.map (V.conc ρ)).toArray:=by
          by_cases h0:n*te.size=0
          ·rw[<-f1]
           congr 1
           have:yp z.cells n=[]:=by
            apply List.eq_nil_of_length_eq_zero;rw[ke,hlen,h0]
           rw[this,h0];simp
          ·simp only[h0,if_false]
           rw[<-f1]
           congr 1
           rw[<-hlen];exact zB0 z.cells n (by rw[hlen];exact h0)
         simp only[Instr.buildSlice,Sem.run_bind,z7 k,hd,Result.andThen_ok,yI k2];by_cases h0:n*te.size=0
         ·rw[if_neg (by omega)]
          rw[if_pos h0]at hfill ⊢;simp only[Sem.run_bind,Sem.run_pure,Result.andThen_ok];rw[hfill];simp[newRow,V.conc,Cap.val,m4,m5]
         ·rw[if_neg (by omega)]
          rw[if_neg h0]at hfill ⊢;simp only[Sem.run_bind,Sem.run_pure,Result.andThen_ok,z1,V.cells_conc];rw[hfill];simp[newRow,V.conc,Cap.val,m4,m5]
        ·cases e
       ·cases e
    ·cases e
   ·cases e
  ·cases e
 ·cases e
end
end Go.Sim
