/- F. No condition. -/
import Derived.Test.YtnpeieeomokomaaGreatZE
import Derived.Laws.StructEq
namespace Go.Sim
section
variable {P:Program}{c:Ctx}{ρ:Env}{D:Nat->Prop}{h:H}{w:World}
theorem zJD {ti:TI}{t:Nat}{i:TypeInfo}(k:TyOK P t ti i) {x y:V}{r:Bool}(e:eq1 ti.desc x y=some r) (d:Nat) (w:World):(Op.equalIn (d+1) t (x.conc ρ) (y.conc ρ)).run P w = .ok r w:=by
 have hu:=k.und;unfold eq1 at e;split at e
 case h_1 hd=>simp only[oA]at e;subst e;simp[Op.equalIn,underlying,hu,hd,V.conc]
 case h_2 j a q b hd =>
  cases hk:xE j q with
  | false=>simp[hk]at e
  | true =>
   simp only[hk,oK,oA]at e;subst e;obtain rfl:=(qO _ _).1 hk;simp[Op.equalIn,underlying,hu,hd,V.conc,jF]
 case h_3 a b hd =>
  simp only[oA]at e;subst e;rw[V.conc,V.conc,run_equalIn_string w d t _ _ (by rw[hu,hd]),Jl,Jl,qr]
 all_goals first
  | (cases e;done)
  | (simp only[oA]at e;subst e;rename_i hd;simp[Op.equalIn,underlying,hu,hd,V.conc])
theorem zBw (ok:CtxOK P c) {rec_:TypeId->V->V->Option Bool}{d:Nat}
  (hrec:∀t x y r w,rec_ t x y=some r->x.In D->y.In D->(Op.equalIn d t (x.conc ρ) (y.conc ρ)).run P w = .ok r w) :
  ∀(fs:List Field) (xs ys:List V) (r:Bool),zK1 c rec_ fs xs ys=some r->(∀v∈xs,v.In D)->(∀v∈ys,v.In D)->∀w,
   (Op.eqFields d (xs.map (V.conc ρ)).toArray (ys.map (V.conc ρ)).toArray fs).run P w = .ok r w:=by
 intro fs
 induction fs with
 | nil=>intro xs ys r e _ _ w;simp only[zK1,oA]at e;subst e;simp[Op.eqFields]
 | cons f fs ih =>
  intro xs ys r e hx hy w;simp only[zK1]at e;cases hn:f.name == "_" with
  | true=>simp[hn]at e
  | false =>
   simp only[hn,oL]at e;have hne:f.name ≠ "_":=by simpa using hn
   split at e
   ·cases e
   ·rename_i ti hti
    split at e
    ·rename_i x y h1 h2
     obtain⟨p1,q1⟩:=xL (ρ:=ρ) ok hti h1 hx w;obtain⟨p2,q2⟩:=xL (ρ:=ρ) ok hti h2 hy w;cases hr:rec_ f.type x y with
     | none=>simp[hr]at e
     | some b =>
      have p3:=hrec f.type x y b w hr q1 q2;rw[Op.eqFields,if_pos hne];simp only[Sem.run_bind,p1,p2,p3,Result.andThen_ok];cases b with
      | true =>
       simp only[hr]at e;have:=ih xs ys r e hx hy w;simpa using this
      | false =>
       simp only[hr,oA]at e;subst e;simp
    ·cases e
theorem zFS (ok:CtxOK P c) {el:TypeId}{te:TI}(hte:c.ty.get el=some te) {rec_:V->V->Option Bool}{d:Nat}
  (hrec:∀x y r w,rec_ x y=some r->x.In D->y.In D->(Op.equalIn d el (x.conc ρ) (y.conc ρ)).run P w = .ok r w) :
  ∀(n i:Nat) (xs ys:List V) (r:Bool),zK0 te rec_ n i xs ys=some r->(∀v∈xs,v.In D)->(∀v∈ys,v.In D)->∀w,
   (forIn (m:=Sem) (List.range' i n) ((none,()):Option Bool×Unit) (λi _=>do
    if (!(<-Op.equalIn d el (<-part el (xs.map (V.conc ρ)).toArray (i*te.size)) (<-part el (ys.map (V.conc ρ)).toArray (i*te.size))))=true then pure (ForInStep.done (some false,())) else pure (ForInStep.yield (none,())))).run P w
    = .ok (if r then (none,()) else (some false,())) w:=by
 intro n
 induction n with
 | zero=>intro i xs ys r e _ _ w;simp only[zK0,oA]at e;subst e;simp
 | succ n ih =>
  intro i xs ys r e hx hy w;simp only[zK0]at e;split at e
  ·rename_i x y h1 h2
   obtain⟨p1,q1⟩:=xL (ρ:=ρ) ok hte h1 hx w;obtain⟨p2,q2⟩:=xL (ρ:=ρ) ok hte h2 hy w;cases hr:rec_ x y with
   | none=>simp[hr]at e
   | some b =>
    have p3:=hrec x y b w hr q1 q2;rw[List.range'_succ,List.forIn_cons];simp only[Sem.run_bind,p1,p2,p3,Result.andThen_ok];cases b with
    | true =>
     simp only[hr]at e;have:=ih (i+1) xs ys r e hx hy w;simpa using this
    | false =>
     simp only[hr,oA]at e;subst e;simp
  ·cases e
theorem zAh (ok:CtxOK P c):∀(n:Nat) (t:TypeId) (x y:V) (r:Bool),aeq c n t x y=some r->x.In D->y.In D->∀(m:Nat) (w:World),n<=m ->
  (Op.equalIn m t (x.conc ρ) (y.conc ρ)).run P w = .ok r w:=by
 intro n
 induction n with
 | zero=>intro t x y r e;simp[aeq]at e
 | succ n ih =>
  intro t x y r e hx hy m w hm;obtain⟨m,rfl⟩:∃m',m=m'+1:=⟨m-1,by omega⟩;simp only[aeq]at e;split at e
  ·cases e
  ·rename_i ti hti
   obtain⟨i,k⟩:=ok.ty t ti hti;split at e
   ·rename_i fs xs ys hd
    cases hh:ti.held with
    | true=>simp[hh]at e
    | false =>
     simp only[hh,oL]at e;simp only[V.In,V.InL_iff]at hx hy;have hfs:P.fieldsOf t=fs:=by simp[Program.fieldsOf,k.und,hd]
     rw[wJ,wJ,run_equalIn_struct w m t _ _ (by rw[hfs,k.und,hd]) (by rw[k.held,hh]),hfs];exact zBw ok (λt x y r w e1 hx1 hy1=>ih t x y r e1 hx1 hy1 m w (by omega)) _ _ _ _ e hx hy w
   ·rename_i len el xs ys hd
    split at e
    ·cases e
    ·rename_i te hte
     obtain⟨i2,k2⟩:=ok.ty el te hte;simp only[V.In,V.InL_iff]at hx hy;have hl:=zFS (ρ:=ρ) ok hte (λx y r w e1 hx1 hy1=>ih el x y r e1 hx1 hy1 m w (by omega)) len 0 xs ys r e hx hy w
     rw[wJ,wJ];simp only[Op.equalIn,Sem.run_bind,z7 k,hd,Result.andThen_ok,yI k2];rw[Std.Legacy.Range.forIn_eq_forIn_range'];simp only[Std.Legacy.Range.size,Nat.sub_zero,Nat.add_sub_cancel,Nat.div_one];rw[hl];cases r<;>simp
   ·rename_i ms tx vx ty vy hd
    cases hb:Nat.beq tx ty with
    | false =>
     simp only[hb,oL,oA]at e;subst e;have hne:tx≠ty:=λhe=>by subst he;rw[Nat.beq_refl]at hb;cases hb
     simp[Op.equalIn,z7 k,hd,V.conc,hne]
    | true =>
     obtain rfl:=oF hb;simp only[hb,oK]at e;split at e
     ·cases e
     ·rename_i tj htj
      obtain⟨j,kj⟩:=ok.ty tx tj htj;cases hc:tj.cmp with
      | false=>simp[hc]at e
      | true =>
       simp only[hc,oK]at e;simp only[V.In]at hx hy;have:=ih tx vx vy r e hx hy m w (by omega);simp[Op.equalIn,z7 k,hd,V.conc,ZL kj,kj.cmp,hc,this]
   ·rename_i te b o b' o' hd
    split at e
    ·cases e
    ·rename_i tj htj
     obtain⟨j,kj⟩:=ok.ty te tj htj;cases hb:(Nat.beq b b' && Nat.blt 0 tj.size)with
     | false=>simp[hb]at e
     | true =>
      simp only[hb,oK,oA]at e;subst e;simp only[oG]at hb;obtain rfl:=oF hb.1;have hs:=(z8 _ _).1 hb.2;have hs':¬tj.size=0:=by omega
      have hbeq:((⟨ρ.blk b,ρ.off b+o,none⟩:Addr) == ⟨ρ.blk b,ρ.off b+o',none⟩)=Nat.beq o o':=by
       cases hq:Nat.beq o o' with
       | true=>obtain rfl:=oF hq;simp
       | false =>
        have hne:o≠o':=λhe=>by subst he;rw[Nat.beq_refl]at hq;cases hq
        have:(⟨ρ.blk b,ρ.off b+o,none⟩:Addr)≠⟨ρ.blk b,ρ.off b+o',none⟩:=λhe=>by
         injection he with _ h2 _;omega
        simpa using this
      simp[Op.equalIn,z7 k,hd,V.conc,yI kj,hs',sameAddr,hbeq]
   ·exact zJD k e m w
theorem zFN (ok:CtxOK P c) {op:BinOp}{t:TypeId}{x y:Operand}{a b r:V}(e:yn c op t x y a b=some r) (ha:a.In D) (hb:b.In D) :
  (do eqGuard op t x y (a.conc ρ) (b.conc ρ);binOp op t (a.conc ρ) (b.conc ρ):Sem Value).run P w = .ok (r.conc ρ) w/\r.In D:=by
 have guardOK:Xw c t x y a b=true->(eqGuard op t x y (a.conc ρ) (b.conc ρ)).run P w = .ok () w:=by
  intro hg;unfold Xw at hg;split at hg
  ·simp only[eqGuard,V.conc]
   have hg':(Yu x || Yu y)=true:=hg;cases op<;>simp<;>(cases x<;>cases y<;>simp_all [Yu])
  ·rename_i l1 l2
   split at hg
   ·rename_i ti hti
    obtain⟨i,k⟩:=ok.ty t ti hti;have hg':ti.guard=false:=by simpa using hg
    rw[wJ,wJ];exact run_eqGuard_agg w op t x y _ _ (by rw[k.guard,hg'])
   ·cases hg
  ·rename_i h1 h2
   have:∀u v:V,(∀(_:u = .nilIface) (_:v = .nilIface),False)->(∀l1 l2 (_:u = .agg l1) (_:v = .agg l2),False)->(eqGuard op t x y (u.conc ρ) (v.conc ρ)).run P w = .ok () w:=by
    intro u v g1 g2;cases op<;>simp only[eqGuard]<;>simp<;>(cases u<;>cases v<;>simp_all [V.conc])
   exact this a b (λe1 e2=>h1 e1 e2) (λl1 l2 e1 e2=>h2 l1 l2 e1 e2)
 have eqOK:∀q,aeq c 30 t a b=some q->(Op.equal t (a.conc ρ) (b.conc ρ)).run P w = .ok q w:=by
  intro q hq;exact zAh ok 30 t a b q hq ha hb 10000 w (by omega)
 unfold yn at e;split at e
 ·rename_i k m k' n
  have hgu:(eqGuard op t x y (Value.int k m) (Value.int k' n)).run P w = .ok () w:=by cases op<;>simp[eqGuard]
  cases hs:xq op with
  | true =>
   simp only[hs,oK]at e;obtain⟨p1,p2⟩:=zAm (P:=P) (w:=w) (t:=t) (k':=k') (.inl hs) e ρ;exact⟨by simp[V.conc,hgu,p1],p2 D⟩
  | false =>
   simp only[hs,oL]at e;cases hk:xE k k' with
   | false=>simp[hk]at e
   | true =>
    simp only[hk,oK]at e;obtain⟨p1,p2⟩:=zAm (P:=P) (w:=w) (t:=t) (k':=k') (.inr ((qO _ _).1 hk)) e ρ;exact⟨by simp[V.conc,hgu,p1],p2 D⟩
 ·rename_i m n
  have hgu:(eqGuard op t x y (Value.string ⟨m.toArray⟩) (Value.string ⟨n.toArray⟩)).run P w = .ok () w:=by cases op<;>simp[eqGuard]
  obtain⟨p1,p2⟩:=zIq (P:=P) (w:=w) (t:=t) e ρ;exact⟨by simp[V.conc,hgu,p1],p2 D⟩
 ·rename_i hni hns
  split at e
  ·cases hg:Xw c t x y a b with
   | false=>simp[hg]at e
   | true =>
    simp only[hg,oK]at e;split at e
    ·rename_i q hq
     simp only[oA]at e;subst e;have h1:=guardOK hg;have h2:=eqOK q hq;have h3:(binOp .eql t (a.conc ρ) (b.conc ρ))=(do pure (.bool (<-Op.equal t (a.conc ρ) (b.conc ρ)))):=by
      cases a<;>cases b<;>simp only[V.conc,binOp]<;>first
       | rfl
       | exact absurd rfl (hni _ _ _ _ rfl)
       | exact absurd rfl (hns _ _ rfl)
       | (exfalso;exact hni _ _ _ _ rfl rfl)
       | (exfalso;exact hns _ _ rfl rfl)
     refine⟨?_,by simp[V.In]⟩;simp[h1,h3,h2,V.conc]
    ·cases e
  ·cases hg:Xw c t x y a b with
   | false=>simp[hg]at e
   | true =>
    simp only[hg,oK]at e;split at e
    ·rename_i q hq
     simp only[oA]at e;subst e;have h1:=guardOK hg;have h2:=eqOK q hq;have h3:(binOp .neq t (a.conc ρ) (b.conc ρ))=(do pure (.bool (!(<-Op.equal t (a.conc ρ) (b.conc ρ))))):=by
      cases a<;>cases b<;>simp only[V.conc,binOp]<;>first
       | rfl
       | exact absurd rfl (hni _ _ _ _ rfl)
       | exact absurd rfl (hns _ _ rfl)
       | (exfalso;exact hni _ _ _ _ rfl rfl)
       | (exfalso;exact hns _ _ rfl rfl)
     refine⟨?_,by simp[V.In]⟩;simp[h1,h3,h2,V.conc]
    ·cases e
  ·cases e
end
end Go.Sim
