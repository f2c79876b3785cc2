/- C. No condition. -/
import Derived.Test.YtnpeieeomokomaaGreatYA
import Derived.Deep.AppendSrc
import Derived.Laws.Strings
import Derived.OrdersIn
import Derived.Laws.StructEq
set_option maxRecDepth 4000
namespace Go.Sim
theorem ye{l:List V}:zL l=true↔∀v∈l,v.one=true:=by
 induction l with
 | nil=>simp[zL]
 | cons v l ih=>cases hv:v.one<;>simp[zL,hv,ih]
theorem yl:∀{l:List V}{n:Nat},wU l n=true↔l.length=n:=by
 intro l
 induction l with
 | nil=>intro n;cases n<;>simp[wU]
 | cons x l ih=>intro n;cases n<;>simp[wU,ih]
theorem yt:∀(l:List UInt8) (n:Nat),qI l n=l.length+n:=by
 intro l
 induction l with
 | nil=>intro n;simp[qI]
 | cons x l ih=>intro n;simp only[qI,ih,oV];omega
theorem V.one_conc(ρ:Env){v:V}(h:v.one=true):(v.conc ρ).oneCell'=true:=by
 cases v<;>simp_all [V.one,V.conc,Value.oneCell']
theorem V.cells_conc(ρ:Env)(v:V):(v.conc ρ).cells=(v.cells.map (V.conc ρ)).toArray:=by
 cases v<;>simp[V.conc,V.cells,Value.cells,V.concL_eq]
theorem V.cells_In{D:Nat->Prop}{v:V}(h:v.In D):∀x∈v.cells,x.In D:=by
 cases v<;>simp_all [V.cells,V.In,V.InL_iff]
theorem zB3(w:World)(b:Nat)(o o':Obj):(w.putObj b o).putObj b o'=w.putObj b o':=by
 simp[World.putObj]
theorem zFu{w:World}{b:Nat}{o:Obj}(h:w.heap[b]? = some o):w.putObj b o=w:=by
 unfold World.putObj;have hb:b<w.heap.size:=by
  rcases Nat.lt_or_ge b w.heap.size with g|g
  ·exact g
  ·rw[Array.getElem?_eq_none g]at h;cases h
 have:w.heap[b]=o:=by simpa [Array.getElem?_eq_getElem hb]using h
 have e:w.heap.setIfInBounds b o=w.heap:=by
  rw[Array.setIfInBounds,dif_pos hb,<-this,Array.set_getElem_self]
 rw[e]
theorem K1{w:World}{b o:Nat}{c:Array Value}{e:TypeId}{fz:Nat×Nat}(v:Value)(h:w.heap[b]? = some (.cells c e fz)):
  w.setCell ⟨b,o,none⟩ v=w.putObj b (.cells (c.setIfInBounds o v) e fz):=by
 have hb:b<w.heap.size:=by
  rcases Nat.lt_or_ge b w.heap.size with g|g
  ·exact g
  ·rw[Array.getElem?_eq_none g]at h;cases h
 have hv:w.heap[b] = .cells c e fz:=by simpa [Array.getElem?_eq_getElem hb]using h
 simp only[World.setCell,World.putObj]
 congr 1
 apply Array.ext_getElem?;intro i;rw[Array.getElem?_modify,Array.getElem?_setIfInBounds];by_cases hi:b=i
 ·subst hi
  simp[hb,hv]
 ·simp[hi]
theorem JI:∀(vs:List Value) {w:World}{b o:Nat}{c:Array Value}{e:TypeId}{fz:Nat×Nat},w.heap[b]? = some (.cells c e fz)->o+vs.length<=c.size ->
  ∃c',w.setCells b o vs=w.putObj b (.cells c' e fz)/\c'.size=c.size/\∀i,c'[i]? = if o<=i/\i<o+vs.length then vs[i-o]? else c[i]?:=by
 intro vs
 induction vs with
 | nil=>intro w b o c e fz h _;exact⟨c,by rw[World.setCells,zFu h],rfl,λi=>by rw[if_neg (by simp only[List.length_nil];omega)]⟩
 | cons v vs ih =>
  intro w b o c e fz h hl;simp only[oV]at hl;have hb:b<w.heap.size:=by
   rcases Nat.lt_or_ge b w.heap.size with g|g
   ·exact g
   ·rw[Array.getElem?_eq_none g]at h;cases h
  obtain⟨c',h1,h2,h3⟩:=ih (w:=w.setCell ⟨b,o,none⟩ v) (b:=b) (o:=o+1) (c:=c.setIfInBounds o v) (e:=e) (fz:=fz)
   (by rw[K1 v h,World.putObj_heap_same hb]) (by simp;omega)
  refine⟨c',?_,by simpa using h2,λi=>?_⟩
  ·rw[World.setCells,h1,K1 v h,zB3]
  ·rw[h3 i]
   by_cases h4:o+1<=i/\i<o+1+vs.length
   ·rw[if_pos h4,if_pos (by simp;omega)]
    obtain⟨k,hk⟩:∃k,i-o=k+1:=⟨i-o-1,by omega⟩;rw[hk,List.getElem?_cons_succ];congr 1;omega
   ·rw[if_neg h4]
    by_cases h5:i=o
    ·have hlt:o<c.size:=by omega
     subst h5;rw[if_pos ⟨oP _,by simp only[oV];omega⟩];simp[hlt]
    ·rw[if_neg (by simp;omega),Array.getElem?_setIfInBounds,if_neg (by omega)]
theorem jg{w:World}{b o:Nat}{c:Array Value}{e:TypeId}{fz:Nat×Nat}(h:w.heap[b]? = some (.cells c e fz)):w.cell? ⟨b,o,none⟩=c[o]?:=by
 simp[World.cell?,h]
theorem Yf{w:World}{b o:Nat}{c:Array Value}{e:TypeId}{fz:Nat×Nat}(h:w.heap[b]? = some (.cells c e fz))(hf:¬(fz.1<=o/\o<fz.2)):w.frozen? ⟨b,o,none⟩=false:=by
 simp only[World.frozen?,h];simpa using hf
theorem yP(b o i:Nat):(⟨b,o,none⟩:Addr).add i=⟨b,o+i,none⟩:=by
 unfold Addr.add;split<;>simp_all
def Post(ρ:Env)(D:Nat->Prop)(h:H)(w:World)(r:Result Value)(v:V)(h':H):Prop :=
 ∃ρ' w',r = .ok (v.conc ρ') w'/\Mv ρ D h w ρ' h' w'/\HR ρ' (Dx D h h') h' w'/\v.In (Dx D h h')
theorem Post.pure{ρ:Env}{D:Nat->Prop}{h:H}{w:World}{v:V}(r:HR ρ D h w)(hv:v.In D):Post ρ D h w (.ok (v.conc ρ) w) v h :=
 ⟨ρ,w,rfl,Mv.refl _ _ _ _,by rw[zf];exact r,by rw[zf];exact hv⟩
theorem Post.of_eq{ρ:Env}{D:Nat->Prop}{h h':H}{w:World}{v:V}{r r':Result Value}(e:r=r')(p:Post ρ D h w r' v h'):Post ρ D h w r v h':=e ▸ p
theorem xK(h:H)(b:Nat)(o:Option O):(h.upd b o).nx=h.nx:=rfl
section
variable {P:Program}{ρ:Env}{D:Nat->Prop}{h:H}{w:World}
theorem zEj{a:Bool}{x:Bool}(h:cond a x false=true):a=true/\x=true:=by
 cases a<;>simp_all
theorem wn(r:HR ρ D h w){b o n:Nat}{l:Cs}{x:List V}{esz:Rk}{wr op:Bool}(hd:D b)(hg:h.get b=some (.cells l esz wr op))(h1:l.range o n=some x):
  (loadCells ⟨ρ.blk b,ρ.off b+o,none⟩ n).run P w = .ok (x.map (V.conc ρ)).toArray w/\(∀v∈x,v.In D)/\x.length=n:=by
 obtain⟨a1,a2,a3⟩:=Cs.range_eq h1;obtain⟨c,e,fz,hx,hc,hin,_⟩:=r.rel b _ hd hg;refine⟨?_,λv hv=>(Cs.range_mem h1 hv).elim λi hi=>hin i v hi,a1⟩
 have:=run_loadCells_list (P:=P) w ⟨ρ.blk b,ρ.off b+o,none⟩ (x.map (V.conc ρ)) (λj v hj=>by
  rw[yP,jg hx];rw[oW]at hj;cases hq:x[j]? with
  | none=>simp[hq]at hj
  | some u =>
   simp only[hq,oZ,oA]at hj;subst hj;have hjn:j<n:=by rw[<-a1];exact(List.getElem?_eq_some_iff.1 hq).1
   have hu:l.get? (o+j)=some u:=by rw[<-a3 j hjn];exact hq
   rw[Nat.add_assoc];exact hc _ _ hu)
 rwa [ol,a1]at this
theorem zF4(r:HR ρ D h w){b o:Nat}{l:Cs}{v:V}{esz:Rk}{wr op:Bool}(hd:D b)(hg:h.get b=some (.cells l esz wr op))(h1:l.get? o=some v):
  w.cell? ⟨ρ.blk b,ρ.off b+o,none⟩=some (v.conc ρ)/\v.In D:=by
 obtain⟨c,e,fz,hx,hc,hin,_⟩:=r.rel b _ hd hg;exact⟨by rw[jg hx];exact hc _ _ h1,hin _ _ h1⟩
theorem jp(r:HR ρ D h w){b o:Nat}{vs:List V}{l l':Cs}{esz:Rk}{op:Bool}(hd:D b)(hg:h.get b=some (.cells l esz true op))(hin:∀v∈vs,v.In D)(h1:zL vs=true)(hs:l.put o vs=some l')(hfk:esz.fz<=o):
  (storeCells ⟨ρ.blk b,ρ.off b+o,none⟩ (vs.map (V.conc ρ))).run P w = .ok () (w.setCells (ρ.blk b) (ρ.off b+o) (vs.map (V.conc ρ))) /\
  HR ρ D (h.upd b (some (.cells l' esz true op))) (w.setCells (ρ.blk b) (ρ.off b+o) (vs.map (V.conc ρ))) /\
  Mv ρ D h w ρ (h.upd b (some (.cells l' esz true op))) (w.setCells (ρ.blk b) (ρ.off b+o) (vs.map (V.conc ρ))) /\
  (∀j,j<vs.length->(w.cell? ⟨ρ.blk b,ρ.off b+o+j,none⟩).isSome=true)/\(∀j,j<vs.length->w.frozen? ⟨ρ.blk b,ρ.off b+o+j,none⟩=false):=by
 obtain⟨c,e,fz,hx,hc,hcin,hw⟩:=r.rel b _ hd hg;obtain⟨hoff,hfz,hle,hsz,hty⟩:=hw rfl;obtain⟨s1,s2,s3⟩:=Cs.put_eq hs;have hroom:ρ.off b+o+(vs.map (V.conc ρ)).length<=c.size:=by rw[ol,hoff];omega
 have hcell:∀j,j<vs.length->(w.cell? ⟨ρ.blk b,ρ.off b+o+j,none⟩).isSome=true:=λj hj=>by
  rw[jg hx,Array.getElem?_eq_getElem (by rw[ol]at hroom;omega)];rfl
 have hfroz:∀j,j<vs.length->w.frozen? ⟨ρ.blk b,ρ.off b+o+j,none⟩=false:=λj hj =>
  Yf hx (hfz _ (by rw[ol]at hroom;omega) (by omega))
 obtain⟨c',e1,e2,e3⟩:=JI (vs.map (V.conc ρ)) hx hroom;refine⟨?_,?_,?_,hcell,hfroz⟩
 ·have:=run_storeCells_cells (P:=P) (ρ.blk b) (ρ.off b+o) (vs.map (V.conc ρ)) 0 w (by simpa using hcell) (by simpa using hfroz)
   (λv hv=>by obtain⟨u,hu,rfl⟩:=List.mem_map.1 hv;exact V.one_conc ρ (ye.1 h1 u hu))
  simpa using this
 ·rw[e1]
  refine r.upd hd hg rfl rfl ⟨c',e,fz,rfl,λi v hv=>?_,λi v hv=>?_,λ_=>⟨hoff,by rw[e2];exact hfz,by rw[e2,s2];exact hle,by rw[e2,s2];exact hsz,hty⟩⟩
  ·rw[e3,ol,hoff]
   rw[s3 i]at hv;simp only[Nat.zero_add];by_cases hc1:o<=i/\i<o+vs.length
   ·rw[if_pos hc1]at hv ⊢
    rw[oW,hv];rfl
   ·rw[if_neg hc1]at hv ⊢
    have:=hc i v hv
    rwa [hoff,Nat.zero_add]at this
  ·rw[s3 i]at hv
   split at hv
   ·exact hin v (List.mem_of_getElem? hv)
   ·exact hcin i v hv
 ·rw[e1];exact Mv.upd r hd hg rfl rfl
theorem OM(r:HR ρ D h w)(hn:h.nx<T.top){l:Cs}{esz:Rk}{op:Bool}(hin:∀i v,l.get? i=some v->v.In D)(c:Array Value)(e:TypeId)(fz:Nat×Nat)(cp:Nat)(hc:∀(i:Nat) (v:V),l.get? i=some v->c[i]? = some (v.conc ρ))(hf:∀i,i<c.size->esz.fz<=i->¬(fz.1<=i/\i<fz.2))(hle:l.len<=c.size)(hsz:c.size=if op then cp*esz.n else l.len)(hty:∀t,esz.ty=t+1->e=t/\(fz.1=fz.2\/(fz.1=0/\fz.2<=esz.fz))):
  HR (ρ.at h.nx w.heap.size cp) (Dx D h (h.new (.cells l esz true op))) (h.new (.cells l esz true op)) (w.alloc (.cells c e fz)) /\
  Mv ρ D h w (ρ.at h.nx w.heap.size cp) (h.new (.cells l esz true op)) (w.alloc (.cells c e fz)):=by
 have hnd:¬D h.nx:=λhd=>by have:=r.lt _ hd;omega
 refine⟨r.new cp hn ⟨c,e,fz,rfl,λi v hv=>?_,λi v hv=>V.In_mono wX _ (hin i v hv),λ_=>⟨Env.at_off _ _ _ _,hf,hle,?_,hty⟩⟩,Mv.new r cp hn rfl⟩
 ·rw[Env.at_off,Nat.zero_add,V.conc_agree (Env.at_agree hnd) v (hin i v hv)]
  exact hc i v hv
 ·rw[Env.at_cap];exact hsz
theorem zC8{o:O}:Dx D h (h.new o) h.nx:=.inr ⟨oP _,by simp[H.new]⟩
end
end Go.Sim
namespace Go.Sim
theorem JS(n:Int)(h1 : -9223372036854775808<=n)(h2:n<9223372036854775808):IntKind.i64.wrap n=n:=by
 unfold IntKind.wrap IntKind.bits IntKind.signed;simp only[Int.reducePow,Nat.reduceSub,Bool.true_and,decide_eq_true_eq,ge_iff_le];split<;>omega
theorem zGd(n:Nat):IntKind.u64.wrap (Int.ofNat n)=Int.ofNat (n % 18446744073709551616):=by
 unfold IntKind.wrap IntKind.bits IntKind.signed;simp only[Int.reducePow,Nat.reduceSub,Bool.false_and,Bool.false_eq_true,if_false];rfl
theorem zVG(n:Nat):IntKind.u8.wrap (Int.ofNat n)=Int.ofNat (n % 256):=by
 unfold IntKind.wrap IntKind.bits IntKind.signed;simp only[Int.reducePow,Nat.reduceSub,Bool.false_and,Bool.false_eq_true,if_false];rfl
theorem zY(a b:Nat):Nat.blt a b=true↔a<b:=by
 unfold Nat.blt;rw[Nat.ble_eq];omega
theorem jW(a b:Nat):Nat.ble a b=false↔¬a<=b:=by rw[<-Nat.ble_eq,Bool.not_eq_true]
theorem zAW(a b:Int):(!decide (a<b))=decide (b<=a):=by
 rw[Bool.eq_iff_iff];simp
theorem xZ(k:IntKind)(n:Int):zT k n=k.wrap n:=by
 cases k with
 | i64 =>
  cases n with
  | ofNat m =>
   simp only[zT];rcases hb:Nat.blt m 9223372036854775808 with _|_
   ·rfl
   ·have h:=hb
    have:=(zY _ _).1 h;rw[oK,JS _ (by simp only[Int.ofNat_eq_natCast];omega) (by simp only[Int.ofNat_eq_natCast];omega)]
  | negSucc m =>
   simp only[zT];rcases hb:Nat.blt m 9223372036854775808 with _|_
   ·exact oM _ _
   ·have h:=hb
    have:=(zY _ _).1 h;rw[oK,JS _ (by have:=Int.negSucc_eq m;omega) (by have:=Int.negSucc_eq m;omega)]
 | u64 =>
  cases n with
  | ofNat m =>
   simp only[zT];cases h:Nat.blt m 18446744073709551616
   ·rw[oM,zGd]
   ·have:=(zY _ _).1 h
    rw[oK,zGd,oe this]
  | negSucc m=>rfl
 | u8 =>
  cases n with
  | ofNat m=>simp only[zT];rw[zVG]
  | negSucc m=>rfl
 | _=>rfl
theorem yi(a b:Int):JU a b=decide (a<b):=by
 cases a<;>cases b<;>simp only[JU]<;>rw[Bool.eq_iff_iff]<;>simp<;>omega
theorem jX(a b:Int):eqF a b=(a == b):=by
 cases a<;>cases b<;>simp only[eqF]<;>rw[Bool.eq_iff_iff]<;>simp<;>omega
theorem YI(a b:Int):Yp a b=a+b:=by
 cases a<;>cases b<;>simp[Yp]
theorem OU(a b:Int):zSf a b=a-b:=by
 cases a with
 | ofNat a =>
  cases b with
  | ofNat b =>
   simp only[zSf];cases h:Nat.ble b a
   ·have:=(jW _ _).1 h;rw[oM];simp only[Int.ofNat_eq_natCast];omega
   ·have:=oE h;rw[oK];simp only[Int.ofNat_eq_natCast];omega
  | negSucc b=>rfl
 | negSucc a=>cases b<;>rfl
theorem zJG(a b:Int):zXr a b=a*b:=by
 cases a<;>cases b<;>simp[zXr]
theorem zDE(a b:Int):zMp a b=a.tdiv b:=by
 cases a<;>cases b<;>rfl
theorem zJE(a b:Int):z1r a b=a.tmod b:=by
 cases a<;>cases b<;>rfl
theorem OS(a:Int)(n:Nat):zL8 a n=a*2^n:=by
 cases a with
 | ofNat a=>simp only[zL8,Nat.shiftLeft_eq',Nat.shiftLeft_eq];simp
 | negSucc a=>rfl
theorem zJ0(a:Int)(n:Nat):zB6 a n=a.fdiv (2^n):=by
 cases a with
 | ofNat a =>
  have h1:((2:Int)^n)=((2^n:Nat):Int):=by simp
  have h2:a.shiftRight n=a/2^n:=Nat.shiftRight_eq_div_pow a n;simp only[zB6];rw[h1,h2,Int.fdiv_eq_ediv_of_nonneg _ (Int.natCast_nonneg _)];rfl
 | negSucc a=>rfl
theorem XH(j k:IntKind):wm j k=true↔j=k:=by cases j<;>cases k<;>simp[wm]
theorem Yz:∀(a b:List UInt8),eqB a b=(a == b):=by
 intro a
 induction a with
 | nil=>intro b;cases b<;>rfl
 | cons x a ih =>
  intro b;cases b with
  | nil=>rfl
  | cons y b =>
   simp only[eqB,ih];cases h:Nat.beq x.toNat y.toNat
   ·have:x≠y:=λe=>by subst e;rw[Nat.beq_refl]at h;cases h
    simp[this]
   ·have:x=y:=UInt8.toNat_inj.1 (oF h)
    simp[this]
theorem Kb(l:List UInt8):(⟨l.toArray⟩:ByteArray).toList=l:=by
 rw[ByteArray.toList_eq]
section
variable {P:Program}{w:World}
theorem zBh{op:BinOp}{t:TypeId}{k k':IntKind}{m n:Int}{r:V}(hs:jN op=true\/k=k')(h:zq op k m n=some r)(ρ:Env):
  (binOp op t (.int k m) (.int k' n)).run P w = .ok (r.conc ρ) w/\∀D,r.In D:=by
 cases op<;>simp only[zq,jN,Bool.false_eq_true,false_or]at h hs
 case shl =>
  rw[yi]at h;by_cases hn:n<0
  ·simp[hn]at h
  ·simp only[hn,decide_false,oM,oA]at h
   subst h;have hmin:(cond (n.toNat.ble k.bits) n.toNat k.bits)=min n.toNat k.bits:=by
    cases hb:Nat.ble n.toNat k.bits
    ·have:=(jW _ _).1 hb;rw[oM];omega
    ·have:=oE hb;rw[oK];omega
   refine⟨?_,λ_=>by simp[V.In]⟩
   simp[binOp,Op.shift,hn,V.conc,xZ,OS,hmin]
 case shr =>
  rw[yi]at h;by_cases hn:n<0
  ·simp[hn]at h
  ·simp only[hn,decide_false,oM,oA]at h
   subst h;have hmin:(cond (n.toNat.ble k.bits) n.toNat k.bits)=min n.toNat k.bits:=by
    cases hb:Nat.ble n.toNat k.bits
    ·have:=(jW _ _).1 hb;rw[oM];omega
    ·have:=oE hb;rw[oK];omega
   refine⟨?_,λ_=>by simp[V.In]⟩
   simp[binOp,Op.shift,hn,V.conc,zJ0,hmin]
 case quo =>
  subst hs;rw[jX]at h;by_cases hn:n=0
  ·simp[hn]at h
  ·have hb:(n == 0)=false:=by simpa using hn
   simp only[hb,oM,oA]at h;subst h;exact⟨by simp[binOp,Op.intDiv,hn,V.conc,xZ,zDE],λ_=>by simp[V.In]⟩
 case rem =>
  subst hs;rw[jX]at h;by_cases hn:n=0
  ·simp[hn]at h
  ·have hb:(n == 0)=false:=by simpa using hn
   simp only[hb,oM,oA]at h;subst h;exact⟨by simp[binOp,Op.intDiv,hn,V.conc,zJE],λ_=>by simp[V.In]⟩
 case and=>subst hs;simp only[Ob,oA]at h;subst h;exact⟨by simp[binOp,Op.intBits,V.conc],λ_=>by simp[V.In]⟩
 case or=>subst hs;simp only[Ob,oA]at h;subst h;exact⟨by simp[binOp,Op.intBits,V.conc],λ_=>by simp[V.In]⟩
 case xor=>subst hs;simp only[Ob,oA]at h;subst h;exact⟨by simp[binOp,Op.intBits,V.conc],λ_=>by simp[V.In]⟩
 case andNot=>subst hs;simp only[Ob,oA]at h;subst h;exact⟨by simp[binOp,Op.intBits,V.conc],λ_=>by simp[V.In]⟩
 case add=>subst hs;simp only[oA]at h;subst h;exact⟨by simp[binOp,Op.intArith,V.conc,xZ,YI],λ_=>by simp[V.In]⟩
 case sub=>subst hs;simp only[oA]at h;subst h;exact⟨by simp[binOp,Op.intArith,V.conc,xZ,OU],λ_=>by simp[V.In]⟩
 case mul=>subst hs;simp only[oA]at h;subst h;exact⟨by simp[binOp,Op.intArith,V.conc,xZ,zJG],λ_=>by simp[V.In]⟩
 case eql=>subst hs;simp only[oA]at h;subst h;exact⟨by simp[binOp,Op.intCmp,V.conc,jX],λ_=>by simp[V.In]⟩
 case neq=>subst hs;simp only[oA]at h;subst h;exact⟨by simp[binOp,Op.intCmp,V.conc,jX,bne],λ_=>by simp[V.In]⟩
 case lss=>subst hs;simp only[oA]at h;subst h;exact⟨by simp[binOp,Op.intCmp,V.conc,yi],λ_=>by simp[V.In]⟩
 case leq=>subst hs;simp only[oA]at h;subst h;exact⟨by simp only[V.conc,yi,zAW];simp[binOp,Op.intCmp],λ_=>by simp[V.In]⟩
 case gtr=>subst hs;simp only[oA]at h;subst h;exact⟨by simp[binOp,Op.intCmp,V.conc,yi],λ_=>by simp[V.In]⟩
 case geq=>subst hs;simp only[oA]at h;subst h;exact⟨by simp only[V.conc,yi,zAW];simp[binOp,Op.intCmp],λ_=>by simp[V.In]⟩
theorem zK2{op:BinOp}{t:TypeId}{m n:List UInt8}{r:V}(h:zIF op m n=some r)(ρ:Env):
  (binOp op t (.string ⟨m.toArray⟩) (.string ⟨n.toArray⟩)).run P w = .ok (r.conc ρ) w/\∀D,r.In D:=by
 cases op<;>simp only[zIF]at h<;>try (cases h;done)
 case add =>
  rw[yt,yt]at h;cases hb:Nat.ble (m.length+(n.length+0)) 4611686018427387904
  ·rw[hb]at h;cases h
  ·have hl:=oE hb
   rw[hb,oK,oA]at h;subst h;refine⟨?_,λ_=>by simp[V.In]⟩
   have hsz:¬((((⟨m.toArray⟩:ByteArray).size+(⟨n.toArray⟩:ByteArray).size:Nat):Int) > IntKind.i64.max):=by
    have e1:(⟨m.toArray⟩:ByteArray).size=m.length:=by simp[ByteArray.size]
    have e2:(⟨n.toArray⟩:ByteArray).size=n.length:=by simp[ByteArray.size]
    have e3:IntKind.i64.max=9223372036854775807:=rfl;rw[e1,e2,e3];omega
   have hap:(⟨m.toArray⟩:ByteArray) ++ ⟨n.toArray⟩=⟨(m++n).toArray⟩:=by
    apply ByteArray.ext;rw[ByteArray.data_append];simp
   simp only[binOp,Op.stringOp,if_neg hsz,V.conc,Sem.run_pure,hap]
 case eql=>simp only[oA]at h;subst h;exact⟨by simp[binOp,Op.stringOp,V.conc,Yz],λ_=>by simp[V.In]⟩
 case neq=>simp only[oA]at h;subst h;exact⟨by simp[binOp,Op.stringOp,V.conc,Yz],λ_=>by simp[V.In]⟩
 case lss=>simp only[oA]at h;subst h;exact⟨by simp[binOp,Op.stringOp,V.conc],λ_=>by simp[V.In]⟩
 case geq=>simp only[oA]at h;subst h;exact⟨by simp[binOp,Op.stringOp,V.conc],λ_=>by simp[V.In]⟩
theorem zBf{op:UnOp}{v r:V}(h:aun op v=some r)(ρ:Env):(Op.unary op (v.conc ρ)).run P w = .ok (r.conc ρ) w/\∀D,r.In D:=by
 unfold aun at h;split at h
 ·simp only[oA]at h;subst h
  exact⟨by simp[Op.unary,Op.intArith,V.conc,xZ,OU],λ_=>by simp[V.In]⟩
 ·simp only[Ob,oA]at h;subst h
  exact⟨by simp[Op.unary,Op.intBits,V.conc],λ_=>by simp[V.In]⟩
 ·simp only[oA]at h;subst h
  exact⟨by simp[Op.unary,V.conc],λ_=>by simp[V.In]⟩
 ·cases h
theorem Xs(ρ:Env)(mx:Bool):∀(l:List V) (v r:V),ZC mx v l=some r ->
  (List.foldlM (m:=Sem) (if mx then Builtin.max2 else Builtin.min2) (v.conc ρ) (l.map (V.conc ρ))).run P w = .ok (r.conc ρ) w/\(∀D,v.In D->r.In D):=by
 intro l
 induction l with
 | nil =>
  intro v r h;have:v=r:=by cases v<;>simpa [ZC]using h
  subst this;exact⟨by simp,λ_ h=>h⟩
 | cons x l ih =>
  intro v r h;cases v<;>cases x<;>simp only[ZC]at h<;>try (cases h;done)
  rename_i k a k' b;obtain⟨h1,h2⟩:=ih _ _ h;refine⟨?_,λD _=>h2 D (by simp[V.In])⟩
  cases mx
  ·simp only[oM,yi]at h1
   by_cases hc:b<a
   ·simpa [V.conc,Builtin.min2,hc]using h1
   ·simpa [V.conc,Builtin.min2,hc]using h1
  ·simp only[oK,yi]at h1
   by_cases hc:a<b
   ·simpa [V.conc,Builtin.max2,hc]using h1
   ·simpa [V.conc,Builtin.max2,hc]using h1
end
end Go.Sim
namespace Go.Sim
theorem YP{e e':Operand->Option V}:∀{l:List Operand},(∀x∈l,e x=e' x)->ZW e l=ZW e' l:=by
 intro l
 induction l with
 | nil=>intro _;rfl
 | cons x l ih =>
  intro h;simp only[ZW,h x (List.mem_cons_self ..),ih λy hy=>h y (oH _ hy)]
theorem zBt{e e':Operand->Option V}:∀{l:List (Nat×Operand)},(∀x∈l.map (·.2),e x=e' x)->evP e l=evP e' l:=by
 intro l
 induction l with
 | nil=>intro _;rfl
 | cons x l ih =>
  intro h;obtain⟨i,x⟩:=x;have h1:e x=e' x:=h x (by simp);have h2:=ih λy hy=>h y (by rw[List.map_cons];exact oH _ hy)
  simp only[evP,h1,h2]
theorem J8{e e':Operand->Option V}{o:Option Operand}(h:∀x∈o.toArray,e x=e' x):evO e o=evO e' o:=by
 cases o with
 | none=>rfl
 | some x=>simp only[evO,h x (by simp)]
theorem zES(c:Ctx){e e':Operand->Option V}{cl:Call}{h:H}(hx:∀x∈cl.operands,e x=e' x):xR c cl e h=xR c cl e' h:=by
 have h1:ZW e cl.args.toList=ZW e' cl.args.toList:=YP λx hm=>hx x (by simp[Call.operands];exact .inr (by simpa using hm))
 unfold xR;rw[h1];cases hc:cl.callee with
 | value f =>
  have:e f=e' f:=hx f (by simp[Call.operands,hc]);simp only[this]
 | builtin b=>rfl
 | invoke x m =>
  have:e x=e' x:=hx x (by simp[Call.operands,hc]);simp only[this]
theorem zKB(c:Ctx){e e':Operand->Option V}{o:Oper}{h:H}(hx:∀x∈o.op.operands,e x=e' x):zh c o e h=zh c o e' h:=by
 unfold zh;cases ho:o.op<;>rw[ho]at hx<;>try rfl
 case makeFunc f first captured =>
  cases f with
  | func g =>
   have h1:ZW e first.toList=ZW e' first.toList:=YP λx hm=>hx x (by simp[Op.operands];exact .inl (by simpa using hm))
   have h2:ZW e captured.toList=ZW e' captured.toList:=YP λx hm=>hx x (by simp[Op.operands];exact .inr (by simpa using hm))
   simp only[h1,h2]
  | _=>rfl
 case build t ps =>
  have h1:evP e ps.toList=evP e' ps.toList:=zBt λx hm=>hx x (by simpa [Op.operands]using hm)
  simp only[h1]
 case buildSlice t n ps =>
  have h1:evP e ps.toList=evP e' ps.toList:=zBt λx hm=>hx x (by simpa [Op.operands]using hm)
  simp only[h1]
 case slice t x lo hi mx =>
  have h0:e x=e' x:=hx x (by simp[Op.operands]);have h1:evO e lo=evO e' lo:=J8 λy hm=>hx y (by simp[Op.operands];exact .inr (.inl (by simpa using hm)))
  have h2:evO e hi=evO e' hi:=J8 λy hm=>hx y (by simp[Op.operands];exact .inr (.inr (.inl (by simpa using hm))))
  have h3:evO e mx=evO e' mx:=J8 λy hm=>hx y (by simp[Op.operands];exact .inr (.inr (.inr (by simpa using hm))))
  simp only[h0,h1,h2,h3]
 case call cl=>exact zES c hx
 case makeMap t r=>cases r<;>rfl
 case defer cl =>
  have h1:ZW e cl.args.toList=ZW e' cl.args.toList:=YP λx hm=>hx x (by simp[Op.operands,Call.operands];exact .inr (by simpa using hm))
  simp only[h1];cases ZW e' cl.args.toList with
  | none=>rfl
  | some args =>
   cases hc:cl.callee with
   | value f =>
    have:e f=e' f:=hx f (by simp[Op.operands,Call.operands,hc]);simp only[this]
   | _=>rfl
 all_goals first
  | (have h0:=hx _ (by simp[Op.operands];first|exact .inl rfl|rfl);have h1:=hx _ (by simp[Op.operands];first|exact .inr (.inl rfl)|exact .inr rfl);have h2:=hx _ (by simp[Op.operands];exact .inr (.inr rfl));simp only[h0,h1,h2])
  | (have h0:=hx _ (by simp[Op.operands];exact .inl rfl);have h1:=hx _ (by simp[Op.operands];exact .inr rfl);simp only[h0,h1])
  | (have h0:=hx _ (by simp[Op.operands];rfl);simp only[h0])
theorem zMT{c:Ctx}{o:Oper}{tm:Tm}{h:H}{an:AN}{b:Nat}(hf:wj tm b o=true)(e:zh c o (yF tm) h=some an):
  ∃v,an = .val v h/\∀h2:H,(∀t a b' o',o.op = .load t a->yF tm a=some (.ptr b' o')->h2.get b'=h.get b')->zh c o (yF tm) h2=some (.val v h2):=by
 unfold wj at hf;unfold zh at e ⊢;have ofV:∀{r:Option V}{an:AN}{P:H->Prop},AN.ofV r h=some an->∃v,an = .val v h/\∀h2:H,P h2->AN.ofV r h2=some (.val v h2):=by
  intro r an P e;cases r with
  | none=>simp[AN.ofV]at e
  | some v=>simp only[AN.ofV,oA]at e;exact⟨v,e.symm,λ_ _=>rfl⟩
 cases ho:o.op<;>simp only[ho]at hf e ⊢<;>first|(cases hf;done)|skip
 case load t a =>
  cases ha:yF tm a with
  | none=>simp[ha]at hf
  | some p =>
   cases p<;>simp only[ha]at hf e ⊢<;>first|(cases hf;done)|skip
   rename_i b' o';obtain⟨v,h1,h2⟩:=ofV (P:=λh2=>h2.get b'=h.get b') e;refine⟨v,h1,λh3 hh=>?_⟩
   have hg:h3.get b'=h.get b':=hh _ _ b' o' rfl ha;have:zK c t h3 (.ptr b' o')=zK c t h (.ptr b' o'):=by unfold zK;simp only[hg]
   rw[this];cases hl:zK c t h (.ptr b' o')with
   | none=>simp[hl,AN.ofV]at e
   | some u=>simp only[hl,AN.ofV,oA]at e ⊢;rw[h1]at e;simp at e;simp[e]
 case slice t x lo hi mx =>
  cases ha:yF tm x with
  | none=>simp[ha]at hf
  | some p =>
   have hall:∀(h3:H) (a b d:Option V),yB c t h3 p a b d=yB c t h p a b d:=by
    intro h3 a b d;unfold yB;cases c.ty.get t with
    | none=>rfl
    | some ti =>
     dsimp only;cases p<;>simp only[ha]at hf<;>first|(cases hf;done)|skip
     ·cases ti.desc<;>rfl
     ·rename_i cp
      cases cp<;>simp only at hf<;>first|(cases hf;done)|skip
      cases ti.desc<;>rfl
   simp only[ha]at e ⊢;cases h0:Sim.evO (yF tm) lo with
   | none=>simp[h0]at e
   | some v0 =>
   cases h1:Sim.evO (yF tm) hi with
   | none=>simp[h0,h1]at e
   | some v1 =>
   cases h2:Sim.evO (yF tm) mx with
   | none=>simp[h0,h1,h2]at e
   | some v2 =>
   simp only[h0,h1,h2]at e ⊢;obtain⟨v,h4,h5⟩:=ofV (P:=λ_=>True) e;refine⟨v,h4,λh3 _=>?_⟩
   rw[hall h3];exact h5 h3 trivial
 case convert s d x =>
  cases ha:yF tm x with
  | none=>simp[ha]at hf
  | some p =>
   cases p<;>simp only[ha]at hf e ⊢<;>first|(cases hf;done)|skip
   rename_i k n;have hall:∀h3:H,xN c s d h3 (.int k n)=(match xN c s d h (.int k n)with|some (v,_)=>some (v,h3)|none=>none):=by
    intro h3;unfold xN;cases c.ty.get s with
    | none=>rfl
    | some ts =>
     cases c.ty.get d with
     | none=>rfl
     | some td =>
      dsimp only;cases ts.desc<;>first|rfl|(cases td.desc<;>rfl)
   cases hc:xN c s d h (.int k n)with
   | none=>rw[hc]at e;cases e
   | some q =>
    obtain⟨v,h4⟩:=q;have h5:=hall h;rw[hc]at h5;simp only[oA,oB,true_and]at h5;subst h5;rw[hc]at e;simp only[AN.ofVH,oA]at e;refine⟨v,e.symm,λh2 _=>?_⟩
    rw[hall h2,hc];rfl
 case move x=>exact ofV e
 case assign x=>exact ofV e
 case pick x a b' =>
  cases h0:yF tm x with
  | none=>simp[h0]at e
  | some v=>cases v<;>simp only[h0]at e ⊢<;>first|(cases e;done)|exact ofV e
 case build t ps =>
  cases h0:evP (yF tm) ps.toList with
  | none=>simp[h0]at e
  | some v=>simp only[h0]at e ⊢;exact ofV e
 case binOp op t x y t2 =>
  cases h0:yF tm x with
  | none=>simp[h0]at e
  | some v =>
   cases h1:yF tm y with
   | none=>simp[h0,h1]at e
   | some v=>simp only[h0,h1]at e ⊢;exact ofV e
 case unOp op t x =>
  cases h0:yF tm x with
  | none=>simp[h0]at e
  | some v=>simp only[h0]at e ⊢;exact ofV e
 case field t x f =>
  cases h0:yF tm x with
  | none=>simp[h0]at e
  | some v=>simp only[h0]at e ⊢;exact ofV e
 case index t x y =>
  cases h0:yF tm x with
  | none=>simp[h0]at e
  | some v =>
   cases h1:yF tm y with
   | none=>simp[h0,h1]at e
   | some v=>simp only[h0,h1]at e ⊢;exact ofV e
 case indexAddr t x y =>
  cases h0:yF tm x with
  | none=>simp[h0]at e
  | some v =>
   cases h1:yF tm y with
   | none=>simp[h0,h1]at e
   | some v=>simp only[h0,h1]at e ⊢;exact ofV e
 case extract x i =>
  cases h0:yF tm x with
  | none=>simp[h0]at e
  | some v=>cases v<;>simp only[h0]at e ⊢<;>first|(cases e;done)|exact ofV e
 case makeFunc f first captured =>
  cases f with
  | func g =>
   cases h0:ZW (yF tm) first.toList with
   | none=>simp[h0]at e
   | some v =>
    cases h1:ZW (yF tm) captured.toList with
    | none=>simp[h0,h1]at e
    | some v=>simp only[h0,h1,oA]at e ⊢;exact⟨_,e.symm,λ_ _=>rfl⟩
  | _=>cases e
 case makeInterface t x =>
  cases h0:c.ty.get t with
  | none=>simp[h0]at e
  | some ti =>
   cases h1:yF tm x with
   | none=>simp[h0,h1]at e
   | some v =>
    simp only[h0,h1]at e ⊢;cases hd:ti.desc<;>simp only[hd,oA]at e ⊢<;>first|(cases e;done)|exact⟨_,e.symm,λ_ _=>rfl⟩
 case nilCheck x =>
  cases h0:yF tm x with
  | none=>simp[h0]at e
  | some v =>
   cases v<;>simp only[h0,oA]at e ⊢<;>first|(cases e;done)|exact⟨_,e.symm,λ_ _=>rfl⟩|skip
   rename_i f a b';cases f<;>simp only[oA]at e ⊢<;>first|(cases e;done)|exact⟨_,e.symm,λ_ _=>rfl⟩
 case fieldAddr t x f =>
  cases h0:c.ty.get t with
  | none=>simp[h0]at e
  | some ti =>
   cases h1:yF tm x with
   | none=>simp[h0,h1]at e
   | some v =>
    cases v<;>simp only[h0,h1]at e ⊢<;>first|(cases e;done)|skip
    rename_i b' o';cases hd:ti.desc<;>simp only[hd]at e ⊢<;>first|(cases e;done)|skip
    rename_i fs;cases h2:fs[f]? with
    | none=>simp[h2]at e
    | some fd =>
     simp only[h2]at e ⊢;unfold afa at e ⊢;cases h3:c.ty.get fd.type with
     | none=>simp[h3]at e
     | some tf =>
      simp only[h3]at e ⊢;cases h4:Nat.blt 0 tf.size with
      | false=>simp[h4]at e
      | true=>simp only[h4,oK,oA]at e ⊢;exact⟨_,e.symm,λ_ _=>rfl⟩
theorem ka(n:Nat):∀l,Xq n l=true↔n∈l:=by
 intro l
 induction l with
 | nil=>simp[Xq]
 | cons m l ih =>
  simp only[Xq,od];cases h:Nat.beq n m with
  | true=>simp[oF h]
  | false =>
   have:n≠m:=λe=>by subst e;simp at h
   simp[ih,this]
def zAT(acc:List Nat)(o:Oper):Nat:=o.after.toList.foldl (λs e=>cond (jI e) (s ||| 2^e.on ||| acc.getD e.on 0) s) 0
theorem zOS{acc:List Nat}{i:Nat}:∀(l:List Edge) (s:Nat),Nat.testBit (l.foldl (λs e=>cond (jI e) (s ||| 2^e.on ||| acc.getD e.on 0) s) s) i=true ->
  Nat.testBit s i=true\/∃e∈l,jI e=true/\(e.on=i\/Nat.testBit (acc.getD e.on 0) i=true):=by
 intro l
 induction l with
 | nil=>intro s h;exact .inl h
 | cons e l ih =>
  intro s h;rcases ih _ h with h1|⟨e',m,h2⟩
  ·dsimp only at h1
   cases he:jI e with
   | false=>rw[he,oM]at h1;exact .inl h1
   | true =>
    rw[he,oK,Nat.testBit_or,Nat.testBit_or,Bool.or_eq_true,Bool.or_eq_true]at h1;rcases h1 with(h1|h1)|h1
    ·exact .inl h1
    ·rw[Nat.testBit_two_pow]at h1
     exact .inr ⟨e,List.mem_cons_self ..,he,.inl (by simpa using h1)⟩
    ·exact .inr ⟨e,List.mem_cons_self ..,he,.inr h1⟩
  ·exact .inr ⟨e',oH _ m,h2⟩
theorem zH1{acc:List Nat}{o:Oper}{i:Nat}(h:Nat.testBit (zAT acc o) i=true):∃e∈o.after,jI e=true/\(e.on=i\/Nat.testBit (acc.getD e.on 0) i=true):=by
 rcases zOS _ _ h with h1|⟨e,m,h2⟩
 ·simp at h1
 ·exact⟨e,by simpa using m,h2⟩
theorem X3:∀(l:List Oper) (acc:List Nat),(∃r,za l acc=acc++r/\r.length=l.length) /\
  ∀i o,l[i]? = some o->(za l acc).getD (acc.length+i) 0=zAT ((za l acc).take (acc.length+i)) o:=by
 intro l
 induction l with
 | nil=>intro acc;exact⟨⟨[],by simp[za]⟩,λi o h=>by simp at h⟩
 | cons a l ih =>
  intro acc;obtain⟨⟨r,h1,h2⟩,h3⟩:=ih (acc++[zAT acc a]);have he:za (a::l) acc=za l (acc++[zAT acc a]):=rfl;rw[he];refine⟨⟨zAT acc a::r,by rw[h1];simp,by simp[h2]⟩,λi o h=>?_⟩
  cases i with
  | zero =>
   simp only[List.getElem?_cons_zero,oA]at h;subst h;rw[h1];simp
  | succ i =>
   have:=h3 i o (by simpa using h);simp only[oU,oV,List.length_nil,Nat.zero_add]at this;rw[show acc.length+(i+1)=acc.length+1+i from by omega];exact this
def Closed(ops:List Oper)(S:Nat->Prop):Prop:=∀j o,S j->ops[j]? = some o->∀e∈o.after,jI e=true->S e.on
theorem qS{ops:List Oper}{S:Nat->Prop}(hc:Closed ops S):∀(j:Nat) (o:Oper),ops[j]? = some o->(∀e∈o.after,jI e=true->S e.on) ->
  ∀i,Nat.testBit ((za ops []).getD j 0) i=true->S i:=by
 intro j
 induction j using Nat.strongRecOn with
 | _ j ih =>
  intro o ho he i hb;obtain⟨⟨r,h1,h2⟩,h3⟩:=X3 ops [];have h4:=h3 j o ho;simp only[List.length_nil,Nat.zero_add]at h4;rw[h4]at hb;obtain⟨e,hm,hk,hh⟩:=zH1 hb;rcases hh with rfl|hh
  ·exact he e hm hk
  ·have hlt:e.on<j:=by
    rcases Nat.lt_or_ge e.on j with g|g
    ·exact g
    ·rw[List.getD_eq_getElem?_getD,og (by rw[List.length_take];omega)]at hh
     simp at hh
   have hS:=he e hm hk;have hjl:j<ops.length:=by
    rcases Nat.lt_or_ge j ops.length with g|g
    ·exact g
    ·rw[og g]at ho;cases ho
   have ho':ops[e.on]? = some (ops[e.on]'(by omega)):=oO (by omega);refine ih e.on hlt _ ho' (hc e.on _ hS ho') i ?_;rw[List.getD_eq_getElem?_getD,List.getElem?_take_of_lt hlt,<-List.getD_eq_getElem?_getD]at hh;exact hh
theorem Closed.bit{ops:List Oper}{S:Nat->Prop}(hc:Closed ops S){j i:Nat}(hj:S j)(hb:Nat.testBit ((za ops []).getD j 0) i=true):S i:=by
 cases ho:ops[j]? with
 | some o=>exact qS hc j o ho (hc j o hj ho) i hb
 | none =>
  obtain⟨⟨r,h1,h2⟩,h3⟩:=X3 ops [];rw[List.getD_eq_getElem?_getD,h1,og (by
   have:=List.getElem?_eq_none_iff.1 ho;simp;omega)]at hb
  simp at hb
theorem zHv{ops:List Oper}{j:Nat}{oj:Oper}{bj:Nat}:∀(l:List Oper) (n:Nat),zGJ ops j oj bj n l=true->∀d oi,n+d<j->l[d]? = some oi->Nat.testBit bj (n+d)=true\/zIi ops oi oj=false:=by
 intro l
 induction l with
 | nil=>intro n _ d oi _ h;simp at h
 | cons a l ih =>
  intro n h d oi hd hl;simp only[zGJ]at h;rw[show Nat.blt n j=true from(zY _ _).2 (by omega),oK]at h;cases hc:(Nat.testBit bj n || !(zIi ops a oj))with
  | false=>simp[hc]at h
  | true =>
   rw[hc,oK]at h;cases d with
   | zero =>
    simp only[List.getElem?_cons_zero,oA]at hl;subst hl;simpa using hc
   | succ d =>
    have:=ih (n+1) h d oi (by omega) (by simpa using hl)
    rwa [show n+1+d=n+(d+1)from by omega]at this
theorem KY{ops:List Oper}{bs:List Nat}:∀(l:List Oper) (n:Nat),ZL ops bs n l=true->∀d o,l[d]? = some o ->
  zGJ ops (n+d) o (bs.getD (n+d) 0) 0 ops=true/\zIp (n+d) o=true/\zIv o (bs.getD (n+d) 0)=true:=by
 intro l
 induction l with
 | nil=>intro n _ d o h;simp at h
 | cons a l ih =>
  intro n h d o hl;simp only[ZL,oG]at h;cases d with
  | zero =>
   simp only[List.getElem?_cons_zero,oA]at hl;subst hl;exact⟨h.1.1.1,h.1.1.2,h.1.2⟩
  | succ d =>
   have:=ih (n+1) h.2 d o (by simpa using hl)
   rwa [show n+1+d=n+(d+1)from by omega]at this
theorem K9(bs:List Nat):∀n,jq bs n<=n:=by
 intro n
 induction n with
 | zero=>simp[jq]
 | succ n ih =>
  simp only[jq];cases Nat.beq (bs.getD n 0 % 2^n) (2^n-1)with
  | true=>rw[oK];omega
  | false=>rw[oM];omega
theorem Yl(bs:List Nat):∀n j,jq bs n<=j->j<n->∀i,i<j->Nat.testBit (bs.getD j 0) i=true:=by
 intro n
 induction n with
 | zero=>intro j _ h;omega
 | succ n ih =>
  intro j h1 h2 i hi;simp only[jq]at h1;cases hb:Nat.beq (bs.getD n 0 % 2^n) (2^n-1)with
  | false=>rw[hb,oM]at h1;omega
  | true =>
   rw[hb,oK]at h1;rcases Nat.lt_or_ge j n with g|g
   ·exact ih j h1 g i hi
   ·have:j=n:=by omega
    subst this;have he:=oF hb;have h3:=Nat.testBit_mod_two_pow (bs.getD j 0) j i;rw[he,Nat.testBit_two_pow_sub_one]at h3;simp only[hi,decide_true,Bool.true_and]at h3;exact h3.symm
theorem qF{bs:List Nat}{k:Nat}:∀(n j:Nat),qO bs k j n=true->∀i,j<=i->i<j+n->Nat.testBit (bs.getD i 0) k=true:=by
 intro n
 induction n with
 | zero=>intro j _ i h1 h2;omega
 | succ n ih =>
  intro j h i h1 h2;simp only[qO]at h;cases hb:Nat.testBit (bs.getD j 0) k with
  | false=>rw[hb,oM]at h;cases h
  | true =>
   rw[hb,oK]at h;rcases Nat.eq_or_lt_of_le h1 with rfl|g
   ·exact hb
   ·exact ih (j+1) h i g (by omega)
theorem zAn{ts:List Nat}:∀(n:Nat) (l:List Oper),zAm ts n l=true->∀d o t,d<n->l[d]? = some o->o.dst=some t->t∉ts:=by
 intro n
 induction n with
 | zero=>intro l _ d o t h;omega
 | succ n ih =>
  intro l h d o t hd hl ht;cases l with
  | nil=>simp at hl
  | cons a l =>
   simp only[zAm,oG]at h;cases d with
   | zero =>
    simp only[List.getElem?_cons_zero,oA]at hl;subst hl;simp only[ht]at h;intro hm;rw[(ka _ _).2 hm]at h;simp at h
   | succ d=>exact ih l h.2 d o t (by omega) (by simpa using hl) ht
theorem Xj{ops:List Oper}{tm:Tm}{b bk:Nat}:∀(n i:Nat) (l:List Oper),Xh ops tm b bk i n l=true->∀d o,d<n->l[d]? = some o ->
  Nat.testBit bk (i+d)=true\/(wj tm b o=true/\∀d' o' t,d<=d'->d'<n->l[d']? = some o'->o'.dst=some t->t∉xw ops o):=by
 intro n
 induction n with
 | zero=>intro i l _ d o h;omega
 | succ n ih =>
  intro i l h d o hd hl;cases l with
  | nil=>simp at hl
  | cons a l =>
   simp only[Xh]at h;cases hc:(Nat.testBit bk i || (wj tm b a && zAm (xw ops a) (n+1) (a::l)))with
   | false=>rw[hc,oM]at h;cases h
   | true =>
    rw[hc,oK]at h;cases d with
    | zero =>
     simp only[List.getElem?_cons_zero,oA]at hl;subst hl;simp only[Bool.or_eq_true,oG]at hc;refine hc.imp id λg=>⟨g.1,λd' o' t h1 h2 h3 h4=>?_⟩
     exact zAn (n+1) (a::l) g.2 d' o' t h2 h3 h4
    | succ d =>
     have:=ih (i+1) l h d o (by omega) (by simpa using hl);rw[show i+1+d=i+(d+1)from by omega]at this;refine this.imp id λg=>⟨g.1,λd' o' t h1 h2 h3 h4=>?_⟩
     cases d' with
     | zero=>omega
     | succ d'=>exact g.2 d' o' t (by omega) (by omega) (by simpa using h3) h4
theorem zB7{ops:List Oper}{bs:List Nat}{m k:Nat}{tm:Tm}{o:Oper}(h:JO ops bs m k tm o=true):
  ∃b,((∃t a x o',o.op = .store t a x/\yF tm a=some (.ptr b o'))\/∃t a x y,o.op = .mapUpdate t a x y/\yF tm a=some (.map b)) /\
   (∀i oi,i<k->ops[i]? = some oi->Nat.testBit (bs.getD k 0) i=true\/(wj tm b oi=true/\∀j oj t,i<=j->j<k->ops[j]? = some oj->oj.dst=some t->t∉xw ops oi)) /\
   (∀i,k<i->i<m->Nat.testBit (bs.getD i 0) k=true):=by
 unfold JO at h;split at h
 ·rename_i t a x ho
  split at h
  ·rename_i b o' ha
   simp only[oG]at h;refine⟨b,.inl ⟨t,a,x,o',ho,ha⟩,λi oi hi hoi=>?_,λi h1 h2=>qF _ _ h.2 i (by omega) (by omega)⟩
   have:=Xj k 0 ops h.1 i oi hi hoi
   rwa [Nat.zero_add]at this
  ·cases h
 ·rename_i t a x y ho
  split at h
  ·rename_i b ha
   simp only[oG]at h;refine⟨b,.inr ⟨t,a,x,y,ho,ha⟩,λi oi hi hoi=>?_,λi h1 h2=>qF _ _ h.2 i (by omega) (by omega)⟩
   have:=Xj k 0 ops h.1 i oi hi hoi
   rwa [Nat.zero_add]at this
  ·cases h
 ·cases h
theorem zNG{o:Oper}(h:Xg o=true)(tm:Tm)(b:Nat):wj tm b o=true:=by
 unfold Xg at h;unfold wj;cases ho:o.op<;>simp only[ho]at h ⊢<;>cases h
theorem zBY{ops:List Oper}{bk:Nat}:∀(n i:Nat) (l:List Oper),Xi ops bk i n l=true->∀d o,d<n->l[d]? = some o ->
  Nat.testBit bk (i+d)=true\/(Xg o=true/\∀d' o' t,d<=d'->d'<n->l[d']? = some o'->o'.dst=some t->t∉xw ops o):=by
 intro n
 induction n with
 | zero=>intro i l _ d o h;omega
 | succ n ih =>
  intro i l h d o hd hl;cases l with
  | nil=>simp at hl
  | cons a l =>
   simp only[Xi]at h;cases hc:(Nat.testBit bk i || (Xg a && zAm (xw ops a) (n+1) (a::l)))with
   | false=>rw[hc,oM]at h;cases h
   | true =>
    rw[hc,oK]at h;cases d with
    | zero =>
     simp only[List.getElem?_cons_zero,oA]at hl;subst hl;simp only[Bool.or_eq_true,oG]at hc;refine hc.imp id λg=>⟨g.1,λd' o' t h1 h2 h3 h4=>?_⟩
     exact zAn (n+1) (a::l) g.2 d' o' t h2 h3 h4
    | succ d =>
     have:=ih (i+1) l h d o (by omega) (by simpa using hl);rw[show i+1+d=i+(d+1)from by omega]at this;refine this.imp id λg=>⟨g.1,λd' o' t h1 h2 h3 h4=>?_⟩
     cases d' with
     | zero=>omega
     | succ d'=>exact g.2 d' o' t (by omega) (by omega) (by simpa using h3) h4
theorem zG0{ops:List Oper}{bs:List Nat}{m k:Nat}(h:XX ops bs m k=true):
  (∀i oi,i<k->ops[i]? = some oi->Nat.testBit (bs.getD k 0) i=true\/(Xg oi=true/\∀j oj t,i<=j->j<k->ops[j]? = some oj->oj.dst=some t->t∉xw ops oi)) /\
   (∀i,k<i->i<m->Nat.testBit (bs.getD i 0) k=true):=by
 unfold XX at h;simp only[oG]at h;refine⟨λi oi hi hoi=>?_,λi h1 h2=>qF _ _ h.2 i (by omega) (by omega)⟩
 have:=zBY k 0 ops h.1 i oi hi hoi
 rwa [Nat.zero_add]at this
theorem zJj{md:Region.Mode}{ops:Array Oper}{listed:Array Bool}(hr:Region.ready md ops listed=[])(hsz:listed.size=ops.size):
  ∀(l seen:List Nat),(∀i∈seen,listed.getD i false=true) ->
   (∀p i q,l=p++i::q->∃o,ops[i]? = some o/\∀e∈o.after,Region.binds md e=true->e.on∈p\/e.on∈seen)->∀i∈l,listed.getD i false=true:=by
 intro l
 induction l with
 | nil=>intro seen _ _ i h;simp at h
 | cons a l ih =>
  intro seen hs hw i hi;have ha:listed.getD a false=true:=by
   obtain⟨o,ho,he⟩:=hw [] a l rfl;have hlt:a<ops.size:=by
    rcases Nat.lt_or_ge a ops.size with g|g
    ·exact g
    ·rw[Array.getElem?_eq_none g]at ho;cases ho
   cases hb:listed.getD a false with
   | true=>rfl
   | false =>
    have:a∈Region.ready md ops listed:=by
     refine mem_ready.2 ⟨?_,o,ho,λe hm hbd=>?_⟩
     ·rw[Array.getD_eq_getD_getElem?,Array.getElem?_eq_getElem (by omega)]at hb ⊢
      simpa using hb
     ·rcases he e hm hbd with g|g
      ·simp at g
      ·exact hs _ g
    rw[hr]at this;simp at this
  rcases od.1 hi with rfl|hi
  ·exact ha
  ·refine ih (a::seen) (λj hj=>by rcases od.1 hj with rfl|g<;>first|exact ha|exact hs _ g) (λp i q e=>?_) i hi
   obtain⟨o,ho,he⟩:=hw (a::p) i q (by rw[e];rfl);refine⟨o,ho,λe hm hbd=>?_⟩
   rcases he e hm hbd with g|g
   ·rcases od.1 g with g|g
    ·exact .inr (by rw[g];exact List.mem_cons_self ..)
    ·exact .inl g
   ·exact .inr (oH _ g)
theorem zIN{ops:List Oper}:∀(l seen:List Nat),zAu ops l seen=true->∀p i q,l=p++i::q->∃o,ops[i]? = some o/\∀e∈o.after,OL e=true->e.on∈p\/e.on∈seen:=by
 intro l
 induction l with
 | nil=>intro seen _ p i q h;simp at h
 | cons a l ih =>
  intro seen h p i q hl;simp only[zAu,oG]at h;cases p with
  | nil =>
   simp only[List.nil_append,List.cons.injEq]at hl;obtain⟨rfl,rfl⟩:=hl;cases ho:ops[a]? with
   | none=>rw[ho]at h;simp at h
   | some o =>
    rw[ho]at h;refine⟨o,rfl,λe hm hb=>?_⟩
    have:=List.all_eq_true.1 h.1 e (by simpa using hm);rw[hb]at this;exact .inr ((ka _ _).1 (by simpa using this))
  | cons b p =>
   simp only[List.cons_append,List.cons.injEq]at hl;obtain⟨rfl,rfl⟩:=hl;obtain⟨o,ho,he⟩:=ih _ h.2 p i q rfl;refine⟨o,ho,λe hm hb=>?_⟩
   rcases he e hm hb with g|g
   ·exact .inl (oH _ g)
   ·rcases od.1 g with g|g
    ·exact .inl (by rw[g];exact List.mem_cons_self ..)
    ·exact .inr g
theorem zFS{l:List Nat}:∀n,XD l n=true->∀i,i<n->i∈l:=by
 intro n
 induction n with
 | zero=>intro _ i h;omega
 | succ n ih =>
  intro h i hi;simp only[XD,oG]at h;rcases Nat.lt_or_ge i n with g|g
  ·exact ih h.2 i g
  ·rw[show i=n from by omega];exact(ka _ _).1 h.1
theorem zMa(e:Edge):Region.binds .gc e=OL e:=by
 unfold Region.binds OL;cases e.ground<;>rfl
theorem zMb{md:Region.Mode}{e:Edge}(h:jI e=true):Region.binds md e=true:=by
 obtain⟨on,g⟩:=e;cases g<;>first|rfl|(simp[jI]at h)
def zI1(md:Region.Mode)(ops:Array Oper):Prop:=md = .gc->Region.departs ops=true
theorem zAd(mixed:Bool)(ops:Array Oper)(t:Nat)(p:List Nat->Prop)(h:∀md,zI1 md ops->∀t,p (Region.linearise md ops t)):p (Region.schedule mixed ops t):=by
 unfold Region.schedule;split
 ·exact h .any (λe=>by cases e) t
 ·rename_i hd
  simp only[Bool.or_eq_true,not_or,Bool.not_eq_true,Bool.not_eq_false']at hd;split
  ·exact h .text (λe=>by cases e) _
  ·exact h .gc (λ_=>hd.2) _
theorem zCQ{md:Region.Mode}{ops:Array Oper}{m:Nat}(hk:yb ops.toList=some m)(hm:zI1 md ops){listed:Array Bool}(hr:Region.ready md ops listed=[])(hsz:listed.size=ops.size):
  ∀i,i<ops.size->listed.getD i false=true:=by
 unfold yb at hk;cases hc:(ZL ops.toList (za ops.toList []) 0 ops.toList && (!(Region.departs ops.toList.toArray) || (zAu ops.toList (Region.linearise .gc ops.toList.toArray 0) [] && XD (Region.linearise .gc ops.toList.toArray 0) ops.toList.length)))with
 | false=>simp only[hc,oM]at hk;cases hk
 | true =>
  simp only[oG]at hc;by_cases hgc:md = .gc
  ·subst hgc
   have hd:=hm rfl;have hc2:=hc.2;rw[show ops.toList.toArray=ops from by simp,hd]at hc2;simp only[Bool.not_true,Bool.false_or,oG]at hc2;intro i hi;refine zJj hr hsz _ [] (λ_ h=>by simp at h) (λp i q e=>?_) i (zFS _ hc2.2 i (by simpa using hi));obtain⟨o,ho,he⟩:=zIN _ _ hc2.1 p i q e;exact⟨o,by simpa using ho,λe hm hb=>he e hm (by rw[<-zMa];exact hb)⟩
  ·intro i hi
   refine zJj hr hsz (List.range ops.size) [] (λ_ h=>by simp at h) (λp i q e=>?_) i (List.mem_range.2 hi);have hp:p=List.range p.length/\i=p.length:=by
    have h1:(List.range ops.size)[p.length]? = some i:=by rw[e];simp
    have h2:(List.range ops.size).take p.length=p:=by rw[e];simp
    have hlt:p.length<ops.size:=by
     have:=congrArg List.length e;simp at this;omega
    rw[List.take_range,Nat.min_eq_left (by omega)]at h2;rw[List.getElem?_range hlt]at h1;exact⟨h2.symm,by simpa using h1.symm⟩
   obtain⟨hp,rfl⟩:=hp;have hlt:p.length<ops.size:=by
    have:=congrArg List.length e;simp at this;omega
   refine⟨ops[p.length],Array.getElem?_eq_getElem hlt,λe hm hb=>.inl ?_⟩
   have hs:=(KY ops.toList 0 hc.1 p.length ops[p.length] (by simp[hlt])).2.1;have:=List.all_eq_true.1 hs e (by simpa using hm);rw[Nat.zero_add]at this;rw[hp,List.mem_range];simp only[Bool.or_eq_true]at this;rcases this with g|g
   ·exact(zY _ _).1 g
   ·exfalso
    unfold Region.binds at hb;cases hg:e.ground<;>rw[hg]at g hb<;>simp at g hb;exact hgc hb

theorem XL{v : Value}{x : V}(h : zLI v = some x): (∀ρ, x.conc ρ = v) /\ (∀D, x.In D) := by
  unfold zLI at h;split at h<;>simp only[oA, reduceCtorEq]at h<;>subst h <;>
    (refine⟨λρ => ?_, λD => ?_⟩<;>simp[V.conc, V.In, V.InL, V.concL])

theorem zH9 : ∀{l : List Value}{x : List V}, zLJ l = some x -> (∀ρ, V.concL ρ x = l) /\ (∀D, V.InL D x) := by
  intro l
  induction l with
  | nil => intro x h;simp only[zLJ, oA]at h;subst h;simp[V.concL, V.InL]
  | cons v l ih =>
    intro x h;simp only[zLJ]at h;cases h1 : zLI v with
    | none => simp[h1]at h
    | some y =>
      cases h2 : zLJ l with
      | none => simp[h1, h2]at h
      | some z =>
        simp only[h1, h2, oA]at h;subst h;obtain⟨a1, a2⟩ := XL h1;obtain⟨b1, b2⟩ := ih h2;exact⟨λρ => by simp[V.concL, a1, b1], λD => by simp[V.InL, a2, b2]⟩

theorem YU{v : Value}{x : V}(h : ofV v = some x): (∀ρ, x.conc ρ = v) /\ (∀D, x.In D) := by
  unfold ofV at h;split at h
  · split at h
    · rename_i l _ y hy
      simp only[oA]at h;subst h;obtain⟨a1, a2⟩ := zH9 hy;exact⟨λρ => by simp[V.conc, a1], λD => by simp[V.In, a2]⟩
    · cases h
  · split at h
    · rename_i t v _ y hy
      simp only[oA]at h;subst h;obtain⟨a1, a2⟩ := XL hy;exact⟨λρ => by simp[V.conc, a1], λD => by simp[V.In, a2]⟩
    · cases h
  · exact XL h

structure TyOK (P : Program) (t : Nat) (ti : TI) (i : TypeInfo) : Prop where
  info : P.info? t = some i
  und : P.underlying t = some ti.desc
  size : i.size = ti.size
  bytes : i.bytes = ti.bytes
  zero : ∀z, ti.zero = some z -> ∃v, i.zero = some v /\ ofV v = some z
  cmp : i.comparable = ti.cmp
  held : P.stoodInHeld t = ti.held
  guard : P.eqGuardType P.depth t = ti.guard
  meth : i.methods.toList = ti.meth
  id : ti.id = t

structure CtxOK (P : Program) (c : Ctx) : Prop where
  ty : ∀t ti, c.ty.get t = some ti -> ∃i, TyOK P t ti i
  fn : ∀f fi, c.fn.get f = some fi -> ∃g, P.funcs[f]? = some g /\ (g.name == "runtime.NumGoroutine") = false /\ g.body = some fi.body /\ g.ntmps = fi.n /\ g.results.toList = fi.results
  noesc : ∀k, c.noesc = some k -> ∃g, P.funcs[k]? = some g /\ (g.name == "runtime.NumGoroutine") = false /\ g.body.isNone = true /\ Extern.findNext g = none /\ Extern.find g = some Extern.AbiNoEscape.same
  mnz : ∀k el, c.mnz = some (k, el) -> ∃g ps rs t, P.funcs[k]? = some g /\ (g.name == "runtime.NumGoroutine") = false /\ g.body.isNone = true /\ Extern.findNext g = none /\
    Extern.find g = some (Extern.BytealgMakeNoZero.makeNoZero ps rs) /\ rs[0]? = some t /\ P.underlying t = some (.slice el)
  lies : ∀e u off, c.lies e u off = true -> liesAt P P.depth e 1 off u 1 = true

theorem zFQ(P : Program): ∀(l : List TypeInfo) (i : Nat) (t : T TI) (m : Nat), i + l.length <= T.top ->
    (JQ P i l t).get m = if i <= m /\ m < i + l.length then (l[m - i]?).bind (TI.of P m) else t.get m := by
  intro l
  induction l with
  | nil => intro i t m _;simp only[JQ, List.length_nil];rw[if_neg (by omega)]
  | cons x l ih =>
    intro i t m h;simp only[oV]at h ⊢;rw[JQ, ih _ _ _ (by omega), T.get_set _ _ _ _ (by omega)];by_cases h1 : m = i
    · subst h1
      rw[if_neg (by omega), if_pos rfl, if_pos (by omega)];simp
    · by_cases h2 : i + 1 <= m /\ m < i + 1 + l.length
      · rw[if_pos h2, if_pos (by omega)]
        obtain⟨k, hk⟩ : ∃k, m - i = k + 1 := ⟨m - i - 1, by omega⟩;rw[hk, List.getElem?_cons_succ]
        congr 2
        omega
      · rw[if_neg h2, if_neg h1, if_neg (by omega)]

theorem zFP : ∀(l : List Func) (i : Nat) (t : T FI) (m : Nat), i + l.length <= T.top ->
    (Xe i l t).get m = if i <= m /\ m < i + l.length then (l[m - i]?).bind FI.of else t.get m := by
  intro l
  induction l with
  | nil => intro i t m _;simp only[Xe, List.length_nil];rw[if_neg (by omega)]
  | cons x l ih =>
    intro i t m h;simp only[oV]at h ⊢;rw[Xe, ih _ _ _ (by omega), T.get_set _ _ _ _ (by omega)];by_cases h1 : m = i
    · subst h1
      rw[if_neg (by omega), if_pos rfl, if_pos (by omega)];simp
    · by_cases h2 : i + 1 <= m /\ m < i + 1 + l.length
      · rw[if_pos h2, if_pos (by omega)]
        obtain⟨k, hk⟩ : ∃k, m - i = k + 1 := ⟨m - i - 1, by omega⟩;rw[hk, List.getElem?_cons_succ]
        congr 2
        omega
      · rw[if_neg h2, if_neg h1, if_neg (by omega)]

theorem zZr(P : Program)(ne : Option Nat)(mz : Option (Nat × Nat))(h1 : P.types.size <= T.top)(h2 : P.funcs.size <= T.top)(h3 : ∀k, ne = some k -> ∃g, P.funcs[k]? = some g /\ (g.name == "runtime.NumGoroutine") = false /\ g.body.isNone = true /\ Extern.findNext g = none /\ Extern.find g = some Extern.AbiNoEscape.same)(h4 : ∀k el, mz = some (k, el) -> ∃g ps rs t, P.funcs[k]? = some g /\ (g.name == "runtime.NumGoroutine") = false /\ g.body.isNone = true /\ Extern.findNext g = none /\
      Extern.find g = some (Extern.BytealgMakeNoZero.makeNoZero ps rs) /\ rs[0]? = some t /\ P.underlying t = some (.slice el)): CtxOK P (Ctx.of P ne mz) := by
  refine⟨?_, ?_, h3, h4, λe u off h => h⟩
  · intro t ti h
    simp only[Ctx.of]at h;rw[zFQ P _ _ _ _ (by simpa using h1)]at h;split at h
    · rename_i hc
      simp only[Nat.sub_zero, Array.length_toList, Nat.zero_add]at h hc;cases hi : P.types.toList[t]? with
      | none => simp[hi]at h
      | some i =>
        simp only[hi, Option.bind_some]at h;have hi' : P.types[t]? = some i := by simpa using hi
        have hinfo : P.info? t = some i := by unfold Tables.info?;rw[if_pos hc.2];exact hi'
        have main : ∀d, P.underlying t = some d -> ti = TI.mk' P t i d -> TyOK P t ti i := by
          intro d hd he;subst he;refine⟨hinfo, hd, rfl, rfl, ?_, rfl, rfl, rfl, rfl, rfl⟩;intro z hz;simp only[TI.mk']at hz;cases hv : i.zero with
          | none => simp[hv]at hz
          | some v => exact⟨v, rfl, by simpa [hv]using hz⟩
        refine⟨i, ?_⟩;unfold TI.of at h;split at h
        · rename_i nm u hd
          split at h
          · rename_i j hj
            simp only[oA]at h;refine main j.desc ?_ h.symm;have hu : u < P.types.size := by
              rcases Nat.lt_or_ge u P.types.size with g|g
              · exact g
              · rw[Array.getElem?_eq_none g]at hj;cases hj
            have hju : P.info? u = some j := by unfold Tables.info?;rw[if_pos hu];exact hj
            unfold Program.underlying;rw[hinfo];obtain⟨d, s1, s2, s3, s4, s5, s6, s7, s8, s9⟩ := i;simp only at hd;subst hd;simp[hju]
          · cases h
        · rename_i hne
          simp only[oA]at h;refine main i.desc ?_ h.symm;unfold Program.underlying;rw[hinfo];obtain⟨d, s1, s2, s3, s4, s5, s6, s7, s8, s9⟩ := i;cases d<;>first|rfl|exact absurd rfl (hne _ _)
    · simp at h
  · intro f fi h
    simp only[Ctx.of]at h;rw[zFP _ _ _ _ (by simpa using h2)]at h;split at h
    · rename_i hc
      simp only[Nat.sub_zero, Array.length_toList, Nat.zero_add]at h hc;cases hi : P.funcs.toList[f]? with
      | none => simp[hi]at h
      | some g =>
        simp only[hi, Option.bind_some]at h;refine⟨g, by simpa using hi, ?_⟩;unfold FI.of at h;cases hb : g.body with
        | none => simp[hb]at h
        | some b =>
          cases hn : g.name == "runtime.NumGoroutine" with
          | true => simp[hb, hn]at h
          | false =>
            simp only[hb, hn, oM, oA]at h;subst h;exact⟨rfl, rfl, rfl, rfl⟩
    · simp at h
section
variable {P:Program}{c:Ctx}{ρ:Env}{D:Nat->Prop}{h:H}{w:World}
theorem z6{t:Nat}{ti:TI}{i:TypeInfo}(k:TyOK P t ti i)(w:World):(underlying t).run P w = .ok ti.desc w:=by
 simp[underlying,k.und]
theorem Zv{t:Nat}{ti:TI}{i:TypeInfo}(k:TyOK P t ti i)(w:World):(typeInfo t).run P w = .ok i w:=by
 simp[typeInfo,k.info]
theorem yN{t:Nat}{ti:TI}{i:TypeInfo}(k:TyOK P t ti i)(w:World):(sizeOf t).run P w = .ok ti.size w:=by
 simp[sizeOf,Zv k,k.size]
theorem YZ{t:Nat}{ti:TI}{i:TypeInfo}(k:TyOK P t ti i)(w:World):(isAgg t).run P w = .ok (jZ ti.desc) w:=by
 simp only[isAgg,Sem.run_bind,z6 k,Result.andThen_ok];cases ti.desc<;>rfl
theorem kg{t:Nat}{ti:TI}{i:TypeInfo}{z:V}(k:TyOK P t ti i)(hz:ti.zero=some z)(ρ:Env)(w:World):(zeroValue t).run P w = .ok (z.conc ρ) w/\∀D,z.In D:=by
 obtain⟨v,h1,h2⟩:=k.zero z hz;obtain⟨a,b⟩:=YU h2;exact⟨by simp[zeroValue,Zv k,h1,a],b⟩
theorem wZ(l:List V):(V.agg l).conc ρ = .agg (l.map (V.conc ρ)).toArray:=by simp[V.conc,V.concL_eq]
theorem zHJ(l:List V):(V.tuple l).conc ρ = .tuple (l.map (V.conc ρ)).toArray:=by simp[V.conc,V.concL_eq]
theorem JZ(ok:CtxOK P c){t:TypeId}{a v:V}(e:zK c t h a=some v)(r:HR ρ D h w)(ha:a.In D):
  (Instr.loadAt t (a.conc ρ)).run P w = .ok (v.conc ρ) w/\v.In D:=by
 unfold zK at e;split at e
 ·rename_i b o
  simp only[V.In]at ha;split at e
  ·rename_i l esz wr op hg
   split at e
   ·rename_i ti hti
    obtain⟨i,k⟩:=ok.ty t ti hti;cases hag:jZ ti.desc with
    | true =>
     simp only[hag,oK]at e;split at e
     ·rename_i x hx
      simp only[oA]at e;subst e;obtain⟨h1,h2,_⟩:=wn (P:=P) r ha hg hx;refine⟨?_,by simp only[V.In,V.InL_iff];exact h2⟩;simp[Instr.loadAt,Instr.sureAddr,loadVar,V.conc,YZ k,hag,yN k,h1,V.concL_eq]
     ·cases e
    | false =>
     simp only[hag,oM]at e;obtain⟨h1,h2⟩:=zF4 r ha hg e;refine⟨?_,h2⟩;simp[Instr.loadAt,Instr.sureAddr,loadVar,V.conc,YZ k,hag,h1]
   ·cases e
  ·cases e
 ·cases e
theorem zKG(ok:CtxOK P c){t:TypeId}{a v:V}{h':H}(e:zg c t h a v=some h')(r:HR ρ D h w)(ha:a.In D)(hv:v.In D):
  ∃w',(Instr.storeAt t (a.conc ρ) (v.conc ρ)).run P w = .ok () w'/\HR ρ D h' w'/\Mv ρ D h w ρ h' w'/\h'.nx=h.nx:=by
 unfold zg at e;split at e
 ·rename_i b o
  simp only[V.In]at ha;split at e
  ·rename_i l esz op hg
   split at e
   ·rename_i ti hti
    obtain⟨i,k⟩:=ok.ty t ti hti;cases h1:wU v.cells ti.size with
    | false=>simp[h1]at e
    | true =>
     cases h2':cond (Nat.ble esz.fz o) (zL v.cells) false with
     | false=>rw[h1,oK,h2']at e;cases e
     | true =>
      rw[h1,oK,h2',oK]at e;obtain⟨hfk,h2⟩:=zEj h2';split at e
      ·rename_i l' hl'
       simp only[oA]at e;subst e;obtain⟨s1,s2,s3,_⟩:=jp (P:=P) r ha hg (V.cells_In hv) h2 hl' (oE hfk);refine⟨_,?_,s2,s3,rfl⟩;have hlen:=yl.1 h1;simp only[Instr.storeAt,Instr.sureAddr,V.conc,storeVar,Sem.run_bind,Sem.run_pure,Result.andThen_ok,yN k,V.cells_conc];simp[hlen,s1]
      ·cases e
   ·cases e
  ·cases e
 ·cases e
theorem xb(ok:CtxOK P c){t:TypeId}{ti:TI}{l:List V}{off:Nat}{v:V}(hti:c.ty.get t=some ti)(e:apart ti l off=some v)(hl:∀x∈l,x.In D)(w:World):
  (part t (l.map (V.conc ρ)).toArray off).run P w = .ok (v.conc ρ) w/\v.In D:=by
 obtain⟨i,k⟩:=ok.ty t ti hti;unfold apart at e;split at e
 ·cases e
 ·rename_i q hq
  obtain⟨a1,rfl⟩:=zEy hq;cases hag:jZ ti.desc with
  | true =>
   simp only[hag,oK]at e;split at e
   ·rename_i x hx
    simp only[oA]at e;subst e;obtain⟨a2,rfl⟩:=YB hx;refine⟨?_,by simp only[V.In,V.InL_iff];exact λx hx=>hl x (List.mem_of_mem_drop (List.mem_of_mem_take hx))⟩
    simp only[part,Sem.run_bind,YZ k,hag,Result.andThen_ok,if_true,yN k,Sem.run_pure,wZ]
    congr 2
    apply Array.ext';rw[Array.toList_extract];simp[List.map_take,List.map_drop]
   ·cases e
  | false =>
   simp only[hag,oM]at e;split at e
   ·rename_i x y hxy
    simp only[oA]at e;subst e;have hv:l[off]? = some x:=by
     have:(l.drop off)[0]? = some x:=by rw[hxy];rfl
     simpa using this
    refine⟨?_,hl x (List.mem_of_getElem? hv)⟩;simp[part,YZ k,hag,hv]
   ·cases e
theorem zGp(ok:CtxOK P c){t:TypeId}{x v:V}{f:Nat}(e:zRL c t x f=some v)(hx:x.In D):(Instr.field t (x.conc ρ) f).run P w = .ok (v.conc ρ) w/\v.In D:=by
 unfold zRL at e;split at e
 ·rename_i ti hti
  obtain⟨i,k⟩:=ok.ty t ti hti;split at e
  ·rename_i fs cs hd
   split at e
   ·rename_i fd hfd
    split at e
    ·rename_i tf htf
     simp only[V.In,V.InL_iff]at hx;obtain⟨p1,p2⟩:=xb (ρ:=ρ) ok htf e hx w;refine⟨?_,p2⟩;simp[Instr.field,z6 k,hd,hfd,wZ,asAgg,p1]
    ·cases e
   ·cases e
  ·cases e
 ·cases e
theorem j9(l:List UInt8):(⟨l.toArray⟩:ByteArray).size=l.length:=by simp[ByteArray.size]
theorem qR{n:Int}{i:Nat}(h:yx n=some i):n=(i:Int):=by
 cases n<;>simp[yx]at h;simp[h]
theorem zCl(ok:CtxOK P c){t:TypeId}{x ix v:V}(e:xe c t x ix=some v)(hx:x.In D):(Instr.index t (x.conc ρ) (ix.conc ρ)).run P w = .ok (v.conc ρ) w/\v.In D:=by
 unfold xe at e;split at e
 ·rename_i kk n
  split at e
  ·rename_i i ti hi hti
   obtain⟨inf,k⟩:=ok.ty t ti hti;obtain rfl:=qR hi;split at e
   ·rename_i len el cs hd
    cases hb:Nat.blt i len with
    | false=>simp[hb]at e
    | true =>
     simp only[hb,oK]at e;have hlt:=(zY _ _).1 hb;split at e
     ·rename_i te hte
      obtain⟨inf2,k2⟩:=ok.ty el te hte;simp only[V.In,V.InL_iff]at hx;obtain⟨p1,p2⟩:=xb (ρ:=ρ) ok hte e hx w;refine⟨?_,p2⟩;have hlt':(i:Int)<(len:Int):=by omega
      simp[Instr.index,V.conc,asIntOf,z6 k,hd,V.concL_eq,hlt,yN k2,p1]
     ·cases e
   ·rename_i bl hd
    split at e
    ·rename_i b hb
     simp only[oA]at e;subst e;have hat:∀(l:List UInt8) (i:Nat) (b:UInt8),Yv l i=some b->l[i]? = some b:=by
      intro l
      induction l with
      | nil=>intro i b h;simp[Yv]at h
      | cons y l ih=>intro i b h;cases i<;>simp_all [Yv]
     have hb':=hat bl i b hb;have hs:(⟨bl.toArray⟩:ByteArray)[i]? = some b:=by
      obtain⟨hl,hv⟩:=List.getElem?_eq_some_iff.1 hb';have hsz:i<(⟨bl.toArray⟩:ByteArray).size:=by rw[j9];exact hl
      rw[getElem?_pos (⟨bl.toArray⟩:ByteArray) i hsz]
      congr 1
     refine⟨?_,by simp[V.In]⟩;have h0:(0:Int)<=(i:Int):=by omega
     simp[Instr.index,V.conc,asIntOf,z6 k,hd,hs]
    ·cases e
   ·cases e
  ·cases e
 ·cases e
theorem zGq(ok:CtxOK P c){t:TypeId}{x ix v:V}(e:z8 c t x ix=some v)(hx:x.In D):(Instr.indexAt t (x.conc ρ) (ix.conc ρ)).run P w = .ok (v.conc ρ) w/\v.In D:=by
 unfold z8 at e;split at e
 ·rename_i kk n
  split at e
  ·rename_i i ti hi hti
   obtain⟨inf,k⟩:=ok.ty t ti hti;obtain rfl:=qR hi;split at e
   ·rename_i len el b o hd
    cases hb:Nat.blt i len with
    | false=>simp[hb]at e
    | true =>
     simp only[hb,oK]at e;have hlt:=(zY _ _).1 hb;split at e
     ·rename_i te hte
      obtain⟨inf2,k2⟩:=ok.ty el te hte;simp only[oA]at e;subst e;refine⟨?_,by simpa [V.In]using hx⟩;have hlt':(i:Int)<(len:Int):=by omega
      simp[Instr.indexAt,V.conc,asIntOf,z6 k,hd,Instr.sureAddr,hlt,yN k2,yP,Nat.add_assoc]
     ·cases e
   ·rename_i el b o len cp hd
    cases hb:Nat.blt i len with
    | false=>simp[hb]at e
    | true =>
     simp only[hb,oK]at e;have hlt:=(zY _ _).1 hb;split at e
     ·rename_i te hte
      obtain⟨inf2,k2⟩:=ok.ty el te hte;simp only[oA]at e;subst e;refine⟨?_,by simpa [V.In]using hx⟩;have hlt':(i:Int)<(len:Int):=by omega
      simp[Instr.indexAt,V.conc,asIntOf,z6 k,hd,hlt,yN k2,yP,Nat.add_assoc]
     ·cases e
   ·cases e
  ·cases e
 ·cases e
theorem zGr(ok:CtxOK P c){t:TypeId}{x v:V}(e:zp c t h x=some v)(r:HR ρ D h w)(hx:x.In D)(ts:Array TypeId)(hts:ts.getD 0 0=t)(ty:TypeId)(hne:0<ts.size):
  (Builtin.len_ ts ty #[x.conc ρ]).run P w = .ok (v.conc ρ) w/\v.In D:=by
 have ht:ts[0]? = some t:=by
  rw[Array.getElem?_eq_getElem hne];simp only[Array.getD,hne,dif_pos]at hts;rw[<-hts];rfl
 unfold zp at e;split at e
 ·cases e
 ·rename_i ti hti
  obtain⟨i,k⟩:=ok.ty t ti hti;split at e
  ·rename_i l hd
   simp only[oA]at e;subst e;exact⟨by simp[Builtin.len_,ht,z6 k,hd,V.conc,goInt,yt,j9],by simp[V.In]⟩
  ·rename_i n el hd
   simp only[oA]at e;subst e;exact⟨by simp[Builtin.len_,ht,z6 k,hd,V.conc,goInt],by simp[V.In]⟩
  ·rename_i el b o n cp hd
   simp only[oA]at e;subst e;exact⟨by simp[Builtin.len_,ht,z6 k,hd,V.conc,goInt],by simp[V.In]⟩
  ·rename_i el hd
   simp only[oA]at e;subst e;exact⟨by simp[Builtin.len_,ht,z6 k,hd,V.conc,goInt],by simp[V.In]⟩
  ·rename_i a b hd
   simp only[oA]at e;subst e;exact⟨by simp[Builtin.len_,ht,z6 k,hd,V.conc,goInt],by simp[V.In]⟩
  ·rename_i a b rr hd
   simp only[V.In]at hx;split at e
   ·rename_i es clock hg
    simp only[oA]at e;subst e;have hr:=(r.rel rr _ hx hg).1;exact⟨by simp[Builtin.len_,ht,z6 k,hd,V.conc,goInt,getObj,Sem.run,hr],by simp[V.In]⟩
   ·cases e
  ·cases e
theorem zGo(ok:CtxOK P c){t:TypeId}{x v:V}(e:zW3 c t x=some v)(ts:Array TypeId)(hts:ts.getD 0 0=t)(ty:TypeId)(hne:0<ts.size):
  (Builtin.cap_ ts ty #[x.conc ρ]).run P w = .ok (v.conc ρ) w/\v.In D:=by
 have ht:ts[0]? = some t:=by
  rw[Array.getElem?_eq_getElem hne];simp only[Array.getD,hne,dif_pos]at hts;rw[<-hts];rfl
 unfold zW3 at e;split at e
 ·cases e
 ·rename_i ti hti
  obtain⟨i,k⟩:=ok.ty t ti hti;split at e
  ·rename_i n el hd
   simp only[oA]at e;subst e;exact⟨by simp[Builtin.cap_,ht,z6 k,hd,V.conc,goInt],by simp[V.In]⟩
  ·rename_i el b o n cp hd
   simp only[oA]at e;subst e;exact⟨by simp[Builtin.cap_,ht,z6 k,hd,V.conc,goInt,Cap.val],by simp[V.In]⟩
  ·rename_i el hd
   simp only[oA]at e;subst e;exact⟨by simp[Builtin.cap_,ht,z6 k,hd,V.conc,goInt],by simp[V.In]⟩
  ·cases e
end
end Go.Sim
namespace Go.Sim
section
variable {P:Program}{c:Ctx}{ρ:Env}{D:Nat->Prop}{h:H}{w:World}
theorem zKi{ti:TI}{t:Nat}{i:TypeInfo}(k:TyOK P t ti i){x y:V}{r:Bool}(e:eq1 ti.desc x y=some r)(d:Nat)(w:World):(Op.equalIn (d+1) t (x.conc ρ) (y.conc ρ)).run P w = .ok r w:=by
 have hu:=k.und;unfold eq1 at e;split at e
 case h_1 hd=>simp only[oA]at e;subst e;simp[Op.equalIn,underlying,hu,hd,V.conc]
 case h_2 j a q b hd =>
  cases hk:wm j q with
  | false=>simp[hk]at e
  | true =>
   simp only[hk,oK,oA]at e;subst e;obtain rfl:=(XH _ _).1 hk;simp[Op.equalIn,underlying,hu,hd,V.conc,jX]
 case h_3 a b hd =>
  simp only[oA]at e;subst e;rw[V.conc,V.conc,run_equalIn_string w d t _ _ (by rw[hu,hd]),Kb,Kb,Yz]
 all_goals first
  | (cases e;done)
  | (simp only[oA]at e;subst e;rename_i hd;simp[Op.equalIn,underlying,hu,hd,V.conc])
theorem zDJ(ok:CtxOK P c){rec_:TypeId->V->V->Option Bool}{d:Nat}(hrec:∀t x y r w,rec_ t x y=some r->x.In D->y.In D->(Op.equalIn d t (x.conc ρ) (y.conc ρ)).run P w = .ok r w):
  ∀(fs:List Field) (xs ys:List V) (r:Bool),zMN c rec_ fs xs ys=some r->(∀v∈xs,v.In D)->(∀v∈ys,v.In D)->∀w,
   (Op.eqFields d (xs.map (V.conc ρ)).toArray (ys.map (V.conc ρ)).toArray fs).run P w = .ok r w:=by
 intro fs
 induction fs with
 | nil=>intro xs ys r e _ _ w;simp only[zMN,oA]at e;subst e;simp[Op.eqFields]
 | cons f fs ih =>
  intro xs ys r e hx hy w;simp only[zMN]at e;cases hn:f.name == "_" with
  | true=>simp[hn]at e
  | false =>
   simp only[hn,oM]at e;have hne:f.name ≠ "_":=by simpa using hn
   split at e
   ·cases e
   ·rename_i ti hti
    split at e
    ·rename_i x y h1 h2
     obtain⟨p1,q1⟩:=xb (ρ:=ρ) ok hti h1 hx w;obtain⟨p2,q2⟩:=xb (ρ:=ρ) ok hti h2 hy w;cases hr:rec_ f.type x y with
     | none=>simp[hr]at e
     | some b =>
      have p3:=hrec f.type x y b w hr q1 q2;rw[Op.eqFields,if_pos hne];simp only[Sem.run_bind,p1,p2,p3,Result.andThen_ok];cases b with
      | true =>
       simp only[hr]at e;have:=ih xs ys r e hx hy w;simpa using this
      | false =>
       simp only[hr,oA]at e;subst e;simp
    ·cases e
theorem zGs(ok:CtxOK P c){el:TypeId}{te:TI}(hte:c.ty.get el=some te){rec_:V->V->Option Bool}{d:Nat}(hrec:∀x y r w,rec_ x y=some r->x.In D->y.In D->(Op.equalIn d el (x.conc ρ) (y.conc ρ)).run P w = .ok r w):
  ∀(n i:Nat) (xs ys:List V) (r:Bool),zMM te rec_ n i xs ys=some r->(∀v∈xs,v.In D)->(∀v∈ys,v.In D)->∀w,
   (forIn (m:=Sem) (List.range' i n) ((none,()):Option Bool×Unit) (λi _=>do
    if (!(<-Op.equalIn d el (<-part el (xs.map (V.conc ρ)).toArray (i*te.size)) (<-part el (ys.map (V.conc ρ)).toArray (i*te.size))))=true then pure (ForInStep.done (some false,())) else pure (ForInStep.yield (none,())))).run P w
    = .ok (if r then (none,()) else (some false,())) w:=by
 intro n
 induction n with
 | zero=>intro i xs ys r e _ _ w;simp only[zMM,oA]at e;subst e;simp
 | succ n ih =>
  intro i xs ys r e hx hy w;simp only[zMM]at e;split at e
  ·rename_i x y h1 h2
   obtain⟨p1,q1⟩:=xb (ρ:=ρ) ok hte h1 hx w;obtain⟨p2,q2⟩:=xb (ρ:=ρ) ok hte h2 hy w;cases hr:rec_ x y with
   | none=>simp[hr]at e
   | some b =>
    have p3:=hrec x y b w hr q1 q2;rw[List.range'_succ,List.forIn_cons];simp only[Sem.run_bind,p1,p2,p3,Result.andThen_ok];cases b with
    | true =>
     simp only[hr]at e;have:=ih (i+1) xs ys r e hx hy w;simpa using this
    | false =>
     simp only[hr,oA]at e;subst e;simp
  ·cases e
theorem zBc(ok:CtxOK P c):∀(n:Nat) (t:TypeId) (x y:V) (r:Bool),aeq c n t x y=some r->x.In D->y.In D->∀(m:Nat) (w:World),n<=m ->
  (Op.equalIn m t (x.conc ρ) (y.conc ρ)).run P w = .ok r w:=by
 intro n
 induction n with
 | zero=>intro t x y r e;simp[aeq]at e
 | succ n ih =>
  intro t x y r e hx hy m w hm;obtain⟨m,rfl⟩:∃m',m=m'+1:=⟨m-1,by omega⟩;simp only[aeq]at e;split at e
  ·cases e
  ·rename_i ti hti
   obtain⟨i,k⟩:=ok.ty t ti hti;split at e
   ·rename_i fs xs ys hd
    cases hh:ti.held with
    | true=>simp[hh]at e
    | false =>
     simp only[hh,oM]at e;simp only[V.In,V.InL_iff]at hx hy;have hfs:P.fieldsOf t=fs:=by simp[Program.fieldsOf,k.und,hd]
     rw[wZ,wZ,run_equalIn_struct w m t _ _ (by rw[hfs,k.und,hd]) (by rw[k.held,hh]),hfs];exact zDJ ok (λt x y r w e1 hx1 hy1=>ih t x y r e1 hx1 hy1 m w (by omega)) _ _ _ _ e hx hy w
   ·rename_i len el xs ys hd
    split at e
    ·cases e
    ·rename_i te hte
     obtain⟨i2,k2⟩:=ok.ty el te hte;simp only[V.In,V.InL_iff]at hx hy;have hl:=zGs (ρ:=ρ) ok hte (λx y r w e1 hx1 hy1=>ih el x y r e1 hx1 hy1 m w (by omega)) len 0 xs ys r e hx hy w
     rw[wZ,wZ];simp only[Op.equalIn,Sem.run_bind,z6 k,hd,Result.andThen_ok,yN k2];rw[Std.Legacy.Range.forIn_eq_forIn_range'];simp only[Std.Legacy.Range.size,Nat.sub_zero,Nat.add_sub_cancel,Nat.div_one];rw[hl];cases r<;>simp
   ·rename_i ms tx vx ty vy hd
    cases hb:Nat.beq tx ty with
    | false =>
     simp only[hb,oM,oA]at e;subst e;have hne:tx≠ty:=λhe=>by subst he;rw[Nat.beq_refl]at hb;cases hb
     simp[Op.equalIn,z6 k,hd,V.conc,hne]
    | true =>
     obtain rfl:=oF hb;simp only[hb,oK]at e;split at e
     ·cases e
     ·rename_i tj htj
      obtain⟨j,kj⟩:=ok.ty tx tj htj;cases hc:tj.cmp with
      | false=>simp[hc]at e
      | true =>
       simp only[hc,oK]at e;simp only[V.In]at hx hy;have:=ih tx vx vy r e hx hy m w (by omega);simp[Op.equalIn,z6 k,hd,V.conc,Zv kj,kj.cmp,hc,this]
   ·rename_i te b o b' o' hd
    split at e
    ·cases e
    ·rename_i tj htj
     obtain⟨j,kj⟩:=ok.ty te tj htj;cases hb:(Nat.beq b b' && Nat.blt 0 tj.size)with
     | false=>simp[hb]at e
     | true =>
      simp only[hb,oK,oA]at e;subst e;simp only[oG]at hb;obtain rfl:=oF hb.1;have hs:=(zY _ _).1 hb.2;have hs':¬tj.size=0:=by omega
      have hbeq:((⟨ρ.blk b,ρ.off b+o,none⟩:Addr) == ⟨ρ.blk b,ρ.off b+o',none⟩)=Nat.beq o o':=by
       cases hq:Nat.beq o o' with
       | true=>obtain rfl:=oF hq;simp
       | false =>
        have hne:o≠o':=λhe=>by subst he;rw[Nat.beq_refl]at hq;cases hq
        have:(⟨ρ.blk b,ρ.off b+o,none⟩:Addr)≠⟨ρ.blk b,ρ.off b+o',none⟩:=λhe=>by
         injection he with _ h2 _;omega
        simpa using this
      simp[Op.equalIn,z6 k,hd,V.conc,yN kj,hs',sameAddr,hbeq]
   ·exact zKi k e m w
theorem zGn(ok:CtxOK P c){op:BinOp}{t:TypeId}{x y:Operand}{a b r:V}(e:Yo c op t x y a b=some r)(ha:a.In D)(hb:b.In D):
  (do eqGuard op t x y (a.conc ρ) (b.conc ρ);binOp op t (a.conc ρ) (b.conc ρ):Sem Value).run P w = .ok (r.conc ρ) w/\r.In D:=by
 have guardOK:Jc c t x y a b=true->(eqGuard op t x y (a.conc ρ) (b.conc ρ)).run P w = .ok () w:=by
  intro hg;unfold Jc at hg;split at hg
  ·simp only[eqGuard,V.conc]
   have hg':(Xn x || Xn y)=true:=hg;cases op<;>simp<;>(cases x<;>cases y<;>simp_all [Xn])
  ·rename_i l1 l2
   split at hg
   ·rename_i ti hti
    obtain⟨i,k⟩:=ok.ty t ti hti;have hg':ti.guard=false:=by simpa using hg
    rw[wZ,wZ];exact run_eqGuard_agg w op t x y _ _ (by rw[k.guard,hg'])
   ·cases hg
  ·rename_i h1 h2
   have:∀u v:V,(∀(_:u = .nilIface) (_:v = .nilIface),False)->(∀l1 l2 (_:u = .agg l1) (_:v = .agg l2),False)->(eqGuard op t x y (u.conc ρ) (v.conc ρ)).run P w = .ok () w:=by
    intro u v g1 g2;cases op<;>simp only[eqGuard]<;>simp<;>(cases u<;>cases v<;>simp_all [V.conc])
   exact this a b (λe1 e2=>h1 e1 e2) (λl1 l2 e1 e2=>h2 l1 l2 e1 e2)
 have eqOK:∀q,aeq c 30 t a b=some q->(Op.equal t (a.conc ρ) (b.conc ρ)).run P w = .ok q w:=by
  intro q hq;exact zBc ok 30 t a b q hq ha hb 10000 w (by omega)
 unfold Yo at e;split at e
 ·rename_i k m k' n
  have hgu:(eqGuard op t x y (Value.int k m) (Value.int k' n)).run P w = .ok () w:=by cases op<;>simp[eqGuard]
  cases hs:jN op with
  | true =>
   simp only[hs,oK]at e;obtain⟨p1,p2⟩:=zBh (P:=P) (w:=w) (t:=t) (k':=k') (.inl hs) e ρ;exact⟨by simp[V.conc,hgu,p1],p2 D⟩
  | false =>
   simp only[hs,oM]at e;cases hk:wm k k' with
   | false=>simp[hk]at e
   | true =>
    simp only[hk,oK]at e;obtain⟨p1,p2⟩:=zBh (P:=P) (w:=w) (t:=t) (k':=k') (.inr ((XH _ _).1 hk)) e ρ;exact⟨by simp[V.conc,hgu,p1],p2 D⟩
 ·rename_i m n
  have hgu:(eqGuard op t x y (Value.string ⟨m.toArray⟩) (Value.string ⟨n.toArray⟩)).run P w = .ok () w:=by cases op<;>simp[eqGuard]
  obtain⟨p1,p2⟩:=zK2 (P:=P) (w:=w) (t:=t) e ρ;exact⟨by simp[V.conc,hgu,p1],p2 D⟩
 ·rename_i hni hns
  split at e
  ·cases hg:Jc c t x y a b with
   | false=>simp[hg]at e
   | true =>
    simp only[hg,oK]at e;split at e
    ·rename_i q hq
     simp only[oA]at e;subst e;have h1:=guardOK hg;have h2:=eqOK q hq;have h3:(binOp .eql t (a.conc ρ) (b.conc ρ))=(do pure (.bool (<-Op.equal t (a.conc ρ) (b.conc ρ)))):=by
      cases a<;>cases b<;>simp only[V.conc,binOp]<;>first
       | rfl
       | exact absurd rfl (hni _ _ _ _ rfl)
       | exact absurd rfl (hns _ _ rfl)
       | (exfalso;exact hni _ _ _ _ rfl rfl)
       | (exfalso;exact hns _ _ rfl rfl)
     refine⟨?_,by simp[V.In]⟩;simp[h1,h3,h2,V.conc]
    ·cases e
  ·cases hg:Jc c t x y a b with
   | false=>simp[hg]at e
   | true =>
    simp only[hg,oK]at e;split at e
    ·rename_i q hq
     simp only[oA]at e;subst e;have h1:=guardOK hg;have h2:=eqOK q hq;have h3:(binOp .neq t (a.conc ρ) (b.conc ρ))=(do pure (.bool (!(<-Op.equal t (a.conc ρ) (b.conc ρ))))):=by
      cases a<;>cases b<;>simp only[V.conc,binOp]<;>first
       | rfl
       | exact absurd rfl (hni _ _ _ _ rfl)
       | exact absurd rfl (hns _ _ rfl)
       | (exfalso;exact hni _ _ _ _ rfl rfl)
       | (exfalso;exact hns _ _ rfl rfl)
     refine⟨?_,by simp[V.In]⟩;simp[h1,h3,h2,V.conc]
    ·cases e
  ·cases e
end
end Go.Sim
