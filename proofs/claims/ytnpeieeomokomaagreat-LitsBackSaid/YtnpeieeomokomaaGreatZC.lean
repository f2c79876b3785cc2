/- C. No condition. -/
import Derived.Test.YtnpeieeomokomaaGreatZA
import Derived.Deep.AppendSrc
import Derived.Laws.Strings
import Derived.OrdersIn
import Derived.Laws.StructEq
set_option maxRecDepth 4000
namespace Go.Sim
variable{bs:Uf}{ops:List Oper}{b:Nat}{e e':Uh}{ti:TI}{t:TypeId}{i:TypeInfo}{v:V}
theorem yP{l:Ug}:zU l=true↔∀v∈l,v.one=true:=by induction l<;>grind[zU]
theorem zx:∀{l:Ug}{n:Nat},we l n=true↔l.length=n:=by
 intro l;induction l with
 | nil=>grind[we]
 | cons x l ih=>intro n;cases n<;>simp[we,ih]
theorem yl:∀(l:Ua) (n:Nat),YP l n=l.length+n:=by intro l;induction l<;>grind[YP]
theorem V.one_conc(ρ:Env)(h:v.one=true):(v.conc ρ).oneCell'=true:=by cases v<;>simp_all [V.one,V.conc,Value.oneCell']
theorem V.cells_conc(ρ:Env)(v:V):(v.conc ρ).cells=(v.cells.map (V.conc ρ)).toArray:=by cases v<;>simp[V.conc,V.cells,Value.cells,V.concL_eq]
theorem V.cells_In{D:Nat->Prop}(h:v.In D):∀x∈v.cells,x.In D:=by cases v<;>simp_all [V.cells,V.In,V.InL_iff]
theorem tC(w:World)(b:Nat)(o o':Obj):(w.putObj b o).putObj b o'=w.putObj b o':=by simp[World.putObj]
theorem WZ{w:World}{o:Obj}(h:w.heap[b]? = some o):w.putObj b o=w:=by
 unfold World.putObj;have hb:b<w.heap.size:=by
  grind
 have:w.heap[b]=o:=by grind
 have e:w.heap.setIfInBounds b o=w.heap:=by
  grind
 rw[e]
theorem pe{w:World}{o:Nat}{c:Array Value}{e:TypeId}{fz:Nat×Nat}(v:Value)(h:w.heap[b]? = some (.cells c e fz)):
  w.setCell ⟨b,o,none⟩ v=w.putObj b (.cells (c.setIfInBounds o v) e fz):=by
 have hb:b<w.heap.size:=by
  grind
 have a:w.heap[b] = .cells c e fz:=by grind
 simp only[World.setCell,World.putObj];congr 1
 grind
theorem Kg:∀(vs:List Value) {w:World}{b o:Nat}{c:Array Value}{e:TypeId}{fz:Nat×Nat},w.heap[b]? = some (.cells c e fz)->o+vs.length<=c.size ->
  ∃c',w.setCells b o vs=w.putObj b (.cells c' e fz)/\c'.size=c.size/\∀i,c'[i]? = if o<=i/\i<o+vs.length then vs[i-o]? else c[i]?:=by
 intro vs;induction vs with
 | nil=>intro w b o c e fz h _;exact⟨c,by rw[World.setCells,WZ h],rfl,λi=>by grind⟩
 | cons v vs ih =>
  intro w b o c e fz h hl;simp only[oc]at hl;have hb:b<w.heap.size:=by
   grind
  obtain⟨c',a,h2,h3⟩:=ih (w:=w.setCell ⟨b,o,none⟩ v) (b:=b) (o:=o+1) (c:=c.setIfInBounds o v) (e:=e) (fz:=fz)
   (by grind[pe,World.putObj_heap_same]) (by grind)
  refine⟨c',?_,by grind,λi=>?_⟩
  .rw[World.setCells,a,pe v h,tC]
  grind
theorem ke{w:World}{o:Nat}{c:Array Value}{e:TypeId}{fz:Nat×Nat}(h:w.heap[b]? = some (.cells c e fz)):w.cell? ⟨b,o,none⟩=c[o]?:=by
 grind[World.cell?]
theorem Xy{w:World}{o:Nat}{c:Array Value}{e:TypeId}{fz:Nat×Nat}(h:w.heap[b]? = some (.cells c e fz))(a:¬(fz.1<=o/\o<fz.2)):w.frozen? ⟨b,o,none⟩=false:=by
 grind[World.frozen?]
theorem yK(b o i:Nat):(⟨b,o,none⟩:Addr).add i=⟨b,o+i,none⟩:=by
 grind[Addr.add]
def Post(ρ:Env)(D:Nat->Prop)(h:H)(w:World)(r:Result Value)(v:V)(h':H):Prop :=
 ∃ρ' w',r = .ok (v.conc ρ') w'/\Mv ρ D h w ρ' h' w'/\HR ρ' (Dx D h h') h' w'/\v.In (Dx D h h')
theorem Post.pure{ρ:Env}{D:Nat->Prop}{h:H}{w:World}(r:HR ρ D h w)(a:v.In D):Post ρ D h w (.ok (v.conc ρ) w) v h :=
 ⟨ρ,w,rfl,Mv.refl _ _ _ _,by grind[zd],by grind[zd]⟩
theorem Post.of_eq{ρ:Env}{D:Nat->Prop}{h h':H}{w:World}{r a:Result Value}(e:r=a)(p:Post ρ D h w a v h'):Post ρ D h w r v h':=e ▸ p
theorem wG(h:H)(b:Nat)(o:Option O):(h.upd b o).nx=h.nx:=rfl
section
variable {P:Program}{ρ:Env}{D:Nat->Prop}{h:H}{w:World}
theorem VD{a:Bool}{x:Bool}(h:cond a x false=true):a=true/\x=true:=by
 grind
theorem j9(r:HR ρ D h w){o n:Nat}{l:Cs}{x:Ug}{esz:Rk}{wr op:Bool}(hd:D b)(k:h.get b=some (.cells l esz wr op))(h1:l.range o n=some x):
  (loadCells ⟨ρ.blk b,ρ.off b+o,none⟩ n).run P w = .ok (x.map (V.conc ρ)).toArray w/\(∀v∈x,v.In D)/\x.length=n:=by
 obtain⟨a1,a2,a3⟩:=Cs.range_eq h1;obtain⟨c,e,fz,m,p,f,_⟩:=r.rel b _ hd k;refine⟨?_,λv q=>(Cs.range_mem h1 q).elim λi hi=>f i v hi,a1⟩;have:=run_loadCells_list (P:=P) w ⟨ρ.blk b,ρ.off b+o,none⟩ (x.map (V.conc ρ)) (λj v a=>by
  rw[yK,ke m];rw[od]at a;rcases d:x[j]? with _|u
  .simp[d]at a
  simp only[d,ol,oA]at a;subst a;have g:j<n:=by rw[<-a1];exact(List.getElem?_eq_some_iff.1 d).1
  have s:l.get? (o+j)=some u:=by rw[<-a3 j g];exact d
  rw[Nat.add_assoc];exact p _ _ s)
 rwa [oy,a1]at this
theorem vD(r:HR ρ D h w){o:Nat}{l:Cs}{esz:Rk}{wr op:Bool}(hd:D b)(d:h.get b=some (.cells l esz wr op))(h1:l.get? o=some v):
  w.cell? ⟨ρ.blk b,ρ.off b+o,none⟩=some (v.conc ρ)/\v.In D:=by
 obtain⟨c,e,fz,f,g,a,_⟩:=r.rel b _ hd d;exact⟨by rw[ke f];exact g _ _ h1,a _ _ h1⟩
theorem wx(r:HR ρ D h w){o:Nat}{vs:Ug}{l l':Cs}{esz:Rk}{op:Bool}(hd:D b)(p:h.get b=some (.cells l esz true op))(q:∀v∈vs,v.In D)(h1:zU vs=true)(hs:l.put o vs=some l')(F:esz.fz<=o):
  (storeCells ⟨ρ.blk b,ρ.off b+o,none⟩ (vs.map (V.conc ρ))).run P w = .ok () (w.setCells (ρ.blk b) (ρ.off b+o) (vs.map (V.conc ρ))) /\
  HR ρ D (h.upd b (some (.cells l' esz true op))) (w.setCells (ρ.blk b) (ρ.off b+o) (vs.map (V.conc ρ))) /\
  Mv ρ D h w ρ (h.upd b (some (.cells l' esz true op))) (w.setCells (ρ.blk b) (ρ.off b+o) (vs.map (V.conc ρ))) /\
  (∀j,j<vs.length->(w.cell? ⟨ρ.blk b,ρ.off b+o+j,none⟩).isSome=true)/\(∀j,j<vs.length->w.frozen? ⟨ρ.blk b,ρ.off b+o+j,none⟩=false):=by
 obtain⟨c,e,fz,s,G,m,hw⟩:=r.rel b _ hd p;obtain⟨d,n,x,y,z⟩:=hw rfl;obtain⟨s1,B,C⟩:=Cs.put_eq hs;have a:ρ.off b+o+(vs.map (V.conc ρ)).length<=c.size:=by rw[oy,d];omega
 have g:∀j,j<vs.length->(w.cell? ⟨ρ.blk b,ρ.off b+o+j,none⟩).isSome=true:=λj H=>by rw[ke s,Array.getElem?_eq_getElem (by rw[oy]at a;omega)];rfl
 have k:∀j,j<vs.length->w.frozen? ⟨ρ.blk b,ρ.off b+o+j,none⟩=false:=λj H =>
  Xy s (n _ (by rw[oy]at a;omega) dd)
 obtain⟨I,E,A,J⟩:=Kg (vs.map (V.conc ρ)) s a;refine⟨?_,?_,?_,g,k⟩
 .have:=run_storeCells_cells (P:=P) (ρ.blk b) (ρ.off b+o) (vs.map (V.conc ρ)) 0 w (by simpa using g) (by simpa using k)
   (λv f=>by obtain⟨u,K,rfl⟩:=List.mem_map.1 f;exact V.one_conc ρ (yP.1 h1 u K))
  simpa using this
 .rw[E];refine r.upd hd p rfl rfl ⟨I,e,fz,rfl,λi v f=>?_,λi v f=>?_,λ_=>⟨d,by rw[A];exact n,by rw[A,B];exact x,by rw[A,B];exact y,z⟩⟩
  .rw[J,oy,d];rw[C i]at f;simp only[Nat.zero_add];by_cases hc1:o<=i/\i<o+vs.length
   .rw[if_pos hc1]at f ⊢;rw[od,f];rfl
   rw[if_neg hc1]at f ⊢;have:=G i v f
   rwa [d,Nat.zero_add]at this
  rw[C i]at f;split at f
  .exact q v (List.mem_of_getElem? f)
  exact m i v f
 rw[E];exact Mv.upd r hd p rfl rfl
theorem bD(r:HR ρ D h w)(m:h.nx<T.top){l:Cs}{esz:Rk}{op:Bool}(a:∀i v,l.get? i=some v->v.In D)(c:Array Value)(e:TypeId)(fz:Nat×Nat)(cp:Nat)(n:∀(i:Nat) (v:V),l.get? i=some v->c[i]? = some (v.conc ρ))(o:∀i,i<c.size->esz.fz<=i->¬(fz.1<=i/\i<fz.2))(f:l.len<=c.size)(g:c.size=if op then cp*esz.n else l.len)(j:∀t,esz.ty=t+1->e=t/\(fz.1=fz.2\/(fz.1=0/\fz.2<=esz.fz))):
  HR (ρ.at h.nx w.heap.size cp) (Dx D h (h.new (.cells l esz true op))) (h.new (.cells l esz true op)) (w.alloc (.cells c e fz)) /\
  Mv ρ D h w (ρ.at h.nx w.heap.size cp) (h.new (.cells l esz true op)) (w.alloc (.cells c e fz)):=by
 have k:¬D h.nx:=λhd=>by have:=r.lt _ hd;omega
 refine⟨r.new cp m ⟨c,e,fz,rfl,λi v d=>?_,λi v d=>V.In_mono wm _ (a i v d),λ_=>⟨Env.at_off _ _ _ _,o,f,?_,j⟩⟩,Mv.new r cp m rfl⟩
 .rw[Env.at_off,Nat.zero_add,V.conc_agree (Env.at_agree k) v (a i v d)];exact n i v d
 rw[Env.at_cap];exact g
theorem fq{o:O}:Dx D h (h.new o) h.nx:=.inr ⟨oR _,by simp[H.new]⟩
end
theorem Kt(n:Int)(h1: -9223372036854775808<=n:=by omega)(h2:n<9223372036854775808:=by omega):IntKind.i64.wrap n=n:=by
 unfold IntKind.wrap IntKind.bits IntKind.signed
 grind
theorem Th(n:Nat):IntKind.u64.wrap (Int.ofNat n)=Int.ofNat (n % 18446744073709551616):=by
 simp_all[IntKind.wrap,IntKind.bits,IntKind.signed]
theorem BZ(n:Nat):IntKind.u8.wrap (Int.ofNat n)=Int.ofNat (n % 256):=by
 simp_all[IntKind.wrap,IntKind.bits,IntKind.signed]
theorem zW(a b:Nat):Nat.blt a b=true↔a<b:=by
 simp_all
theorem kQ(a b:Nat):Nat.ble a b=false↔¬a<=b:=by rw[<-Nat.ble_eq,Bool.not_eq_true]
theorem vN(a b:Int):(!decide (a<b))=decide (b<=a):=by
 grind
theorem wH(k:IntKind)(n:Int):yD k n=k.wrap n:=by
 cases k with
 | i64 =>
  cases n with
  | ofNat m =>
   simp only[yD];rcases hb:Nat.blt m 9223372036854775808 with _|_
   .rfl
   have h:=hb;have:=(zW _ _).1 h;rw[oN,Kt _ (by simp only[Int.ofNat_eq_natCast];omega) (by simp only[Int.ofNat_eq_natCast];omega)]
  | negSucc m =>
   simp only[yD];rcases hb:Nat.blt m 9223372036854775808 with _|_
   .exact oO _ _
   have h:=hb;have:=(zW _ _).1 h;rw[oN,Kt _ (by have:=Int.negSucc_eq m;omega) (by have:=Int.negSucc_eq m;omega)]
 | u64 =>
  cases n with
  | ofNat m =>
   simp only[yD];cases h:Nat.blt m 18446744073709551616
   .rw[oO,Th]
   have:=(zW _ _).1 h;rw[oN,Th,ou this]
  | negSucc m=>rfl
 | u8 =>
  cases n with
  | ofNat m=>simp only[yD];rw[BZ]
  | negSucc m=>rfl
 | _=>rfl
theorem xU(a b:Int):lX a b=decide (a<b):=by cases a<;>cases b<;>simp only[lX]<;>rw[Bool.eq_iff_iff]<;>simp<;>omega
theorem qA(a b:Int):sS a b=(a == b):=by cases a<;>cases b<;>simp only[sS]<;>rw[Bool.eq_iff_iff]<;>simp<;>omega
theorem Rs(a b:Int):Av a b=a+b:=by cases a<;>cases b<;>simp[Av]
theorem bM(a b:Int):Cz a b=a-b:=by
 cases a with
 | ofNat a =>
  cases b with
  | ofNat b =>
   simp only[Cz];cases h:Nat.ble b a
   .have:=(kQ _ _).1 h;grind
   have:=oG h;grind
  | negSucc b=>rfl
 | negSucc a=>cases b<;>rfl
theorem Qv(a b:Int):zAq a b=a*b:=by cases a<;>cases b<;>simp[zAq]
theorem QY(a b:Int):zDD a b=a.tdiv b:=by cases a<;>cases b<;>rfl
theorem Qu(a b:Int):zGC a b=a.tmod b:=by cases a<;>cases b<;>rfl
theorem bK(a:Int)(n:Nat):Lh a n=a*2^n:=by cases a<;>simp_all[Lh,Nat.shiftLeft_eq]
theorem PL(a:Int)(n:Nat):RL a n=a.fdiv (2^n):=by
 cases a with
 | ofNat a =>
  have c:((2:Int)^n)=((2^n:Nat):Int):=by simp
  have h2:a.shiftRight n=a/2^n:=Nat.shiftRight_eq_div_pow a n
  grind[RL]
 | negSucc a=>rfl
theorem J1(j k:IntKind):jy j k=true↔j=k:=by cases j<;>cases k<;>simp[jy]
theorem JU:∀(a b:Ua),eqB a b=(a == b):=by
 intro a;induction a with
 | nil=>intro b;cases b<;>rfl
 | cons x a ih=>intro b;cases b<;>grind[eqB,Nat.beq_refl,UInt8.toNat_inj,oH]
theorem TX(l:Ua):(⟨l.toArray⟩:ByteArray).toList=l:=by
 simp_all
section
variable {P:Program}{w:World}
theorem tV{op:BinOp}{k k':IntKind}{m n:Int}{r:V}(hs:KU op=true\/k=k')(h:wI op k m n=some r)(ρ:Env):
  (binOp op t (.int k m) (.int k' n)).run P w = .ok (r.conc ρ) w/\∀D,r.In D:=by
 cases op<;>simp only[wI,KU,Bool.false_eq_true,false_or]at h hs
 case shl =>
  rw[xU]at h;by_cases c:n<0
  .grind
  simp only[c,decide_false,oO,oA]at h;subst h;have a:(cond (n.toNat.ble k.bits) n.toNat k.bits)=min n.toNat k.bits:=by
   cases hb:Nat.ble n.toNat k.bits
   .have:=(kQ _ _).1 hb;grind
   simp_all
  refine⟨?_,λ_=>by simp[V.In]⟩;simp[binOp,Op.shift,c,V.conc,wH,bK,a]
 case shr =>
  rw[xU]at h;by_cases c:n<0
  .grind
  simp only[c,decide_false,oO,oA]at h;subst h;have a:(cond (n.toNat.ble k.bits) n.toNat k.bits)=min n.toNat k.bits:=by
   cases hb:Nat.ble n.toNat k.bits
   .have:=(kQ _ _).1 hb;grind
   simp_all
  refine⟨?_,λ_=>by simp[V.In]⟩;simp[binOp,Op.shift,c,V.conc,PL,a]
 case quo =>
  subst hs;rw[qA]at h;by_cases c:n=0
  .grind
  have hb:(n == 0)=false:=by grind
  simp only[hb,oO,oA]at h;subst h
  simp_all[binOp,Op.intDiv,V.conc,wH,QY,V.In]
 case rem =>
  subst hs;rw[qA]at h;by_cases c:n=0
  .grind
  have hb:(n == 0)=false:=by grind
  simp only[hb,oO,oA]at h;subst h
  simp_all[binOp,Op.intDiv,V.conc,Qu,V.In]
 case and=>subst hs;simp only[bi,oA]at h;subst h;simp_all[binOp,Op.intBits,V.conc,V.In]
 case or=>subst hs;simp only[bi,oA]at h;subst h;simp_all[binOp,Op.intBits,V.conc,V.In]
 case xor=>subst hs;simp only[bi,oA]at h;subst h;simp_all[binOp,Op.intBits,V.conc,V.In]
 case andNot=>subst hs;simp only[bi,oA]at h;subst h;simp_all[binOp,Op.intBits,V.conc,V.In]
 case add=>subst hs;simp only[oA]at h;subst h;simp_all[binOp,Op.intArith,V.conc,wH,Rs,V.In]
 case sub=>subst hs;simp only[oA]at h;subst h;simp_all[binOp,Op.intArith,V.conc,wH,bM,V.In]
 case mul=>subst hs;simp only[oA]at h;subst h;simp_all[binOp,Op.intArith,V.conc,wH,Qv,V.In]
 case eql=>subst hs;simp only[oA]at h;subst h;simp_all[binOp,Op.intCmp,V.conc,qA,V.In]
 case neq=>subst hs;simp only[oA]at h;subst h;simp_all[binOp,Op.intCmp,V.conc,qA,bne,V.In]
 case lss=>subst hs;simp only[oA]at h;subst h;simp_all[binOp,Op.intCmp,V.conc,xU,V.In]
 case leq=>subst hs;simp only[oA]at h;subst h;simp_all[V.conc,xU,vN,binOp,Op.intCmp,V.In]
 case gtr=>subst hs;simp only[oA]at h;subst h;simp_all[binOp,Op.intCmp,V.conc,xU,V.In]
 case geq=>subst hs;simp only[oA]at h;subst h;simp_all[V.conc,xU,vN,binOp,Op.intCmp,V.In]
theorem Ps{op:BinOp}{m n:Ua}{r:V}(h:RX op m n=some r)(ρ:Env):
  (binOp op t (.string ⟨m.toArray⟩) (.string ⟨n.toArray⟩)).run P w = .ok (r.conc ρ) w/\∀D,r.In D:=by
 cases op<;>simp only[RX]at h<;>try (cases h;done)
 case add =>
  rw[yl,yl]at h;cases hb:Nat.ble (m.length+(n.length+0)) 4611686018427387904
  .grind
  have hl:=oG hb;rw[hb,oN,oA]at h;subst h;refine⟨?_,λ_=>by simp[V.In]⟩;have a:¬((((⟨m.toArray⟩:ByteArray).size+(⟨n.toArray⟩:ByteArray).size:Nat):Int) > IntKind.i64.max):=by
   have d:(⟨m.toArray⟩:ByteArray).size=m.length:=by simp[ByteArray.size]
   have f:(⟨n.toArray⟩:ByteArray).size=n.length:=by simp[ByteArray.size]
   have g:IntKind.i64.max=9223372036854775807:=rfl;omega
  have c:(⟨m.toArray⟩:ByteArray) ++ ⟨n.toArray⟩=⟨(m++n).toArray⟩:=by
   apply ByteArray.ext
   simp_all
  simp_all[binOp,Op.stringOp,V.conc]
 case eql=>simp only[oA]at h;subst h;simp_all[binOp,Op.stringOp,V.conc,JU,V.In]
 case neq=>simp only[oA]at h;subst h;simp_all[binOp,Op.stringOp,V.conc,JU,V.In]
 case lss=>simp only[oA]at h;subst h;simp_all[binOp,Op.stringOp,V.conc,V.In]
 case geq=>simp only[oA]at h;subst h;simp_all[binOp,Op.stringOp,V.conc,V.In]
theorem tQ{op:UnOp}{r:V}(h:aun op v=some r)(ρ:Env):(Op.unary op (v.conc ρ)).run P w = .ok (r.conc ρ) w/\∀D,r.In D:=by
 unfold aun at h;split at h
 .simp only[oA]at h;subst h
  simp_all[Op.unary,Op.intArith,V.conc,wH,bM,V.In]
 .simp only[bi,oA]at h;subst h
  simp_all[Op.unary,Op.intBits,V.conc,V.In]
 .simp only[oA]at h;subst h
  simp_all[Op.unary,V.conc,V.In]
 grind
theorem K0(ρ:Env)(mx:Bool):∀(l:Ug) (v r:V),YQ mx v l=some r ->
  (List.foldlM (m:=Sem) (if mx then Builtin.max2 else Builtin.min2) (v.conc ρ) (l.map (V.conc ρ))).run P w = .ok (r.conc ρ) w/\(∀D,v.In D->r.In D):=by
 intro l;induction l with
 | nil =>
  simp_all[YQ]
 | cons x l ih =>
  intro v r h;cases v<;>cases x<;>simp only[YQ]at h<;>try (cases h;done)
  rename_i k a d b;obtain⟨c,h2⟩:=ih _ _ h;refine⟨?_,λD _=>h2 D (by simp[V.In])⟩;cases mx
  .simp only[oO,xU]at c
   grind[V.conc,Builtin.min2]
  simp only[oN,xU]at c
  grind[V.conc,Builtin.max2]
end
theorem X4{e e':Uh}:∀{l:List Operand},(∀x∈l,e x=e' x)->Xw e l=Xw e' l:=by intro l;induction l<;>grind[Xw]
theorem gH{e e':Uh}:∀{l:List (Nat×Operand)},(∀x∈l.map (·.2),e x=e' x)->NR e l=NR e' l:=by intro l;induction l<;>grind[NR]
theorem NQ{o:Option Operand}(h:∀x∈o.toArray,e x=e' x):evO e o=evO e' o:=by cases o<;>simp_all[evO]
theorem aM(c:Ctx){cl:Call}{h:H}(a:∀x∈cl.operands,e x=e' x):wo c cl e h=wo c cl e' h:=by
 grind[X4,Call.operands,wo]
theorem Pg(c:Ctx){o:Oper}{h:H}(a:∀x∈o.op.operands,e x=e' x):xS c o e h=xS c o e' h:=by
 unfold xS;cases j:o.op<;>rw[j]at a<;>try rfl
 case makeFunc f first captured =>
  cases f<;>grind[X4,Op.operands]
 case build t ps =>
  grind[gH,Op.operands]
 case buildSlice t n ps =>
  grind[gH,Op.operands]
 case slice t x lo hi mx =>
  grind[Op.operands,NQ]
 case call d=>exact aM c a
 case makeMap t r=>grind
 case defer d =>
  have g:Xw e d.args.toList=Xw e' d.args.toList:=X4 λx hm=>a x (by grind[Op.operands,Call.operands])
  simp only[g];rcases Xw e' d.args.toList with _|args
  .rfl
  grind[Op.operands,Call.operands]
 all_goals first
  | (have k:=a _ (by simp[Op.operands];first|exact .inl rfl|rfl);have g:=a _ (by simp[Op.operands];first|exact .inr (.inl rfl)|exact .inr rfl);have h2:=a _ (by simp[Op.operands];exact .inr (.inr rfl));grind)
  | (have k:=a _ (by simp[Op.operands];exact .inl rfl);have g:=a _ (by simp[Op.operands];exact .inr rfl);grind)
  | grind[Op.operands]
theorem Ik{c:Ctx}{o:Oper}{tm:Tm}{h:H}{B:AN}{b:Nat}(m:wp tm b o=true)(e:xS c o (yt tm) h=some B):
  ∃v,B = .val v h/\∀h2:H,(∀t a w o',o.op = .load t a->yt tm a=some (.ptr w o')->h2.get w=h.get w)->xS c o (yt tm) h2=some (.val v h2):=by
 unfold wp at m;unfold xS at e ⊢;have ofV:∀{r:Ui}{B:AN}{P:H->Prop},AN.ofV r h=some B->∃v,B = .val v h/\∀h2:H,P h2->AN.ofV r h2=some (.val v h2):=by
  intro r B P e;rcases r with _|v
  .simp[AN.ofV]at e
  simp only[AN.ofV,oA]at e;exact⟨v,e.symm,λ_ _=>rfl⟩
 cases E:o.op<;>simp only[E]at m e ⊢<;>first|(cases m;done)|skip
 case load t a =>
  rcases z:yt tm a with _|p
  .simp[z]at m
  cases p<;>simp only[z]at m e ⊢<;>first|(cases m;done)|skip
  rename_i w o';obtain⟨v,l,h2⟩:=ofV (P:=λh2=>h2.get w=h.get w) e;refine⟨v,l,λh3 F=>?_⟩;have G:h3.get w=h.get w:=F _ _ w o' rfl z;have:ye c t h3 (.ptr w o')=ye c t h (.ptr w o'):=by unfold ye;simp only[G]
  rw[this];rcases hl:ye c t h (.ptr w o') with _|u
  .simp[hl,AN.ofV]at e
  simp only[hl,AN.ofV,oA]at e ⊢;rw[l]at e;simp at e;simp[e]
 case slice t x lo hi mx =>
  rcases z:yt tm x with _|p
  .simp[z]at m
  have q:∀(h3:H) (a b d:Ui),zw c t h3 p a b d=zw c t h p a b d:=by
   intro h3 a b d;unfold zw;rcases c.ty.get t with _|ti
   .rfl
   dsimp only;cases p<;>simp only[z]at m<;>first|(cases m;done)|skip
   .cases ti.desc<;>rfl
   rename_i I;cases I<;>simp only at m<;>first|(cases m;done)|skip
   cases ti.desc<;>rfl
  simp only[z]at e ⊢;cases j:Sim.evO (yt tm) lo with
  | none=>simp[j]at e
  | some v0 =>
  cases l:Sim.evO (yt tm) hi with
  | none=>simp[j,l]at e
  | some v1 =>
  cases h2:Sim.evO (yt tm) mx with
  | none=>simp[j,l,h2]at e
  | some N =>
  simp only[j,l,h2]at e ⊢;obtain⟨v,h4,A⟩:=ofV (P:=λ_=>True) e;refine⟨v,h4,λh3 _=>?_⟩;rw[q h3];exact A h3 trivial
 case convert s d x =>
  rcases z:yt tm x with _|p
  .simp[z]at m
  cases p<;>simp only[z]at m e ⊢<;>first|(cases m;done)|skip
  rename_i k n;have q:∀h3:H,wZ c s d h3 (.int k n)=(match wZ c s d h (.int k n)with|some (v,_)=>some (v,h3)|none=>none):=by
   intro h3;unfold wZ;rcases c.ty.get s with _|D
   .rfl
   rcases c.ty.get d with _|J
   .rfl
   dsimp only;cases D.desc<;>first|rfl|(cases J.desc<;>rfl)
  rcases C:wZ c s d h (.int k n) with _|⟨v,h4⟩
  .rw[C]at e;cases e
  have A:=q h;rw[C]at A;simp only[oA,oB,true_and]at A;subst A;rw[C]at e;simp only[AN.ofVH,oA]at e;refine⟨v,e.symm,λh2 _=>?_⟩;rw[q h2,C];rfl
 case call cl =>
  unfold lS at m;unfold wo at e ⊢;generalize Xw (yt tm) cl.args.toList=xs at m e ⊢;generalize cl.argTypes.toList=D at m e ⊢;generalize cl.callee=f at m e ⊢
  match f,xs,D,m with
  | .builtin .len,some [.str s],[t],m =>
   have q:∀h3:H,Yg c t h3 (.str s)=Yg c t h (.str s):=by
    intro h3;unfold Yg;rcases c.ty.get t with _|ti
    .rfl
    dsimp only;cases ti.desc<;>rfl
   obtain⟨v,h4,A⟩:=ofV (r:=Yg c t h (.str s)) (P:=λ_=>True) e;refine⟨v,h4,λh3 _=>?_⟩;show AN.ofV (Yg c t h3 (.str s)) h3=_;rw[q h3];exact A h3 trivial
 case move x=>exact ofV e
 case assign x=>exact ofV e
 case pick x a w =>
  rcases j:yt tm x with _|v
  .simp[j]at e
  cases v<;>simp only[j]at e ⊢<;>first|(cases e;done)|exact ofV e
 case build t ps =>
  rcases j:NR (yt tm) ps.toList with _|v
  .simp[j]at e
  simp only[j]at e ⊢;exact ofV e
 case binOp op t x y t2 =>
  rcases j:yt tm x with _|v
  .simp[j]at e
  rcases l:yt tm y with _|v
  .simp[j,l]at e
  simp only[j,l]at e ⊢;exact ofV e
 case unOp op t x =>
  rcases j:yt tm x with _|v
  .simp[j]at e
  simp only[j]at e ⊢;exact ofV e
 case field t x f =>
  rcases j:yt tm x with _|v
  .simp[j]at e
  simp only[j]at e ⊢;exact ofV e
 case index t x y =>
  rcases j:yt tm x with _|v
  .simp[j]at e
  rcases l:yt tm y with _|v
  .simp[j,l]at e
  simp only[j,l]at e ⊢;exact ofV e
 case indexAddr t x y =>
  rcases j:yt tm x with _|v
  .simp[j]at e
  rcases l:yt tm y with _|v
  .simp[j,l]at e
  simp only[j,l]at e ⊢;exact ofV e
 case extract x i =>
  rcases j:yt tm x with _|v
  .simp[j]at e
  cases v<;>simp only[j]at e ⊢<;>first|(cases e;done)|exact ofV e
 case makeFunc f first captured =>
  cases f with
  | func g =>
   rcases j:Xw (yt tm) first.toList with _|v
   .simp[j]at e
   rcases l:Xw (yt tm) captured.toList with _|v
   .simp[j,l]at e
   simp only[j,l,oA]at e ⊢;exact⟨_,e.symm,λ_ _=>rfl⟩
  | _=>cases e
 case makeInterface t x =>
  rcases j:c.ty.get t with _|ti
  .simp[j]at e
  rcases l:yt tm x with _|v
  .simp[j,l]at e
  simp only[j,l]at e ⊢;cases hd:ti.desc<;>simp only[hd,oA]at e ⊢<;>first|(cases e;done)|exact⟨_,e.symm,λ_ _=>rfl⟩
 case nilCheck x =>
  rcases j:yt tm x with _|v
  .simp[j]at e
  cases v<;>simp only[j,oA]at e ⊢<;>first|(cases e;done)|exact⟨_,e.symm,λ_ _=>rfl⟩|skip
  rename_i f a w;cases f<;>simp only[oA]at e ⊢<;>first|(cases e;done)|exact⟨_,e.symm,λ_ _=>rfl⟩
 case fieldAddr t x f =>
  rcases j:c.ty.get t with _|ti
  .simp[j]at e
  rcases l:yt tm x with _|v
  .simp[j,l]at e
  cases v<;>simp only[j,l]at e ⊢<;>first|(cases e;done)|skip
  rename_i w o';cases hd:ti.desc<;>simp only[hd]at e ⊢<;>first|(cases e;done)|skip
  rename_i K;rcases h2:K[f]? with _|L
  .simp[h2]at e
  simp only[h2]at e ⊢;unfold afa at e ⊢;rcases h3:c.ty.get L.type with _|M
  .simp[h3]at e
  simp only[h3]at e ⊢;rcases h4:Nat.blt 0 M.size with _|_
  .simp[h4]at e
  simp only[h4,oN,oA]at e ⊢;exact⟨_,e.symm,λ_ _=>rfl⟩
theorem Yx(n:Nat):∀l,WB n l=true↔n∈l:=by intro l;induction l<;>simp_all[WB]
def vI(acc:Uf)(o:Oper):Nat:=o.after.toList.foldl (λs e=>cond (kR e) (s ||| 2^e.on ||| acc.getD e.on 0) s) 0
theorem G3{acc:Uf}{i:Nat}:∀(l:List Edge) (s:Nat),Nat.testBit (l.foldl (λs e=>cond (kR e) (s ||| 2^e.on ||| acc.getD e.on 0) s) s) i=true ->
  Nat.testBit s i=true\/∃e∈l,kR e=true/\(e.on=i\/Nat.testBit (acc.getD e.on 0) i=true):=by
 intro l;induction l<;>grind
theorem Si{acc:Uf}{o:Oper}{i:Nat}(h:Nat.testBit (vI acc o) i=true):∃e∈o.after,kR e=true/\(e.on=i\/Nat.testBit (acc.getD e.on 0) i=true):=by rcases G3 _ _ h with a|⟨e,m,h2⟩<;>grind
theorem Jq:∀(l:List Oper) (acc:Uf),(∃r,yE l acc=acc++r/\r.length=l.length) /\
  ∀i o,l[i]? = some o->(yE l acc).getD (acc.length+i) 0=vI ((yE l acc).take (acc.length+i)) o:=by
 intro l;induction l with
 | nil=>simp_all[yE]
 | cons a l ih =>
  intro acc;obtain⟨⟨r,d,h2⟩,h3⟩:=ih (acc++[vI acc a]);have c:yE (a::l) acc=yE l (acc++[vI acc a]):=rfl;rw[c];refine⟨⟨vI acc a::r,by grind,by grind⟩,λi o h=>?_⟩;cases i with
  | zero =>
   grind
  | succ i =>
   have:=h3 i o (by grind)
   grind
def Closed(ops:List Oper)(S:Nat->Prop):Prop:=∀j o,S j->ops[j]? = some o->∀e∈o.after,kR e=true->S e.on
theorem Z9{ops:List Oper}{S:Nat->Prop}(f:Closed ops S):∀(j:Nat) (o:Oper),ops[j]? = some o->(∀e∈o.after,kR e=true->S e.on) ->
  ∀i,Nat.testBit ((yE ops []).getD j 0) i=true->S i:=by
 intro j;induction j using Nat.strongRecOn with
 | _ j ih =>
  intro o h k i hb;obtain⟨⟨r,p,h2⟩,h3⟩:=Jq ops [];have h4:=h3 j o h;simp only[List.length_nil,Nat.zero_add]at h4;rw[h4]at hb;obtain⟨e,hm,l,d⟩:=Si hb;rcases d with rfl|d
  .grind
  have c:e.on<j:=by
   rcases Nat.lt_or_ge e.on j with g|g
   .exact g
   grind
  have m:=k e hm l;have n:j<ops.length:=by
   grind
  have a:ops[e.on]? = some (ops[e.on]'dd):=oQ dd;refine ih e.on c _ a (f e.on _ m a) i ?_
  grind
theorem Closed.bit{S:Nat->Prop}(a:Closed ops S){j i:Nat}(d:S j)(hb:Nat.testBit ((yE ops []).getD j 0) i=true):S i:=by
 cases c:ops[j]? with
 | some o=>exact Z9 a j o c (a j o d c) i hb
 | none=>obtain⟨⟨r,f,h2⟩,h3⟩:=Jq ops []<;>grind
theorem RH{ops:List Oper}{j:Nat}{oj:Oper}{c:Nat}:∀(l:List Oper) (n:Nat),Wk ops j oj c n l=true->∀d oi,n+d<j->l[d]? = some oi->Nat.testBit c (n+d)=true\/QL ops oi oj=false:=by
 intro l;induction l with
 | nil=>grind
 | cons a l ih =>
  intro n h d oi hd hl;simp only[Wk]at h;rw[show Nat.blt n j=true from(zW _ _).2 dd,oN]at h;rcases f:(Nat.testBit c n || !(QL ops a oj)) with _|_
  .grind
  rw[f,oN]at h;cases d with
  | zero =>
   grind
  | succ d =>
   have:=ih (n+1) h d oi dd (by grind)
   grind
theorem pX{ops:List Oper}{bs:Uf}:∀(l:List Oper) (n:Nat),XJ ops bs n l=true->∀d o,l[d]? = some o ->
  Wk ops (n+d) o (bs.getD (n+d) 0) 0 ops=true/\Q1 (n+d) o=true/\Qa o (bs.getD (n+d) 0)=true:=by
 intro l;induction l with
 | nil=>grind
 | cons a l ih=>intro n h d o hl;simp only[XJ,oI]at h;cases d<;>grind
theorem nA(bs:Uf):∀n,j6 bs n<=n:=by
 intro n;induction n with
 | zero=>simp[j6]
 | succ n ih =>
  simp only[j6]
  grind
theorem JI(bs:Uf):∀n j,j6 bs n<=j->j<n->∀i,i<j->Nat.testBit (bs.getD j 0) i=true:=by
 intro n;induction n with
 | zero=>omega
 | succ n ih =>
  intro j a h2 i hi;simp only[j6]at a;rcases hb:Nat.beq (bs.getD n 0 % 2^n) (2^n-1) with _|_
  .grind
  rw[hb,oN]at a;rcases Nat.lt_or_ge j n with g|g
  .grind
  have:j=n:=dd
  subst this;have c:=oH hb;have h3:=Nat.testBit_mod_two_pow (bs.getD j 0) j i
  grind
theorem uc{bs:Uf}{k:Nat}:∀(n j:Nat),Jj bs k j n=true->∀i,j<=i->i<j+n->Nat.testBit (bs.getD i 0) k=true:=by
 intro n;induction n with
 | zero=>omega
 | succ n ih =>
  intro j h i a h2;simp only[Jj]at h
  grind
theorem aQ{bs:Uf}{k:Nat}:∀(n j:Nat) (l:List Oper),YF bs k j n l=true->∀d o,d<n->l[d]? = some o->Nat.testBit (bs.getD (j+d) 0) k=true\/qN o=true:=by
 intro n;induction n with
 | zero=>omega
 | succ n ih =>
  intro j l h d o hd hl;rcases l with _|⟨a,l⟩
  .grind
  simp only[YF]at h;rcases hb:(Nat.testBit (bs.getD j 0) k || qN a) with _|_
  .grind
  rw[hb,oN]at h;cases d<;>grind
theorem uD{c:Uf}:∀(n:Nat) (l:List Oper),Kj c n l=true->∀d o t,d<n->l[d]? = some o->o.dst=some t->t∉c:=by
 intro n;induction n with
 | zero=>omega
 | succ n ih =>
  intro l h d o t hd hl f;rcases l with _|⟨a,l⟩
  .grind
  simp only[Kj,oI]at h
  grind[Yx]
theorem YK{ops:List Oper}{tm:Tm}{b bk:Nat}:∀(n i:Nat) (l:List Oper),qL ops tm b bk i n l=true->∀d o,d<n->l[d]? = some o ->
  Nat.testBit bk (i+d)=true\/(wp tm b o=true/\∀c o' t,d<=c->c<n->l[c]? = some o'->o'.dst=some t->t∉wF ops o):=by
 intro n;induction n with
 | zero=>omega
 | succ n ih =>
  intro i l h d o hd hl;rcases l with _|⟨a,l⟩
  .grind
  simp only[qL]at h;rcases f:(Nat.testBit bk i || (wp tm b a && Kj (wF ops a) (n+1) (a::l))) with _|_
  .grind
  rw[f,oN]at h;cases d with
  | zero =>
   simp only[List.getElem?_cons_zero,oA]at hl;subst hl;simp only[Bool.or_eq_true,oI]at f;refine f.imp id λg=>⟨g.1,λc o' t j h2 h3 h4=>?_⟩
   exact uD (n+1) (a::l) g.2 c o' t h2 h3 h4
  | succ d =>
   grind
theorem tG{m k:Nat}{tm:Tm}{o:Oper}(h:XN ops bs m k tm o=true):
  ∃b,((∃t a x o',o.op = .store t a x/\yt tm a=some (.ptr b o'))\/(∃t a x y,o.op = .mapUpdate t a x y/\yt tm a=some (.map b))\/∃args g a r o' n cp,o.op = .call ⟨.builtin .append,args,g⟩/\args.toList=a::r/\yt tm a=some (.slice b o' n cp)) /\
   (∀i oi,i<k->ops[i]? = some oi->Nat.testBit (bs.getD k 0) i=true\/(wp tm b oi=true/\∀j oj t,i<=j->j<k->ops[j]? = some oj->oj.dst=some t->t∉wF ops oi)) /\
   (∀i oi,k<i->i<m->ops[i]? = some oi->Nat.testBit (bs.getD i 0) k=true\/qN oi=true):=by
 have key:YF bs k (k+1) (m-k-1) (ops.drop (k+1))=true->∀i oi,k<i->i<m->ops[i]? = some oi->Nat.testBit (bs.getD i 0) k=true\/qN oi=true:=λh i oi p h2 c=>by
  have:=aQ _ _ _ h (i-(k+1)) oi dd (by grind)
  grind
 unfold XN at h;split at h
 .rename_i t a x d;split at h
  .rename_i b o' f;simp only[oI]at h;refine⟨b,.inl ⟨t,a,x,o',d,f⟩,λi oi hi c=>?_,key h.2⟩;have:=YK k 0 ops h.1 i oi hi c
   grind
  grind
 .rename_i t a x y d;split at h
  .rename_i b f;simp only[oI]at h;refine⟨b,.inr (.inl ⟨t,a,x,y,d,f⟩),λi oi hi c=>?_,key h.2⟩;have:=YK k 0 ops h.1 i oi hi c
   grind
  grind
 .rename_i args g d;split at h
  .rename_i a r l;split at h
   .rename_i b o' n cp f;simp only[oI]at h;refine⟨b,.inr (.inr ⟨args,g,a,r,o',n,cp,d,l,f⟩),λi oi hi c=>?_,key h.2⟩;have:=YK k 0 ops h.1 i oi hi c
    grind
   grind
  grind
 grind
theorem Hi{o:Oper}(h:Yr o=true)(tm:Tm)(b:Nat):wp tm b o=true:=by
 grind[Yr,wp]
theorem uo{ops:List Oper}{bk:Nat}:∀(n i:Nat) (l:List Oper),KJ ops bk i n l=true->∀d o,d<n->l[d]? = some o ->
  Nat.testBit bk (i+d)=true\/(Yr o=true/\∀c o' t,d<=c->c<n->l[c]? = some o'->o'.dst=some t->t∉wF ops o):=by
 intro n;induction n with
 | zero=>omega
 | succ n ih =>
  intro i l h d o hd hl;rcases l with _|⟨a,l⟩
  .grind
  simp only[KJ]at h;rcases f:(Nat.testBit bk i || (Yr a && Kj (wF ops a) (n+1) (a::l))) with _|_
  .grind
  rw[f,oN]at h;cases d with
  | zero =>
   simp only[List.getElem?_cons_zero,oA]at hl;subst hl;simp only[Bool.or_eq_true,oI]at f;refine f.imp id λg=>⟨g.1,λc o' t j h2 h3 h4=>?_⟩
   exact uD (n+1) (a::l) g.2 c o' t h2 h3 h4
  | succ d =>
   grind
theorem TZ{m k:Nat}(h:Jd ops bs m k=true):
  (∀i oi,i<k->ops[i]? = some oi->Nat.testBit (bs.getD k 0) i=true\/(Yr oi=true/\∀j oj t,i<=j->j<k->ops[j]? = some oj->oj.dst=some t->t∉wF ops oi)) /\
   (∀i,k<i->i<m->Nat.testBit (bs.getD i 0) k=true):=by
 unfold Jd at h;simp only[oI]at h;refine⟨λi oi hi a=>?_,λi c h2=>uc _ _ h.2 i dd dd⟩;have:=uo k 0 ops h.1 i oi hi a
 grind
theorem P6{d:Region.Mode}{ops:Array Oper}{c:Array Bool}(hr:Region.ready d ops c=[])(f:c.size=ops.size):
  ∀(l seen:Uf),(∀i∈seen,c.getD i false=true) ->
   (∀p i q,l=p++i::q->∃o,ops[i]? = some o/\∀e∈o.after,Region.binds d e=true->e.on∈p\/e.on∈seen)->∀i∈l,c.getD i false=true:=by
 intro l;induction l with
 | nil=>grind
 | cons a l ih =>
  intro seen hs hw i hi;have g:c.getD a false=true:=by
   obtain⟨o,k,m⟩:=hw [] a l rfl;have h:a<ops.size:=by
    grind
   cases hb:c.getD a false with
   | true=>rfl
   | false =>
    have:a∈Region.ready d ops c:=by
     grind[mem_ready]
    grind
  rcases oq.1 hi with rfl|hi
  .exact g
  refine ih (a::seen) (λj n=>by grind) (λp i q e=>?_) i hi
  grind
theorem R6{ops:List Oper}:∀(l seen:Uf),fV ops l seen=true->∀p i q,l=p++i::q->∃o,ops[i]? = some o/\∀e∈o.after,nk e=true->e.on∈p\/e.on∈seen:=by
 intro l;induction l with
 | nil=>simp_all
 | cons a l ih =>
  intro seen h p i q hl;simp only[fV,oI]at h;cases p with
  | nil =>
   simp only[List.nil_append,List.cons.injEq]at hl;obtain⟨rfl,rfl⟩:=hl;rcases c:ops[a]? with _|o
   .grind
   rw[c]at h;refine⟨o,rfl,λe hm hb=>?_⟩
   grind[Yx]
  | cons b p =>
   grind
theorem Ve{l:Uf}:∀n,rN l n=true->∀i,i<n->i∈l:=by
 intro n;induction n with
 | zero=>omega
 | succ n ih =>
  intro h i hi;simp only[rN,oI]at h
  grind[Yx]
theorem It(e:Edge):Region.binds .gc e=nk e:=by
 grind[Region.binds,nk]
theorem Iu{a:Region.Mode}{e:Edge}(h:kR e=true):Region.binds a e=true:=by obtain⟨c,g⟩:=e;cases g<;>first|rfl|grind[kR]
def Rn(a:Region.Mode)(ops:Array Oper):Prop:=a = .gc->Region.departs ops=true
theorem vr(a:Bool)(ops:Array Oper)(t:Nat)(p:Uf->Prop)(h:∀c,Rn c ops->∀t,p (Region.linearise c ops t)):p (Region.schedule a ops t):=by
 unfold Region.schedule;split
 .exact h .any (λe=>by cases e) t
 rename_i hd;simp only[Bool.or_eq_true,not_or,Bool.not_eq_true,Bool.not_eq_false']at hd;split
 .exact h .text (λe=>by cases e) _
 exact h .gc (λ_=>hd.2) _
theorem fF{f:Region.Mode}{ops:Array Oper}{m:Nat}(k:j8 ops.toList=some m)(hm:Rn f ops){a:Array Bool}(hr:Region.ready f ops a=[])(d:a.size=ops.size):
  ∀i,i<ops.size->a.getD i false=true:=by
 unfold j8 at k;rcases g:(XJ ops.toList (yE ops.toList []) 0 ops.toList && (!(Region.departs ops.toList.toArray) || (fV ops.toList (Region.linearise .gc ops.toList.toArray 0) [] && rN (Region.linearise .gc ops.toList.toArray 0) ops.toList.length))) with _|_
 .grind
 simp only[oI]at g;by_cases hgc:f = .gc
 .subst hgc;have hd:=hm rfl;have c:=g.2;rw[show ops.toList.toArray=ops from by simp,hd]at c;simp only[Bool.not_true,Bool.false_or,oI]at c;intro i hi;refine P6 hr d _ [] (λ_ h=>by grind) (λp i q e=>?_) i (Ve _ c.2 i dd)
  grind[R6,It]
 intro i hi;refine P6 hr d (List.range ops.size) [] (λ_ h=>by grind) (λp i q e=>?_) i (List.mem_range.2 hi);have hp:p=List.range p.length/\i=p.length:=by
  have l:(List.range ops.size)[p.length]? = some i:=by grind
  have h2:(List.range ops.size).take p.length=p:=by grind
  grind
 obtain⟨hp,rfl⟩:=hp;have j:p.length<ops.size:=by have:=congrArg List.length e;grind
 refine⟨ops[p.length],Array.getElem?_eq_getElem j,λe hm hb=>.inl ?_⟩;have hs:=(pX ops.toList 0 g.1 p.length ops[p.length] (by grind)).2.1;have:=List.all_eq_true.1 hs e (by grind);rw[Nat.zero_add]at this;rw[hp,List.mem_range];simp only[Bool.or_eq_true]at this
 grind[zW,Region.binds]
theorem vQ{v:Value}{x:V}(h:LA v=some x):(∀ρ,x.conc ρ=v)/\(∀D,x.In D):=by
 unfold LA at h;split at h<;>simp only[oA,reduceCtorEq]at h<;>subst h <;>
  (simp_all[V.conc,V.In,V.InL,V.concL])
theorem Ss:∀{l:List Value}{x:Ug},LB l=some x->(∀ρ,V.concL ρ x=l)/\(∀D,V.InL D x):=by
 intro l;induction l with
 | nil=>grind[LB,V.concL,V.InL]
 | cons v l ih =>
  intro x h;simp only[LB]at h;rcases a:LA v with _|y
  .grind
  rcases h2:LB l with _|z
  .grind
  grind[vQ,V.concL,V.InL]
theorem Xb{v:Value}{x:V}(h:ofV v=some x):(∀ρ,x.conc ρ=v)/\(∀D,x.In D):=by
 unfold ofV at h
 grind[Ss,V.conc,V.In,vQ]
structure TyOK (P:Program) (t:Nat) (ti:TI) (i:TypeInfo):Prop where
 info:P.info? t=some i
 und:P.underlying t=some ti.desc
 size:i.size=ti.size
 bytes:i.bytes=ti.bytes
 zero:∀z,ti.zero=some z->∃v,i.zero=some v/\ofV v=some z
 cmp:i.comparable=ti.cmp
 held:P.stoodInHeld t=ti.held
 guard:P.eqGuardType P.depth t=ti.guard
 meth:i.methods.toList=ti.meth
 id:ti.id=t
structure CtxOK (P:Program) (c:Ctx):Prop where
 ty:∀t ti,c.ty.get t=some ti->∃i,TyOK P t ti i
 fn:∀f fi,c.fn.get f=some fi->∃g,P.funcs[f]? = some g/\(g.name == "runtime.NumGoroutine")=false/\g.body=some fi.body/\g.ntmps=fi.n/\g.results.toList=fi.results
 noesc:∀k,c.noesc=some k->∃g,P.funcs[k]? = some g/\(g.name == "runtime.NumGoroutine")=false/\g.body.isNone=true/\Extern.findNext g=none/\Extern.find g=some Extern.AbiNoEscape.same
 mnz:∀k el,c.mnz=some (k,el)->∃g ps rs t,P.funcs[k]? = some g/\(g.name == "runtime.NumGoroutine")=false/\g.body.isNone=true/\Extern.findNext g=none /\
  Extern.find g=some (Extern.BytealgMakeNoZero.makeNoZero ps rs)/\rs[0]? = some t/\P.underlying t=some (.slice el)
 lies:∀e u off,c.lies e u off=true->liesAt P P.depth e 1 off u 1=true
theorem Va(P:Program):∀(l:List TypeInfo) (i:Nat) (t:T TI) (m:Nat),i+l.length<=T.top ->
  (Kq P i l t).get m=if i<=m/\m<i+l.length then (l[m-i]?).bind (TI.of P m) else t.get m:=by
 intro l;induction l with
 | nil=>simp_all[Kq,if_neg]
 | cons x l ih =>
  intro i t m h;simp only[oc]at h ⊢;rw[Kq,ih _ _ _ dd,T.get_set _ _ _ _ dd]
  grind
theorem V9:∀(l:List Func) (i:Nat) (t:T FI) (m:Nat),i+l.length<=T.top ->
  (KH i l t).get m=if i<=m/\m<i+l.length then (l[m-i]?).bind FI.of else t.get m:=by
 intro l;induction l with
 | nil=>simp_all[KH,if_neg]
 | cons x l ih =>
  intro i t m h;simp only[oc]at h ⊢;rw[KH,ih _ _ _ dd,T.get_set _ _ _ _ dd]
  grind
theorem zDB(P:Program)(ne:Option Nat)(m:Option (Nat×Nat))(h1:P.types.size<=T.top)(h2:P.funcs.size<=T.top)(h3:∀k,ne=some k->∃g,P.funcs[k]? = some g/\(g.name == "runtime.NumGoroutine")=false/\g.body.isNone=true/\Extern.findNext g=none/\Extern.find g=some Extern.AbiNoEscape.same)(h4:∀k el,m=some (k,el)->∃g ps rs t,P.funcs[k]? = some g/\(g.name == "runtime.NumGoroutine")=false/\g.body.isNone=true/\Extern.findNext g=none /\
   Extern.find g=some (Extern.BytealgMakeNoZero.makeNoZero ps rs)/\rs[0]? = some t/\P.underlying t=some (.slice el)):CtxOK P (Ctx.of P ne m):=by
 refine⟨?_,?_,h3,h4,λe u off h=>h⟩
 .intro t ti h;simp only[Ctx.of]at h;rw[Va P _ _ _ _ (by grind)]at h;split at h
  .rename_i l;simp only[Nat.sub_zero,Array.length_toList,Nat.zero_add]at h l;rcases hi:P.types.toList[t]? with _|i
   .grind
   simp only[hi,Option.bind_some]at h;have n:P.types[t]? = some i:=by grind
   have a:P.info? t=some i:=by simp_all[Tables.info?]
   have c:∀d,P.underlying t=some d->ti=TI.mk' P t i d->TyOK P t ti i:=by
    intro d hd o;subst o;refine⟨a,hd,rfl,rfl,?_,rfl,rfl,rfl,rfl,rfl⟩;intro z p;simp only[TI.mk']at p
    grind
   refine⟨i,?_⟩;unfold TI.of at h;split at h
   .rename_i s u hd;split at h
    .rename_i j w;simp only[oA]at h;refine c j.desc ?_ h.symm;have x:u<P.types.size:=by
      grind
     have q:P.info? u=some j:=by simp_all[Tables.info?]
     unfold Program.underlying;rw[a];obtain⟨d,s1,y,A,s4,B,C,D,E,F⟩:=i<;>grind
    grind
   rename_i r;simp only[oA]at h;refine c i.desc ?_ h.symm;unfold Program.underlying
   grind
  simp_all
 intro f fi h;simp only[Ctx.of]at h;rw[V9 _ _ _ _ (by grind)]at h;split at h
 .rename_i l;simp only[Nat.sub_zero,Array.length_toList,Nat.zero_add]at h l;rcases hi:P.funcs.toList[f]? with _|g
  .grind
  simp only[hi,Option.bind_some]at h;refine⟨g,by grind,?_⟩;unfold FI.of at h
  grind
 simp_all
section
variable {P:Program}{c:Ctx}{ρ:Env}{D:Nat->Prop}{h:H}{w:World}
theorem z7{t:Nat}(k:TyOK P t ti i)(w:World):(underlying t).run P w = .ok ti.desc w:=by simp[underlying,k.und]
theorem XK{t:Nat}(k:TyOK P t ti i)(w:World):(typeInfo t).run P w = .ok i w:=by simp[typeInfo,k.info]
theorem yJ{t:Nat}(k:TyOK P t ti i)(w:World):(sizeOf t).run P w = .ok ti.size w:=by simp[sizeOf,XK k,k.size]
theorem Xh{t:Nat}(k:TyOK P t ti i)(w:World):(isAgg t).run P w = .ok (jx ti.desc) w:=by simp only[isAgg,Sem.run_bind,z7 k,Result.andThen_ok];cases ti.desc<;>rfl
theorem qy{t:Nat}{z:V}(k:TyOK P t ti i)(d:ti.zero=some z)(ρ:Env)(w:World):(zeroValue t).run P w = .ok (z.conc ρ) w/\∀D,z.In D:=by obtain⟨v,f,h2⟩:=k.zero z d;obtain⟨a,b⟩:=Xb h2;exact⟨by simp[zeroValue,XK k,f,a],b⟩
theorem jS(l:Ug):(V.agg l).conc ρ = .agg (l.map (V.conc ρ)).toArray:=by simp[V.conc,V.concL_eq]
theorem SR(l:Ug):(V.tuple l).conc ρ = .tuple (l.map (V.conc ρ)).toArray:=by simp[V.conc,V.concL_eq]
theorem Ky(ok:CtxOK P c){a:V}(e:ye c t h a=some v)(r:HR ρ D h w)(f:a.In D):
  (Instr.loadAt t (a.conc ρ)).run P w = .ok (v.conc ρ) w/\v.In D:=by
 unfold ye at e;split at e
 .rename_i b o;simp only[V.In]at f;split at e
  .rename_i l esz wr op m;split at e
   .rename_i ti g;obtain⟨i,k⟩:=ok.ty t ti g;cases d:jx ti.desc with
    | true =>
     simp only[d,oN]at e;split at e
     .rename_i x n;simp only[oA]at e;subst e;obtain⟨j,h2,_⟩:=j9 (P:=P) r f m n;refine⟨?_,by simp only[V.In,V.InL_iff];exact h2⟩;simp[Instr.loadAt,Instr.sureAddr,loadVar,V.conc,Xh k,d,yJ k,j,V.concL_eq]
     cases e
    | false=>simp only[d,oO]at e;obtain⟨j,h2⟩:=vD r f m e;refine⟨?_,h2⟩;simp[Instr.loadAt,Instr.sureAddr,loadVar,V.conc,Xh k,d,j]
   cases e
  cases e
 cases e
theorem Po(ok:CtxOK P c){a:V}{h':H}(e:jP c t h a v=some h')(r:HR ρ D h w)(m:a.In D)(q:v.In D):
  ∃w',(Instr.storeAt t (a.conc ρ) (v.conc ρ)).run P w = .ok () w'/\HR ρ D h' w'/\Mv ρ D h w ρ h' w'/\h'.nx=h.nx:=by
 unfold jP at e;split at e
 .rename_i b o;simp only[V.In]at m;split at e
  .rename_i l esz op s;split at e
   .rename_i ti f;obtain⟨i,k⟩:=ok.ty t ti f;rcases n:we v.cells ti.size with _|_
    .grind
    rcases d:cond (Nat.ble esz.fz o) (zU v.cells) false with _|_
    .grind
    rw[n,oN,d,oN]at e;obtain⟨g,h2⟩:=VD d;split at e
    .rename_i y j;simp only[oA]at e;subst e;obtain⟨s1,u,x,_⟩:=wx (P:=P) r m s (V.cells_In q) h2 j (oG g);refine⟨_,?_,u,x,rfl⟩;have p:=zx.1 n;simp only[Instr.storeAt,Instr.sureAddr,V.conc,storeVar,Sem.run_bind,Sem.run_pure,Result.andThen_ok,yJ k,V.cells_conc]
     grind
    grind
   grind
  grind
 grind
theorem wJ(ok:CtxOK P c){l:Ug}{off:Nat}(d:c.ty.get t=some ti)(e:apart ti l off=some v)(hl:∀x∈l,x.In D)(w:World):
  (part t (l.map (V.conc ρ)).toArray off).run P w = .ok (v.conc ρ) w/\v.In D:=by
 obtain⟨i,k⟩:=ok.ty t ti d;unfold apart at e;split at e
 .cases e
 rename_i q g;obtain⟨a1,rfl⟩:=VQ g;cases a:jx ti.desc with
 | true =>
  simp only[a,oN]at e;split at e
  .rename_i x j;simp only[oA]at e;subst e;obtain⟨a2,rfl⟩:=Zw j;refine⟨?_,by grind[V.In,V.InL_iff]⟩;simp only[part,Sem.run_bind,Xh k,a,Result.andThen_ok,if_true,yJ k,Sem.run_pure,jS]
   simp_all
  grind
 | false =>
  simp only[a,oO]at e;split at e
  .rename_i x y m;simp only[oA]at e;subst e;have f:l[off]? = some x:=by
    have:(l.drop off)[0]? = some x:=by grind
    grind
   refine⟨?_,hl x (List.mem_of_getElem? f)⟩;simp[part,Xh k,a,f]
  grind
theorem Ty(ok:CtxOK P c){x:V}{f:Nat}(e:Ec c t x f=some v)(j:x.In D):(Instr.field t (x.conc ρ) f).run P w = .ok (v.conc ρ) w/\v.In D:=by
 unfold Ec at e;split at e
 .rename_i ti a;obtain⟨i,k⟩:=ok.ty t ti a;split at e
  .rename_i n cs hd;split at e
   .rename_i o d;split at e
    .rename_i p g;simp only[V.In,V.InL_iff]at j;obtain⟨l,m⟩:=wJ (ρ:=ρ) ok g e j w;refine⟨?_,m⟩;simp[Instr.field,z7 k,hd,d,jS,asAgg,l]
    grind
   grind
  grind
 grind
theorem kU(l:Ua):(⟨l.toArray⟩:ByteArray).size=l.length:=by simp[ByteArray.size]
theorem Z8{n:Int}{i:Nat}(h:ya n=some i):n=(i:Int):=by cases n<;>simp[ya]at h;simp[h]
theorem eH(ok:CtxOK P c){t:TypeId}{x p v:V}(e:wM c t x p=some v)(q:x.In D):(Instr.index t (x.conc ρ) (p.conc ρ)).run P w = .ok (v.conc ρ) w/\v.In D:=by
 unfold wM at e;split at e
 .rename_i kk n;split at e
  .rename_i i ti hi f;obtain⟨u,k⟩:=ok.ty t ti f;obtain rfl:=Z8 hi;split at e
   .rename_i len el cs hd;rcases hb:Nat.blt i len with _|_
    .grind
    simp only[hb,oN]at e;have g:=(zW _ _).1 hb;split at e
    .rename_i z a;obtain⟨r,A⟩:=ok.ty el z a;simp only[V.In,V.InL_iff]at q;obtain⟨B,C⟩:=wJ (ρ:=ρ) ok a e q w;refine⟨?_,C⟩;have s:(i:Int)<(len:Int):=dd
     simp[Instr.index,V.conc,asIntOf,z7 k,hd,V.concL_eq,g,yJ A,B]
    grind
   .rename_i d hd;split at e
    .rename_i b hb;simp only[oA]at e;subst e;have j:∀(l:Ua) (i:Nat) (b:UInt8),JQ l i=some b->l[i]? = some b:=by
      intro l;induction l with
      | nil=>grind[JQ]
      | cons y l ih=>intro i b h;cases i<;>simp_all [JQ]
     have m:=j d i b hb;have hs:(⟨d.toArray⟩:ByteArray)[i]? = some b:=by
      obtain⟨hl,E⟩:=List.getElem?_eq_some_iff.1 m;have o:i<(⟨d.toArray⟩:ByteArray).size:=by grind[kU]
      rw[getElem?_pos (⟨d.toArray⟩:ByteArray) i o];congr 1
     refine⟨?_,by simp[V.In]⟩;have F:(0:Int)<=(i:Int):=dd
     simp[Instr.index,V.conc,asIntOf,z7 k,hd,hs]
    grind
   grind
  grind
 grind
theorem SA(ok:CtxOK P c){x p:V}(e:xK c t x p=some v)(r:x.In D):(Instr.indexAt t (x.conc ρ) (p.conc ρ)).run P w = .ok (v.conc ρ) w/\v.In D:=by
 unfold xK at e;split at e
 .rename_i kk n;split at e
  .rename_i i ti hi j;obtain⟨q,k⟩:=ok.ty t ti j;obtain rfl:=Z8 hi;split at e
   .rename_i len el b o hd;rcases hb:Nat.blt i len with _|_
    .grind
    simp only[hb,oN]at e;have a:=(zW _ _).1 hb;split at e
    .rename_i l d;obtain⟨f,m⟩:=ok.ty el l d;simp only[oA]at e;subst e;refine⟨?_,by grind[V.In]⟩;have g:(i:Int)<(len:Int):=dd
     simp[Instr.indexAt,V.conc,asIntOf,z7 k,hd,Instr.sureAddr,a,yJ m,yK,Nat.add_assoc]
    grind
   .rename_i el b o len s hd;rcases hb:Nat.blt i len with _|_
    .grind
    simp only[hb,oN]at e;have a:=(zW _ _).1 hb;split at e
    .rename_i l d;obtain⟨f,m⟩:=ok.ty el l d;simp only[oA]at e;subst e;refine⟨?_,by grind[V.In]⟩;have g:(i:Int)<(len:Int):=dd
     simp[Instr.indexAt,V.conc,asIntOf,z7 k,hd,a,yJ m,yK,Nat.add_assoc]
    grind
   grind
  grind
 grind
theorem SB(ok:CtxOK P c){x:V}(e:Yg c t h x=some v)(r:HR ρ D h w)(j:x.In D)(f:Array TypeId)(m:f.getD 0 0=t)(ty:TypeId)(p:0<f.size):
  (Builtin.len_ f ty #[x.conc ρ]).run P w = .ok (v.conc ρ) w/\v.In D:=by
 have d:f[0]? = some t:=by
  simp_all
 unfold Yg at e;split at e
 .cases e
 rename_i ti g;obtain⟨i,k⟩:=ok.ty t ti g;split at e
 .rename_i l hd;simp only[oA]at e;subst e;exact⟨by simp[Builtin.len_,d,z7 k,hd,V.conc,goInt,yl,kU],by simp[V.In]⟩
 .rename_i n el hd;simp only[oA]at e;subst e;exact⟨by simp[Builtin.len_,d,z7 k,hd,V.conc,goInt],by simp[V.In]⟩
 .rename_i el b o n u hd;simp only[oA]at e;subst e;exact⟨by simp[Builtin.len_,d,z7 k,hd,V.conc,goInt],by simp[V.In]⟩
 .rename_i el hd;simp only[oA]at e;subst e;exact⟨by simp[Builtin.len_,d,z7 k,hd,V.conc,goInt],by simp[V.In]⟩
 .rename_i a b hd;simp only[oA]at e;subst e;exact⟨by simp[Builtin.len_,d,z7 k,hd,V.conc,goInt],by simp[V.In]⟩
 .rename_i a b q hd;simp only[V.In]at j;split at e
  .rename_i es clock s;simp only[oA]at e;subst e;have hr:=(r.rel q _ j s).1;exact⟨by simp[Builtin.len_,d,z7 k,hd,V.conc,goInt,getObj,Sem.run,hr],by simp[V.In]⟩
  grind
 grind
theorem Tv(ok:CtxOK P c){x:V}(e:Au c t x=some v)(a:Array TypeId)(g:a.getD 0 0=t)(ty:TypeId)(j:0<a.size):
  (Builtin.cap_ a ty #[x.conc ρ]).run P w = .ok (v.conc ρ) w/\v.In D:=by
 have d:a[0]? = some t:=by
  simp_all
 unfold Au at e;split at e
 .cases e
 rename_i ti f;obtain⟨i,k⟩:=ok.ty t ti f;split at e
 .rename_i n el hd;simp only[oA]at e;subst e;exact⟨by simp[Builtin.cap_,d,z7 k,hd,V.conc,goInt],by simp[V.In]⟩
 .rename_i el b o n l hd;simp only[oA]at e;subst e;exact⟨by simp[Builtin.cap_,d,z7 k,hd,V.conc,goInt,Cap.val],by simp[V.In]⟩
 .rename_i el hd;simp only[oA]at e;subst e;exact⟨by simp[Builtin.cap_,d,z7 k,hd,V.conc,goInt],by simp[V.In]⟩
 grind
theorem NP{t:Nat}(k:TyOK P t ti i){x y:V}{r:Bool}(e:eq1 ti.desc x y=some r)(d:Nat)(w:World):(Op.equalIn (d+1) t (x.conc ρ) (y.conc ρ)).run P w = .ok r w:=by
 have f:=k.und;unfold eq1 at e;split at e
 case h_1 hd=>simp only[oA]at e;subst e;simp[Op.equalIn,underlying,f,hd,V.conc]
 case h_2 j a q b hd =>
  rcases g:jy j q with _|_
  .grind
  simp only[g,oN,oA]at e;subst e;obtain rfl:=(J1 _ _).1 g;simp[Op.equalIn,underlying,f,hd,V.conc,qA]
 case h_3 a b hd =>
  grind[V.conc,run_equalIn_string,TX,JU]
 all_goals first
  | (cases e;done)
  | (simp only[oA]at e;subst e;rename_i hd;simp[Op.equalIn,underlying,f,hd,V.conc])
theorem lF(ok:CtxOK P c){a:TypeId->V->V->Option Bool}{d:Nat}(g:∀t x y r w,a t x y=some r->x.In D->y.In D->(Op.equalIn d t (x.conc ρ) (y.conc ρ)).run P w = .ok r w):
  ∀(j:List Field) (xs ys:Ug) (r:Bool),Ic c a j xs ys=some r->(∀v∈xs,v.In D)->(∀v∈ys,v.In D)->∀w,
   (Op.eqFields d (xs.map (V.conc ρ)).toArray (ys.map (V.conc ρ)).toArray j).run P w = .ok r w:=by
 intro j;induction j with
 | nil=>simp_all[Ic,Op.eqFields]
 | cons f j ih =>
  intro xs ys r e m n w;simp only[Ic]at e;cases o:f.name == "_" with
  | true=>grind
  | false =>
   simp only[o,oO]at e;have l:f.name ≠ "_":=by grind
   split at e
   .cases e
   rename_i ti k;split at e
   .rename_i x y p h2;obtain⟨q,s⟩:=wJ (ρ:=ρ) ok k p m w;obtain⟨u,z⟩:=wJ (ρ:=ρ) ok k h2 n w;rcases hr:a f.type x y with _|b
    .grind
    have p3:=g f.type x y b w hr s z;rw[Op.eqFields,if_pos l];simp only[Sem.run_bind,q,u,p3,Result.andThen_ok];cases b with
    | true =>
     grind
    | false =>
     simp_all
   grind
theorem SD(ok:CtxOK P c){el:TypeId}{te:TI}(hte:c.ty.get el=some te){rec_:V->V->Option Bool}{d:Nat}(hrec:∀x y r w,rec_ x y=some r->x.In D->y.In D->(Op.equalIn d el (x.conc ρ) (y.conc ρ)).run P w = .ok r w):
  ∀(n i:Nat) (xs ys:Ug) (r:Bool),Ib te rec_ n i xs ys=some r->(∀v∈xs,v.In D)->(∀v∈ys,v.In D)->∀w,
   (forIn (m:=Sem) (List.range' i n) ((none,()):Option Bool×Unit) (λi _=>do
    if (!(<-Op.equalIn d el (<-part el (xs.map (V.conc ρ)).toArray (i*te.size)) (<-part el (ys.map (V.conc ρ)).toArray (i*te.size))))=true then pure (ForInStep.done (some false,())) else pure (ForInStep.yield (none,())))).run P w
    = .ok (if r then (none,()) else (some false,())) w:=by
 intro n;induction n with
 | zero=>simp_all[Ib]
 | succ n ih =>
  intro i xs ys r e hx hy w;simp only[Ib]at e;split at e
  .rename_i x y h1 h2;obtain⟨p1,q1⟩:=wJ (ρ:=ρ) ok hte h1 hx w;obtain⟨p2,q2⟩:=wJ (ρ:=ρ) ok hte h2 hy w;rcases hr:rec_ x y with _|b
   .grind
   have p3:=hrec x y b w hr q1 q2;rw[List.range'_succ,List.forIn_cons];simp only[Sem.run_bind,p1,p2,p3,Result.andThen_ok];cases b with
   | true =>
    simp only[hr]at e;have:=ih (i+1) xs ys r e hx hy w
    simp_all
   | false =>
    simp_all
  grind
theorem tK(ok:CtxOK P c):∀(n:Nat) (t:TypeId) (x y:V) (r:Bool),pD c n t x y=some r->x.In D->y.In D->∀(m:Nat) (w:World),n<=m ->
  (Op.equalIn m t (x.conc ρ) (y.conc ρ)).run P w = .ok r w:=by
 intro n;induction n with
 | zero=>grind[pD]
 | succ n ih =>
  intro t x y r e g l m w hm;obtain⟨m,rfl⟩:∃J,m=J+1:=⟨m-1,dd⟩;simp only[pD]at e;split at e
  .cases e
  rename_i ti B;obtain⟨i,k⟩:=ok.ty t ti B;split at e
  .rename_i K xs G hd;cases H:ti.held with
   | true=>grind
   | false =>
    simp only[H,oO]at e;simp only[V.In,V.InL_iff]at g l;have q:P.fieldsOf t=K:=by simp[Program.fieldsOf,k.und,hd]
    rw[jS,jS,run_equalIn_struct w m t _ _ (by rw[q,k.und,hd]) (by rw[k.held,H]),q];exact lF ok (λt x y r w C a d=>ih t x y r C a d m w dd) _ _ _ _ e g l w
  .rename_i len el xs G hd;split at e
   .cases e
   rename_i E s;obtain⟨R,L⟩:=ok.ty el E s;simp only[V.In,V.InL_iff]at g l;have hl:=SD (ρ:=ρ) ok s (λx y r w C a d=>ih el x y r C a d m w dd) len 0 xs G r e g l w;rw[jS,jS];simp only[Op.equalIn,Sem.run_bind,z7 k,hd,Result.andThen_ok,yJ L];rw[Std.Legacy.Range.forIn_eq_forIn_range'];simp only[Std.Legacy.Range.size,Nat.sub_zero,Nat.add_sub_cancel,Nat.div_one];rw[hl];cases r<;>simp
  .rename_i S tx M ty N hd;cases hb:Nat.beq tx ty with
   | false =>
    simp only[hb,oO,oA]at e;subst e;have u:tx≠ty:=λO=>by simp_all
    simp[Op.equalIn,z7 k,hd,V.conc,u]
   | true =>
    obtain rfl:=oH hb;simp only[hb,oN]at e;split at e
    .cases e
    rename_i p f;obtain⟨j,A⟩:=ok.ty tx p f;rcases I:p.cmp with _|_
    .grind
    simp only[I,oN]at e;simp only[V.In]at g l;have:=ih tx M N r e g l m w dd;simp[Op.equalIn,z7 k,hd,V.conc,XK A,A.cmp,I,this]
  .rename_i E b o Q o' hd;split at e
   .cases e
   rename_i p f;obtain⟨j,A⟩:=ok.ty E p f;rcases hb:(Nat.beq b Q && Nat.blt 0 p.size) with _|_
   .grind
   simp only[hb,oN,oA]at e;subst e;simp only[oI]at hb;obtain rfl:=oH hb.1;have hs:=(zW _ _).1 hb.2;have F:¬p.size=0:=dd
   have z:((⟨ρ.blk b,ρ.off b+o,none⟩:Addr) == ⟨ρ.blk b,ρ.off b+o',none⟩)=Nat.beq o o':=by
    cases T:Nat.beq o o' with
    | true=>simp_all
    | false =>
     have u:o≠o':=λO=>by simp_all
     grind
   simp[Op.equalIn,z7 k,hd,V.conc,yJ A,F,sameAddr,z]
  grind[NP]
theorem Tu(ok:CtxOK P c){op:BinOp}{x y:Operand}{a b r:V}(e:Yf c op t x y a b=some r)(G:a.In D)(hb:b.In D):
  (do eqGuard op t x y (a.conc ρ) (b.conc ρ);binOp op t (a.conc ρ) (b.conc ρ):Sem Value).run P w = .ok (r.conc ρ) w/\r.In D:=by
 have d:rM c t x y a b=true->(eqGuard op t x y (a.conc ρ) (b.conc ρ)).run P w = .ok () w:=by
  intro f;unfold rM at f;split at f
  .simp only[eqGuard,V.conc];have j:(KT x || KT y)=true:=f;cases op<;>simp<;>(grind[KT])
  .rename_i A l2;split at f
   .rename_i ti s;obtain⟨i,k⟩:=ok.ty t ti s;have j:ti.guard=false:=by grind
    rw[jS,jS];exact run_eqGuard_agg w op t x y _ _ (by rw[k.guard,j])
   grind
  rename_i B h2;have:∀u v:V,(∀(_:u = .nilIface) (_:v = .nilIface),False)->(∀A l2 (_:u = .agg A) (_:v = .agg l2),False)->(eqGuard op t x y (u.conc ρ) (v.conc ρ)).run P w = .ok () w:=by intro u v H I;cases op<;>simp only[eqGuard]<;>simp<;>(cases u<;>cases v<;>simp_all [V.conc])
  simp_all
 have g:∀q,pD c 30 t a b=some q->(Op.equal t (a.conc ρ) (b.conc ρ)).run P w = .ok q w:=by intro q l;exact tK ok 30 t a b q l G hb 10000 w dd
 unfold Yf at e;split at e
 .rename_i k m k' n;have z:(eqGuard op t x y (Value.int k m) (Value.int k' n)).run P w = .ok () w:=by simp_all[eqGuard]
  cases hs:KU op with
  | true=>simp only[hs,oN]at e;obtain⟨C,E⟩:=tV (P:=P) (w:=w) (t:=t) (k':=k') (.inl hs) e ρ<;>simp_all[V.conc]
  | false =>
   simp only[hs,oO]at e;rcases F:jy k k' with _|_
   .grind
   simp only[F,oN]at e;obtain⟨C,E⟩:=tV (P:=P) (w:=w) (t:=t) (k':=k') (.inr ((J1 _ _).1 F)) e ρ<;>simp_all[V.conc]
 .rename_i m n;have z:(eqGuard op t x y (Value.string ⟨m.toArray⟩) (Value.string ⟨n.toArray⟩)).run P w = .ok () w:=by simp_all[eqGuard]
  obtain⟨C,E⟩:=Ps (P:=P) (w:=w) (t:=t) e ρ<;>simp_all[V.conc]
 rename_i o p;split at e
 .rcases f:rM c t x y a b with _|_
  .grind
  simp only[f,oN]at e;split at e
  .rename_i q l;simp only[oA]at e;subst e;have B:=d f;have h2:=g q l;have h3:(binOp .eql t (a.conc ρ) (b.conc ρ))=(do pure (.bool (<-Op.equal t (a.conc ρ) (b.conc ρ)))):=by
    cases a<;>cases b<;>simp only[V.conc,binOp]<;>first
     | rfl
     | grind
     | grind
     | (exfalso;exact o _ _ _ _ rfl rfl)
     | (exfalso;exact p _ _ rfl rfl)
   simp_all[V.In,V.conc]
  grind
 .rcases f:rM c t x y a b with _|_
  .grind
  simp only[f,oN]at e;split at e
  .rename_i q l;simp only[oA]at e;subst e;have B:=d f;have h2:=g q l;have h3:(binOp .neq t (a.conc ρ) (b.conc ρ))=(do pure (.bool (!(<-Op.equal t (a.conc ρ) (b.conc ρ))))):=by
    cases a<;>cases b<;>simp only[V.conc,binOp]<;>first
     | rfl
     | grind
     | grind
     | (exfalso;exact o _ _ _ _ rfl rfl)
     | (exfalso;exact p _ _ rfl rfl)
   simp_all[V.In,V.conc]
  grind
 grind
end
end Go.Sim
