/- C. No condition. -/
import Derived.Test.YtnpeieeomokomaaGreatZA
import Derived.Deep.AppendSrc
import Derived.Laws.Strings
import Derived.OrdersIn
import Derived.Laws.StructEq
set_option maxRecDepth 4000
namespace Go.Sim
theorem yY{l:Ug}:za l=true↔∀v∈l,v.one=true:=by
 induction l with
 | nil=>simp[za]
 | cons v l ih=>cases a:v.one<;>simp[za,a,ih]
theorem xL:∀{l:Ug}{n:Nat},wn l n=true↔l.length=n:=by
 intro l;induction l with
 | nil=>intro n;cases n<;>simp[wn]
 | cons x l ih=>intro n;cases n<;>simp[wn,ih]
theorem yb:∀(l:Ua) (n:Nat),jO l n=l.length+n:=by
 intro l;induction l with
 | nil=>intro n;simp[jO]
 | cons x l ih=>intro n;simp only[jO,ih,og];omega
theorem V.one_conc(ρ:Env){v:V}(h:v.one=true):(v.conc ρ).oneCell'=true:=by cases v<;>simp_all [V.one,V.conc,Value.oneCell']
theorem V.cells_conc(ρ:Env)(v:V):(v.conc ρ).cells=(v.cells.map (V.conc ρ)).toArray:=by cases v<;>simp[V.conc,V.cells,Value.cells,V.concL_eq]
theorem V.cells_In{D:Nat->Prop}{v:V}(h:v.In D):∀x∈v.cells,x.In D:=by cases v<;>simp_all [V.cells,V.In,V.InL_iff]
theorem zB5(w:World)(b:Nat)(o o':Obj):(w.putObj b o).putObj b o'=w.putObj b o':=by simp[World.putObj]
theorem zF3{w:World}{b:Nat}{o:Obj}(h:w.heap[b]? = some o):w.putObj b o=w:=by
 unfold World.putObj;have hb:b<w.heap.size:=by
  rcases Nat.lt_or_ge b w.heap.size with g|g
  .exact g
  rw[Array.getElem?_eq_none g]at h;cases h
 have:w.heap[b]=o:=by simpa [Array.getElem?_eq_getElem hb]using h
 have e:w.heap.setIfInBounds b o=w.heap:=by rw[Array.setIfInBounds,dif_pos hb,<-this,Array.set_getElem_self]
 rw[e]
theorem Ke{w:World}{b o:Nat}{c:Array Value}{e:TypeId}{fz:Nat×Nat}(v:Value)(h:w.heap[b]? = some (.cells c e fz)):
  w.setCell ⟨b,o,none⟩ v=w.putObj b (.cells (c.setIfInBounds o v) e fz):=by
 have hb:b<w.heap.size:=by
  rcases Nat.lt_or_ge b w.heap.size with g|g
  .exact g
  rw[Array.getElem?_eq_none g]at h;cases h
 have a:w.heap[b] = .cells c e fz:=by simpa [Array.getElem?_eq_getElem hb]using h
 simp only[World.setCell,World.putObj];congr 1;apply Array.ext_getElem?;intro i;rw[Array.getElem?_modify,Array.getElem?_setIfInBounds];by_cases hi:b=i
 .subst hi;simp[hb,a]
 simp[hi]
theorem JM:∀(vs:List Value) {w:World}{b o:Nat}{c:Array Value}{e:TypeId}{fz:Nat×Nat},w.heap[b]? = some (.cells c e fz)->o+vs.length<=c.size ->
  ∃c',w.setCells b o vs=w.putObj b (.cells c' e fz)/\c'.size=c.size/\∀i,c'[i]? = if o<=i/\i<o+vs.length then vs[i-o]? else c[i]?:=by
 intro vs;induction vs with
 | nil=>intro w b o c e fz h _;exact⟨c,by rw[World.setCells,zF3 h],rfl,λi=>by rw[if_neg (by simp only[List.length_nil];omega)]⟩
 | cons v vs ih =>
  intro w b o c e fz h hl;simp only[og]at hl;have hb:b<w.heap.size:=by
   rcases Nat.lt_or_ge b w.heap.size with g|g
   .exact g
   rw[Array.getElem?_eq_none g]at h;cases h
  obtain⟨c',h1,d,f⟩:=ih (w:=w.setCell ⟨b,o,none⟩ v) (b:=b) (o:=o+1) (c:=c.setIfInBounds o v) (e:=e) (fz:=fz)
   (by rw[Ke v h,World.putObj_heap_same hb]) (by simp;omega)
  refine⟨c',?_,by simpa using d,λi=>?_⟩
  .rw[World.setCells,h1,Ke v h,zB5]
  rw[f i];by_cases h4:o+1<=i/\i<o+1+vs.length
  .rw[if_pos h4,if_pos (by simp;omega)];obtain⟨k,j⟩:∃k,i-o=k+1:=⟨i-o-1,oy⟩;rw[j,List.getElem?_cons_succ];congr 1;omega
  rw[if_neg h4];by_cases h5:i=o
  .have a:o<c.size:=oy
   subst h5;rw[if_pos ⟨oV _,by simp only[og];omega⟩];simp[a]
  rw[if_neg (by simp;omega),Array.getElem?_setIfInBounds,if_neg oy]
theorem jy{w:World}{b o:Nat}{c:Array Value}{e:TypeId}{fz:Nat×Nat}(h:w.heap[b]? = some (.cells c e fz)):w.cell? ⟨b,o,none⟩=c[o]?:=by simp[World.cell?,h]
theorem Yp{w:World}{b o:Nat}{c:Array Value}{e:TypeId}{fz:Nat×Nat}(h:w.heap[b]? = some (.cells c e fz))(a:¬(fz.1<=o/\o<fz.2)):w.frozen? ⟨b,o,none⟩=false:=by simp only[World.frozen?,h];simpa using a
theorem yT(b o i:Nat):(⟨b,o,none⟩:Addr).add i=⟨b,o+i,none⟩:=by unfold Addr.add;split<;>simp_all
def Post(ρ:Env)(D:Nat->Prop)(h:H)(w:World)(r:Result Value)(v:V)(h':H):Prop :=
 ∃ρ' w',r = .ok (v.conc ρ') w'/\Mv ρ D h w ρ' h' w'/\HR ρ' (Dx D h h') h' w'/\v.In (Dx D h h')
theorem Post.pure{ρ:Env}{D:Nat->Prop}{h:H}{w:World}{v:V}(r:HR ρ D h w)(a:v.In D):Post ρ D h w (.ok (v.conc ρ) w) v h :=
 ⟨ρ,w,rfl,Mv.refl _ _ _ _,by rw[zr];exact r,by rw[zr];exact a⟩
theorem Post.of_eq{ρ:Env}{D:Nat->Prop}{h h':H}{w:World}{v:V}{r a:Result Value}(e:r=a)(p:Post ρ D h w a v h'):Post ρ D h w r v h':=e ▸ p
theorem xY(h:H)(b:Nat)(o:Option O):(h.upd b o).nx=h.nx:=rfl
section
variable {P:Program}{ρ:Env}{D:Nat->Prop}{h:H}{w:World}
theorem zE5{a:Bool}{x:Bool}(h:cond a x false=true):a=true/\x=true:=by cases a<;>simp_all
theorem jH(r:HR ρ D h w){b o n:Nat}{l:Cs}{x:Ug}{esz:Rk}{wr op:Bool}(k:D b)(m:h.get b=some (.cells l esz wr op))(h1:l.range o n=some x):
  (loadCells ⟨ρ.blk b,ρ.off b+o,none⟩ n).run P w = .ok (x.map (V.conc ρ)).toArray w/\(∀v∈x,v.In D)/\x.length=n:=by
 obtain⟨a1,a2,a3⟩:=Cs.range_eq h1;obtain⟨c,e,fz,p,q,f,_⟩:=r.rel b _ k m;refine⟨?_,λv s=>(Cs.range_mem h1 s).elim λi hi=>f i v hi,a1⟩;have:=run_loadCells_list (P:=P) w ⟨ρ.blk b,ρ.off b+o,none⟩ (x.map (V.conc ρ)) (λj v a=>by
  rw[yT,jy p];rw[oh]at a;rcases d:x[j]? with _|u
  .simp[d]at a
  simp only[d,oo,oA]at a;subst a;have g:j<n:=by rw[<-a1];exact(List.getElem?_eq_some_iff.1 d).1
  have t:l.get? (o+j)=some u:=by rw[<-a3 j g];exact d
  rw[Nat.add_assoc];exact q _ _ t)
 rwa [ox,a1]at this
theorem zFG(r:HR ρ D h w){b o:Nat}{l:Cs}{v:V}{esz:Rk}{wr op:Bool}(d:D b)(f:h.get b=some (.cells l esz wr op))(h1:l.get? o=some v):
  w.cell? ⟨ρ.blk b,ρ.off b+o,none⟩=some (v.conc ρ)/\v.In D:=by
 obtain⟨c,e,fz,g,i,a,_⟩:=r.rel b _ d f;exact⟨by rw[jy g];exact i _ _ h1,a _ _ h1⟩
theorem kK(r:HR ρ D h w){b o:Nat}{vs:Ug}{l l':Cs}{esz:Rk}{op:Bool}(p:D b)(q:h.get b=some (.cells l esz true op))(s:∀v∈vs,v.In D)(h1:za vs=true)(hs:l.put o vs=some l')(F:esz.fz<=o):
  (storeCells ⟨ρ.blk b,ρ.off b+o,none⟩ (vs.map (V.conc ρ))).run P w = .ok () (w.setCells (ρ.blk b) (ρ.off b+o) (vs.map (V.conc ρ))) /\
  HR ρ D (h.upd b (some (.cells l' esz true op))) (w.setCells (ρ.blk b) (ρ.off b+o) (vs.map (V.conc ρ))) /\
  Mv ρ D h w ρ (h.upd b (some (.cells l' esz true op))) (w.setCells (ρ.blk b) (ρ.off b+o) (vs.map (V.conc ρ))) /\
  (∀j,j<vs.length->(w.cell? ⟨ρ.blk b,ρ.off b+o+j,none⟩).isSome=true)/\(∀j,j<vs.length->w.frozen? ⟨ρ.blk b,ρ.off b+o+j,none⟩=false):=by
 obtain⟨c,e,fz,t,G,m,H⟩:=r.rel b _ p q;obtain⟨d,n,x,y,z⟩:=H rfl;obtain⟨s1,B,C⟩:=Cs.put_eq hs;have a:ρ.off b+o+(vs.map (V.conc ρ)).length<=c.size:=by rw[ox,d];omega
 have g:∀j,j<vs.length->(w.cell? ⟨ρ.blk b,ρ.off b+o+j,none⟩).isSome=true:=λj I=>by rw[jy t,Array.getElem?_eq_getElem (by rw[ox]at a;omega)];rfl
 have k:∀j,j<vs.length->w.frozen? ⟨ρ.blk b,ρ.off b+o+j,none⟩=false:=λj I =>
  Yp t (n _ (by rw[ox]at a;omega) oy)
 obtain⟨J,E,A,K⟩:=JM (vs.map (V.conc ρ)) t a;refine⟨?_,?_,?_,g,k⟩
 .have:=run_storeCells_cells (P:=P) (ρ.blk b) (ρ.off b+o) (vs.map (V.conc ρ)) 0 w (by simpa using g) (by simpa using k)
   (λv f=>by obtain⟨u,L,rfl⟩:=List.mem_map.1 f;exact V.one_conc ρ (yY.1 h1 u L))
  simpa using this
 .rw[E];refine r.upd p q rfl rfl ⟨J,e,fz,rfl,λi v f=>?_,λi v f=>?_,λ_=>⟨d,by rw[A];exact n,by rw[A,B];exact x,by rw[A,B];exact y,z⟩⟩
  .rw[K,ox,d];rw[C i]at f;simp only[Nat.zero_add];by_cases hc1:o<=i/\i<o+vs.length
   .rw[if_pos hc1]at f ⊢;rw[oh,f];rfl
   rw[if_neg hc1]at f ⊢;have:=G i v f
   rwa [d,Nat.zero_add]at this
  rw[C i]at f;split at f
  .exact s v (List.mem_of_getElem? f)
  exact m i v f
 rw[E];exact Mv.upd r p q rfl rfl
theorem OH(r:HR ρ D h w)(k:h.nx<T.top){l:Cs}{esz:Rk}{op:Bool}(a:∀i v,l.get? i=some v->v.In D)(c:Array Value)(e:TypeId)(fz:Nat×Nat)(cp:Nat)(m:∀(i:Nat) (v:V),l.get? i=some v->c[i]? = some (v.conc ρ))(n:∀i,i<c.size->esz.fz<=i->¬(fz.1<=i/\i<fz.2))(d:l.len<=c.size)(f:c.size=if op then cp*esz.n else l.len)(g:∀t,esz.ty=t+1->e=t/\(fz.1=fz.2\/(fz.1=0/\fz.2<=esz.fz))):
  HR (ρ.at h.nx w.heap.size cp) (Dx D h (h.new (.cells l esz true op))) (h.new (.cells l esz true op)) (w.alloc (.cells c e fz)) /\
  Mv ρ D h w (ρ.at h.nx w.heap.size cp) (h.new (.cells l esz true op)) (w.alloc (.cells c e fz)):=by
 have j:¬D h.nx:=λo=>by have:=r.lt _ o;omega
 refine⟨r.new cp k ⟨c,e,fz,rfl,λi v b=>?_,λi v b=>V.In_mono wq _ (a i v b),λ_=>⟨Env.at_off _ _ _ _,n,d,?_,g⟩⟩,Mv.new r cp k rfl⟩
 .rw[Env.at_off,Nat.zero_add,V.conc_agree (Env.at_agree j) v (a i v b)];exact m i v b
 rw[Env.at_cap];exact f
theorem zCo{o:O}:Dx D h (h.new o) h.nx:=.inr ⟨oV _,by simp[H.new]⟩
end
end Go.Sim
namespace Go.Sim
theorem JZ(n:Int)(h1: -9223372036854775808<=n:=by omega)(a:n<9223372036854775808:=by omega):IntKind.i64.wrap n=n:=by unfold IntKind.wrap IntKind.bits IntKind.signed;simp only[Int.reducePow,Nat.reduceSub,Bool.true_and,decide_eq_true_eq,ge_iff_le];split<;>omega
theorem zG3(n:Nat):IntKind.u64.wrap (Int.ofNat n)=Int.ofNat (n % 18446744073709551616):=by unfold IntKind.wrap IntKind.bits IntKind.signed;simp only[Int.reducePow,Nat.reduceSub,Bool.false_and,Bool.false_eq_true,if_false];rfl
theorem zTs(n:Nat):IntKind.u8.wrap (Int.ofNat n)=Int.ofNat (n % 256):=by unfold IntKind.wrap IntKind.bits IntKind.signed;simp only[Int.reducePow,Nat.reduceSub,Bool.false_and,Bool.false_eq_true,if_false];rfl
theorem zY(a b:Nat):Nat.blt a b=true↔a<b:=by unfold Nat.blt;rw[Nat.ble_eq];omega
theorem jf(a b:Nat):Nat.ble a b=false↔¬a<=b:=by rw[<-Nat.ble_eq,Bool.not_eq_true]
theorem zAM(a b:Int):(!decide (a<b))=decide (b<=a):=by rw[Bool.eq_iff_iff];simp
theorem xk(k:IntKind)(n:Int):zU k n=k.wrap n:=by
 cases k with
 | i64 =>
  cases n with
  | ofNat m =>
   simp only[zU];rcases hb:Nat.blt m 9223372036854775808 with _|_
   .rfl
   have h:=hb;have:=(zY _ _).1 h;rw[oS,JZ _ (by simp only[Int.ofNat_eq_natCast];omega) (by simp only[Int.ofNat_eq_natCast];omega)]
  | negSucc m =>
   simp only[zU];rcases hb:Nat.blt m 9223372036854775808 with _|_
   .exact oT _ _
   have h:=hb;have:=(zY _ _).1 h;rw[oS,JZ _ (by have:=Int.negSucc_eq m;omega) (by have:=Int.negSucc_eq m;omega)]
 | u64 =>
  cases n with
  | ofNat m =>
   simp only[zU];cases h:Nat.blt m 18446744073709551616
   .rw[oT,zG3]
   have:=(zY _ _).1 h;rw[oS,zG3,ou this]
  | negSucc m=>rfl
 | u8 =>
  cases n with
  | ofNat m=>simp only[zU];rw[zTs]
  | negSucc m=>rfl
 | _=>rfl
theorem xa(a b:Int):ltF a b=decide (a<b):=by cases a<;>cases b<;>simp only[ltF]<;>rw[Bool.eq_iff_iff]<;>simp<;>omega
theorem j4(a b:Int):Oj a b=(a == b):=by cases a<;>cases b<;>simp only[Oj]<;>rw[Bool.eq_iff_iff]<;>simp<;>omega
theorem zCt(a b:Int):zJu a b=a+b:=by cases a<;>cases b<;>simp[zJu]
theorem OP(a b:Int):zR4 a b=a-b:=by
 cases a with
 | ofNat a =>
  cases b with
  | ofNat b =>
   simp only[zR4];cases h:Nat.ble b a
   .have:=(jf _ _).1 h;rw[oT];simp only[Int.ofNat_eq_natCast];omega
   have:=oH h;rw[oS];simp only[Int.ofNat_eq_natCast];omega
  | negSucc b=>rfl
 | negSucc a=>cases b<;>rfl
theorem zJD(a b:Int):zWV a b=a*b:=by cases a<;>cases b<;>simp[zWV]
theorem zIh(a b:Int):zYm a b=a.tdiv b:=by cases a<;>cases b<;>rfl
theorem zJC(a b:Int):zZb a b=a.tmod b:=by cases a<;>cases b<;>rfl
theorem zDr(a:Int)(n:Nat):zP9 a n=a*2^n:=by
 cases a with
 | ofNat a=>simp only[zP9,Nat.shiftLeft_eq',Nat.shiftLeft_eq];simp
 | negSucc a=>rfl
theorem zJa(a:Int)(n:Nat):zHv a n=a.fdiv (2^n):=by
 cases a with
 | ofNat a =>
  have h1:((2:Int)^n)=((2^n:Nat):Int):=by simp
  have b:a.shiftRight n=a/2^n:=Nat.shiftRight_eq_div_pow a n;simp only[zHv];rw[h1,b,Int.fdiv_eq_ediv_of_nonneg _ (Int.natCast_nonneg _)];rfl
 | negSucc a=>rfl
theorem XM(j k:IntKind):wv j k=true↔j=k:=by cases j<;>cases k<;>simp[wv]
theorem Zq:∀(a b:Ua),eqB a b=(a == b):=by
 intro a;induction a with
 | nil=>intro b;cases b<;>rfl
 | cons x a ih =>
  intro b;rcases b with _|⟨y,b⟩
  .rfl
  simp only[eqB,ih];cases h:Nat.beq x.toNat y.toNat
  .have:x≠y:=λe=>by subst e;rw[Nat.beq_refl]at h;cases h
   simp[this]
  have:x=y:=UInt8.toNat_inj.1 (oL h);simp[this]
theorem Ko(l:Ua):(⟨l.toArray⟩:ByteArray).toList=l:=by rw[ByteArray.toList_eq]
section
variable {P:Program}{w:World}
theorem zBh{op:BinOp}{t:TypeId}{k k':IntKind}{m n:Int}{r:V}(hs:km op=true\/k=k')(h:zj op k m n=some r)(ρ:Env):
  (binOp op t (.int k m) (.int k' n)).run P w = .ok (r.conc ρ) w/\∀D,r.In D:=by
 cases op<;>simp only[zj,km,Bool.false_eq_true,false_or]at h hs
 case shl =>
  rw[xa]at h;by_cases a:n<0
  .simp[a]at h
  simp only[a,decide_false,oT,oA]at h;subst h;have b:(cond (n.toNat.ble k.bits) n.toNat k.bits)=min n.toNat k.bits:=by
   cases hb:Nat.ble n.toNat k.bits
   .have:=(jf _ _).1 hb;rw[oT];omega
   have:=oH hb;rw[oS];omega
  refine⟨?_,λ_=>by simp[V.In]⟩;simp[binOp,Op.shift,a,V.conc,xk,zDr,b]
 case shr =>
  rw[xa]at h;by_cases a:n<0
  .simp[a]at h
  simp only[a,decide_false,oT,oA]at h;subst h;have b:(cond (n.toNat.ble k.bits) n.toNat k.bits)=min n.toNat k.bits:=by
   cases hb:Nat.ble n.toNat k.bits
   .have:=(jf _ _).1 hb;rw[oT];omega
   have:=oH hb;rw[oS];omega
  refine⟨?_,λ_=>by simp[V.In]⟩;simp[binOp,Op.shift,a,V.conc,zJa,b]
 case quo =>
  subst hs;rw[j4]at h;by_cases a:n=0
  .simp[a]at h
  have hb:(n == 0)=false:=by simpa using a
  simp only[hb,oT,oA]at h;subst h;exact⟨by simp[binOp,Op.intDiv,a,V.conc,xk,zIh],λ_=>by simp[V.In]⟩
 case rem =>
  subst hs;rw[j4]at h;by_cases a:n=0
  .simp[a]at h
  have hb:(n == 0)=false:=by simpa using a
  simp only[hb,oT,oA]at h;subst h;exact⟨by simp[binOp,Op.intDiv,a,V.conc,zJC],λ_=>by simp[V.In]⟩
 case and=>subst hs;simp only[OX,oA]at h;subst h;exact⟨by simp[binOp,Op.intBits,V.conc],λ_=>by simp[V.In]⟩
 case or=>subst hs;simp only[OX,oA]at h;subst h;exact⟨by simp[binOp,Op.intBits,V.conc],λ_=>by simp[V.In]⟩
 case xor=>subst hs;simp only[OX,oA]at h;subst h;exact⟨by simp[binOp,Op.intBits,V.conc],λ_=>by simp[V.In]⟩
 case andNot=>subst hs;simp only[OX,oA]at h;subst h;exact⟨by simp[binOp,Op.intBits,V.conc],λ_=>by simp[V.In]⟩
 case add=>subst hs;simp only[oA]at h;subst h;exact⟨by simp[binOp,Op.intArith,V.conc,xk,zCt],λ_=>by simp[V.In]⟩
 case sub=>subst hs;simp only[oA]at h;subst h;exact⟨by simp[binOp,Op.intArith,V.conc,xk,OP],λ_=>by simp[V.In]⟩
 case mul=>subst hs;simp only[oA]at h;subst h;exact⟨by simp[binOp,Op.intArith,V.conc,xk,zJD],λ_=>by simp[V.In]⟩
 case eql=>subst hs;simp only[oA]at h;subst h;exact⟨by simp[binOp,Op.intCmp,V.conc,j4],λ_=>by simp[V.In]⟩
 case neq=>subst hs;simp only[oA]at h;subst h;exact⟨by simp[binOp,Op.intCmp,V.conc,j4,bne],λ_=>by simp[V.In]⟩
 case lss=>subst hs;simp only[oA]at h;subst h;exact⟨by simp[binOp,Op.intCmp,V.conc,xa],λ_=>by simp[V.In]⟩
 case leq=>subst hs;simp only[oA]at h;subst h;exact⟨by simp only[V.conc,xa,zAM];simp[binOp,Op.intCmp],λ_=>by simp[V.In]⟩
 case gtr=>subst hs;simp only[oA]at h;subst h;exact⟨by simp[binOp,Op.intCmp,V.conc,xa],λ_=>by simp[V.In]⟩
 case geq=>subst hs;simp only[oA]at h;subst h;exact⟨by simp only[V.conc,xa,zAM];simp[binOp,Op.intCmp],λ_=>by simp[V.In]⟩
theorem zKC{op:BinOp}{t:TypeId}{m n:Ua}{r:V}(h:zID op m n=some r)(ρ:Env):
  (binOp op t (.string ⟨m.toArray⟩) (.string ⟨n.toArray⟩)).run P w = .ok (r.conc ρ) w/\∀D,r.In D:=by
 cases op<;>simp only[zID]at h<;>try (cases h;done)
 case add =>
  rw[yb,yb]at h;cases hb:Nat.ble (m.length+(n.length+0)) 4611686018427387904
  .rw[hb]at h;cases h
  have hl:=oH hb;rw[hb,oS,oA]at h;subst h;refine⟨?_,λ_=>by simp[V.In]⟩;have a:¬((((⟨m.toArray⟩:ByteArray).size+(⟨n.toArray⟩:ByteArray).size:Nat):Int) > IntKind.i64.max):=by
   have c:(⟨m.toArray⟩:ByteArray).size=m.length:=by simp[ByteArray.size]
   have d:(⟨n.toArray⟩:ByteArray).size=n.length:=by simp[ByteArray.size]
   have e:IntKind.i64.max=9223372036854775807:=rfl;rw[c,d,e];omega
  have b:(⟨m.toArray⟩:ByteArray) ++ ⟨n.toArray⟩=⟨(m++n).toArray⟩:=by apply ByteArray.ext;rw[ByteArray.data_append];simp
  simp only[binOp,Op.stringOp,if_neg a,V.conc,Sem.run_pure,b]
 case eql=>simp only[oA]at h;subst h;exact⟨by simp[binOp,Op.stringOp,V.conc,Zq],λ_=>by simp[V.In]⟩
 case neq=>simp only[oA]at h;subst h;exact⟨by simp[binOp,Op.stringOp,V.conc,Zq],λ_=>by simp[V.In]⟩
 case lss=>simp only[oA]at h;subst h;exact⟨by simp[binOp,Op.stringOp,V.conc],λ_=>by simp[V.In]⟩
 case geq=>simp only[oA]at h;subst h;exact⟨by simp[binOp,Op.stringOp,V.conc],λ_=>by simp[V.In]⟩
theorem zBg{op:UnOp}{v r:V}(h:aun op v=some r)(ρ:Env):(Op.unary op (v.conc ρ)).run P w = .ok (r.conc ρ) w/\∀D,r.In D:=by
 unfold aun at h;split at h
 .simp only[oA]at h;subst h;exact⟨by simp[Op.unary,Op.intArith,V.conc,xk,OP],λ_=>by simp[V.In]⟩
 .simp only[OX,oA]at h;subst h;exact⟨by simp[Op.unary,Op.intBits,V.conc],λ_=>by simp[V.In]⟩
 .simp only[oA]at h;subst h;exact⟨by simp[Op.unary,V.conc],λ_=>by simp[V.In]⟩
 cases h
theorem Xu(ρ:Env)(mx:Bool):∀(l:Ug) (v r:V),ZV mx v l=some r ->
  (List.foldlM (m:=Sem) (if mx then Builtin.max2 else Builtin.min2) (v.conc ρ) (l.map (V.conc ρ))).run P w = .ok (r.conc ρ) w/\(∀D,v.In D->r.In D):=by
 intro l;induction l with
 | nil =>
  intro v r h;have:v=r:=by cases v<;>simpa [ZV]using h
  subst this;exact⟨by simp,λ_ h=>h⟩
 | cons x l ih =>
  intro v r h;cases v<;>cases x<;>simp only[ZV]at h<;>try (cases h;done)
  rename_i k a e b;obtain⟨h1,d⟩:=ih _ _ h;refine⟨?_,λD _=>d D (by simp[V.In])⟩;cases mx
  .simp only[oT,xa]at h1;by_cases c:b<a
   .simpa [V.conc,Builtin.min2,c]using h1
   simpa [V.conc,Builtin.min2,c]using h1
  simp only[oS,xa]at h1;by_cases c:a<b
  .simpa [V.conc,Builtin.max2,c]using h1
  simpa [V.conc,Builtin.max2,c]using h1
end
end Go.Sim
namespace Go.Sim
theorem ZB{e a:Uh}:∀{l:List Operand},(∀x∈l,e x=a x)->ZT e l=ZT a l:=by
 intro l;induction l with
 | nil=>intro _;rfl
 | cons x l ih=>intro h;simp only[ZT,h x (List.mem_cons_self ..),ih λy b=>h y (oN _ b)]
theorem zBs{e a:Uh}:∀{l:List (Nat×Operand)},(∀x∈l.map (·.2),e x=a x)->evP e l=evP a l:=by
 intro l;induction l with
 | nil=>intro _;rfl
 | cons x l ih =>
  intro h;obtain⟨i,x⟩:=x;have h1:e x=a x:=h x (by simp);have b:=ih λy c=>h y (by rw[List.map_cons];exact oN _ c)
  simp only[evP,h1,b]
theorem Ji{e a:Uh}{o:Option Operand}(h:∀x∈o.toArray,e x=a x):evO e o=evO a o:=by
 rcases o with _|x
 .rfl
 simp only[evO,h x (by simp)]
theorem zEN(c:Ctx){e d:Uh}{a:Call}{h:H}(g:∀x∈a.operands,e x=d x):xc c a e h=xc c a d h:=by
 have h1:ZT e a.args.toList=ZT d a.args.toList:=ZB λx hm=>g x (by simp[Call.operands];exact .inr (by simpa using hm))
 unfold xc;rw[h1];cases i:a.callee with
 | value f=>have:e f=d f:=g f (by simp[Call.operands,i]);simp only[this]
 | builtin b=>rfl
 | invoke x m=>have:e x=d x:=g x (by simp[Call.operands,i]);simp only[this]
theorem zJw(c:Ctx){e b:Uh}{o:Oper}{h:H}(a:∀x∈o.op.operands,e x=b x):yD c o e h=yD c o b h:=by
 unfold yD;cases k:o.op<;>rw[k]at a<;>try rfl
 case makeFunc f first captured =>
  cases f with
  | func g =>
   have h1:ZT e first.toList=ZT b first.toList:=ZB λx hm=>a x (by simp[Op.operands];exact .inl (by simpa using hm))
   have i:ZT e captured.toList=ZT b captured.toList:=ZB λx hm=>a x (by simp[Op.operands];exact .inr (by simpa using hm))
   simp only[h1,i]
  | _=>rfl
 case build t ps =>
  have h1:evP e ps.toList=evP b ps.toList:=zBs λx hm=>a x (by simpa [Op.operands]using hm)
  simp only[h1]
 case buildSlice t n ps =>
  have h1:evP e ps.toList=evP b ps.toList:=zBs λx hm=>a x (by simpa [Op.operands]using hm)
  simp only[h1]
 case slice t x lo hi mx =>
  have d:e x=b x:=a x (by simp[Op.operands]);have h1:evO e lo=evO b lo:=Ji λy hm=>a y (by simp[Op.operands];exact .inr (.inl (by simpa using hm)))
  have i:evO e hi=evO b hi:=Ji λy hm=>a y (by simp[Op.operands];exact .inr (.inr (.inl (by simpa using hm))))
  have l:evO e mx=evO b mx:=Ji λy hm=>a y (by simp[Op.operands];exact .inr (.inr (.inr (by simpa using hm))))
  simp only[d,h1,i,l]
 case call j=>exact zEN c a
 case makeMap t r=>cases r<;>rfl
 case defer j =>
  have h1:ZT e j.args.toList=ZT b j.args.toList:=ZB λx hm=>a x (by simp[Op.operands,Call.operands];exact .inr (by simpa using hm))
  simp only[h1];rcases ZT b j.args.toList with _|args
  .rfl
  cases m:j.callee with
  | value f=>have:e f=b f:=a f (by simp[Op.operands,Call.operands,m]);simp only[this]
  | _=>rfl
 all_goals first
  | (have d:=a _ (by simp[Op.operands];first|exact .inl rfl|rfl);have h1:=a _ (by simp[Op.operands];first|exact .inr (.inl rfl)|exact .inr rfl);have i:=a _ (by simp[Op.operands];exact .inr (.inr rfl));simp only[d,h1,i])
  | (have d:=a _ (by simp[Op.operands];exact .inl rfl);have h1:=a _ (by simp[Op.operands];exact .inr rfl);simp only[d,h1])
  | (have d:=a _ (by simp[Op.operands];rfl);simp only[d])
theorem zLz{c:Ctx}{o:Oper}{tm:Tm}{h:H}{D:AN}{b:Nat}(m:jG tm b o=true)(e:yD c o (zx tm) h=some D):
  ∃v,D = .val v h/\∀w:H,(∀t a z o',o.op = .load t a->zx tm a=some (.ptr z o')->w.get z=h.get z)->yD c o (zx tm) w=some (.val v w):=by
 unfold jG at m;unfold yD at e ⊢;have ofV:∀{r:Ui}{D:AN}{P:H->Prop},AN.ofV r h=some D->∃v,D = .val v h/\∀w:H,P w->AN.ofV r w=some (.val v w):=by
  intro r D P e;rcases r with _|v
  .simp[AN.ofV]at e
  simp only[AN.ofV,oA]at e;exact⟨v,e.symm,λ_ _=>rfl⟩
 cases I:o.op<;>simp only[I]at m e ⊢<;>first|(cases m;done)|skip
 case load t a =>
  rcases A:zx tm a with _|p
  .simp[A]at m
  cases p<;>simp only[A]at m e ⊢<;>first|(cases m;done)|skip
  rename_i z o';obtain⟨v,h1,w⟩:=ofV (P:=λw=>w.get z=h.get z) e;refine⟨v,h1,λl J=>?_⟩;have K:l.get z=h.get z:=J _ _ z o' rfl A;have:zo c t l (.ptr z o')=zo c t h (.ptr z o'):=by unfold zo;simp only[K]
  rw[this];rcases hl:zo c t h (.ptr z o') with _|u
  .simp[hl,AN.ofV]at e
  simp only[hl,AN.ofV,oA]at e ⊢;rw[h1]at e;simp at e;simp[e]
 case slice t x lo hi mx =>
  rcases A:zx tm x with _|p
  .simp[A]at m
  have q:∀(l:H) (a b d:Ui),zy c t l p a b d=zy c t h p a b d:=by
   intro l a b d;unfold zy;rcases c.ty.get t with _|ti
   .rfl
   dsimp only;cases p<;>simp only[A]at m<;>first|(cases m;done)|skip
   .cases ti.desc<;>rfl
   rename_i L;cases L<;>simp only at m<;>first|(cases m;done)|skip
   cases ti.desc<;>rfl
  simp only[A]at e ⊢;cases j:Sim.evO (zx tm) lo with
  | none=>simp[j]at e
  | some v0 =>
  cases h1:Sim.evO (zx tm) hi with
  | none=>simp[j,h1]at e
  | some v1 =>
  cases w:Sim.evO (zx tm) mx with
  | none=>simp[j,h1,w]at e
  | some R =>
  simp only[j,h1,w]at e ⊢;obtain⟨v,B,C⟩:=ofV (P:=λ_=>True) e;refine⟨v,B,λl _=>?_⟩;rw[q l];exact C l trivial
 case convert s d x =>
  rcases A:zx tm x with _|p
  .simp[A]at m
  cases p<;>simp only[A]at m e ⊢<;>first|(cases m;done)|skip
  rename_i k n;have q:∀l:H,xz c s d l (.int k n)=(match xz c s d h (.int k n)with|some (v,_)=>some (v,l)|none=>none):=by
   intro l;unfold xz;rcases c.ty.get s with _|F
   .rfl
   rcases c.ty.get d with _|M
   .rfl
   dsimp only;cases F.desc<;>first|rfl|(cases M.desc<;>rfl)
  rcases E:xz c s d h (.int k n) with _|⟨v,B⟩
  .rw[E]at e;cases e
  have C:=q h;rw[E]at C;simp only[oA,oB,true_and]at C;subst C;rw[E]at e;simp only[AN.ofVH,oA]at e;refine⟨v,e.symm,λw _=>?_⟩;rw[q w,E];rfl
 case call cl =>
  unfold zAC at m;unfold xc at e ⊢;generalize ZT (zx tm) cl.args.toList=xs at m e ⊢;generalize cl.argTypes.toList=F at m e ⊢;generalize cl.callee=f at m e ⊢
  match f,xs,F,m with
  | .builtin .len,some [.str s],[t],m =>
   have q:∀l:H,Yf c t l (.str s)=Yf c t h (.str s):=by
    intro l;unfold Yf;rcases c.ty.get t with _|ti
    .rfl
    dsimp only;cases ti.desc<;>rfl
   obtain⟨v,B,C⟩:=ofV (r:=Yf c t h (.str s)) (P:=λ_=>True) e;refine⟨v,B,λl _=>?_⟩;show AN.ofV (Yf c t l (.str s)) l=_;rw[q l];exact C l trivial
 case move x=>exact ofV e
 case assign x=>exact ofV e
 case pick x a z =>
  rcases j:zx tm x with _|v
  .simp[j]at e
  cases v<;>simp only[j]at e ⊢<;>first|(cases e;done)|exact ofV e
 case build t ps =>
  rcases j:evP (zx tm) ps.toList with _|v
  .simp[j]at e
  simp only[j]at e ⊢;exact ofV e
 case binOp op t x y t2 =>
  rcases j:zx tm x with _|v
  .simp[j]at e
  rcases h1:zx tm y with _|v
  .simp[j,h1]at e
  simp only[j,h1]at e ⊢;exact ofV e
 case unOp op t x =>
  rcases j:zx tm x with _|v
  .simp[j]at e
  simp only[j]at e ⊢;exact ofV e
 case field t x f =>
  rcases j:zx tm x with _|v
  .simp[j]at e
  simp only[j]at e ⊢;exact ofV e
 case index t x y =>
  rcases j:zx tm x with _|v
  .simp[j]at e
  rcases h1:zx tm y with _|v
  .simp[j,h1]at e
  simp only[j,h1]at e ⊢;exact ofV e
 case indexAddr t x y =>
  rcases j:zx tm x with _|v
  .simp[j]at e
  rcases h1:zx tm y with _|v
  .simp[j,h1]at e
  simp only[j,h1]at e ⊢;exact ofV e
 case extract x i =>
  rcases j:zx tm x with _|v
  .simp[j]at e
  cases v<;>simp only[j]at e ⊢<;>first|(cases e;done)|exact ofV e
 case makeFunc f first captured =>
  cases f with
  | func g =>
   rcases j:ZT (zx tm) first.toList with _|v
   .simp[j]at e
   rcases h1:ZT (zx tm) captured.toList with _|v
   .simp[j,h1]at e
   simp only[j,h1,oA]at e ⊢;exact⟨_,e.symm,λ_ _=>rfl⟩
  | _=>cases e
 case makeInterface t x =>
  rcases j:c.ty.get t with _|ti
  .simp[j]at e
  rcases h1:zx tm x with _|v
  .simp[j,h1]at e
  simp only[j,h1]at e ⊢;cases G:ti.desc<;>simp only[G,oA]at e ⊢<;>first|(cases e;done)|exact⟨_,e.symm,λ_ _=>rfl⟩
 case nilCheck x =>
  rcases j:zx tm x with _|v
  .simp[j]at e
  cases v<;>simp only[j,oA]at e ⊢<;>first|(cases e;done)|exact⟨_,e.symm,λ_ _=>rfl⟩|skip
  rename_i f a z;cases f<;>simp only[oA]at e ⊢<;>first|(cases e;done)|exact⟨_,e.symm,λ_ _=>rfl⟩
 case fieldAddr t x f =>
  rcases j:c.ty.get t with _|ti
  .simp[j]at e
  rcases h1:zx tm x with _|v
  .simp[j,h1]at e
  cases v<;>simp only[j,h1]at e ⊢<;>first|(cases e;done)|skip
  rename_i z o';cases G:ti.desc<;>simp only[G]at e ⊢<;>first|(cases e;done)|skip
  rename_i N;rcases w:N[f]? with _|O
  .simp[w]at e
  simp only[w]at e ⊢;unfold afa at e ⊢;rcases l:c.ty.get O.type with _|Q
  .simp[l]at e
  simp only[l]at e ⊢;rcases B:Nat.blt 0 Q.size with _|_
  .simp[B]at e
  simp only[B,oS,oA]at e ⊢;exact⟨_,e.symm,λ_ _=>rfl⟩
theorem qE(n:Nat):∀l,Xs n l=true↔n∈l:=by
 intro l;induction l with
 | nil=>simp[Xs]
 | cons m l ih =>
  simp only[Xs,oq];cases h:Nat.beq n m with
  | true=>simp[oL h]
  | false =>
   have:n≠m:=λe=>by subst e;simp at h
   simp[ih,this]
def zAI(acc:Uf)(o:Oper):Nat:=o.after.toList.foldl (λs e=>cond (j1 e) (s ||| 2^e.on ||| acc.getD e.on 0) s) 0
theorem zNe{acc:Uf}{i:Nat}:∀(l:List Edge) (s:Nat),Nat.testBit (l.foldl (λs e=>cond (j1 e) (s ||| 2^e.on ||| acc.getD e.on 0) s) s) i=true ->
  Nat.testBit s i=true\/∃e∈l,j1 e=true/\(e.on=i\/Nat.testBit (acc.getD e.on 0) i=true):=by
 intro l;induction l with
 | nil=>intro s h;exact .inl h
 | cons e l ih =>
  intro s h;rcases ih _ h with h1|⟨b,m,c⟩
  .dsimp only at h1;rcases a:j1 e with _|_
   .rw[a,oT]at h1;exact .inl h1
   rw[a,oS,Nat.testBit_or,Nat.testBit_or,Bool.or_eq_true,Bool.or_eq_true]at h1;rcases h1 with(h1|h1)|h1
   .exact .inl h1
   .rw[Nat.testBit_two_pow]at h1;exact .inr ⟨e,List.mem_cons_self ..,a,.inl (by simpa using h1)⟩
   exact .inr ⟨e,List.mem_cons_self ..,a,.inr h1⟩
  exact .inr ⟨b,oN _ m,c⟩
theorem zHU{acc:Uf}{o:Oper}{i:Nat}(h:Nat.testBit (zAI acc o) i=true):∃e∈o.after,j1 e=true/\(e.on=i\/Nat.testBit (acc.getD e.on 0) i=true):=by
 rcases zNe _ _ h with h1|⟨e,m,a⟩
 .simp at h1
 exact⟨e,by simpa using m,a⟩
theorem X9:∀(l:List Oper) (acc:Uf),(∃r,zi l acc=acc++r/\r.length=l.length) /\
  ∀i o,l[i]? = some o->(zi l acc).getD (acc.length+i) 0=zAI ((zi l acc).take (acc.length+i)) o:=by
 intro l;induction l with
 | nil=>intro acc;exact⟨⟨[],by simp[zi]⟩,λi o h=>by simp at h⟩
 | cons a l ih =>
  intro acc;obtain⟨⟨r,h1,b⟩,c⟩:=ih (acc++[zAI acc a]);have d:zi (a::l) acc=zi l (acc++[zAI acc a]):=rfl;rw[d];refine⟨⟨zAI acc a::r,by rw[h1];simp,by simp[b]⟩,λi o h=>?_⟩;cases i with
  | zero=>simp only[List.getElem?_cons_zero,oA]at h;subst h;rw[h1];simp
  | succ i=>have:=c i o (by simpa using h);simp only[oe,og,List.length_nil,Nat.zero_add]at this;rw[show acc.length+(i+1)=acc.length+1+i from oy];exact this
def Closed(ops:List Oper)(S:Nat->Prop):Prop:=∀j o,S j->ops[j]? = some o->∀e∈o.after,j1 e=true->S e.on
theorem qy{ops:List Oper}{S:Nat->Prop}(l:Closed ops S):∀(j:Nat) (o:Oper),ops[j]? = some o->(∀e∈o.after,j1 e=true->S e.on) ->
  ∀i,Nat.testBit ((zi ops []).getD j 0) i=true->S i:=by
 intro j;induction j using Nat.strongRecOn with
 | _ j ih =>
  intro o d f i hb;obtain⟨⟨r,h1,q⟩,m⟩:=X9 ops [];have h:=m j o d;simp only[List.length_nil,Nat.zero_add]at h;rw[h]at hb;obtain⟨e,hm,k,a⟩:=zHU hb;rcases a with rfl|a
  .exact f e hm k
  have b:e.on<j:=by
   rcases Nat.lt_or_ge e.on j with g|g
   .exact g
   rw[List.getD_eq_getElem?_getD,ov (by rw[List.length_take];omega)]at a;simp at a
  have n:=f e hm k;have p:j<ops.length:=by
   rcases Nat.lt_or_ge j ops.length with g|g
   .exact g
   rw[ov g]at d;cases d
  have c:ops[e.on]? = some (ops[e.on]'oy):=oU oy;refine ih e.on b _ c (l e.on _ n c) i ?_;rw[List.getD_eq_getElem?_getD,List.getElem?_take_of_lt b,<-List.getD_eq_getElem?_getD]at a;exact a
theorem Closed.bit{ops:List Oper}{S:Nat->Prop}(b:Closed ops S){j i:Nat}(c:S j)(hb:Nat.testBit ((zi ops []).getD j 0) i=true):S i:=by
 cases a:ops[j]? with
 | some o=>exact qy b j o a (b j o c a) i hb
 | none =>
  obtain⟨⟨r,h1,d⟩,e⟩:=X9 ops [];rw[List.getD_eq_getElem?_getD,h1,ov (by
   have:=List.getElem?_eq_none_iff.1 a;simp;omega)]at hb
  simp at hb
theorem zHr{ops:List Oper}{j:Nat}{oj:Oper}{b:Nat}:∀(l:List Oper) (n:Nat),zGA ops j oj b n l=true->∀d oi,n+d<j->l[d]? = some oi->Nat.testBit b (n+d)=true\/zId ops oi oj=false:=by
 intro l;induction l with
 | nil=>intro n _ d oi _ h;simp at h
 | cons a l ih =>
  intro n h d oi e hl;simp only[zGA]at h;rw[show Nat.blt n j=true from(zY _ _).2 oy,oS]at h;rcases c:(Nat.testBit b n || !(zId ops a oj)) with _|_
  .simp[c]at h
  rw[c,oS]at h;cases d with
  | zero=>simp only[List.getElem?_cons_zero,oA]at hl;subst hl;simpa using c
  | succ d =>
   have:=ih (n+1) h d oi oy (by simpa using hl)
   rwa [show n+1+d=n+(d+1)from oy]at this
theorem Kc{ops:List Oper}{bs:Uf}:∀(l:List Oper) (n:Nat),Z4 ops bs n l=true->∀d o,l[d]? = some o ->
  zGA ops (n+d) o (bs.getD (n+d) 0) 0 ops=true/\zIj (n+d) o=true/\zIl o (bs.getD (n+d) 0)=true:=by
 intro l;induction l with
 | nil=>intro n _ d o h;simp at h
 | cons a l ih =>
  intro n h d o hl;simp only[Z4,oM]at h;cases d with
  | zero=>simp only[List.getElem?_cons_zero,oA]at hl;subst hl;exact⟨h.1.1.1,h.1.1.2,h.1.2⟩
  | succ d =>
   have:=ih (n+1) h.2 d o (by simpa using hl)
   rwa [show n+1+d=n+(d+1)from oy]at this
theorem Kl(bs:Uf):∀n,kM bs n<=n:=by
 intro n;induction n with
 | zero=>simp[kM]
 | succ n ih =>
  simp only[kM];cases Nat.beq (bs.getD n 0 % 2^n) (2^n-1)with
  | true=>rw[oS];omega
  | false=>rw[oT];omega
theorem Yu(bs:Uf):∀n j,kM bs n<=j->j<n->∀i,i<j->Nat.testBit (bs.getD j 0) i=true:=by
 intro n;induction n with
 | zero=>intro j _ h;omega
 | succ n ih =>
  intro j h1 c i hi;simp only[kM]at h1;rcases hb:Nat.beq (bs.getD n 0 % 2^n) (2^n-1) with _|_
  .rw[hb,oT]at h1;omega
  rw[hb,oS]at h1;rcases Nat.lt_or_ge j n with g|g
  .exact ih j h1 g i hi
  have:j=n:=oy
  subst this;have b:=oL hb;have a:=Nat.testBit_mod_two_pow (bs.getD j 0) j i;rw[b,Nat.testBit_two_pow_sub_one]at a;simp only[hi,decide_true,Bool.true_and]at a;exact a.symm
theorem qe{bs:Uf}{k:Nat}:∀(n j:Nat),qr bs k j n=true->∀i,j<=i->i<j+n->Nat.testBit (bs.getD i 0) k=true:=by
 intro n;induction n with
 | zero=>intro j _ i h1 a;omega
 | succ n ih =>
  intro j h i h1 a;simp only[qr]at h;rcases hb:Nat.testBit (bs.getD j 0) k with _|_
  .rw[hb,oT]at h;cases h
  rw[hb,oS]at h;rcases Nat.eq_or_lt_of_le h1 with rfl|g
  .exact hb
  exact ih (j+1) h i g oy
theorem zAr{b:Uf}:∀(n:Nat) (l:List Oper),zAq b n l=true->∀d o t,d<n->l[d]? = some o->o.dst=some t->t∉b:=by
 intro n;induction n with
 | zero=>intro l _ d o t h;omega
 | succ n ih =>
  intro l h d o t e hl c;rcases l with _|⟨a,l⟩
  .simp at hl
  simp only[zAq,oM]at h;cases d with
  | zero=>simp only[List.getElem?_cons_zero,oA]at hl;subst hl;simp only[c]at h;intro hm;rw[(qE _ _).2 hm]at h;simp at h
  | succ d=>exact ih l h.2 d o t oy (by simpa using hl) c
theorem Xj{ops:List Oper}{tm:Tm}{b bk:Nat}:∀(n i:Nat) (l:List Oper),Xh ops tm b bk i n l=true->∀d o,d<n->l[d]? = some o ->
  Nat.testBit bk (i+d)=true\/(jG tm b o=true/\∀c o' t,d<=c->c<n->l[c]? = some o'->o'.dst=some t->t∉wN ops o):=by
 intro n;induction n with
 | zero=>intro i l _ d o h;omega
 | succ n ih =>
  intro i l h d o m hl;rcases l with _|⟨a,l⟩
  .simp at hl
  simp only[Xh]at h;rcases e:(Nat.testBit bk i || (jG tm b a && zAq (wN ops a) (n+1) (a::l))) with _|_
  .rw[e,oT]at h;cases h
  rw[e,oS]at h;cases d with
  | zero =>
   simp only[List.getElem?_cons_zero,oA]at hl;subst hl;simp only[Bool.or_eq_true,oM]at e;refine e.imp id λg=>⟨g.1,λc o' t h1 k f j=>?_⟩
   exact zAr (n+1) (a::l) g.2 c o' t k f j
  | succ d =>
   have:=ih (i+1) l h d o oy (by simpa using hl);rw[show i+1+d=i+(d+1)from oy]at this;refine this.imp id λg=>⟨g.1,λc o' t h1 k f j=>?_⟩
   rcases c with _|c
   .omega
   exact g.2 c o' t oy oy (by simpa using f) j
theorem zB9{ops:List Oper}{bs:Uf}{m k:Nat}{tm:Tm}{o:Oper}(h:JS ops bs m k tm o=true):
  ∃b,((∃t a x o',o.op = .store t a x/\zx tm a=some (.ptr b o'))\/∃t a x y,o.op = .mapUpdate t a x y/\zx tm a=some (.map b)) /\
   (∀i oi,i<k->ops[i]? = some oi->Nat.testBit (bs.getD k 0) i=true\/(jG tm b oi=true/\∀j oj t,i<=j->j<k->ops[j]? = some oj->oj.dst=some t->t∉wN ops oi)) /\
   (∀i,k<i->i<m->Nat.testBit (bs.getD i 0) k=true):=by
 unfold JS at h;split at h
 .rename_i t a x d;split at h
  .rename_i b o' e;simp only[oM]at h;refine⟨b,.inl ⟨t,a,x,o',d,e⟩,λi oi hi c=>?_,λi h1 f=>qe _ _ h.2 i oy oy⟩;have:=Xj k 0 ops h.1 i oi hi c
   rwa [Nat.zero_add]at this
  cases h
 .rename_i t a x y d;split at h
  .rename_i b e;simp only[oM]at h;refine⟨b,.inr ⟨t,a,x,y,d,e⟩,λi oi hi c=>?_,λi h1 f=>qe _ _ h.2 i oy oy⟩;have:=Xj k 0 ops h.1 i oi hi c
   rwa [Nat.zero_add]at this
  cases h
 cases h
theorem zM0{o:Oper}(h:Xg o=true)(tm:Tm)(b:Nat):jG tm b o=true:=by unfold Xg at h;unfold jG;cases a:o.op<;>simp only[a]at h ⊢<;>cases h
theorem zB1{ops:List Oper}{bk:Nat}:∀(n i:Nat) (l:List Oper),Xi ops bk i n l=true->∀d o,d<n->l[d]? = some o ->
  Nat.testBit bk (i+d)=true\/(Xg o=true/\∀b o' t,d<=b->b<n->l[b]? = some o'->o'.dst=some t->t∉wN ops o):=by
 intro n;induction n with
 | zero=>intro i l _ d o h;omega
 | succ n ih =>
  intro i l h d o k hl;rcases l with _|⟨a,l⟩
  .simp at hl
  simp only[Xi]at h;rcases c:(Nat.testBit bk i || (Xg a && zAq (wN ops a) (n+1) (a::l))) with _|_
  .rw[c,oT]at h;cases h
  rw[c,oS]at h;cases d with
  | zero =>
   simp only[List.getElem?_cons_zero,oA]at hl;subst hl;simp only[Bool.or_eq_true,oM]at c;refine c.imp id λg=>⟨g.1,λb o' t h1 j e f=>?_⟩
   exact zAr (n+1) (a::l) g.2 b o' t j e f
  | succ d =>
   have:=ih (i+1) l h d o oy (by simpa using hl);rw[show i+1+d=i+(d+1)from oy]at this;refine this.imp id λg=>⟨g.1,λb o' t h1 j e f=>?_⟩
   rcases b with _|b
   .omega
   exact g.2 b o' t oy oy (by simpa using e) f
theorem zGW{ops:List Oper}{bs:Uf}{m k:Nat}(h:XY ops bs m k=true):
  (∀i oi,i<k->ops[i]? = some oi->Nat.testBit (bs.getD k 0) i=true\/(Xg oi=true/\∀j oj t,i<=j->j<k->ops[j]? = some oj->oj.dst=some t->t∉wN ops oi)) /\
   (∀i,k<i->i<m->Nat.testBit (bs.getD i 0) k=true):=by
 unfold XY at h;simp only[oM]at h;refine⟨λi oi hi a=>?_,λi h1 b=>qe _ _ h.2 i oy oy⟩;have:=zB1 k 0 ops h.1 i oi hi a
 rwa [Nat.zero_add]at this
theorem zJq{f:Region.Mode}{ops:Array Oper}{b:Array Bool}(hr:Region.ready f ops b=[])(r:b.size=ops.size):
  ∀(l seen:Uf),(∀i∈seen,b.getD i false=true) ->
   (∀p i q,l=p++i::q->∃o,ops[i]? = some o/\∀e∈o.after,Region.binds f e=true->e.on∈p\/e.on∈seen)->∀i∈l,b.getD i false=true:=by
 intro l;induction l with
 | nil=>intro seen _ _ i h;simp at h
 | cons a l ih =>
  intro seen hs m i hi;have n:b.getD a false=true:=by
   obtain⟨o,d,k⟩:=m [] a l rfl;have s:a<ops.size:=by
    rcases Nat.lt_or_ge a ops.size with g|g
    .exact g
    rw[Array.getElem?_eq_none g]at d;cases d
   cases hb:b.getD a false with
   | true=>rfl
   | false =>
    have:a∈Region.ready f ops b:=by
     refine mem_ready.2 ⟨?_,o,d,λe hm c=>?_⟩
     .rw[Array.getD_eq_getD_getElem?,Array.getElem?_eq_getElem oy]at hb ⊢;simpa using hb
     rcases k e hm c with g|g
     .simp at g
     exact hs _ g
    rw[hr]at this;simp at this
  rcases oq.1 hi with rfl|hi
  .exact n
  refine ih (a::seen) (λj t=>by rcases oq.1 t with rfl|g<;>first|exact n|exact hs _ g) (λp i q e=>?_) i hi;obtain⟨o,d,k⟩:=m (a::p) i q (by rw[e];rfl);refine⟨o,d,λe hm c=>?_⟩;rcases k e hm c with g|g
  .rcases oq.1 g with g|g
   .exact .inr (by rw[g];exact List.mem_cons_self ..)
   exact .inl g
  exact .inr (oN _ g)
theorem zIO{ops:List Oper}:∀(l seen:Uf),zAx ops l seen=true->∀p i q,l=p++i::q->∃o,ops[i]? = some o/\∀e∈o.after,OF e=true->e.on∈p\/e.on∈seen:=by
 intro l;induction l with
 | nil=>intro seen _ p i q h;simp at h
 | cons a l ih =>
  intro seen h p i q hl;simp only[zAx,oM]at h;cases p with
  | nil =>
   simp only[List.nil_append,List.cons.injEq]at hl;obtain⟨rfl,rfl⟩:=hl;rcases c:ops[a]? with _|o
   .rw[c]at h;simp at h
   rw[c]at h;refine⟨o,rfl,λe hm hb=>?_⟩;have:=List.all_eq_true.1 h.1 e (by simpa using hm);rw[hb]at this;exact .inr ((qE _ _).1 (by simpa using this))
  | cons b p =>
   simp only[List.cons_append,List.cons.injEq]at hl;obtain⟨rfl,rfl⟩:=hl;obtain⟨o,c,d⟩:=ih _ h.2 p i q rfl;refine⟨o,c,λe hm hb=>?_⟩;rcases d e hm hb with g|g
   .exact .inl (oN _ g)
   rcases oq.1 g with g|g
   .exact .inl (by rw[g];exact List.mem_cons_self ..)
   exact .inr g
theorem zEv{l:Uf}:∀n,XI l n=true->∀i,i<n->i∈l:=by
 intro n;induction n with
 | zero=>intro _ i h;omega
 | succ n ih =>
  intro h i hi;simp only[XI,oM]at h;rcases Nat.lt_or_ge i n with g|g
  .exact ih h.2 i g
  rw[show i=n from oy];exact(qE _ _).1 h.1
theorem zMC(e:Edge):Region.binds .gc e=OF e:=by unfold Region.binds OF;cases e.ground<;>rfl
theorem zMD{a:Region.Mode}{e:Edge}(h:j1 e=true):Region.binds a e=true:=by obtain⟨on,g⟩:=e;cases g<;>first|rfl|(simp[j1]at h)
def zIW(a:Region.Mode)(ops:Array Oper):Prop:=a = .gc->Region.departs ops=true
theorem zAh(a:Bool)(ops:Array Oper)(t:Nat)(p:Uf->Prop)(h:∀b,zIW b ops->∀t,p (Region.linearise b ops t)):p (Region.schedule a ops t):=by
 unfold Region.schedule;split
 .exact h .any (λe=>by cases e) t
 rename_i c;simp only[Bool.or_eq_true,not_or,Bool.not_eq_true,Bool.not_eq_false']at c;split
 .exact h .text (λe=>by cases e) _
 exact h .gc (λ_=>c.2) _
theorem zC0{j:Region.Mode}{ops:Array Oper}{m:Nat}(k:ya ops.toList=some m)(hm:zIW j ops){a:Array Bool}(hr:Region.ready j ops a=[])(d:a.size=ops.size):
  ∀i,i<ops.size->a.getD i false=true:=by
 unfold ya at k;rcases f:(Z4 ops.toList (zi ops.toList []) 0 ops.toList && (!(Region.departs ops.toList.toArray) || (zAx ops.toList (Region.linearise .gc ops.toList.toArray 0) [] && XI (Region.linearise .gc ops.toList.toArray 0) ops.toList.length))) with _|_
 .simp only[f,oT]at k;cases k
 simp only[oM]at f;by_cases hgc:j = .gc
 .subst hgc;have r:=hm rfl;have b:=f.2;rw[show ops.toList.toArray=ops from by simp,r]at b;simp only[Bool.not_true,Bool.false_or,oM]at b;intro i hi;refine zJq hr d _ [] (λ_ h=>by simp at h) (λp i q e=>?_) i (zEv _ b.2 i (by simpa using hi));obtain⟨o,s,t⟩:=zIO _ _ b.1 p i q e;exact⟨o,by simpa using s,λe hm hb=>t e hm (by rw[<-zMC];exact hb)⟩
 intro i hi;refine zJq hr d (List.range ops.size) [] (λ_ h=>by simp at h) (λp i q e=>?_) i (List.mem_range.2 hi);have l:p=List.range p.length/\i=p.length:=by
  have h1:(List.range ops.size)[p.length]? = some i:=by rw[e];simp
  have n:(List.range ops.size).take p.length=p:=by rw[e];simp
  have c:p.length<ops.size:=by have:=congrArg List.length e;simp at this;omega
  rw[List.take_range,Nat.min_eq_left oy]at n;rw[List.getElem?_range c]at h1;exact⟨n.symm,by simpa using h1.symm⟩
 obtain⟨l,rfl⟩:=l;have c:p.length<ops.size:=by have:=congrArg List.length e;simp at this;omega
 refine⟨ops[p.length],Array.getElem?_eq_getElem c,λe hm hb=>.inl ?_⟩;have hs:=(Kc ops.toList 0 f.1 p.length ops[p.length] (by simp[c])).2.1;have:=List.all_eq_true.1 hs e (by simpa using hm);rw[Nat.zero_add]at this;rw[l,List.mem_range];simp only[Bool.or_eq_true]at this;rcases this with g|g
 .exact(zY _ _).1 g
 exfalso;unfold Region.binds at hb;cases u:e.ground<;>rw[u]at g hb<;>simp at g hb;exact hgc hb

theorem XP{v : Value}{x : V}(h : zKb v = some x): (∀ρ, x.conc ρ = v) /\ (∀D, x.In D) := by
  unfold zKb at h;split at h<;>simp only[oA, reduceCtorEq]at h<;>subst h <;>
    (refine⟨λρ => ?_, λD => ?_⟩<;>simp[V.conc, V.In, V.InL, V.concL])

theorem zH3 : ∀{l : List Value}{x : Ug}, zKc l = some x -> (∀ρ, V.concL ρ x = l) /\ (∀D, V.InL D x) := by
  intro l;induction l with
  | nil => intro x h;simp only[zKc, oA]at h;subst h;simp[V.concL, V.InL]
  | cons v l ih =>
    intro x h;simp only[zKc]at h;rcases h1 : zKb v with _|y
    .simp[h1]at h
    rcases a : zKc l with _|z
    .simp[h1, a]at h
    simp only[h1, a, oA]at h;subst h;obtain⟨a1, a2⟩ := XP h1;obtain⟨b, c⟩ := ih a;exact⟨λρ => by simp[V.concL, a1, b], λD => by simp[V.InL, a2, c]⟩

theorem Y2{v : Value}{x : V}(h : ofV v = some x): (∀ρ, x.conc ρ = v) /\ (∀D, x.In D) := by
  unfold ofV at h;split at h
  · split at h
    · rename_i l _ y a
      simp only[oA]at h;subst h;obtain⟨a1, a2⟩ := zH3 a;exact⟨λρ => by simp[V.conc, a1], λD => by simp[V.In, a2]⟩
    · cases h
  · split at h
    · rename_i t v _ y a
      simp only[oA]at h;subst h;obtain⟨a1, a2⟩ := XP a;exact⟨λρ => by simp[V.conc, a1], λD => by simp[V.In, a2]⟩
    · cases h
  · exact XP h

structure TyOK (P : Program) (t : Nat) (ti : TI) (i : TypeInfo) : Prop where
  info : P.info? t = some i
  und : P.underlying t = some ti.desc
  size : i.size = ti.size
  bytes : i.bytes = ti.bytes
  zero : ∀z, ti.zero = some z -> ∃v, i.zero = some v /\ ofV v = some z
  cmp : i.comparable = ti.cmp
  held : P.stoodInHeld t = ti.held
  guard : P.eqGuardType P.depth t = ti.guard
  meth : i.methods.toList = ti.meth
  id : ti.id = t

structure CtxOK (P : Program) (c : Ctx) : Prop where
  ty : ∀t ti, c.ty.get t = some ti -> ∃i, TyOK P t ti i
  fn : ∀f fi, c.fn.get f = some fi -> ∃g, P.funcs[f]? = some g /\ (g.name == "runtime.NumGoroutine") = false /\ g.body = some fi.body /\ g.ntmps = fi.n /\ g.results.toList = fi.results
  noesc : ∀k, c.noesc = some k -> ∃g, P.funcs[k]? = some g /\ (g.name == "runtime.NumGoroutine") = false /\ g.body.isNone = true /\ Extern.findNext g = none /\ Extern.find g = some Extern.AbiNoEscape.same
  mnz : ∀k el, c.mnz = some (k, el) -> ∃g ps rs t, P.funcs[k]? = some g /\ (g.name == "runtime.NumGoroutine") = false /\ g.body.isNone = true /\ Extern.findNext g = none /\
    Extern.find g = some (Extern.BytealgMakeNoZero.makeNoZero ps rs) /\ rs[0]? = some t /\ P.underlying t = some (.slice el)
  lies : ∀e u off, c.lies e u off = true -> liesAt P P.depth e 1 off u 1 = true

theorem zEt(P : Program): ∀(l : List TypeInfo) (i : Nat) (t : T TI) (m : Nat), i + l.length <= T.top ->
    (JX P i l t).get m = if i <= m /\ m < i + l.length then (l[m - i]?).bind (TI.of P m) else t.get m := by
  intro l;induction l with
  | nil => intro i t m _;simp only[JX, List.length_nil];rw[if_neg oy]
  | cons x l ih =>
    intro i t m h;simp only[og]at h ⊢;rw[JX, ih _ _ _ oy, T.get_set _ _ _ _ oy];by_cases h1 : m = i
    · subst h1
      rw[if_neg oy, if_pos rfl, if_pos oy];simp
    · by_cases h2 : i + 1 <= m /\ m < i + 1 + l.length
      · rw[if_pos h2, if_pos oy]
        obtain⟨k, a⟩ : ∃k, m - i = k + 1 := ⟨m - i - 1, by omega⟩;rw[a, List.getElem?_cons_succ];congr 2;omega
      · rw[if_neg h2, if_neg h1, if_neg oy]

theorem zEs : ∀(l : List Func) (i : Nat) (t : T FI) (m : Nat), i + l.length <= T.top ->
    (Xe i l t).get m = if i <= m /\ m < i + l.length then (l[m - i]?).bind FI.of else t.get m := by
  intro l;induction l with
  | nil => intro i t m _;simp only[Xe, List.length_nil];rw[if_neg oy]
  | cons x l ih =>
    intro i t m h;simp only[og]at h ⊢;rw[Xe, ih _ _ _ oy, T.get_set _ _ _ _ oy];by_cases h1 : m = i
    · subst h1
      rw[if_neg oy, if_pos rfl, if_pos oy];simp
    · by_cases h2 : i + 1 <= m /\ m < i + 1 + l.length
      · rw[if_pos h2, if_pos oy]
        obtain⟨k, a⟩ : ∃k, m - i = k + 1 := ⟨m - i - 1, by omega⟩;rw[a, List.getElem?_cons_succ];congr 2;omega
      · rw[if_neg h2, if_neg h1, if_neg oy]

theorem zYl(P : Program)(ne : Option Nat)(mz : Option (Nat × Nat))(h1 : P.types.size <= T.top)(h2 : P.funcs.size <= T.top)(h3 : ∀k, ne = some k -> ∃g, P.funcs[k]? = some g /\ (g.name == "runtime.NumGoroutine") = false /\ g.body.isNone = true /\ Extern.findNext g = none /\ Extern.find g = some Extern.AbiNoEscape.same)(h4 : ∀k el, mz = some (k, el) -> ∃g ps rs t, P.funcs[k]? = some g /\ (g.name == "runtime.NumGoroutine") = false /\ g.body.isNone = true /\ Extern.findNext g = none /\
      Extern.find g = some (Extern.BytealgMakeNoZero.makeNoZero ps rs) /\ rs[0]? = some t /\ P.underlying t = some (.slice el)): CtxOK P (Ctx.of P ne mz) := by
  refine⟨?_, ?_, h3, h4, λe u off h => h⟩
  · intro t ti h
    simp only[Ctx.of]at h;rw[zEt P _ _ _ _ (by simpa using h1)]at h;split at h
    · rename_i hc
      simp only[Nat.sub_zero, Array.length_toList, Nat.zero_add]at h hc;rcases hi : P.types.toList[t]? with _|i
      .simp[hi]at h
      simp only[hi, Option.bind_some]at h;have hi' : P.types[t]? = some i := by simpa using hi
      have hinfo : P.info? t = some i := by unfold Tables.info?;rw[if_pos hc.2];exact hi'
      have main : ∀d, P.underlying t = some d -> ti = TI.mk' P t i d -> TyOK P t ti i := by
        intro d hd he;subst he;refine⟨hinfo, hd, rfl, rfl, ?_, rfl, rfl, rfl, rfl, rfl⟩;intro z hz;simp only[TI.mk']at hz;rcases hv : i.zero with _|v
        .simp[hv]at hz
        exact⟨v, rfl, by simpa [hv]using hz⟩
      refine⟨i, ?_⟩;unfold TI.of at h;split at h
      · rename_i nm u hd
        split at h
        · rename_i j hj
          simp only[oA]at h;refine main j.desc ?_ h.symm;have hu : u < P.types.size := by
            rcases Nat.lt_or_ge u P.types.size with g|g
            · exact g
            · rw[Array.getElem?_eq_none g]at hj;cases hj
          have hju : P.info? u = some j := by unfold Tables.info?;rw[if_pos hu];exact hj
          unfold Program.underlying;rw[hinfo];obtain⟨d, s1, s2, s3, s4, s5, s6, s7, s8, s9⟩ := i;simp only at hd;subst hd;simp[hju]
        · cases h
      · rename_i hne
        simp only[oA]at h;refine main i.desc ?_ h.symm;unfold Program.underlying;rw[hinfo];obtain⟨d, s1, s2, s3, s4, s5, s6, s7, s8, s9⟩ := i;cases d<;>first|rfl|exact absurd rfl (hne _ _)
    · simp at h
  · intro f fi h
    simp only[Ctx.of]at h;rw[zEs _ _ _ _ (by simpa using h2)]at h;split at h
    · rename_i hc
      simp only[Nat.sub_zero, Array.length_toList, Nat.zero_add]at h hc;rcases hi : P.funcs.toList[f]? with _|g
      .simp[hi]at h
      simp only[hi, Option.bind_some]at h;refine⟨g, by simpa using hi, ?_⟩;unfold FI.of at h;rcases hb : g.body with _|b
      .simp[hb]at h
      cases hn : g.name == "runtime.NumGoroutine" with
      | true => simp[hb, hn]at h
      | false=>simp only[hb, hn, oT, oA]at h;subst h;exact⟨rfl, rfl, rfl, rfl⟩
    · simp at h
section
variable {P:Program}{c:Ctx}{ρ:Env}{D:Nat->Prop}{h:H}{w:World}
theorem zg{t:Nat}{ti:TI}{i:TypeInfo}(k:TyOK P t ti i)(w:World):(underlying t).run P w = .ok ti.desc w:=by simp[underlying,k.und]
theorem YJ{t:Nat}{ti:TI}{i:TypeInfo}(k:TyOK P t ti i)(w:World):(typeInfo t).run P w = .ok i w:=by simp[typeInfo,k.info]
theorem yS{t:Nat}{ti:TI}{i:TypeInfo}(k:TyOK P t ti i)(w:World):(sizeOf t).run P w = .ok ti.size w:=by simp[sizeOf,YJ k,k.size]
theorem Y6{t:Nat}{ti:TI}{i:TypeInfo}(k:TyOK P t ti i)(w:World):(isAgg t).run P w = .ok (jk ti.desc) w:=by simp only[isAgg,Sem.run_bind,zg k,Result.andThen_ok];cases ti.desc<;>rfl
theorem qJ{t:Nat}{ti:TI}{i:TypeInfo}{z:V}(k:TyOK P t ti i)(d:ti.zero=some z)(ρ:Env)(w:World):(zeroValue t).run P w = .ok (z.conc ρ) w/\∀D,z.In D:=by obtain⟨v,h1,e⟩:=k.zero z d;obtain⟨a,b⟩:=Y2 e;exact⟨by simp[zeroValue,YJ k,h1,a],b⟩
theorem jA(l:Ug):(V.agg l).conc ρ = .agg (l.map (V.conc ρ)).toArray:=by simp[V.conc,V.concL_eq]
theorem zGx(l:Ug):(V.tuple l).conc ρ = .tuple (l.map (V.conc ρ)).toArray:=by simp[V.conc,V.concL_eq]
theorem J7(ok:CtxOK P c){t:TypeId}{a v:V}(e:zo c t h a=some v)(r:HR ρ D h w)(f:a.In D):
  (Instr.loadAt t (a.conc ρ)).run P w = .ok (v.conc ρ) w/\v.In D:=by
 unfold zo at e;split at e
 .rename_i b o;simp only[V.In]at f;split at e
  .rename_i l esz wr op m;split at e
   .rename_i ti g;obtain⟨i,k⟩:=ok.ty t ti g;cases d:jk ti.desc with
    | true =>
     simp only[d,oS]at e;split at e
     .rename_i x n;simp only[oA]at e;subst e;obtain⟨h1,j,_⟩:=jH (P:=P) r f m n;refine⟨?_,by simp only[V.In,V.InL_iff];exact j⟩;simp[Instr.loadAt,Instr.sureAddr,loadVar,V.conc,Y6 k,d,yS k,h1,V.concL_eq]
     cases e
    | false=>simp only[d,oT]at e;obtain⟨h1,j⟩:=zFG r f m e;refine⟨?_,j⟩;simp[Instr.loadAt,Instr.sureAddr,loadVar,V.conc,Y6 k,d,h1]
   cases e
  cases e
 cases e
theorem zKB(ok:CtxOK P c){t:TypeId}{a v:V}{h':H}(e:zZ c t h a v=some h')(r:HR ρ D h w)(n:a.In D)(p:v.In D):
  ∃w',(Instr.storeAt t (a.conc ρ) (v.conc ρ)).run P w = .ok () w'/\HR ρ D h' w'/\Mv ρ D h w ρ h' w'/\h'.nx=h.nx:=by
 unfold zZ at e;split at e
 .rename_i b o;simp only[V.In]at n;split at e
  .rename_i l esz op q;split at e
   .rename_i ti g;obtain⟨i,k⟩:=ok.ty t ti g;rcases h1:wn v.cells ti.size with _|_
    .simp[h1]at e
    rcases d:cond (Nat.ble esz.fz o) (za v.cells) false with _|_
    .rw[h1,oS,d]at e;cases e
    rw[h1,oS,d,oS]at e;obtain⟨j,s⟩:=zE5 d;split at e
    .rename_i y m;simp only[oA]at e;subst e;obtain⟨s1,u,x,_⟩:=kK (P:=P) r n q (V.cells_In p) s m (oH j);refine⟨_,?_,u,x,rfl⟩;have f:=xL.1 h1;simp only[Instr.storeAt,Instr.sureAddr,V.conc,storeVar,Sem.run_bind,Sem.run_pure,Result.andThen_ok,yS k,V.cells_conc];simp[f,s1]
    cases e
   cases e
  cases e
 cases e
theorem xm(ok:CtxOK P c){t:TypeId}{ti:TI}{l:Ug}{off:Nat}{v:V}(b:c.ty.get t=some ti)(e:apart ti l off=some v)(hl:∀x∈l,x.In D)(w:World):
  (part t (l.map (V.conc ρ)).toArray off).run P w = .ok (v.conc ρ) w/\v.In D:=by
 obtain⟨i,k⟩:=ok.ty t ti b;unfold apart at e;split at e
 .cases e
 rename_i q j;obtain⟨a1,rfl⟩:=zEg j;cases a:jk ti.desc with
 | true =>
  simp only[a,oS]at e;split at e
  .rename_i x d;simp only[oA]at e;subst e;obtain⟨a2,rfl⟩:=YN d;refine⟨?_,by simp only[V.In,V.InL_iff];exact λx d=>hl x (List.mem_of_mem_drop (List.mem_of_mem_take d))⟩;simp only[part,Sem.run_bind,Y6 k,a,Result.andThen_ok,if_true,yS k,Sem.run_pure,jA];congr 2;apply Array.ext';rw[Array.toList_extract];simp[List.map_take,List.map_drop]
  cases e
 | false =>
  simp only[a,oT]at e;split at e
  .rename_i x y f;simp only[oA]at e;subst e;have g:l[off]? = some x:=by
    have:(l.drop off)[0]? = some x:=by rw[f];rfl
    simpa using this
   refine⟨?_,hl x (List.mem_of_getElem? g)⟩;simp[part,Y6 k,a,g]
  cases e
theorem zGk(ok:CtxOK P c){t:TypeId}{x v:V}{f:Nat}(e:zQV c t x f=some v)(g:x.In D):(Instr.field t (x.conc ρ) f).run P w = .ok (v.conc ρ) w/\v.In D:=by
 unfold zQV at e;split at e
 .rename_i ti a;obtain⟨i,k⟩:=ok.ty t ti a;split at e
  .rename_i n cs j;split at e
   .rename_i o b;split at e
    .rename_i p d;simp only[V.In,V.InL_iff]at g;obtain⟨l,m⟩:=xm (ρ:=ρ) ok d e g w;refine⟨?_,m⟩;simp[Instr.field,zg k,j,b,jA,asAgg,l]
    cases e
   cases e
  cases e
 cases e
theorem jq(l:Ua):(⟨l.toArray⟩:ByteArray).size=l.length:=by simp[ByteArray.size]
theorem qx{n:Int}{i:Nat}(h:yj n=some i):n=(i:Int):=by cases n<;>simp[yj]at h;simp[h]
theorem zCv(ok:CtxOK P c){t:TypeId}{x q v:V}(e:yC c t x q=some v)(r:x.In D):(Instr.index t (x.conc ρ) (q.conc ρ)).run P w = .ok (v.conc ρ) w/\v.In D:=by
 unfold yC at e;split at e
 .rename_i kk n;split at e
  .rename_i i ti hi f;obtain⟨z,k⟩:=ok.ty t ti f;obtain rfl:=qx hi;split at e
   .rename_i len el cs g;rcases hb:Nat.blt i len with _|_
    .simp[hb]at e
    simp only[hb,oS]at e;have j:=(zY _ _).1 hb;split at e
    .rename_i A a;obtain⟨s,B⟩:=ok.ty el A a;simp only[V.In,V.InL_iff]at r;obtain⟨C,E⟩:=xm (ρ:=ρ) ok a e r w;refine⟨?_,E⟩;have u:(i:Int)<(len:Int):=oy
     simp[Instr.index,V.conc,asIntOf,zg k,g,V.concL_eq,j,yS B,C]
    cases e
   .rename_i d g;split at e
    .rename_i b hb;simp only[oA]at e;subst e;have m:∀(l:Ua) (i:Nat) (b:UInt8),XB l i=some b->l[i]? = some b:=by
      intro l;induction l with
      | nil=>intro i b h;simp[XB]at h
      | cons y l ih=>intro i b h;cases i<;>simp_all [XB]
     have o:=m d i b hb;have hs:(⟨d.toArray⟩:ByteArray)[i]? = some b:=by
      obtain⟨hl,F⟩:=List.getElem?_eq_some_iff.1 o;have p:i<(⟨d.toArray⟩:ByteArray).size:=by rw[jq];exact hl
      rw[getElem?_pos (⟨d.toArray⟩:ByteArray) i p];congr 1
     refine⟨?_,by simp[V.In]⟩;have G:(0:Int)<=(i:Int):=oy
     simp[Instr.index,V.conc,asIntOf,zg k,g,hs]
    cases e
   cases e
  cases e
 cases e
theorem zGl(ok:CtxOK P c){t:TypeId}{x q v:V}(e:yo c t x q=some v)(r:x.In D):(Instr.indexAt t (x.conc ρ) (q.conc ρ)).run P w = .ok (v.conc ρ) w/\v.In D:=by
 unfold yo at e;split at e
 .rename_i kk n;split at e
  .rename_i i ti hi j;obtain⟨s,k⟩:=ok.ty t ti j;obtain rfl:=qx hi;split at e
   .rename_i len el b o l;rcases hb:Nat.blt i len with _|_
    .simp[hb]at e
    simp only[hb,oS]at e;have a:=(zY _ _).1 hb;split at e
    .rename_i m d;obtain⟨f,p⟩:=ok.ty el m d;simp only[oA]at e;subst e;refine⟨?_,by simpa [V.In]using r⟩;have g:(i:Int)<(len:Int):=oy
     simp[Instr.indexAt,V.conc,asIntOf,zg k,l,Instr.sureAddr,a,yS p,yT,Nat.add_assoc]
    cases e
   .rename_i el b o len u l;rcases hb:Nat.blt i len with _|_
    .simp[hb]at e
    simp only[hb,oS]at e;have a:=(zY _ _).1 hb;split at e
    .rename_i m d;obtain⟨f,p⟩:=ok.ty el m d;simp only[oA]at e;subst e;refine⟨?_,by simpa [V.In]using r⟩;have g:(i:Int)<(len:Int):=oy
     simp[Instr.indexAt,V.conc,asIntOf,zg k,l,a,yS p,yT,Nat.add_assoc]
    cases e
   cases e
  cases e
 cases e
theorem zGm(ok:CtxOK P c){t:TypeId}{x v:V}(e:Yf c t h x=some v)(r:HR ρ D h w)(q:x.In D)(m:Array TypeId)(g:m.getD 0 0=t)(ty:TypeId)(j:0<m.size):
  (Builtin.len_ m ty #[x.conc ρ]).run P w = .ok (v.conc ρ) w/\v.In D:=by
 have f:m[0]? = some t:=by rw[Array.getElem?_eq_getElem j];simp only[Array.getD,j,dif_pos]at g;rw[<-g];rfl
 unfold Yf at e;split at e
 .cases e
 rename_i ti p;obtain⟨i,k⟩:=ok.ty t ti p;split at e
 .rename_i l d;simp only[oA]at e;subst e;exact⟨by simp[Builtin.len_,f,zg k,d,V.conc,goInt,yb,jq],by simp[V.In]⟩
 .rename_i n el d;simp only[oA]at e;subst e;exact⟨by simp[Builtin.len_,f,zg k,d,V.conc,goInt],by simp[V.In]⟩
 .rename_i el b o n y d;simp only[oA]at e;subst e;exact⟨by simp[Builtin.len_,f,zg k,d,V.conc,goInt],by simp[V.In]⟩
 .rename_i el d;simp only[oA]at e;subst e;exact⟨by simp[Builtin.len_,f,zg k,d,V.conc,goInt],by simp[V.In]⟩
 .rename_i a b d;simp only[oA]at e;subst e;exact⟨by simp[Builtin.len_,f,zg k,d,V.conc,goInt],by simp[V.In]⟩
 .rename_i a b s d;simp only[V.In]at q;split at e
  .rename_i es clock u;simp only[oA]at e;subst e;have hr:=(r.rel s _ q u).1;exact⟨by simp[Builtin.len_,f,zg k,d,V.conc,goInt,getObj,Sem.run,hr],by simp[V.In]⟩
  cases e
 cases e
theorem zGi(ok:CtxOK P c){t:TypeId}{x v:V}(e:zVb c t x=some v)(g:Array TypeId)(a:g.getD 0 0=t)(ty:TypeId)(d:0<g.size):
  (Builtin.cap_ g ty #[x.conc ρ]).run P w = .ok (v.conc ρ) w/\v.In D:=by
 have j:g[0]? = some t:=by rw[Array.getElem?_eq_getElem d];simp only[Array.getD,d,dif_pos]at a;rw[<-a];rfl
 unfold zVb at e;split at e
 .cases e
 rename_i ti l;obtain⟨i,k⟩:=ok.ty t ti l;split at e
 .rename_i n el f;simp only[oA]at e;subst e;exact⟨by simp[Builtin.cap_,j,zg k,f,V.conc,goInt],by simp[V.In]⟩
 .rename_i el b o n m f;simp only[oA]at e;subst e;exact⟨by simp[Builtin.cap_,j,zg k,f,V.conc,goInt,Cap.val],by simp[V.In]⟩
 .rename_i el f;simp only[oA]at e;subst e;exact⟨by simp[Builtin.cap_,j,zg k,f,V.conc,goInt],by simp[V.In]⟩
 cases e
end
end Go.Sim
namespace Go.Sim
section
variable {P:Program}{c:Ctx}{ρ:Env}{D:Nat->Prop}{h:H}{w:World}
theorem zKN{ti:TI}{t:Nat}{i:TypeInfo}(k:TyOK P t ti i){x y:V}{r:Bool}(e:eq1 ti.desc x y=some r)(d:Nat)(w:World):(Op.equalIn (d+1) t (x.conc ρ) (y.conc ρ)).run P w = .ok r w:=by
 have g:=k.und;unfold eq1 at e;split at e
 case h_1 f=>simp only[oA]at e;subst e;simp[Op.equalIn,underlying,g,f,V.conc]
 case h_2 j a q b f =>
  rcases l:wv j q with _|_
  .simp[l]at e
  simp only[l,oS,oA]at e;subst e;obtain rfl:=(XM _ _).1 l;simp[Op.equalIn,underlying,g,f,V.conc,j4]
 case h_3 a b f =>
  simp only[oA]at e;subst e;rw[V.conc,V.conc,run_equalIn_string w d t _ _ (by rw[g,f]),Ko,Ko,Zq]
 all_goals first
  | (cases e;done)
  | (simp only[oA]at e;subst e;rename_i f;simp[Op.equalIn,underlying,g,f,V.conc])
theorem zDN(ok:CtxOK P c){a:TypeId->V->V->Option Bool}{d:Nat}(g:∀t x y r w,a t x y=some r->x.In D->y.In D->(Op.equalIn d t (x.conc ρ) (y.conc ρ)).run P w = .ok r w):
  ∀(fs:List Field) (xs ys:Ug) (r:Bool),zLx c a fs xs ys=some r->(∀v∈xs,v.In D)->(∀v∈ys,v.In D)->∀w,
   (Op.eqFields d (xs.map (V.conc ρ)).toArray (ys.map (V.conc ρ)).toArray fs).run P w = .ok r w:=by
 intro fs;induction fs with
 | nil=>intro xs ys r e _ _ w;simp only[zLx,oA]at e;subst e;simp[Op.eqFields]
 | cons f fs ih =>
  intro xs ys r e l m w;simp only[zLx]at e;cases j:f.name == "_" with
  | true=>simp[j]at e
  | false =>
   simp only[j,oT]at e;have k:f.name ≠ "_":=by simpa using j
   split at e
   .cases e
   rename_i ti i;split at e
   .rename_i x y h1 n;obtain⟨o,p⟩:=xm (ρ:=ρ) ok i h1 l w;obtain⟨q,s⟩:=xm (ρ:=ρ) ok i n m w;rcases hr:a f.type x y with _|b
    .simp[hr]at e
    have u:=g f.type x y b w hr p s;rw[Op.eqFields,if_pos k];simp only[Sem.run_bind,o,q,u,Result.andThen_ok];cases b with
    | true=>simp only[hr]at e;have:=ih xs ys r e l m w;simpa using this
    | false=>simp only[hr,oA]at e;subst e;simp
   cases e
theorem zGp(ok:CtxOK P c){el:TypeId}{te:TI}(hte:c.ty.get el=some te){rec_:V->V->Option Bool}{d:Nat}(hrec:∀x y r w,rec_ x y=some r->x.In D->y.In D->(Op.equalIn d el (x.conc ρ) (y.conc ρ)).run P w = .ok r w):
  ∀(n i:Nat) (xs ys:Ug) (r:Bool),zLw te rec_ n i xs ys=some r->(∀v∈xs,v.In D)->(∀v∈ys,v.In D)->∀w,
   (forIn (m:=Sem) (List.range' i n) ((none,()):Option Bool×Unit) (λi _=>do
    if (!(<-Op.equalIn d el (<-part el (xs.map (V.conc ρ)).toArray (i*te.size)) (<-part el (ys.map (V.conc ρ)).toArray (i*te.size))))=true then pure (ForInStep.done (some false,())) else pure (ForInStep.yield (none,())))).run P w
    = .ok (if r then (none,()) else (some false,())) w:=by
 intro n;induction n with
 | zero=>intro i xs ys r e _ _ w;simp only[zLw,oA]at e;subst e;simp
 | succ n ih =>
  intro i xs ys r e hx hy w;simp only[zLw]at e;split at e
  .rename_i x y h1 h2;obtain⟨p1,q1⟩:=xm (ρ:=ρ) ok hte h1 hx w;obtain⟨p2,q2⟩:=xm (ρ:=ρ) ok hte h2 hy w;rcases hr:rec_ x y with _|b
   .simp[hr]at e
   have p3:=hrec x y b w hr q1 q2;rw[List.range'_succ,List.forIn_cons];simp only[Sem.run_bind,p1,p2,p3,Result.andThen_ok];cases b with
   | true=>simp only[hr]at e;have:=ih (i+1) xs ys r e hx hy w;simpa using this
   | false=>simp only[hr,oA]at e;subst e;simp
  cases e
theorem zBd(ok:CtxOK P c):∀(n:Nat) (t:TypeId) (x y:V) (r:Bool),J5 c n t x y=some r->x.In D->y.In D->∀(m:Nat) (w:World),n<=m ->
  (Op.equalIn m t (x.conc ρ) (y.conc ρ)).run P w = .ok r w:=by
 intro n;induction n with
 | zero=>intro t x y r e;simp[J5]at e
 | succ n ih =>
  intro t x y r e l p m w hm;obtain⟨m,rfl⟩:∃L,m=L+1:=⟨m-1,oy⟩;simp only[J5]at e;split at e
  .cases e
  rename_i ti C;obtain⟨i,k⟩:=ok.ty t ti C;split at e
  .rename_i M xs K a;cases E:ti.held with
   | true=>simp[E]at e
   | false =>
    simp only[E,oT]at e;simp only[V.In,V.InL_iff]at l p;have s:P.fieldsOf t=M:=by simp[Program.fieldsOf,k.und,a]
    rw[jA,jA,run_equalIn_struct w m t _ _ (by rw[s,k.und,a]) (by rw[k.held,E]),s];exact zDN ok (λt x y r w F d f=>ih t x y r F d f m w oy) _ _ _ _ e l p w
  .rename_i len el xs K a;split at e
   .cases e
   rename_i G u;obtain⟨S,N⟩:=ok.ty el G u;simp only[V.In,V.InL_iff]at l p;have hl:=zGp (ρ:=ρ) ok u (λx y r w F d f=>ih el x y r F d f m w oy) len 0 xs K r e l p w;rw[jA,jA];simp only[Op.equalIn,Sem.run_bind,zg k,a,Result.andThen_ok,yS N];rw[Std.Legacy.Range.forIn_eq_forIn_range'];simp only[Std.Legacy.Range.size,Nat.sub_zero,Nat.add_sub_cancel,Nat.div_one];rw[hl];cases r<;>simp
  .rename_i T tx O ty Q a;cases hb:Nat.beq tx ty with
   | false =>
    simp only[hb,oT,oA]at e;subst e;have v:tx≠ty:=λz=>by subst z;rw[Nat.beq_refl]at hb;cases hb
    simp[Op.equalIn,zg k,a,V.conc,v]
   | true =>
    obtain rfl:=oL hb;simp only[hb,oS]at e;split at e
    .cases e
    rename_i q g;obtain⟨j,B⟩:=ok.ty tx q g;rcases H:q.cmp with _|_
    .simp[H]at e
    simp only[H,oS]at e;simp only[V.In]at l p;have:=ih tx O Q r e l p m w oy;simp[Op.equalIn,zg k,a,V.conc,YJ B,B.cmp,H,this]
  .rename_i G b o R o' a;split at e
   .cases e
   rename_i q g;obtain⟨j,B⟩:=ok.ty G q g;rcases hb:(Nat.beq b R && Nat.blt 0 q.size) with _|_
   .simp[hb]at e
   simp only[hb,oS,oA]at e;subst e;simp only[oM]at hb;obtain rfl:=oL hb.1;have hs:=(zY _ _).1 hb.2;have I:¬q.size=0:=oy
   have A:((⟨ρ.blk b,ρ.off b+o,none⟩:Addr) == ⟨ρ.blk b,ρ.off b+o',none⟩)=Nat.beq o o':=by
    cases J:Nat.beq o o' with
    | true=>obtain rfl:=oL J;simp
    | false =>
     have v:o≠o':=λz=>by subst z;rw[Nat.beq_refl]at J;cases J
     have:(⟨ρ.blk b,ρ.off b+o,none⟩:Addr)≠⟨ρ.blk b,ρ.off b+o',none⟩:=λz=>by injection z with _ U _;omega
     simpa using this
   simp[Op.equalIn,zg k,a,V.conc,yS B,I,sameAddr,A]
  exact zKN k e m w
theorem zGh(ok:CtxOK P c){op:BinOp}{t:TypeId}{x y:Operand}{a b r:V}(e:ZQ c op t x y a b=some r)(J:a.In D)(hb:b.In D):
  (do eqGuard op t x y (a.conc ρ) (b.conc ρ);binOp op t (a.conc ρ) (b.conc ρ):Sem Value).run P w = .ok (r.conc ρ) w/\r.In D:=by
 have d:Jl c t x y a b=true->(eqGuard op t x y (a.conc ρ) (b.conc ρ)).run P w = .ok () w:=by
  intro f;unfold Jl at f;split at f
  .simp only[eqGuard,V.conc];have p:(Xo x || Xo y)=true:=f;cases op<;>simp<;>(cases x<;>cases y<;>simp_all [Xo])
  .rename_i C l2;split at f
   .rename_i ti E;obtain⟨i,k⟩:=ok.ty t ti E;have p:ti.guard=false:=by simpa using f
    rw[jA,jA];exact run_eqGuard_agg w op t x y _ _ (by rw[k.guard,p])
   cases f
  rename_i h1 s;have:∀u v:V,(∀(_:u = .nilIface) (_:v = .nilIface),False)->(∀C l2 (_:u = .agg C) (_:v = .agg l2),False)->(eqGuard op t x y (u.conc ρ) (v.conc ρ)).run P w = .ok () w:=by intro u v K L;cases op<;>simp only[eqGuard]<;>simp<;>(cases u<;>cases v<;>simp_all [V.conc])
  exact this a b (λF G=>h1 F G) (λC l2 F G=>s C l2 F G)
 have o:∀q,J5 c 30 t a b=some q->(Op.equal t (a.conc ρ) (b.conc ρ)).run P w = .ok q w:=by intro q z;exact zBd ok 30 t a b q z J hb 10000 w oy
 unfold ZQ at e;split at e
 .rename_i k m k' n;have g:(eqGuard op t x y (Value.int k m) (Value.int k' n)).run P w = .ok () w:=by cases op<;>simp[eqGuard]
  cases hs:km op with
  | true=>simp only[hs,oS]at e;obtain⟨A,B⟩:=zBh (P:=P) (w:=w) (t:=t) (k':=k') (.inl hs) e ρ;exact⟨by simp[V.conc,g,A],B D⟩
  | false =>
   simp only[hs,oT]at e;rcases H:wv k k' with _|_
   .simp[H]at e
   simp only[H,oS]at e;obtain⟨A,B⟩:=zBh (P:=P) (w:=w) (t:=t) (k':=k') (.inr ((XM _ _).1 H)) e ρ;exact⟨by simp[V.conc,g,A],B D⟩
 .rename_i m n;have g:(eqGuard op t x y (Value.string ⟨m.toArray⟩) (Value.string ⟨n.toArray⟩)).run P w = .ok () w:=by cases op<;>simp[eqGuard]
  obtain⟨A,B⟩:=zKC (P:=P) (w:=w) (t:=t) e ρ;exact⟨by simp[V.conc,g,A],B D⟩
 rename_i j l;split at e
 .rcases f:Jl c t x y a b with _|_
  .simp[f]at e
  simp only[f,oS]at e;split at e
  .rename_i q z;simp only[oA]at e;subst e;have h1:=d f;have s:=o q z;have I:(binOp .eql t (a.conc ρ) (b.conc ρ))=(do pure (.bool (<-Op.equal t (a.conc ρ) (b.conc ρ)))):=by
    cases a<;>cases b<;>simp only[V.conc,binOp]<;>first
     | rfl
     | exact absurd rfl (j _ _ _ _ rfl)
     | exact absurd rfl (l _ _ rfl)
     | (exfalso;exact j _ _ _ _ rfl rfl)
     | (exfalso;exact l _ _ rfl rfl)
   refine⟨?_,by simp[V.In]⟩;simp[h1,I,s,V.conc]
  cases e
 .rcases f:Jl c t x y a b with _|_
  .simp[f]at e
  simp only[f,oS]at e;split at e
  .rename_i q z;simp only[oA]at e;subst e;have h1:=d f;have s:=o q z;have I:(binOp .neq t (a.conc ρ) (b.conc ρ))=(do pure (.bool (!(<-Op.equal t (a.conc ρ) (b.conc ρ))))):=by
    cases a<;>cases b<;>simp only[V.conc,binOp]<;>first
     | rfl
     | exact absurd rfl (j _ _ _ _ rfl)
     | exact absurd rfl (l _ _ rfl)
     | (exfalso;exact j _ _ _ _ rfl rfl)
     | (exfalso;exact l _ _ rfl rfl)
   refine⟨?_,by simp[V.In]⟩;simp[h1,I,s,V.conc]
  cases e
 cases e
end
end Go.Sim
