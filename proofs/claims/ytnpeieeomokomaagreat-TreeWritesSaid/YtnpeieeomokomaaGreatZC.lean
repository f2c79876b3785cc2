/- C. No condition. -/
import Derived.Test.YtnpeieeomokomaaGreatZB
import Derived.Deep.AppendSrc
import Derived.Laws.Strings
set_option maxRecDepth 4000
namespace Go.Sim
theorem jC {l:List V}:zU l=true↔∀v∈l,v.one=true:=by
 induction l with
 | nil=>simp[zU]
 | cons v l ih=>cases hv:v.one<;>simp[zU,hv,ih]
theorem yO:∀{l:List V}{n:Nat},wL l n=true↔l.length=n:=by
 intro l
 induction l with
 | nil=>intro n;cases n<;>simp[wL]
 | cons x l ih=>intro n;cases n<;>simp[wL,ih]
theorem yu:∀(l:List UInt8) (n:Nat),qP l n=l.length+n:=by
 intro l
 induction l with
 | nil=>intro n;simp[qP]
 | cons x l ih=>intro n;simp only[qP,ih,oS];omega
theorem V.one_conc (ρ:Env) {v:V}(h:v.one=true):(v.conc ρ).oneCell'=true:=by
 cases v<;>simp_all [V.one,V.conc,Value.oneCell']
theorem V.cells_conc (ρ:Env) (v:V):(v.conc ρ).cells=(v.cells.map (V.conc ρ)).toArray:=by
 cases v<;>simp[V.conc,V.cells,Value.cells,V.concL_eq]
theorem V.cells_In {D:Nat->Prop}{v:V}(h:v.In D):∀x∈v.cells,x.In D:=by
 cases v<;>simp_all [V.cells,V.In,V.InL_iff]
theorem zAb (w:World) (b:Nat) (o o':Obj):(w.putObj b o).putObj b o'=w.putObj b o':=by
 simp[World.putObj]
theorem zET {w:World}{b:Nat}{o:Obj}(h:w.heap[b]? = some o):w.putObj b o=w:=by
 unfold World.putObj;have hb:b<w.heap.size:=by
  rcases Nat.lt_or_ge b w.heap.size with g|g
  ·exact g
  ·rw[Array.getElem?_eq_none g]at h;cases h
 have:w.heap[b]=o:=by simpa [Array.getElem?_eq_getElem hb]using h
 have e:w.heap.setIfInBounds b o=w.heap:=by
  rw[Array.setIfInBounds,dif_pos hb,<-this,Array.set_getElem_self]
 rw[e]
theorem Jd {w:World}{b o:Nat}{c:Array Value}{e:TypeId}{fz:Nat×Nat}(v:Value) (h:w.heap[b]? = some (.cells c e fz)) :
  w.setCell ⟨b,o,none⟩ v=w.putObj b (.cells (c.setIfInBounds o v) e fz):=by
 have hb:b<w.heap.size:=by
  rcases Nat.lt_or_ge b w.heap.size with g|g
  ·exact g
  ·rw[Array.getElem?_eq_none g]at h;cases h
 have hv:w.heap[b] = .cells c e fz:=by simpa [Array.getElem?_eq_getElem hb]using h
 simp only[World.setCell,World.putObj]
 congr 1
 apply Array.ext_getElem?;intro i;rw[Array.getElem?_modify,Array.getElem?_setIfInBounds];by_cases hi:b=i
 ·subst hi
  simp[hb,hv]
 ·simp[hi]
theorem XQ:∀(vs:List Value) {w:World}{b o:Nat}{c:Array Value}{e:TypeId}{fz:Nat×Nat},w.heap[b]? = some (.cells c e fz)->o+vs.length<=c.size ->
  ∃c',w.setCells b o vs=w.putObj b (.cells c' e fz)/\c'.size=c.size/\∀i,c'[i]? = if o<=i/\i<o+vs.length then vs[i-o]? else c[i]?:=by
 intro vs
 induction vs with
 | nil=>intro w b o c e fz h _;exact⟨c,by rw[World.setCells,zET h],rfl,λi=>by rw[if_neg (by simp only[List.length_nil];omega)]⟩
 | cons v vs ih =>
  intro w b o c e fz h hl;simp only[oS]at hl;have hb:b<w.heap.size:=by
   rcases Nat.lt_or_ge b w.heap.size with g|g
   ·exact g
   ·rw[Array.getElem?_eq_none g]at h;cases h
  obtain⟨c',h1,h2,h3⟩:=ih (w:=w.setCell ⟨b,o,none⟩ v) (b:=b) (o:=o+1) (c:=c.setIfInBounds o v) (e:=e) (fz:=fz)
   (by rw[Jd v h,World.putObj_heap_same hb]) (by simp;omega)
  refine⟨c',?_,by simpa using h2,λi=>?_⟩
  ·rw[World.setCells,h1,Jd v h,zAb]
  ·rw[h3 i]
   by_cases h4:o+1<=i/\i<o+1+vs.length
   ·rw[if_pos h4,if_pos (by simp;omega)]
    obtain⟨k,hk⟩:∃k,i-o=k+1:=⟨i-o-1,by omega⟩;rw[hk,List.getElem?_cons_succ];congr 1;omega
   ·rw[if_neg h4]
    by_cases h5:i=o
    ·have hlt:o<c.size:=by omega
     subst h5;rw[if_pos ⟨oO _,by simp only[oS];omega⟩];simp[hlt]
    ·rw[if_neg (by simp;omega),Array.getElem?_setIfInBounds,if_neg (by omega)]
theorem jY {w:World}{b o:Nat}{c:Array Value}{e:TypeId}{fz:Nat×Nat}(h:w.heap[b]? = some (.cells c e fz)):w.cell? ⟨b,o,none⟩=c[o]?:=by
 simp[World.cell?,h]
theorem Zm {w:World}{b o:Nat}{c:Array Value}{e:TypeId}{fz:Nat×Nat}(h:w.heap[b]? = some (.cells c e fz)) (hf:¬(fz.1<=o/\o<fz.2)):w.frozen? ⟨b,o,none⟩=false:=by
 simp only[World.frozen?,h];simpa using hf
theorem yL (b o i:Nat):(⟨b,o,none⟩:Addr).add i=⟨b,o+i,none⟩:=by
 unfold Addr.add;split<;>simp_all
def Post (ρ:Env) (D:Nat->Prop) (h:H) (w:World) (r:Result Value) (v:V) (h':H):Prop :=
 ∃ρ' w',r = .ok (v.conc ρ') w'/\Mv ρ D h w ρ' h' w'/\HR ρ' (Dx D h h') h' w'/\v.In (Dx D h h')
theorem Post.pure {ρ:Env}{D:Nat->Prop}{h:H}{w:World}{v:V}(r:HR ρ D h w) (hv:v.In D):Post ρ D h w (.ok (v.conc ρ) w) v h :=
 ⟨ρ,w,rfl,Mv.refl _ _ _ _,by rw[zk];exact r,by rw[zk];exact hv⟩
theorem Post.of_eq {ρ:Env}{D:Nat->Prop}{h h':H}{w:World}{v:V}{r r':Result Value}(e:r=r') (p:Post ρ D h w r' v h'):Post ρ D h w r v h':=e ▸ p
theorem yx (h:H) (b:Nat) (o:Option O):(h.upd b o).next=h.next:=rfl
section
variable {P:Program}{ρ:Env}{D:Nat->Prop}{h:H}{w:World}
theorem zD0 {a:Bool}{x:Bool}(h:cond a x false=true):a=true/\x=true:=by
 cases a<;>simp_all
theorem wR (r:HR ρ D h w) {b o n:Nat}{l:Cs}{x:List V}{esz:Rk}{wr op:Bool}(hd:D b) (hg:h.get b=some (.cells l esz wr op)) (h1:l.range o n=some x) :
  (loadCells ⟨ρ.blk b,ρ.off b+o,none⟩ n).run P w = .ok (x.map (V.conc ρ)).toArray w/\(∀v∈x,v.In D)/\x.length=n:=by
 obtain⟨a1,a2,a3⟩:=Cs.range_eq h1;obtain⟨c,e,fz,hx,hc,hin,_⟩:=r.rel b _ hd hg;refine⟨?_,λv hv=>(Cs.range_mem h1 hv).elim λi hi=>hin i v hi,a1⟩
 have:=run_loadCells_list (P:=P) w ⟨ρ.blk b,ρ.off b+o,none⟩ (x.map (V.conc ρ)) (λj v hj=>by
  rw[yL,jY hx];rw[oU]at hj;cases hq:x[j]? with
  | none=>simp[hq]at hj
  | some u =>
   simp only[hq,oX,oA]at hj;subst hj;have hjn:j<n:=by rw[<-a1];exact(List.getElem?_eq_some_iff.1 hq).1
   have hu:l.get? (o+j)=some u:=by rw[<-a3 j hjn];exact hq
   rw[Nat.add_assoc];exact hc _ _ hu)
 rwa [od,a1]at this
theorem zEB (r:HR ρ D h w) {b o:Nat}{l:Cs}{v:V}{esz:Rk}{wr op:Bool}(hd:D b) (hg:h.get b=some (.cells l esz wr op)) (h1:l.get? o=some v) :
  w.cell? ⟨ρ.blk b,ρ.off b+o,none⟩=some (v.conc ρ)/\v.In D:=by
 obtain⟨c,e,fz,hx,hc,hin,_⟩:=r.rel b _ hd hg;exact⟨by rw[jY hx];exact hc _ _ h1,hin _ _ h1⟩
theorem j5 (r:HR ρ D h w) {b o:Nat}{vs:List V}{l l':Cs}{esz:Rk}{op:Bool}(hd:D b) (hg:h.get b=some (.cells l esz true op)) (hin:∀v∈vs,v.In D) (h1:zU vs=true)
  (hs:l.put o vs=some l') (hfk:esz.fz<=o) :
  (storeCells ⟨ρ.blk b,ρ.off b+o,none⟩ (vs.map (V.conc ρ))).run P w = .ok () (w.setCells (ρ.blk b) (ρ.off b+o) (vs.map (V.conc ρ))) /\
  HR ρ D (h.upd b (some (.cells l' esz true op))) (w.setCells (ρ.blk b) (ρ.off b+o) (vs.map (V.conc ρ))) /\
  Mv ρ D h w ρ (h.upd b (some (.cells l' esz true op))) (w.setCells (ρ.blk b) (ρ.off b+o) (vs.map (V.conc ρ))) /\
  (∀j,j<vs.length->(w.cell? ⟨ρ.blk b,ρ.off b+o+j,none⟩).isSome=true)/\(∀j,j<vs.length->w.frozen? ⟨ρ.blk b,ρ.off b+o+j,none⟩=false):=by
 obtain⟨c,e,fz,hx,hc,hcin,hw⟩:=r.rel b _ hd hg;obtain⟨hoff,hfz,hle,hsz,hty⟩:=hw rfl;obtain⟨s1,s2,s3⟩:=Cs.put_eq hs;have hroom:ρ.off b+o+(vs.map (V.conc ρ)).length<=c.size:=by rw[od,hoff];omega
 have hcell:∀j,j<vs.length->(w.cell? ⟨ρ.blk b,ρ.off b+o+j,none⟩).isSome=true:=λj hj=>by
  rw[jY hx,Array.getElem?_eq_getElem (by rw[od]at hroom;omega)];rfl
 have hfroz:∀j,j<vs.length->w.frozen? ⟨ρ.blk b,ρ.off b+o+j,none⟩=false:=λj hj =>
  Zm hx (hfz _ (by rw[od]at hroom;omega) (by omega))
 obtain⟨c',e1,e2,e3⟩:=XQ (vs.map (V.conc ρ)) hx hroom;refine⟨?_,?_,?_,hcell,hfroz⟩
 ·have:=run_storeCells_cells (P:=P) (ρ.blk b) (ρ.off b+o) (vs.map (V.conc ρ)) 0 w (by simpa using hcell) (by simpa using hfroz)
   (λv hv=>by obtain⟨u,hu,rfl⟩:=List.mem_map.1 hv;exact V.one_conc ρ (jC.1 h1 u hu))
  simpa using this
 ·rw[e1]
  refine r.upd hd hg rfl rfl ⟨c',e,fz,rfl,λi v hv=>?_,λi v hv=>?_,λ_=>⟨hoff,by rw[e2];exact hfz,by rw[e2,s2];exact hle,by rw[e2,s2];exact hsz,hty⟩⟩
  ·rw[e3,od,hoff]
   rw[s3 i]at hv;simp only[Nat.zero_add];by_cases hc1:o<=i/\i<o+vs.length
   ·rw[if_pos hc1]at hv ⊢
    rw[oU,hv];rfl
   ·rw[if_neg hc1]at hv ⊢
    have:=hc i v hv
    rwa [hoff,Nat.zero_add]at this
  ·rw[s3 i]at hv
   split at hv
   ·exact hin v (List.mem_of_getElem? hv)
   ·exact hcin i v hv
 ·rw[e1];exact Mv.upd r hd hg rfl rfl
theorem KP (r:HR ρ D h w) (hn:h.next<T.top) {l:Cs}{esz:Rk}{op:Bool}(hin:∀i v,l.get? i=some v->v.In D) (c:Array Value) (e:TypeId) (fz:Nat×Nat) (cp:Nat)
  (hc:∀(i:Nat) (v:V),l.get? i=some v->c[i]? = some (v.conc ρ)) (hf:∀i,i<c.size->esz.fz<=i->¬(fz.1<=i/\i<fz.2)) (hle:l.len<=c.size) (hsz:c.size=if op then cp*esz.n else l.len)
  (hty:∀t,esz.ty=t+1->e=t/\(fz.1=fz.2\/(fz.1=0/\fz.2<=esz.fz))) :
  HR (ρ.at h.next w.heap.size cp) (Dx D h (h.new (.cells l esz true op))) (h.new (.cells l esz true op)) (w.alloc (.cells c e fz)) /\
  Mv ρ D h w (ρ.at h.next w.heap.size cp) (h.new (.cells l esz true op)) (w.alloc (.cells c e fz)):=by
 have hnd:¬D h.next:=λhd=>by have:=r.lt _ hd;omega
 refine⟨r.new cp hn ⟨c,e,fz,rfl,λi v hv=>?_,λi v hv=>V.In_mono xZ _ (hin i v hv),λ_=>⟨Env.at_off _ _ _ _,hf,hle,?_,hty⟩⟩,Mv.new r cp hn rfl⟩
 ·rw[Env.at_off,Nat.zero_add,V.conc_agree (Env.at_agree hnd) v (hin i v hv)]
  exact hc i v hv
 ·rw[Env.at_cap];exact hsz
theorem zB1 {o:O}:Dx D h (h.new o) h.next:=.inr ⟨oO _,by simp[H.new]⟩
end
end Go.Sim
namespace Go.Sim
theorem X1 (n:Int) (h1 : -9223372036854775808<=n) (h2:n<9223372036854775808):IntKind.i64.wrap n=n:=by
 unfold IntKind.wrap IntKind.bits IntKind.signed;simp only[Int.reducePow,Nat.reduceSub,Bool.true_and,decide_eq_true_eq,ge_iff_le];split<;>omega
theorem zEz (n:Nat):IntKind.u64.wrap (Int.ofNat n)=Int.ofNat (n % 18446744073709551616):=by
 unfold IntKind.wrap IntKind.bits IntKind.signed;simp only[Int.reducePow,Nat.reduceSub,Bool.false_and,Bool.false_eq_true,if_false];rfl
theorem zTY (n:Nat):IntKind.u8.wrap (Int.ofNat n)=Int.ofNat (n % 256):=by
 unfold IntKind.wrap IntKind.bits IntKind.signed;simp only[Int.reducePow,Nat.reduceSub,Bool.false_and,Bool.false_eq_true,if_false];rfl
theorem z8 (a b:Nat):Nat.blt a b=true↔a<b:=by
 unfold Nat.blt;rw[Nat.ble_eq];omega
theorem jD (a b:Nat):Nat.ble a b=false↔¬a<=b:=by rw[<-Nat.ble_eq,Bool.not_eq_true]
theorem OF (a b:Int):(!decide (a<b))=decide (b<=a):=by
 rw[Bool.eq_iff_iff];simp
theorem xI (k:IntKind) (n:Int):zN k n=k.wrap n:=by
 cases k with
 | i64 =>
  cases n with
  | ofNat m =>
   simp only[zN];rcases hb:Nat.blt m 9223372036854775808 with _|_
   ·rfl
   ·have h:=hb
    have:=(z8 _ _).1 h;rw[oK,X1 _ (by simp only[Int.ofNat_eq_natCast];omega) (by simp only[Int.ofNat_eq_natCast];omega)]
  | negSucc m =>
   simp only[zN];rcases hb:Nat.blt m 9223372036854775808 with _|_
   ·exact oL _ _
   ·have h:=hb
    have:=(z8 _ _).1 h;rw[oK,X1 _ (by have:=Int.negSucc_eq m;omega) (by have:=Int.negSucc_eq m;omega)]
 | u64 =>
  cases n with
  | ofNat m =>
   simp only[zN];cases h:Nat.blt m 18446744073709551616
   ·rw[oL,zEz]
   ·have:=(z8 _ _).1 h
    rw[oK,zEz,oZ this]
  | negSucc m=>rfl
 | u8 =>
  cases n with
  | ofNat m=>simp only[zN];rw[zTY]
  | negSucc m=>rfl
 | _=>rfl
theorem yo (a b:Int):Xz a b=decide (a<b):=by
 cases a<;>cases b<;>simp only[Xz]<;>rw[Bool.eq_iff_iff]<;>simp<;>omega
theorem jF (a b:Int):eqF a b=(a == b):=by
 cases a<;>cases b<;>simp only[eqF]<;>rw[Bool.eq_iff_iff]<;>simp<;>omega
theorem KE (a b:Int):zAU a b=a+b:=by
 cases a<;>cases b<;>simp[zAU]
theorem KV (a b:Int):zO3 a b=a-b:=by
 cases a with
 | ofNat a =>
  cases b with
  | ofNat b =>
   simp only[zO3];cases h:Nat.ble b a
   ·have:=(jD _ _).1 h;rw[oL];simp only[Int.ofNat_eq_natCast];omega
   ·have:=oE h;rw[oK];simp only[Int.ofNat_eq_natCast];omega
  | negSucc b=>rfl
 | negSucc a=>cases b<;>rfl
theorem zHl (a b:Int):zQC a b=a*b:=by
 cases a<;>cases b<;>simp[zQC]
theorem zBp (a b:Int):zLA a b=a.tdiv b:=by
 cases a<;>cases b<;>rfl
theorem zHk (a b:Int):z0K a b=a.tmod b:=by
 cases a<;>cases b<;>rfl
theorem KU (a:Int) (n:Nat):zJn a n=a*2^n:=by
 cases a with
 | ofNat a=>simp only[zJn,Nat.shiftLeft_eq',Nat.shiftLeft_eq];simp
 | negSucc a=>rfl
theorem zIH (a:Int) (n:Nat):zCi a n=a.fdiv (2^n):=by
 cases a with
 | ofNat a =>
  have h1:((2:Int)^n)=((2^n:Nat):Int):=by simp
  have h2:a.shiftRight n=a/2^n:=Nat.shiftRight_eq_div_pow a n;simp only[zCi];rw[h1,h2,Int.fdiv_eq_ediv_of_nonneg _ (Int.natCast_nonneg _)];rfl
 | negSucc a=>rfl
theorem qO (j k:IntKind):xE j k=true↔j=k:=by cases j<;>cases k<;>simp[xE]
theorem qr:∀(a b:List UInt8),eqB a b=(a == b):=by
 intro a
 induction a with
 | nil=>intro b;cases b<;>rfl
 | cons x a ih =>
  intro b;cases b with
  | nil=>rfl
  | cons y b =>
   simp only[eqB,ih];cases h:Nat.beq x.toNat y.toNat
   ·have:x≠y:=λe=>by subst e;rw[Nat.beq_refl]at h;cases h
    simp[this]
   ·have:x=y:=UInt8.toNat_inj.1 (oF h)
    simp[this]
theorem Jl (l:List UInt8):(⟨l.toArray⟩:ByteArray).toList=l:=by
 rw[ByteArray.toList_eq]
section
variable {P:Program}{w:World}
theorem zAm {op:BinOp}{t:TypeId}{k k':IntKind}{m n:Int}{r:V}(hs:xq op=true\/k=k') (h:zj op k m n=some r) (ρ:Env) :
  (binOp op t (.int k m) (.int k' n)).run P w = .ok (r.conc ρ) w/\∀D,r.In D:=by
 cases op<;>simp only[zj,xq,Bool.false_eq_true,false_or]at h hs
 case shl =>
  rw[yo]at h;by_cases hn:n<0
  ·simp[hn]at h
  ·simp only[hn,decide_false,oL,oA]at h
   subst h;have hmin:(cond (n.toNat.ble k.bits) n.toNat k.bits)=min n.toNat k.bits:=by
    cases hb:Nat.ble n.toNat k.bits
    ·have:=(jD _ _).1 hb;rw[oL];omega
    ·have:=oE hb;rw[oK];omega
   refine⟨?_,λ_=>by simp[V.In]⟩
   simp[binOp,Op.shift,hn,V.conc,xI,KU,hmin]
 case shr =>
  rw[yo]at h;by_cases hn:n<0
  ·simp[hn]at h
  ·simp only[hn,decide_false,oL,oA]at h
   subst h;have hmin:(cond (n.toNat.ble k.bits) n.toNat k.bits)=min n.toNat k.bits:=by
    cases hb:Nat.ble n.toNat k.bits
    ·have:=(jD _ _).1 hb;rw[oL];omega
    ·have:=oE hb;rw[oK];omega
   refine⟨?_,λ_=>by simp[V.In]⟩
   simp[binOp,Op.shift,hn,V.conc,zIH,hmin]
 case quo =>
  subst hs;rw[jF]at h;by_cases hn:n=0
  ·simp[hn]at h
  ·have hb:(n == 0)=false:=by simpa using hn
   simp only[hb,oL,oA]at h;subst h;exact⟨by simp[binOp,Op.intDiv,hn,V.conc,xI,zBp],λ_=>by simp[V.In]⟩
 case rem =>
  subst hs;rw[jF]at h;by_cases hn:n=0
  ·simp[hn]at h
  ·have hb:(n == 0)=false:=by simpa using hn
   simp only[hb,oL,oA]at h;subst h;exact⟨by simp[binOp,Op.intDiv,hn,V.conc,zHk],λ_=>by simp[V.In]⟩
 case and=>subst hs;simp only[Ke,oA]at h;subst h;exact⟨by simp[binOp,Op.intBits,V.conc],λ_=>by simp[V.In]⟩
 case or=>subst hs;simp only[Ke,oA]at h;subst h;exact⟨by simp[binOp,Op.intBits,V.conc],λ_=>by simp[V.In]⟩
 case xor=>subst hs;simp only[Ke,oA]at h;subst h;exact⟨by simp[binOp,Op.intBits,V.conc],λ_=>by simp[V.In]⟩
 case andNot=>subst hs;simp only[Ke,oA]at h;subst h;exact⟨by simp[binOp,Op.intBits,V.conc],λ_=>by simp[V.In]⟩
 case add=>subst hs;simp only[oA]at h;subst h;exact⟨by simp[binOp,Op.intArith,V.conc,xI,KE],λ_=>by simp[V.In]⟩
 case sub=>subst hs;simp only[oA]at h;subst h;exact⟨by simp[binOp,Op.intArith,V.conc,xI,KV],λ_=>by simp[V.In]⟩
 case mul=>subst hs;simp only[oA]at h;subst h;exact⟨by simp[binOp,Op.intArith,V.conc,xI,zHl],λ_=>by simp[V.In]⟩
 case eql=>subst hs;simp only[oA]at h;subst h;exact⟨by simp[binOp,Op.intCmp,V.conc,jF],λ_=>by simp[V.In]⟩
 case neq=>subst hs;simp only[oA]at h;subst h;exact⟨by simp[binOp,Op.intCmp,V.conc,jF,bne],λ_=>by simp[V.In]⟩
 case lss=>subst hs;simp only[oA]at h;subst h;exact⟨by simp[binOp,Op.intCmp,V.conc,yo],λ_=>by simp[V.In]⟩
 case leq=>subst hs;simp only[oA]at h;subst h;exact⟨by simp only[V.conc,yo,OF];simp[binOp,Op.intCmp],λ_=>by simp[V.In]⟩
 case gtr=>subst hs;simp only[oA]at h;subst h;exact⟨by simp[binOp,Op.intCmp,V.conc,yo],λ_=>by simp[V.In]⟩
 case geq=>subst hs;simp only[oA]at h;subst h;exact⟨by simp only[V.conc,yo,OF];simp[binOp,Op.intCmp],λ_=>by simp[V.In]⟩
theorem zIq {op:BinOp}{t:TypeId}{m n:List UInt8}{r:V}(h:zGy op m n=some r) (ρ:Env) :
  (binOp op t (.string ⟨m.toArray⟩) (.string ⟨n.toArray⟩)).run P w = .ok (r.conc ρ) w/\∀D,r.In D:=by
 cases op<;>simp only[zGy]at h<;>try (cases h;done)
 case add =>
  rw[yu,yu]at h;cases hb:Nat.ble (m.length+(n.length+0)) 4611686018427387904
  ·rw[hb]at h;cases h
  ·have hl:=oE hb
   rw[hb,oK,oA]at h;subst h;refine⟨?_,λ_=>by simp[V.In]⟩
   have hsz:¬((((⟨m.toArray⟩:ByteArray).size+(⟨n.toArray⟩:ByteArray).size:Nat):Int) > IntKind.i64.max):=by
    have e1:(⟨m.toArray⟩:ByteArray).size=m.length:=by simp[ByteArray.size]
    have e2:(⟨n.toArray⟩:ByteArray).size=n.length:=by simp[ByteArray.size]
    have e3:IntKind.i64.max=9223372036854775807:=rfl;rw[e1,e2,e3];omega
   have hap:(⟨m.toArray⟩:ByteArray) ++ ⟨n.toArray⟩=⟨(m++n).toArray⟩:=by
    apply ByteArray.ext;rw[ByteArray.data_append];simp
   simp only[binOp,Op.stringOp,if_neg hsz,V.conc,Sem.run_pure,hap]
 case eql=>simp only[oA]at h;subst h;exact⟨by simp[binOp,Op.stringOp,V.conc,qr],λ_=>by simp[V.In]⟩
 case neq=>simp only[oA]at h;subst h;exact⟨by simp[binOp,Op.stringOp,V.conc,qr],λ_=>by simp[V.In]⟩
 case lss=>simp only[oA]at h;subst h;exact⟨by simp[binOp,Op.stringOp,V.conc],λ_=>by simp[V.In]⟩
 case geq=>simp only[oA]at h;subst h;exact⟨by simp[binOp,Op.stringOp,V.conc],λ_=>by simp[V.In]⟩
theorem zAk {op:UnOp}{v r:V}(h:aun op v=some r) (ρ:Env):(Op.unary op (v.conc ρ)).run P w = .ok (r.conc ρ) w/\∀D,r.In D:=by
 unfold aun at h;split at h
 ·simp only[oA]at h;subst h
  exact⟨by simp[Op.unary,Op.intArith,V.conc,xI,KV],λ_=>by simp[V.In]⟩
 ·simp only[Ke,oA]at h;subst h
  exact⟨by simp[Op.unary,Op.intBits,V.conc],λ_=>by simp[V.In]⟩
 ·simp only[oA]at h;subst h
  exact⟨by simp[Op.unary,V.conc],λ_=>by simp[V.In]⟩
 ·cases h
theorem Yx (ρ:Env) (mx:Bool):∀(l:List V) (v r:V),qQ mx v l=some r ->
  (List.foldlM (m:=Sem) (if mx then Builtin.max2 else Builtin.min2) (v.conc ρ) (l.map (V.conc ρ))).run P w = .ok (r.conc ρ) w/\(∀D,v.In D->r.In D):=by
 intro l
 induction l with
 | nil =>
  intro v r h;have:v=r:=by cases v<;>simpa [qQ]using h
  subst this;exact⟨by simp,λ_ h=>h⟩
 | cons x l ih =>
  intro v r h;cases v<;>cases x<;>simp only[qQ]at h<;>try (cases h;done)
  rename_i k a k' b;obtain⟨h1,h2⟩:=ih _ _ h;refine⟨?_,λD _=>h2 D (by simp[V.In])⟩
  cases mx
  ·simp only[oL,yo]at h1
   by_cases hc:b<a
   ·simpa [V.conc,Builtin.min2,hc]using h1
   ·simpa [V.conc,Builtin.min2,hc]using h1
  ·simp only[oK,yo]at h1
   by_cases hc:a<b
   ·simpa [V.conc,Builtin.max2,hc]using h1
   ·simpa [V.conc,Builtin.max2,hc]using h1
end
end Go.Sim
