/- K. No condition. -/
import Derived.Test.YtnpeieeomokomaaGreatZJ
namespace Go.Sim
theorem HR.kill {ρ:Env}{D:Nat->Prop}{h:H}{w:World}(r:HR ρ D h w) {b:Nat}(hd:D b):HR ρ D (h.upd b none) w where
 cap:=r.cap
 lt:=r.lt
 rel:=λid o d g=>by
  rw[H.get_upd _ _ _ _ (oI (r.lt b hd) r.cap)]at g;split at g
  ·cases g
  ·exact r.rel id o d g
 inj:=λi j oi oj di dj gi gj wi hij=>by
  rw[H.get_upd _ _ _ _ (oI (r.lt b hd) r.cap)]at gi gj;split at gi
  ·cases gi
  ·split at gj
   ·cases gj
   ·exact r.inj i j oi oj di dj gi gj wi hij
theorem Mv.kill {ρ:Env}{D:Nat->Prop}{h:H}{w:World}(r:HR ρ D h w) {b:Nat}(hd:D b):Mv ρ D h w ρ (h.upd b none) w where
 next:=oO _
 size:=oO _
 os:=rfl
 tape:=rfl
 output:=rfl
 agree:=Agree.refl _ _
 old:=λid o1 _ g1=>by
  rw[H.get_upd _ _ _ _ (oI (r.lt b hd) r.cap)]at g1;split at g1
  ·cases g1
  ·exact⟨o1,g1,rfl⟩
 img:=λid _ a b _=>by simp only[H.upd_eq]at b;omega
 frame:=λ_ _ _=>rfl
 low:=by rw[H.low_upd];omega
 kept:=λid _ hl=>by
  rw[H.low_upd]at hl;rw[H.get_upd _ _ _ _ (oI (r.lt b hd) r.cap),if_neg (by omega)]
theorem HR.move {ρ:Env}{D:Nat->Prop}{h:H}{w:World}(r:HR ρ D h w) {b:Nat}{o o':O}{x:Obj}(hd:D b) (hg:h.get b=some o) (hw:o.wr=true) (hn:h.next<T.top) (cp:Nat)
  (hx:ORel (ρ.at h.next (ρ.blk b) cp) (Dx D h ((h.upd b none).new o')) h.next o' (some x)) :
  HR (ρ.at h.next (ρ.blk b) cp) (Dx D h ((h.upd b none).new o')) ((h.upd b none).new o') (w.putObj (ρ.blk b) x):=by
 have hnd:¬D h.next:=λhd=>by have:=r.lt _ hd;omega
 have hag:Agree D ρ (ρ.at h.next (ρ.blk b) cp):=Env.at_agree hnd;have hb:b<T.top:=oI (r.lt b hd) r.cap;have hcase:∀id,Dx D h ((h.upd b none).new o') id->id=h.next\/(D id/\id≠h.next):=by
  rintro id (d|d)
  ·exact .inr ⟨d,λe=>hnd (e ▸ d)⟩
  ·simp only[H.new_eq,H.upd_eq]at d;exact .inl (by omega)
 have hget:∀id,((h.upd b none).new o').get id=if id=h.next then some o' else if id=b then none else h.get id:=λid=>by
  rw[H.get_new _ _ _ (by rw[yx];exact hn),yx,H.get_upd _ _ _ _ hb]
 refine⟨by simp only[H.new_eq,H.upd_eq];omega,?_,?_,?_⟩
 ·rintro id d
  rcases hcase id d with e|⟨d,_⟩
  ·simp only[H.new_eq,H.upd_eq];omega
  ·have:=r.lt id d;simp only[H.new_eq,H.upd_eq];omega
 ·rintro id o1 d g1
  rw[hget]at g1;rcases hcase id d with e|⟨d1,e⟩
  ·subst e
   rw[if_pos rfl]at g1;cases g1;rw[Env.at_blk,World.putObj_heap_same (r.lt_size hd hg)];exact hx
  ·rw[if_neg e]at g1
   split at g1
   ·cases g1
   ·rename_i hne
    have hne':ρ.blk id≠ρ.blk b:=λhc=>hne (r.inj b id o o1 hd d1 hg g1 hw hc.symm).symm
    rw[(hag id d1).1,World.putObj_heap_other hne'];exact(r.rel id o1 d1 g1).agree d1 xZ hag
 ·rintro i j oi oj di dj gi gj wi hij
  rw[hget]at gi gj;rcases hcase i di with ei|⟨di,ei⟩<;>rcases hcase j dj with ej|⟨dj,ej⟩
  ·rw[ei,ej]
  ·rw[if_neg ej]at gj
   split at gj
   ·cases gj
   ·rename_i hne
    subst ei;rw[Env.at_blk,(hag j dj).1]at hij;exact absurd (r.inj b j o oj hd dj hg gj hw hij).symm hne
  ·rw[if_neg ei]at gi
   split at gi
   ·cases gi
   ·rename_i hne
    subst ej;rw[Env.at_blk,(hag i di).1]at hij;exact absurd (r.inj i b oi o di hd gi hg wi hij) hne
  ·rw[if_neg ei]at gi;rw[if_neg ej]at gj
   split at gi
   ·cases gi
   ·split at gj
    ·cases gj
    ·rw[(hag i di).1,(hag j dj).1]at hij
     exact r.inj i j oi oj di dj gi gj wi hij
theorem Mv.move {ρ:Env}{D:Nat->Prop}{h:H}{w:World}(r:HR ρ D h w) {b:Nat}{o o':O}{x:Obj}(hd:D b) (hg:h.get b=some o) (hw:o.wr=true) (hw':o'.wr=true) (hn:h.next<T.top) (cp:Nat) :
  Mv ρ D h w (ρ.at h.next (ρ.blk b) cp) ((h.upd b none).new o') (w.putObj (ρ.blk b) x):=by
 have hnd:¬D h.next:=λhd=>by have:=r.lt _ hd;omega
 have hb:b<T.top:=oI (r.lt b hd) r.cap;have hbn:b<h.next:=r.lt b hd;have hget:∀id,((h.upd b none).new o').get id=if id=h.next then some o' else if id=b then none else h.get id:=λid=>by
  rw[H.get_new _ _ _ (by rw[yx];exact hn),yx,H.get_upd _ _ _ _ hb]
 refine⟨by simp[H.new_eq,H.upd_eq],by simp,rfl,rfl,rfl,Env.at_agree hnd,?_,?_,?_,?_,?_⟩
 ·intro id o1 hlt g1
  rw[hget,if_neg (by omega)]at g1;split at g1
  ·cases g1
  ·exact⟨o1,g1,rfl⟩
 ·intro id o1 h0 h1 g1
  simp only[H.new_eq,H.upd_eq]at h1;obtain rfl:id=h.next:=by omega
  rw[hget,if_pos rfl]at g1;cases g1;exact⟨hw',.inr ⟨b,o,hd,hg,hw,by rw[Env.at_blk],by rw[hget,if_neg (by omega),if_pos rfl]⟩⟩
 ·intro k _ hk
  exact World.putObj_heap_other (λe=>hk b o hd hg hw e.symm)
 ·show(h.upd b none).low<=h.low
  rw[H.low_upd];omega
 ·intro id h0 hl
  have hl':id<(h.upd b none).low:=hl;rw[H.low_upd]at hl';rw[hget,if_neg (by omega),if_neg (by omega)]
section
variable {P:Program}{c:Ctx}{ρ:Env}{D:Nat->Prop}{h:H}{w:World}
theorem zJs (r:HR ρ D h w) {esz:Nat}{x:V}{n:Nat}{new:List V}(e:yZ esz h x=some (n,new)) (hx:x.In D) (h1:zU new=true) {tx:TypeId}
  (hk:(∃e',P.underlying tx=some (.slice e'))\/P.underlying tx=some .string) :
  Src P esz tx (x.conc ρ) n (new.map (V.conc ρ)) w/\(∀v∈new,v.In D)/\new.length=n*esz:=by
 have hone:∀u∈new.map (V.conc ρ),u.oneCell'=true:=λu hu=>by
  obtain⟨v,hv,rfl⟩:=List.mem_map.1 hu;exact V.one_conc ρ (jC.1 h1 v hv)
 unfold yZ at e;split at e
 ·simp only[oA,oB]at e;obtain⟨rfl,rfl⟩:=e
  refine⟨⟨hk,λ_=>by simp[V.conc,Builtin.lenOf],by simp[V.conc,Builtin.firstCells],by simp[V.conc,Builtin.firstCells],by simp,λ_ hu=>by simp at hu⟩,λ_ hv=>by simp at hv,by simp⟩
 ·rename_i l
  cases hb:Nat.beq esz 1 with
  | false=>simp[hb]at e
  | true =>
   have h1':=oF hb;simp only[hb,oK,oA,oB]at e;obtain⟨rfl,rfl⟩:=e;subst h1';have hbc:(yG l).map (V.conc ρ)=byteCells ⟨l.toArray⟩:=by
    simp[yX,byteCells,V.conc]
   have hsz:(⟨l.toArray⟩:ByteArray).size=qP l 0:=by rw[jO,yu];rfl
   refine⟨⟨hk,λ_=>by simp[V.conc,Builtin.lenOf,hsz],?_,?_,?_,hone⟩,jc l,?_⟩
   ·rw[hbc,V.conc,<-hsz];exact firstCells_string _ _
   ·rw[hbc,V.conc,<-hsz];exact firstCells_string _ _
   ·rw[od,yX,od,yu];omega
   ·rw[yX,od,yu];omega
 ·rename_i b o len cp
  simp only[V.In]at hx;split at e
  ·rename_i l esz' wr op hg
   split at e
   ·rename_i y hy
    simp only[oA,oB]at e;obtain⟨rfl,rfl⟩:=e;obtain⟨p1,p2,p3⟩:=wR (P:=P) r hx hg hy;obtain⟨q1,_,_⟩:=wR (P:=P) (w:=w.drew) (r.of_heap rfl) hx hg hy;exact⟨⟨hk,λ_=>rfl,p1,q1,by rw[od,p3],hone⟩,p2,p3⟩
   ·cases e
  ·cases e
 ·cases e
theorem zJL (n:Nat):∀(k c:Nat),c<=n->Builtin.growBy n k c<=2*n+200:=by
 intro k
 induction k with
 | zero=>intro c hc;simp only[Builtin.growBy];omega
 | succ k ih =>
  intro c hc;simp only[Builtin.growBy];split
  ·omega
  ·by_cases h:c+(c+768)/4<=n
   ·exact ih _ h
   ·have:∀k c,n<=c->Builtin.growBy n k c=c:=by
     intro k;cases k with
     | zero=>intro c _;rfl
     | succ k=>intro c hc;simp only[Builtin.growBy];rw[if_pos hc]
    rw[this _ _ (by omega)];omega
theorem zGS (need old:Nat) (h:old<need):Builtin.nextslicecap need old<=2*need+200:=by
 unfold Builtin.nextslicecap;split
 ·omega
 ·split
  ·omega
  ·exact zJL need 4 old (by omega)
theorem Oo {te:TI}(h:kc te=true):0<te.size/\0<te.bytes/\∃z,te.zero=some z/\z.cells.length=te.size:=by
 unfold kc at h;simp only[oG]at h;obtain⟨⟨h1,h2⟩,h3⟩:=h;refine⟨(z8 _ _).1 h1,(z8 _ _).1 h2,?_⟩;split at h3
 ·rename_i z hz;exact⟨z,hz,yO.1 h3⟩
 ·cases h3
structure SrcR (P:Program) (t tx ty el:TypeId) (i:TypeInfo) (x:Value) (n:Nat) (news:List Value) (w:World):Prop where
 room:∀(b off sLen sCap:Nat),sLen+n<=sCap->(∀j,j<news.length->(w.cell? ⟨b,off+sLen*i.size+j,none⟩).isSome=true)->(∀j,j<news.length->w.frozen? ⟨b,off+sLen*i.size+j,none⟩=false) ->
  (Builtin.append_ #[t,tx] ty #[.slice (some ⟨b,off,none⟩) sLen sCap,x]).run P w = .ok (.slice (some ⟨b,off,none⟩) (sLen+n) sCap) (w.setCells b (off+sLen*i.size) news)
 grow:∀(z:Value),i.zero=some z->∀(base:Option Addr) (sLen sCap:Nat) (olds:List Value),(Builtin.firstCells i.size sLen (.slice base sLen sCap)).run P w.drew = .ok olds.toArray w.drew->sCap<sLen+n->((sLen+n:Nat):Int)<=9223372036854775807->Builtin.nextslicecap (sLen+n) sCap*i.bytes<=281474976710656 ->
  (Builtin.append_ #[t,tx] ty #[.slice base sLen sCap,x]).run P w =
   .ok (.slice (some ⟨w.heap.size,0,none⟩) (sLen+n) (grownCap w (sLen+n) sCap el))
    (w.drew.alloc (.cells ((olds++news).toArray++Builtin.zeroCells z.cells (grownCap w (sLen+n) sCap el-(sLen+n))) el))
 none:n=0->∀(base:Option Addr) (sLen sCap:Nat),sLen<=sCap->(Builtin.append_ #[t,tx] ty #[.slice base sLen sCap,x]).run P w = .ok (.slice base sLen sCap) w
theorem SrcR.of {t tx ty el:TypeId}{i:TypeInfo}(ht:P.underlying t=some (.slice el)) (hi:P.info? el=some i) {x:Value}{n:Nat}{news:List Value}(hs:Src P i.size tx x n news w):SrcR P t tx ty el i x n news w:=by
 refine⟨λb off sLen sCap hroom hc hf=>run_append_room_src w t tx ty el i ht hi b off sLen sCap x n news hs hroom hc hf,λz hz base sLen sCap olds hold hg h63 hfit=>run_append_grow_src w t tx ty el i z ht hi hz base sLen sCap olds hold x n news hs hg h63 hfit,λh0 base sLen sCap hle=>?_⟩
 subst h0;have hn:news=[]:=List.eq_nil_of_length_eq_zero (by rw[hs.newsLen,Nat.zero_mul]);subst hn;have hc:=hs.cells;rcases hs.kind with⟨e',hk⟩|hk <;>
  (cases base<;>simp[Builtin.append_,underlying,ht,hk,sizeOf,typeInfo,hi,hs.len,hc,hle,storeCells])
theorem SrcR.zeros {t tx ty el:TypeId}{i:TypeInfo}{ki:IntKind}(ht:P.underlying t=some (.slice el)) (hi:P.info? el=some i) (hk:P.underlying tx=some (.int ki)) {k:Nat}{z u:Value}(hz:i.zero=some z) (hzc:z.cells = #[u]) (h1:i.size=1) (hu:0<k->u.oneCell'=true) (hb:k*i.bytes<=1099511627776) (hkb:k<=1099511627776) :
  SrcR P t tx ty el i (.int .i64 (k:Int)) k (List.replicate k u) w:=by
 have hw:IntKind.i64.wrap (k:Int)=(k:Int):=by
  simp only[IntKind.wrap,IntKind.bits,IntKind.signed];simp;omega
 have hbi:¬(281474976710656<(k:Int)*(i.bytes:Int)):=by
  have:((k*i.bytes:Nat):Int)<=1099511627776:=by omega
  rw[Int.natCast_mul]at this;omega
 have hzs:Builtin.zeroCells #[u] k=(List.replicate k u).toArray:=by
  apply Array.ext
  ·simp[Builtin.zeroCells]
  ·intro j h1 h2
   simp[Builtin.zeroCells,Nat.mod_one]
 have hneg:¬((k:Int)<0):=by omega
 have hai:∀w:World,(asInt (.int .i64 (k:Int))).run P w = .ok (k:Int) w:=λw=>by simp[asInt,asIntOf]
 have hone:∀v∈List.replicate k u,v.oneCell'=true:=λv hv=>by rw[List.eq_of_mem_replicate hv];exact hu (Nat.pos_of_ne_zero (List.mem_replicate.1 hv).1)
 have happ:∀w:World,((if k*i.size=0 then pure #[] else do pure (Builtin.zeroCells (<-zeroValue el).cells k):Sem (Array Value))).run P w = .ok (List.replicate k u).toArray w:=λw=>by
  rcases Nat.eq_zero_or_pos k with h0|h0
  ·subst h0;simp
  ·have h0':¬k=0:=by omega
   simp[h1,h0',zeroValue,typeInfo,hi,hz,hzc,hzs]
 refine⟨λb off sLen sCap hroom hc hf=>?_,λz' hz' base sLen sCap olds hold hg h63 hfit=>?_,λh0 base sLen sCap hle=>?_⟩
 ·have hst:=run_storeCells_cells (P:=P) b (off+sLen*i.size) (List.replicate k u) 0 w (by simpa using hc) (by simpa using hf) hone
  simp only[Nat.add_zero]at hst;rw[h1]at hst happ;simp[Builtin.append_,run_underlying ht,run_underlying hk,sizeOf,typeInfo,hi,h1,hai,hw,hneg,hbi,hroom,Addr.add_lit];simp only[Nat.mul_one]at hst;have hzv:∀w:World,(zeroValue el).run P w = .ok z w:=λw=>by simp[zeroValue,typeInfo,hi,hz]
  split
  ·rename_i h0;subst h0;rw[List.replicate_zero]at hst;rw[hst];simp
  ·simp only[hzv,Result.andThen,hzc,hzs,hst]
 ·rw[hz]at hz'
  cases hz';have hn:¬(sLen+k<=sCap):=by omega
  have h63':¬(9223372036854775807<((sLen:Int)+(k:Int))):=by omega
  have h48':¬(281474976710656<Builtin.nextslicecap (sLen+k) sCap*i.bytes):=by omega
  rw[h1]at happ hold;simp[Builtin.append_,run_underlying ht,run_underlying hk,sizeOf,typeInfo,zeroValue,hi,hz,hzc,h1,hai,hw,hneg,hbi,hn,h63',h48',Question.forced,hold,newRow,grownCap];split
  ·rename_i h0;subst h0;simp
  ·simp only[hzs]
   simp
   congr 2
   apply Array.ext';simp[List.append_assoc]
 ·subst h0
  cases base<;>simp[Builtin.append_,run_underlying ht,run_underlying hk,sizeOf,typeInfo,hi,h1,asInt,asIntOf,show IntKind.i64.wrap 0=0 from rfl,hle,storeCells]
theorem YG {h0:H}(hr0:HR ρ D h0 w) (hmv:Mv ρ D h w ρ h0 w) (hDn:h0.next=h.next) (hlt:∀id,D id->id<h.next)
  {t tx ty:TypeId}{el:Nat}{te:TI}{i2:TypeInfo}(k2:TyOK P el te i2) (ht:P.underlying t=some (.slice el)) (hok:kc te=true)
  {base:Option Addr}{len cap n:Nat}{x:Value}{old new:List V}{v:V}{h':H}{kr:Rk}(hkn:kr.n=te.size) (hkt:∀u,kr.ty=u+1->el=u)
  {rc:Option Cs}(hrc:∀cs,rc=some cs->cs.len=(old++new).length/\∀i,cs.get? i=(old++new)[i]?) (e:jS kr te h0 rc (len+n)=some (v,h')) (hold:∀u∈old,u.In D) (hnew:∀u∈new,u.In D) (hol:old.length=len*te.size) (hnl:new.length=n*te.size)
  (hfirst:(Builtin.firstCells te.size len (.slice base len cap)).run P w.drew = .ok (old.map (V.conc ρ)).toArray w.drew)
  (hs:SrcR P t tx ty el i2 x n (new.map (V.conc ρ)) w) (hg:cap<len+n) :
  Post ρ D h w ((Builtin.append_ #[t,tx] ty #[.slice base len cap,x]).run P w) v h':=by
 obtain⟨ts,tb,z,hz,hzl⟩:=Oo hok;obtain⟨zv,hz1,hz2⟩:=k2.zero z hz;obtain⟨hzc,hzi⟩:=Z3 hz2;unfold jS at e;cases hb:Nat.ble ((len+n)*te.bytes) 1099511627776 with
 | false=>simp[hb]at e
 | true =>
  simp only[hb,oK]at e;have hbytes:=oE hb;split at e
  ·rename_i b' h1 hn
   simp only[oA,oB]at e;obtain⟨rfl,rfl⟩:=e;obtain⟨g1,ccs,g2,rfl,rfl⟩:=Yy hn;obtain⟨cl,cg⟩:=hrc ccs g2;have hneed:len+n<=(len+n)*te.bytes:=Nat.le_mul_of_pos_right _ tb;have hcapb:Builtin.nextslicecap (len+n) cap*i2.bytes<=281474976710656:=by
    rw[k2.bytes];have h1:=zGS (len+n) cap hg;have h2:Builtin.nextslicecap (len+n) cap*te.bytes<=(2*(len+n)+200)*te.bytes:=Nat.mul_le_mul_right _ h1;have h3:(2*(len+n)+200)*te.bytes=2*((len+n)*te.bytes)+200*te.bytes:=by rw[Nat.add_mul,Nat.mul_assoc]
    have h4:te.bytes<=(len+n)*te.bytes:=Nat.le_mul_of_pos_left _ (by omega);omega
   have hrun:=hs.grow zv hz1 base len cap (old.map (V.conc ρ)) (by rw[k2.size];exact hfirst) hg (by omega) hcapb;have hge:=grownCap_ge w (len+n) cap el;generalize grownCap w (len+n) cap el=cp at hrun hge;have hzv:zv.cells=(z.cells.map (V.conc ρ)).toArray:=by rw[<-hzc ρ,V.cells_conc]
   have hzsz:(Builtin.zeroCells zv.cells (cp-(len+n))).size=(cp-(len+n))*te.size:=by
    simp[Builtin.zeroCells,hzv,hzl]
   let cs:Array Value:=((old.map (V.conc ρ))++(new.map (V.conc ρ))).toArray++Builtin.zeroCells zv.cells (cp-(len+n))
   have hcs:cs.size=cp*te.size:=by
    simp only[cs,Array.size_append,List.size_toArray,oR,od,hol,hnl,hzsz];rw[<-Nat.add_mul,<-Nat.add_mul];congr 1;omega
   have hrd:HR ρ D h0 w.drew:=hr0.of_heap rfl;obtain⟨a1,a2⟩:=KP hrd g1 (l:=ccs) (esz:=kr) (op:=true) (λi u hu=>(List.mem_append.1 (List.mem_of_getElem? (by rw[<-cg];exact hu))).elim (hold u) (hnew u)) cs el (0,0) cp
    (λi u hu=>by
     rw[cg]at hu;have hi:i<(old++new).length:=(List.getElem?_eq_some_iff.1 hu).1;simp only[cs];rw[Array.getElem?_append_left (by simpa using hi),List.getElem?_toArray,<-List.map_append,oU,hu];rfl)
    (λi _ _=>by simp) (by rw[hcs,cl,oR,hol,hnl,<-Nat.add_mul];exact Nat.mul_le_mul_right _ hge) (by rw[hcs];simp[hkn]) (λu hu=>⟨hkt u hu,.inl rfl⟩)
   have hDx:Dx D h (h0.new (.cells ccs kr true true))=Dx D h0 (h0.new (.cells ccs kr true true)):=by
    unfold Dx;rw[hDn]
   refine⟨_,_,?_,Mv.trans hlt hmv (by rw[wa hDn];exact Mv.trans hr0.lt (Mv.of_heap (w':=w.drew) rfl rfl rfl rfl) (by rw[zk];exact a2)),by rw[hDx];exact a1,by rw[hDx];simp only[V.In];exact zB1⟩;rw[hrun];simp only[V.conc,Cap.val,Env.at_blk,Env.at_off,Env.at_cap,Nat.sub_zero,World.size_drew];rfl
  ·cases e
end
end Go.Sim
