/- TM. No condition. -/
import Derived.Test.YtnpeieeomokomaaGreatYTL
import Derived.Shelf.Lays
import Derived.Shelf.Sort.Plain
import Derived.Lib.SortBridge
set_option maxRecDepth 100000
set_option maxHeartbeats 2000000
namespace Go.Proofs.YtnpeieeomokomaaGreat
open Go.Sim
variable {h:H}{Q:V->H->Prop}
variable{l sp w:List Int}{xs:List V}{m n p:Nat}{row:Nat->List Int}{v:V}{k:V->H->Prop}
theorem z1y(hk:k (.bool false) h):qk zA 4 k (.bool false) h:=⟨false,rfl,λg=>(by cases g),λ_=>hk⟩
def Cov(l w:List Int):Prop:=∀x∈w,∃i:Nat,x=(i:Int)/\∃y,l[i]? = some y/\y≠0
theorem zR9{i:Nat}{y:Int}(hp:zK zA 23 h (.ptr p 1)=some v)(sl:Sl h v 1 l.length (zJ l))(_:l.length<=1000)(hy:l[i]? = some y)(hy0:y≠0)(hq:Q (.bool false) h):RF P zA 292 [.int .i64 i,.ptr p 0] h Q:=by
 have hi:i<l.length:=(List.getElem?_eq_some_iff.1 hy).1;refine yK z1N rfl rfl z3W ⟨λc=>by omega,λ_=>?_⟩
 rw[xo];refine⟨v,hp,_,sl.len zP rfl,λc=>by omega,λ_=>?_⟩
 rw[xo];obtain⟨b,o,e1,e2⟩:=yj sl hi;refine⟨v,hp,b,o,e1,_,e2,λc=>absurd c ?_,λ_=>hq⟩
 rw[oO hi]at hy;cases hy;exact hy0
theorem zK8{p:Nat}{v u:V}{l w:List Int}(hp:zK zA 23 h (.ptr p 1)=some v)(sl:Sl h v 1 l.length (zJ l))(hl:l.length<=1000)(su:Sl h u 1 w.length (zJ w))(hw:w.length<=1000)(cv:Cov l w)(hq:Q (.int .i64 (-1)) h):RF P zA 311 [u,.func (.func 292) [] [.ptr p 0]] h Q:=by
 refine yK z10 rfl rfl z39 ⟨_,su.len zP rfl,Has.nil.on λtm hs=>?_⟩
 refine wpC.round (λk tm h'=>∃i:Nat,i<=w.length/\k=w.length-i/\h'=h/\Has tm [(8,.int .i64 i),(7,.int .i64 w.length),(1,.func (.func 292) [] [.ptr p 0]),(0,u)]) w.length ⟨0,by omega,by omega,rfl,hs.sub (by kernel_rfl)⟩ ?_
 clear hs;rintro k tm h' ⟨i,h1,rfl,rfl,hs⟩;refine wpC.av hs zT0 rfl rfl ⟨λc=>?_,λc=>hs.on λtm' hs'=>?_⟩
 ·have hi:i<w.length:=by omega
  obtain⟨b,o,e1,e2⟩:=yj su hi;obtain⟨j,ej,y,hy,hy0⟩:=cv w[i] (oS hi);refine⟨b,o,e1,_,e2,?_⟩;show RF P zA 292 [.int .i64 w[i],.ptr p 0] h' _;rw[ej];refine zR9 hp sl hl hy hy0 ?_;refine z1y (hs.on λtm' hs'=>⟨rfl,rfl,w.length-(i+1),by omega,i+1,by omega,rfl,rfl,?_⟩)
  rw[<-yQ (by omega)];exact hs'.sub (by kernel_rfl)
 ·refine thenC.left (wpS.av hs' zUj rfl rfl (hs'.on λtm2 hs2=>?_))
  exact endW.r1 (hs2.get rfl) hq
theorem zEk{u:V}(hp:zK zA 23 h (.ptr p 1)=some v)(sl:Sl h v 1 l.length (zJ l))(hl:l.length<=1000)(su:Sl h u 1 w.length (zJ w))(hw:w.length<=1000)(cv:Cov l w)(hq:Q (.bool false) h):RF P zA 291 [u,.func (.func 292) [] [.ptr p 0]] h Q :=
 yK z1M rfl rfl z3V (zK8 hp sl hl su hw cv ⟨_,rfl,λc=>absurd c (by decide),λ_=>hq⟩)
theorem zHP{u:V}{log:Nat}(sl:Sl h v 1 l.length (zJ l))(hl:l.length<=1000)(su:Sl h u 1 w.length (zJ w))(hw:w.length<=1000)(cv:Cov l w)(hn:h.nx<T.top)(hq:∀h',Ext h h' 1->Q (.bool true) h'):RF P zA 247 [.agg [.int .i64 log,v],u] h Q:=by
 refine yK z0m rfl rfl z2v (yy sl ⟨hn,?_⟩);rintro p0 h1 rfl e1;have w1:=(Vw.nil (S:=zS) (h:=h)).new e1 (by omega);have x1:=w1.ex0;exact zEk (w1.ld1 0 rfl zP rfl rfl) (sl.ext x1) hl (su.ext x1) hw cv ⟨false,rfl,λc=>(by cases c),λ_=>hq _ x1⟩
theorem zFL{u:V}{log:Nat}(sl:Sl h v 1 l.length (zJ l))(g:GD log l)(su:Sl h u 1 w.length (zJ w))(hw:w.length<=1000)(h2:2<=w.length)(cv:Cov l w)(hn:h.nx+2<=T.top)(hq:∀h',Ext h h' 2->Q (.int .i64 0) h'):RF P zA 176 [.agg [.int .i64 log,v],u,.int .i64 (2:Nat)] h Q:=by
 have hlen:=g.len;refine yK z0V rfl rfl z24 (yy sl ⟨by omega,?_⟩);rintro p0 h1 rfl e1;have w1:=(Vw.nil (S:=zS) (h:=h)).new e1 (by omega);have x1:=w1.ex0;have t1:=w1.top;have n1:h1.nx=h.nx+1:=by rw[e1,zH]
 have ee:zK zA 59 h1 (.ptr h.nx 0)=some (.agg [.int .i64 log,v]):=w1.ldA 0 rfl yv rfl rfl;refine⟨_,_,ee,wM (sl.ext x1) g ⟨_,rfl,λc=>absurd rfl c,λ_=>⟨_,(su.ext x1).len zP rfl,λc=>by omega,λ_=>⟨_,(su.ext x1).len zP rfl,λc=>by omega,λ_=>⟨_,_,ee,zHP (sl.ext x1) (by omega) (su.ext x1) hw cv (by omega) λh' x'=>⟨true,rfl,λ_=>hq h' (x1.trans x'),λc=>(by cases c)⟩⟩⟩⟩⟩⟩
theorem zK0{w:List Int}{u:V}{lp pc:Nat}(I:Nat->H->Prop)(hw:w.length<=1000)(h0:I 0 h)(hpc:zK zA 23 h (.ptr pc 0)=some u)(hpc':∀i h',I i h'->zK zA 23 h' (.ptr pc 0)=some u)(hsl:∀i h',I i h'->Sl h' u 1 w.length (zJ w))(hstep:∀i h' (hi:i<w.length),I i h'->RR P lp [.int .i64 (w.length-1-i:Nat),.int .i64 w[w.length-1-i]] h' λr h2=>r = .bool true/\I (i+1) h2)(hq:∀h',I w.length h'->Q (.tuple []) h'):RF P zA 293 [.yield lp,.ptr pc 0] h Q:=by
 refine yK z1O rfl rfl z3X ⟨u,hpc,_,(hsl 0 h h0).len zP rfl,Has.nil.on λtm hs=>?_⟩
 refine wpC.round (λk tm h'=>∃i:Nat,i<=w.length/\k=w.length-i/\I i h'/\Has tm [(3,.int .i64 ((w.length:Int)-1-i)),(0,.yield lp),(1,.ptr pc 0)]) w.length ⟨0,by omega,by omega,h0,?_⟩ ?_
 ·have:zG ((w.length:Int)-1)=(w.length:Int)-1-(0:Nat):=by rw[zD (by omega) (by omega)];omega
  rw[<-this];exact hs.sub (by kernel_rfl)
 clear hs;rintro k tm h' ⟨i,h1,rfl,ii,hs⟩;refine wpC.av hs zTV rfl rfl ⟨λc=>?_,λc=>hs.on λtm' hs'=>?_⟩
 ·have hi:i<w.length:=by omega
  have ei:(w.length:Int)-1-i=((w.length-1-i:Nat):Int):=by omega
  obtain⟨b,o,e1,e2⟩:=yj (i:=w.length-1-i) (hsl i h' ii) (by omega);refine⟨u,hpc' i h' ii,b,o,by rw[ei];exact e1,_,e2,?_⟩;show RR P lp [.int .i64 ((w.length:Int)-1-i),.int .i64 w[w.length-1-i]] h' _;rw[ei];refine RR.mono (hstep i h' hi ii) ?_;rintro r h2 ⟨rfl,i2⟩;refine zGH (Xu (hs.on λtm' hs'=>⟨rfl,rfl,w.length-(i+1),by omega,i+1,by omega,rfl,i2,?_⟩))
  have:zG (((w.length-1-i:Nat):Int)-1)=(w.length:Int)-1-(i+1:Nat):=by rw[zD (by omega) (by omega)];omega
  rw[<-this];exact hs'.sub (by kernel_rfl)
 ·have hi:i=w.length:=by omega
  subst hi;show endW zA ⟨19,[],zKR⟩ Q (ze 0 (.exit 0)) _;rw[xG];exact hq h' ii
open Go.Shelf Go.Sort Go.RowKit
set_option maxRecDepth 100000
def zF0:Go.Shelf.Ren:=⟨λ|189=>315|125=>316|257=>327|128=>328|129=>329|294=>339|295=>340|296=>341|297=>342|298=>343|299=>344|216=>326|300=>345|301=>346|328=>348|329=>349|330=>350|331=>351|332=>352|215=>338|343=>361|n=>n,λ|28=>23|3=>3|46=>72|0=>0|51=>243|53=>127|4=>4|183=>392|182=>391|131=>192|5=>5|9=>9|218=>397|222=>401|228=>408|229=>132|n=>n,λn=>n⟩
theorem zRy:Lays.n189 Tryz.prog zF0 where
 mixed:=by kernel_rfl
 f125:=Tryz.func316.trans (congrArg some (by kernel_rfl))
 f128:=Tryz.func328.trans (congrArg some (by kernel_rfl))
 f129:=Tryz.func329.trans (congrArg some (by kernel_rfl))
 f189:=Tryz.func315.trans (congrArg some (by kernel_rfl))
 f215:=Tryz.func338.trans (congrArg some (by kernel_rfl))
 f216:=Tryz.func326.trans (congrArg some (by kernel_rfl))
 f257:=Tryz.func327.trans (congrArg some (by kernel_rfl))
 f294:=Tryz.func339.trans (congrArg some (by kernel_rfl))
 f295:=Tryz.func340.trans (congrArg some (by kernel_rfl))
 f296:=Tryz.func341.trans (congrArg some (by kernel_rfl))
 f297:=Tryz.func342.trans (congrArg some (by kernel_rfl))
 f298:=Tryz.func343.trans (congrArg some (by kernel_rfl))
 f299:=Tryz.func344.trans (congrArg some (by kernel_rfl))
 f300:=Tryz.func345.trans (congrArg some (by kernel_rfl))
 f301:=Tryz.func346.trans (congrArg some (by kernel_rfl))
 f328:=Tryz.func348.trans (congrArg some (by kernel_rfl))
 f329:=Tryz.func349.trans (congrArg some (by kernel_rfl))
 f330:=Tryz.func350.trans (congrArg some (by kernel_rfl))
 f331:=Tryz.func351.trans (congrArg some (by kernel_rfl))
 f332:=Tryz.func352.trans (congrArg some (by kernel_rfl))
 f343:=Tryz.func361.trans (congrArg some (by kernel_rfl))
 t0:=Tryz.underlying0
 a0:=Tryz.isAgg0
 z0:=Tryz.sizeOf0
 v0:=Tryz.zeroValue0
 t3:=Tryz.underlying3
 a3:=Tryz.isAgg3
 z3:=Tryz.sizeOf3
 v3:=Tryz.zeroValue3
 t4:=Tryz.underlying4
 a4:=Tryz.isAgg4
 z4:=Tryz.sizeOf4
 v4:=Tryz.zeroValue4
 t5:=Tryz.underlying5
 a5:=Tryz.isAgg5
 z5:=Tryz.sizeOf5
 v5:=Tryz.zeroValue5
 t9:=Tryz.underlying9
 a9:=Tryz.isAgg9
 z9:=Tryz.sizeOf9
 v9:=Tryz.zeroValue9
 t28:=Tryz.underlying23
 a28:=Tryz.isAgg23
 z28:=Tryz.sizeOf23
 v28:=Tryz.zeroValue23
 t46:=Tryz.underlying72
 a46:=Tryz.isAgg72
 z46:=Tryz.sizeOf72
 v46:=Tryz.zeroValue72
 t51:=Tryz.underlying243
 a51:=Tryz.isAgg243
 z51:=Tryz.sizeOf243
 v51:=Tryz.zeroValue243
 t53:=Tryz.underlying127
 a53:=Tryz.isAgg127
 z53:=Tryz.sizeOf127
 v53:=Tryz.zeroValue127
 t131:=Tryz.underlying192
 a131:=Tryz.isAgg192
 z131:=Tryz.sizeOf192
 v131:=Tryz.zeroValue192
 t182:=Tryz.underlying391
 a182:=Tryz.isAgg391
 z182:=Tryz.sizeOf391
 v182:=Tryz.zeroValue391
 t183:=Tryz.underlying392
 a183:=Tryz.isAgg392
 z183:=Tryz.sizeOf392
 v183:=Tryz.zeroValue392
 t218:=Tryz.underlying397
 a218:=Tryz.isAgg397
 z218:=Tryz.sizeOf397
 v218:=Tryz.zeroValue397
 t222:=Tryz.underlying401
 a222:=Tryz.isAgg401
 z222:=Tryz.sizeOf401
 v222:=Tryz.zeroValue401
 t228:=Tryz.underlying408
 a228:=Tryz.isAgg408
 z228:=Tryz.sizeOf408
 v228:=Tryz.zeroValue408
 t229:=Tryz.underlying132
 a229:=Tryz.isAgg132
 z229:=Tryz.sizeOf132
 v229:=Tryz.zeroValue132
open Go.Sim Go Go.Sort
theorem _root_.Go.Sim.HR.grown{ρ:Env}{D:Nat->Prop}{w:World}(r:HR ρ D h w)(q:Nat)(os:Array Obj):HR ρ D h (grow (w.drewN q) os) where
 cap:=r.cap
 lt:=r.lt
 rel:=λid o d g=>by
  rw[heap_grow_old _ _ (show ρ.blk id<(w.drewN q).heap.size from r.lt_size d g)];exact r.rel id o d g
 inj:=r.inj
theorem _root_.Go.Sim.Mv.grown{ρ ρ':Env}{D:Nat->Prop}{h h':H}{w w':World}(m:Mv ρ D h w ρ' h' w')(q:Nat)(os:Array Obj):Mv ρ D h w ρ' h' (grow (w'.drewN q) os) where
 nx:=m.nx
 size:=by rw[size_grow];exact oQ m.size (Nat.le_add_right _ _)
 os:=m.os
 tape:=m.tape
 output:=m.output
 agree:=m.agree
 old:=m.old
 img:=m.img
 frame:=λk hk hf=>by
  rw[heap_grow_old _ _ (show k<(w'.drewN q).heap.size from oI hk m.size)];exact m.frame k hk hf
 low:=m.low
 kept:=m.kept
theorem z1m(ρ:Env)(l:List Int):(zJ l).map (V.conc ρ)=l.map (Value.int .i64):=by
 unfold zJ;rw[List.map_map];rfl
def zVJ(P:Program)(f:Nat)(zs ys:List Int):Prop:=∀(blk off cap:Nat) (w:World),Holds (Value.int .i64) w blk off zs.toArray->blk<w.heap.size ->
 Calls P f #[.slice (some ⟨blk,off,none⟩) zs.length cap] w λe w'=>e = .returned (.tuple #[])/\∃n os,w'=grow (putRow (Value.int .i64) (Sort.ahead w n) blk off ys.toArray) os
theorem _root_.Go.Sim.SimF.of_sort{P:Program}{f b:Nat}{l l':Cs}{esz:Rk}{op:Bool}{c:Cap}{zs ys:List Int}(hc:zVJ P f zs ys)(hlen:ys.length=zs.length)(hg:h.get b=some (.cells l esz true op))(hz:∀i,i<zs.length->l.get? i=(zJ zs)[i]?)(hp:l.put 0 (zJ ys)=some l')(hf:esz.fz=0):SimF P f [.slice b 0 zs.length c] h (.ret (.tuple []) (h.upd b (some (.cells l' esz true op)))):=by
 intro ρ D w r hin;have hd:D b:=by simpa [V.InL,V.In]using hin
 have hal:zL (zJ ys)=true:=ye.2 λv hv=>by
  obtain⟨x,_,rfl⟩:=List.mem_map.1 hv;rfl
 have hin':∀v∈zJ ys,v.In D:=λv hv=>by
  obtain⟨x,_,rfl⟩:=List.mem_map.1 hv;trivial
 have hly:(zJ ys).length=zs.length:=by rw[zJ,ol,hlen]
 obtain⟨_,_,_,_,s5⟩:=jp (P:=P) r hd hg hin' hal hp (by omega);rw[hly]at s5;rw[Nat.add_zero]at s5;have hH:Holds (Value.int .i64) w (ρ.blk b) (ρ.off b) zs.toArray:=λj hj=>by
  have hj:j<zs.length:=by simpa using hj
  have e:l.get? j=some (.int .i64 zs[j]):=by rw[hz j hj,zJ,oW,oO hj];rfl
  have:=zF4 r hd hg e;refine⟨?_,s5 j hj⟩;rw[this.1];simp[V.conc,hj]
 refine callsIn_wide.2 ((hc (ρ.blk b) (ρ.off b) (c.val ρ b) w hH (r.lt_size hd hg)).mono ?_);rintro x w' ⟨rfl,q,os,rfl⟩;rw[Lib.sorted_world _ w (ρ.blk b) (ρ.off b) q _ _ os hH (by simpa using hlen)];have r2:HR ρ D h (w.drewN q):=⟨r.cap,r.lt,r.rel,r.inj⟩;obtain⟨_,s2,s3,_,_⟩:=jp (P:=P) r2 hd hg hin' hal hp (by omega);rw[Nat.add_zero,z1m]at s2 s3;have s4:Mv ρ D h w ρ (h.upd b (some (.cells l' esz true op))) ((w.drewN q).setCells (ρ.blk b) (ρ.off b) (ys.map (Value.int .i64))) :=
  ⟨s3.nx,s3.size,s3.os,s3.tape,s3.output,s3.agree,s3.old,s3.img,s3.frame,s3.low,s3.kept⟩
 refine⟨ρ,rfl,s4.grown 0 os,?_,trivial⟩;have:Dx D h (h.upd b (some (.cells l' esz true op)))=D:=by
  funext id
  simp only[Dx,eq_iff_iff];constructor
  ·rintro(d|⟨d1,d2⟩)
   ·exact d
   ·have:(h.upd b (some (.cells l' esz true op))).nx=h.nx:=rfl
    omega
  ·exact .inl
 rw[this];exact s2.grown 0 os
theorem z2A(zs:List Int)(hz:zs.length<4611686018427387904):zVJ P 315 zs (zs.mergeSort λx y=>decide (x<=y)):=λblk off cap w hH hb=>Any.slices_Sort_int zRy blk off cap zs w hH hb hz
def zb(sp:List Int)(k s:Nat):List Int:=((List.range k).filter λi=>decide (sp[i]? = some (s:Int))).map Int.ofNat
theorem kV(sp:List Int)(k s:Nat):(zb sp k s).length<=k:=by
 unfold zb;rw[ol];refine oQ (List.length_filter_le _ _) ?_;rw[List.length_range];exact oP _
theorem kL(sp:List Int)(k s:Nat):zb sp (k+1) s=zb sp k s++if sp[k]? = some (s:Int) then [(k:Int)] else []:=by
 unfold zb;rw[List.range_succ,List.filter_append,List.map_append]
 congr 1
 by_cases h:sp[k]? = some (s:Int)
 ·rw[if_pos h];simp[h]
 ·rw[if_neg h];simp[h]
theorem zFG{k s:Nat}{x:Int}:x∈zb sp k s↔∃i:Nat,x=i/\i<k/\sp[i]? = some (s:Int):=by
 unfold zb;simp only[List.mem_map,List.mem_filter,List.mem_range,decide_eq_true_eq];exact⟨λ⟨i,⟨a,b⟩,e⟩=>⟨i,e.symm,a,b⟩,λ⟨i,e,a,b⟩=>⟨i,⟨a,b⟩,e.symm⟩⟩
def ETab(h:H)(v:V)(m:Nat)(row:Nat->List Int):Prop:=∃vs,Sl h v 1 m vs/\∀s,s<m->∃u,vs[s]? = some u/\Ow h u yw (row s).length (zJ (row s))/\((row s).length=0->u = .nilslice)
theorem ETab.ext{h h':H}(t:ETab h v m row)(e:Ext h h' n):ETab h' v m row:=by
 obtain⟨vs,s,r⟩:=t;exact⟨vs,s.ext e,λi hi=>by
  obtain⟨u,hu,su,nu⟩:=r i hi;exact⟨u,hu,su.ext e,nu⟩⟩
def FTab(lo:Nat)(h:H)(v:V)(m:Nat)(row:Nat->List Int):Prop:=∃vs,Sl h v 1 m vs/\(∀b,zy v=some b->lo<=b/\b<h.nx)/\∀s,s<m->∃u,vs[s]? = some u/\Ow h u yw (row s).length (zJ (row s))/\((row s).length=0->u = .nilslice)/\∀b,zy u=some b->lo<=b
theorem FTab.tab{lo:Nat}(t:FTab lo h v m row):ETab h v m row:=by
 obtain⟨vs,s,_,r⟩:=t;exact⟨vs,s,λi hi=>by
  obtain⟨u,hu,su,nu,_⟩:=r i hi;exact⟨u,hu,su,nu⟩⟩
theorem FTab.keep{lo:Nat}{h h':H}(t:FTab lo h v m row)(hn:h.nx<=h'.nx)(hg:∀b,lo<=b->b<h.nx->h'.get b=h.get b):FTab lo h' v m row:=by
 obtain⟨vs,s,f,r⟩:=t;refine⟨vs,s.kept hn λb hb=>hg b (f b hb).1 (f b hb).2,λb hb=>⟨(f b hb).1,oI (f b hb).2 hn⟩,λi hi=>?_⟩
 obtain⟨u,hu,ow,nu,fu⟩:=r i hi;exact⟨u,hu,ow.keep hn λb hb=>hg b (fu b hb) (ow.blk hb),nu,fu⟩
abbrev oET(log:Int)(v:V):O:=.cells (.ls [.int .i64 log,v]) ⟨0,216+1,0⟩ true false
theorem zXb{o:Nat}:zR zA 216 0 h (.ptr p o) k=k (.ptr p (o+0)) h:=by kernel_rfl
theorem zAD{o:Nat}:zR zA 216 1 h (.ptr p o) k=k (.ptr p (o+1)) h:=by kernel_rfl
theorem zQV{x:Int}{b:Nat}{cp:Cap}{k:V->Prop}(hk:k (.agg [.int .i64 x,.slice b 0 n cp])):xp zA 216 (xA zA 216 [(0,(.int .i64 x)),(1,.slice b 0 n cp)]) k:=by
 have h1:xA zA 216 [(0,(.int .i64 x)),(1,.slice b 0 n cp)]=some (.agg [.int .i64 x,.slice b 0 n cp]):=by kernel_rfl
 have h2:qU zA 216=false:=by kernel_rfl
 unfold xp;rw[h1];simp only[h2];exact hk
theorem _root_.Go.Sim.Vw.set2{S:Nat->Prop}{hb h:H}{c:Nat}{l:List (Nat×O)}{cx:Ctx}(v:Vw S hb h c l)(i:Nat){e j:Nat}{te:TI}{cs:Cs}{k:Rk}{op:Bool}{u:V}(r:Row cs n xs)(hi:l[i]? = some (p,.cells cs k true op))(hn:h.nx<=T.top)(hj:j<n)(he:cx.ty.get e=some te)(hs:te.size=1)(hf:k.fz=0)(hu:u.cells=[u])(ho:u.one=true):
  ∃h' cs',zg cx e h (.ptr p j) u=some h'/\Row cs' n (xs.set j u)/\Vw S hb h' c (l.set i (p,.cells cs' k true op))/\h'.nx=h.nx/\∀b,b≠p->h'.get b=h.get b:=by
 obtain⟨h',cs',e1,r1,w1,n1⟩:=v.set (cx:=cx) i r hi hn hj he hs hf hu ho;obtain⟨cs2,p1,_⟩:=Cs.put_some (cs:=cs) r.1 (o:=j) (vs:=[u]) (by rw[r.2.1];simp;omega);obtain⟨h2,e2,_,_,g2⟩:=v.st (cx:=cx) i (t:=e) (f:=j) (u:=u) (cs':=cs2) hi hn he (yl.2 (by rw[hu,hs];rfl)) (by rw[hf];exact oJ _) (by rw[hu];simp[zL,ho]) (by rw[hu];exact p1);rw[e1]at e2;cases e2;exact⟨h',cs',e1,r1,w1,n1,g2⟩
theorem zK7{u:V}{xs:List Int}(ow:Ow h u yw n (zJ xs))(hnil:n=0->u = .nilslice)(x:Int)(hn1:n<=1000)(hn:h.nx+3<=T.top):
  ∃v14,yB zA 23 h u none (some (.int .i64 (n:Nat))) (some (.int .i64 (n:Nat)))=some v14/\∃v15 h16,zF zA 23 1 [(0,.int .i64 x)] h=some (v15,h16) /\
   ∃v17 h18,zc zA 23 (zM h16) v14 v15=some (v17,h18)/\(h16.nx<=h18.low/\h18.nx<=T.top)/\∀h19,h19=yL h16 h18->Ext h h19 2/\Ow h19 v17 yw (n+1) (zJ (xs++[x]))/\∃b,zy v17=some b/\h.nx<=b:=by
 obtain⟨v15,h16,e16,s16,x16⟩:=YL (h:=h) x (by omega);have t16:=x16.top;have l16:=x16.le;have sT:Sl (zM h16) v15 1 1 [.int .i64 x]:=s16;have hx:zJ (xs++[x])=zJ xs++[.int .i64 x]:=by unfold zJ;rw[List.map_append];rfl
 rcases Nat.eq_zero_or_pos n with h0|h0
 ·subst h0
  have:=hnil rfl;subst this;have oT:Ow (zM h16) .nilslice yw 0 (zJ xs):=⟨ow.1,.inl ⟨rfl,rfl⟩⟩;obtain⟨v',h',e1,o1,a1,a2,a3,a4,a5,a6⟩:=oT.append (c:=zA) sT (by decide) zP rfl zd rfl rfl (by decide) (by decide) (show h16.nx<T.top by omega);have xx:Ext (zM h16) h' 1:=⟨a1,a2,λb hb=>a3 b hb (λg=>by cases g),a5,a6 _ (Nat.min_le_left _ _) (λb g=>by cases g)⟩
  have xd:=xx.drawn (by omega);refine⟨.nilslice,by kernel_rfl,v15,h16,e16,v',h',e1,⟨xd.1,by have:(zM h16).nx=h16.nx:=rfl;omega⟩,λh19 e19=>?_⟩
  subst e19;rw[hx];exact⟨x16.trans xd.2,o1.keep (oP _) λ_ _=>rfl,_,a4,l16⟩
 ·obtain⟨b,e1,_,s1⟩:=ow.full (cx:=zA) h0 zP rfl zd (by decide)
  have s2:Sl h16 (.slice b 0 n (.exact n)) 1 n (zJ xs):=s1.ext x16;have s2:Sl (zM h16) (.slice b 0 n (.exact n)) 1 n (zJ xs):=s2;obtain⟨v',h',e2,o2,x2,b2⟩:=s2.appFull (cx:=zA) (te:=yw) h0 sT (by decide) zP rfl zd rfl rfl (by show(n+1)*1<=_;omega) (by show(n+1)*8<=_;omega) (show h16.nx<T.top by omega);have xd:=x2.drawn (by omega);have t2:=x2.top;refine⟨_,e1,v15,h16,e16,v',h',e2,⟨xd.1,by have:(zM h16).nx=h16.nx:=rfl;omega⟩,λh19 e19=>?_⟩
  subst e19;rw[hx];exact⟨x16.trans xd.2,o2.keep (oP _) λ_ _=>rfl,_,b2,l16⟩
def zZS(hb h:H)(L:List (Nat×O))(sp:List Int)(k m:Nat)(vs:List V):Prop:=∀s,s<m->∃u,vs[s]? = some u/\Ow h u yw (zb sp k s).length (zJ (zb sp k s))/\((zb sp k s).length=0->u = .nilslice)/\Sep zS hb.nx L u
theorem zFD{v:V}{log:Nat}{l:List Int}(sl:Sl h v 1 l.length (zJ l))(g:GD log l)(hn:h.nx+200<=T.top)(hlow:h.low<=T.top)(hq:∀h' v',Ext h h' 150->FTab h.nx h' v' l.length (zb (z7 log l) (2^log))->Q (.tuple [.agg [.int .i64 log,v'],.int .i64 0]) h'):RF P zA 253 [.agg [.int .i64 log,v]] h Q:=by
 have hpw:=yz g.lg;have hlen:=g.len;have hsl:=jO log l;refine yK z0s rfl rfl z3B (yy sl ⟨by omega,?_⟩);rintro p0 h1 rfl e1;have w1:=(Vw.nil (S:=zS) (h:=h)).new e1 (by omega);have n1:h1.nx=h.nx+1:=by rw[e1,zH]
 refine⟨by omega,?_⟩;rintro p3 h4 rfl e4;have w4:=w1.new e4 (by omega);have n4:h4.nx=h1.nx+1:=by rw[e4,zH]
 have s4:=sl.ext w4.ex0;refine⟨_,_,w4.ldA 1 rfl yv rfl rfl,wM s4 g ⟨_,rfl,λc=>absurd rfl c,λ_=>⟨_,_,w4.ldA 1 rfl yv rfl rfl,K7 s4 g (by omega) λh14 v15 x14 s15=>⟨_,_,rfl,λc=>absurd rfl c,λ_=>?_⟩⟩⟩⟩
 have w14:=w4.ext x14;have t14:=x14.top;have s14:=sl.ext w14.ex0;have le14:=x14.le;refine⟨⟨by omega,by have:=w14.low;omega⟩,_,w14.ld1 1 rfl zd rfl rfl,_,w14.ld1 1 rfl zP rfl rfl,_,s14.len zP rfl,?_⟩;obtain⟨cs,em,row⟩:=Row.make (cx:=zA) (h:=h14) (t:=214) (k:=l.length) wV rfl zP rfl rfl rfl (by omega) (by show 24*l.length<=_;omega) (by omega);obtain⟨h22,e22⟩:∃h22,h22=h14.new (xu cs):=⟨_,rfl⟩;have w22:=w14.new e22 (by omega);have n22:h22.nx=h14.nx+1:=by rw[e22,zH]
 refine⟨_,h22,by rw[e22];exact em,zQV ⟨by omega,?_⟩⟩;rintro p24 h25 rfl e25;have w25:=w22.new e25 (by omega);have n25:h25.nx=h22.nx+1:=by rw[e25,zH]
 obtain⟨h26,e26,w26,n26,g26⟩:=w25.st (cx:=zA) 0 (t:=216) (f:=0) (u:=.agg [.int .i64 log,.slice h14.nx 0 l.length (.exact l.length)]) rfl (by omega) YE rfl (oJ _) rfl rfl;have hv15:∀b,zy v15=some b->b<h14.nx:=λb hb=>by
  obtain⟨_,⟨rfl,_⟩|⟨b',_,_,_,_,_,_,rfl,hlt,_⟩⟩:=s15
  ·cases hb
  ·cases hb;exact hlt
 have s26:Sl h26 v15 1 (2^log) (zJ (z7 log l)):=by
  refine s15.kept (by omega) λb hb=>?_
  have hb':=hv15 b hb;rw[g26 b (by omega),e25,yT _ (by omega) (by omega),e22,yT _ (by omega) (by omega)]
 refine⟨h26,e26,_,s26.len zP rfl,Has.nil.on λtm hs=>?_⟩
 refine wpC.round (λj tm h'=>∃(k:Nat) (cs:Cs) (vs:List V),k<=2^log/\j=2^log-k/\h26.nx<=h'.nx/\h'.nx<=h26.nx+2*k/\Row cs l.length vs /\
  Vw zS h h' (11+2*k) [(h22.nx,oET log (.slice h14.nx 0 l.length (.exact l.length))),(h14.nx,xu cs),(h1.nx,oET 0 .nilslice),(h.nx,oD log v)]/\Sl h' v15 1 (2^log) (zJ (z7 log l)) /\
  zZS h h' [(h22.nx,oET log (.slice h14.nx 0 l.length (.exact l.length))),(h14.nx,xu cs),(h1.nx,oET 0 .nilslice),(h.nx,oD log v)] (z7 log l) k l.length vs /\
  Has tm [(35,.int .i64 k),(34,.int .i64 (2^log:Nat)),(33,v15),(7,.ptr h22.nx 0),(2,.ptr h1.nx 0)]) (2^log)
  ⟨0,cs,_,by omega,by omega,by omega,by omega,row,w26.more (by omega),s26,λs hs=>⟨.nilslice,by rw[List.getElem?_replicate,if_pos hs],⟨by rw[jM,Nat.mul_one],.inl ⟨rfl,rfl⟩⟩,λ_=>rfl,λb hb=>by cases hb⟩,hs.sub (by kernel_rfl)⟩ ?_
 clear hs s26 w26 w25 g26 e26 row em e22 e25 w22;rintro j tm h' ⟨k,cs,vs,hk1,rfl,hnx0,hnx,row,w,s15,er,hs⟩;refine wpC.av hs zTO rfl rfl ⟨λc=>?_,λc=>hs.on λtm' hs'=>?_⟩
 ·have hk:k<2^log:=by omega
  have hki:k<(z7 log l).length:=by omega
  obtain⟨b,o,a1,a2⟩:=yj (l:=z7 log l) (by rw[hsl];exact s15) hki;have hgk:(z7 log l)[k]? = some (z7 log l)[k]:=oO hki;obtain⟨s,es,y,hy,_⟩:=JN g hgk;have hsm:s<l.length:=(List.getElem?_eq_some_iff.1 hy).1;refine⟨b,o,a1,_,a2,?_⟩;rw[es]at hgk ⊢;obtain⟨u,hu,ow,hnil,sep⟩:=er s hsm;have hel:=kV (z7 log l) k s;have hget:cs.get? s=some u:=by rw[row.2.2.2 s hsm];exact hu
  have lw:=w.low;rw[zAD];refine⟨_,w.ld1 0 rfl wV rfl rfl,_,_,yd wV rfl zP rfl hsm,u,w.ld1 1 rfl zP rfl hget,⟨by omega,by omega⟩,?_⟩;rw[zAD];obtain⟨v14,q1,v15',h16,q2,v17,h18,q3,q4,q5⟩:=zK7 ow hnil (k:Int) (by omega) (by omega);refine⟨_,w.ld1 0 rfl wV rfl rfl,_,ow.sl.len zP rfl,_,ow.sl.len zP rfl,v14,q1,v15',h16,q2,trivial,v17,h18,q3,q4,λh19 e19=>?_⟩
  obtain⟨x19,ow17,b17,hb17,hbl⟩:=q5 h19 e19;have w19:=w.ext x19;have t19:=x19.top;have le19:=x19.le;obtain⟨u1,u2⟩:=ow17.one1;obtain⟨h22',cs',e22',row',w22',n22',g22'⟩:=w19.set2 (cx:=zA) 1 (e:=23) (j:=s) row rfl (by omega) hsm zP rfl rfl u1 (by simpa [zL]using u2);have hBlt:=w.lt 1 rfl;refine⟨_,_,yd wV rfl zP rfl hsm,h22',e22',hs.on λtm' hs'=>⟨rfl,rfl,2^log-(k+1),by omega,k+1,cs',_,by omega,rfl,(show h26.nx<=h22'.nx by omega),(show h22'.nx<=_ by omega),row',w22'.more (by omega),?_,?_,?_⟩⟩
  ·refine(s15.ext x19).kept (show h19.nx<=h22'.nx by omega) λb hb=>g22' b (Nat.ne_of_lt (hv15 b hb))
  ·intro s2 hs2
   by_cases e:s2=s
   ·subst e
    refine⟨v17,List.getElem?_set_self (by rw[row.2.2.1];exact hsm),?_,λq=>?_,?_⟩
    ·rw[kL,if_pos hgk,oU]
     exact ow17.keep (show h19.nx<=h22'.nx by omega) λb hb=>g22' b (by rw[hb17]at hb;cases hb;omega)
    ·rw[kL,if_pos hgk,oU]at q
     simp at q
    ·intro b hb
     rw[hb17]at hb;cases hb;refine⟨.inr (by have:=w.le;omega),λq hq=>Nat.ne_of_lt (oI ?_ hbl)⟩
     simp only[od,List.not_mem_nil,or_false]at hq;rcases hq with rfl|rfl|rfl|rfl
     ·exact w.lt 0 rfl
     ·exact w.lt 1 rfl
     ·exact w.lt 2 rfl
     ·exact w.lt 3 rfl
   ·obtain⟨u',hu',ow',hnil',sep'⟩:=er s2 hs2
    have ee:zb (z7 log l) (k+1) s2=zb (z7 log l) k s2:=by
     rw[kL,if_neg (by rw[hgk];intro q;cases q;exact e rfl),List.append_nil]
    rw[ee];refine⟨u',by rw[oY (λq=>e q.symm)];exact hu',(ow'.ext x19).keep (show h19.nx<=h22'.nx by omega) λb hb=>g22' b λq=>(sep' b hb).2 (h14.nx,xu cs) (by simp) q.symm,hnil',λb hb=>⟨(sep' b hb).1,λq hq=>?_⟩⟩
    simp only[od,List.not_mem_nil,or_false]at hq;rcases hq with rfl|rfl|rfl|rfl
    ·exact(sep' b hb).2 (h22.nx,_) (List.mem_cons_self ..)
    ·exact(sep' b hb).2 (h14.nx,xu cs) (by simp)
    ·exact(sep' b hb).2 (h1.nx,_) (by simp)
    ·exact(sep' b hb).2 (h.nx,_) (by simp)
  ·rw[<-yQ (by omega)]
   exact hs'.sub (by kernel_rfl)
 ·have hk:k=2^log:=by omega
  subst hk;have lw:=w.low;refine thenC.left (wpS.av hs' zUQ rfl rfl ?_);obtain⟨h2,e2,w2,n2,g2⟩:=w.st (cx:=zA) 2 (t:=216) (f:=0) (u:=.agg [.int .i64 log,.slice h14.nx 0 l.length (.exact l.length)]) rfl (by omega) YE rfl (oJ _) rfl rfl;refine⟨_,_,w.ldA 0 rfl YE rfl rfl,h2,e2,hs'.on λtm2 hs2=>endW.ok (leave.cell (hs2.get (t:=2) rfl) (w2.ldA 2 rfl YE rfl rfl) (leave.tmp (hs2.get (t:=3) rfl) rfl)) (hq h2 _ (w2.ex0.mono (by omega)) ⟨vs,row.sl (w2.lt 1 rfl) (w2.get 1 rfl),λb hb=>(by cases hb;exact⟨by omega,w2.lt 1 rfl⟩),λs hs=>?_⟩)⟩
  obtain⟨u,hu,ow,hnil,sep⟩:=er s hs;exact⟨u,hu,ow.keep (by omega) λb hb=>g2 b λq=>(sep b hb).2 (h1.nx,oET 0 .nilslice) (by simp) q.symm,hnil,λb hb=>(sep b hb).1.elim (λg=>g.elim) id⟩
theorem zIK:zA.ty.get 3=some yw:=zd
theorem zMl{u:V}{xs:List Int}(ow:Ow h u yw n (zJ xs))(hnil:n=0->u = .nilslice)(hn1:n<=1000)(hn:h.nx+1<=T.top):
  ∃v3,yB zA 23 h u none (some (.int .i64 0)) (some (.int .i64 0))=some v3/\∃v4 h5,zc zA 23 h v3 u=some (v4,h5)/\Ext h h5 1/\Ow h5 v4 yw n (zJ xs)/\(n=0->v4 = .nilslice)/\∀b,zy v4=some b->h.nx<=b:=by
 rcases Nat.eq_zero_or_pos n with h0|h0
 ·have:=hnil h0
  subst this h0;exact⟨.nilslice,by kernel_rfl,.nilslice,h,by kernel_rfl,(Ext.refl h).mono (by omega),ow,λ_=>rfl,λb hb=>by cases hb⟩
 ·have sl:=ow.sl
  obtain⟨h1,⟨rfl,hz⟩|⟨b,cs,rfl,hb,hg,hw,hl,hc⟩⟩:=ow
  ·omega
  ·obtain⟨cs',p1,p2⟩:=Cs.ofL_some (l:=zJ xs) (by rw[h1];show n*1<=_;omega)
   obtain⟨p3,p4⟩:=Cs.ofL_eq p1;have ho:zL (zJ xs)=true:=ye.2 λv hv=>by
    obtain⟨x,_,rfl⟩:=List.mem_map.1 hv;rfl
   refine⟨.slice b 0 0 (.exact 0),?_,.slice h.nx 0 n (.skip 0),h.new (.cells cs' (j7 yw) true true),?_,Ext.new _ (by omega),⟨h1,.inr ⟨h.nx,cs',rfl,by rw[zH];omega,zZ _ (by omega),p2,by rw[p3,h1],λi _=>p4 i⟩⟩,λq=>by omega,λb hb=>by cases hb;exact oP _⟩
   ·unfold yB
    simp only[zP,zd,hg];have e1:Nat.ble (0+n*(j7 yw).n) cs.len=true:=oC (by rw[hl];show 0+n*1<=n*1;omega);have e2:Nat.ble 0 n=true:=oC (by omega);rw[e1];show(match Go.Sim.bnd (some (.int .i64 0)) 0 n with|none=>none|some m=>_)=_
    unfold Go.Sim.bnd;simp only[yx,e2];rfl
   ·unfold zc
    rw[zP];simp only[zIK];have e3:kH yw=true:=by kernel_rfl
    rw[e3,oK,sl.src (by decide) h0];simp only;unfold Go.Sim.appTo;simp only[hg];unfold kR;have e4:Nat.ble (0+n) 0=false:=by
     cases hb:Nat.ble (0+n) 0 with
     | false=>rfl
     | true=>have:=oE hb;omega
    rw[e4,oM];have e5:Ki cs 0 (0*yw.size) (zJ xs)=some cs':=by
     unfold Ki;rw[Nat.zero_mul,zDn cs 0 (.inr trivial)];simp only[ho,oK,List.nil_append,p1]
    rw[e5,Nat.zero_add];exact wF (by show n*8<=_;omega) (by omega)
theorem zRT(ow:Ow h v yw n xs):zc zA 23 h v .nilslice=some (v,h):=by
 obtain⟨h1,⟨rfl,hz⟩|⟨b,cs,rfl,hb,hg,hw,hl,hc⟩⟩:=ow
 ·kernel_rfl
 ·unfold zc
  rw[zP];simp only[zIK];have e3:kH yw=true:=by kernel_rfl
  rw[e3,oK];show Go.Sim.appTo yw h 0 [] (.slice b 0 n (.skip 0))=_;unfold Go.Sim.appTo;simp only[hg];unfold ko;have e1:Nat.ble (0+n*yw.size) cs.len=true:=oC (by rw[hl];show 0+n*1<=n*1;omega);rw[e1];rfl
theorem zX7{v:V}{m:Nat}{row:Nat->List Int}(t:ETab h v m row)(hm:m<=256)(hr:∀s,s<m->(row s).length<=1000)(hn:h.nx+m+5<=T.top)(hq:∀h' v',Ext h h' (m+1)->ETab h' v' m row->Q v' h'):RF P zA 314 [v] h Q:=by
 obtain⟨vs,sv,rows⟩:=t;refine yK z13 rfl rfl z3c ⟨_,sv.len wV rfl,?_⟩;obtain⟨cs,em,row0⟩:=Row.make (cx:=zA) (h:=h) (t:=214) (k:=m) wV rfl zP rfl rfl rfl (by omega) (by show 24*m<=_;omega) (by omega);obtain⟨h2,e2⟩:∃h2,h2=h.new (xu cs):=⟨_,rfl⟩;have w2:=(Vw.nil (S:=zS) (h:=h)).new e2 (by omega);have n2:h2.nx=h.nx+1:=by rw[e2,zH]
 refine⟨_,h2,by rw[e2];exact em,_,(sv.ext w2.ex0).len wV rfl,Has.nil.on λtm hs=>?_⟩
 refine wpC.round (λj tm h'=>∃(k:Nat) (cs:Cs) (us:List V),k<=m/\j=m-k/\h'.nx<=h2.nx+k/\Row cs m us/\Vw zS h h' (1+k) [(h.nx,xu cs)] /\
  (∀s,s<k->∃u,us[s]? = some u/\Ow h' u yw (row s).length (zJ (row s))/\((row s).length=0->u = .nilslice)/\Sep zS h.nx [(h.nx,xu cs)] u) /\
  Has tm [(11,.int .i64 k),(10,.int .i64 m),(9,v),(3,.slice h.nx 0 m (.exact m))]) m
  ⟨0,cs,_,by omega,by omega,by omega,row0,w2,λs hs=>by omega,hs.sub (by kernel_rfl)⟩ ?_
 clear hs w2 row0 em e2;rintro j tm h' ⟨k,cs,us,hk,rfl,hnx,rw0,w,er,hs⟩;have sv':=sv.ext w.ex0;refine wpC.av hs zT3 rfl rfl ⟨λc=>?_,λc=>hs.on λtm' hs'=>?_⟩
 ·have hkm:k<m:=by omega
  obtain⟨u,hu,ow,hnil⟩:=rows k hkm;obtain⟨b,o,a1,a2⟩:=sv'.at1 (u:=u) hkm wV rfl zP rfl rfl hu;have owx:=ow.ext w.ex0;obtain⟨v3,q1,v4,h5,q2,x5,ow4,nil4,bl4⟩:=zMl owx hnil (hr k hkm) (by omega);have w5:=w.ext x5;have t5:=x5.top;have le5:=x5.le;obtain⟨u1,u2⟩:=ow4.one1;obtain⟨h8,cs',e8,row',w8,n8,g8⟩:=w5.set2 (cx:=zA) 0 (e:=23) (j:=k) rw0 rfl (by omega) hkm zP rfl rfl u1 (by simpa [zL]using u2);have hB:=w.lt 0 rfl;refine⟨b,o,a1,u,a2,v3,q1,trivial,v4,h5,q2,_,_,yd wV rfl zP rfl hkm,h8,e8,hs.on λtm' hs'=>⟨rfl,rfl,m-(k+1),by omega,k+1,cs',_,by omega,rfl,(show h8.nx<=_ by omega),row',w8.more (by omega),λs hsk=>?_,?_⟩⟩
  ·by_cases e:s=k
   ·subst e
    refine⟨v4,List.getElem?_set_self (by rw[rw0.2.2.1];exact hkm),ow4.keep (show h5.nx<=h8.nx by omega) λb hb=>g8 b (by have:=bl4 b hb;omega),nil4,λb hb=>⟨.inr (by have:=bl4 b hb;have:=w.le;omega),λq hq=>?_⟩⟩
    simp only[od,List.not_mem_nil,or_false]at hq;subst hq;have:=bl4 b hb;show h.nx≠b;omega
   ·obtain⟨u',hu',ow',nil',sep'⟩:=er s (by omega)
    refine⟨u',by rw[oY (λq=>e q.symm)];exact hu',(ow'.ext x5).keep (show h5.nx<=h8.nx by omega) λb hb=>g8 b λq=>(sep' b hb).2 (h.nx,xu cs) (by simp) q.symm,nil',λb hb=>⟨(sep' b hb).1,λq hq=>?_⟩⟩
    simp only[od,List.not_mem_nil,or_false]at hq;subst hq;exact(sep' b hb).2 (h.nx,xu cs) (by simp)
  ·rw[<-yQ (by omega)]
   exact hs'.sub (by kernel_rfl)
 ·have hk:k=m:=by omega
  subst hk;refine thenC.left (wpS.av hs' zUm rfl rfl (hs'.on λtm2 hs2=>?_));refine endW.r1 (hs2.get rfl) (hq h' _ (w.ex0.mono (by omega)) ⟨us,rw0.sl (w.lt 0 rfl) (w.get 0 rfl),λs hs=>?_⟩)
  obtain⟨u,hu,ow,hnil,_⟩:=er s hs;exact⟨u,hu,ow,hnil⟩
def cat(row:Nat->List Int)(m:Nat):List Int:=(List.range m).flatMap row
theorem X7(row:Nat->List Int)(m:Nat):cat row (m+1)=cat row m++row m:=by unfold cat;rw[List.range_succ,List.flatMap_append];simp
theorem zFW(a:List Int):zL (zJ a)=true:=ye.2 λv hv=>by
 obtain⟨x,_,rfl⟩:=List.mem_map.1 hv;rfl
theorem zKo{v:V}{m:Nat}{row:Nat->List Int}(t:ETab h v m row)(hm:m<=256)(hr:∀s,s<m->(row s).length<=100)(hn:h.nx+m+5<=T.top)(hq:∀h' v',Ext h h' m->Ow h' v' yw (cat row m).length (zJ (cat row m))->(∀b,zy v'=some b->h.nx<=b)->Q v' h'):RF P zA 313 [v] h Q:=by
 obtain⟨vs,sv,rows⟩:=t;refine yK z12 rfl rfl z3b ⟨_,sv.len wV rfl,Has.nil.on λtm hs=>?_⟩
 refine wpC.round (λj tm h'=>∃(k:Nat) (y:V),k<=m/\j=m-k/\h'.nx<=h.nx+k/\Vw zS h h' k []/\Ow h' y yw (cat row k).length (zJ (cat row k))/\(cat row k).length<=100*k/\Sep zS h.nx [] y /\
  Has tm [(8,.int .i64 k),(7,.int .i64 m),(6,v),(3,y)]) m
  ⟨0,.nilslice,by omega,by omega,by omega,Vw.nil,⟨rfl,.inl ⟨rfl,rfl⟩⟩,oP _,(λb hb=>by cases hb),hs.sub (by kernel_rfl)⟩ ?_
 clear hs;rintro j tm h' ⟨k,y,hk,rfl,hnx,w,ow,hc,sp,hs⟩;have sv':=sv.ext w.ex0;refine wpC.av hs zT2 rfl rfl ⟨λc=>?_,λc=>hs.on λtm' hs'=>?_⟩
 ·have hkm:k<m:=by omega
  obtain⟨u,hu,owu,hnil⟩:=rows k hkm;obtain⟨b,o,a1,a2⟩:=sv'.at1 (u:=u) hkm wV rfl zP rfl rfl hu;have owx:=owu.ext w.ex0;have hrk:=hr k hkm;rcases Nat.eq_zero_or_pos (row k).length with h0|h0
  ·have:=hnil h0
   subst this;have e0:row k=[]:=List.eq_nil_of_length_eq_zero h0;refine⟨b,o,a1,_,a2,trivial,y,h',zRT ow,hs.on λtm' hs'=>⟨rfl,rfl,m-(k+1),by omega,k+1,y,by omega,rfl,(show h'.nx<=_ by omega),w.more (by omega),?_,?_,sp,?_⟩⟩
   ·rw[X7,e0,List.append_nil];exact ow
   ·rw[X7,e0,List.append_nil];omega
   ·rw[<-yQ (by omega)]
    exact hs'.sub (by kernel_rfl)
  ·obtain⟨y',h4,e4,A⟩:=ow.append (c:=zA) owx.sl h0 zP rfl zd rfl (zFW _) (by show((cat row k).length+(row k).length)*1<=_;omega) (by show((cat row k).length+(row k).length)*8<=_;omega) (by omega)
   obtain⟨w4,ow4,sp4⟩:=w.grow sp A;have t4:=A.2.2.1;refine⟨b,o,a1,_,a2,trivial,y',h4,e4,hs.on λtm' hs'=>⟨rfl,rfl,m-(k+1),by omega,k+1,y',by omega,rfl,(show h4.nx<=_ by omega),w4,?_,?_,sp4,?_⟩⟩
   ·rw[X7,jl,oU];exact ow4
   ·rw[X7,oU];omega
   ·rw[<-yQ (by omega)]
    exact hs'.sub (by kernel_rfl)
 ·have hk:k=m:=by omega
  subst hk;refine thenC.left (wpS.av hs' zUl rfl rfl (hs'.on λtm2 hs2=>?_));exact endW.r1 (hs2.get rfl) (hq h' _ w.ex0 ow λb hb=>(sp b hb).1.elim (λg=>g.elim) id)
theorem zNS:∃fi,zA.fn.get 315=some fi:=Option.isSome_iff_exists.1 (by kernel_rfl)
theorem zGR{v:V}{zs ys:List Int}{h0 h:H}{n:Nat}(ow:Ow h v yw zs.length (zJ zs))(hz:0<zs.length)(hl:zs.length<=100000)(hs:zs.mergeSort (λx y=>decide (x<=y))=ys)(x:Ext h0 h n)(hb:∀b,zy v=some b->h0.nx<=b)(hn:h.nx<=T.top)(hq:∀h',Ext h0 h' n->h'.nx=h.nx->Sl h' v 1 ys.length (zJ ys)->Q (.tuple []) h'):RF P zA 315 [v] h Q:=by
 subst hs;have hly:(zs.mergeSort λx y=>decide (x<=y)).length=zs.length:=List.length_mergeSort zs
 generalize hg:zs.mergeSort (λx y=>decide (x<=y))=ys at hq hly ⊢
 obtain⟨h1,⟨rfl,hz0⟩|⟨b,cs,rfl,hlt,hgb,hw,hlen,hc⟩⟩:=ow
 ·omega
 ·have hyl:(zJ ys).length=zs.length:=by rw[jM,hly]
  have hbT:b<T.top:=oI hlt hn;obtain⟨cs',p1,p2⟩:=Cs.put_some (cs:=cs) hw (o:=0) (vs:=zJ ys) (by rw[hlen,hyl];show 0+zs.length<=zs.length*1;omega);obtain⟨_,p3,p4⟩:=Cs.put_eq p1;refine⟨_,_,⟨zNS,SimF.of_sort (by rw[<-hg];exact z2A zs (by omega)) hly hgb (λi hi=>hc i (by show i<zs.length*1;omega)) p1 rfl⟩,hq _ (x.upd _ hbT (hb b rfl)) rfl ⟨by rw[jM,Nat.mul_one],.inr ⟨b,0,_,_,_,_,_,by rw[hly],hlt,zN _ hbT,λi hi=>?_⟩⟩⟩
  rw[p4,if_pos ⟨oJ _,by rw[hyl];omega⟩,Nat.zero_add,Nat.sub_zero]
theorem zKj(f d:Nat->List Int)(m:Nat):((List.range m).flatMap λs=>f s++d s).Perm ((List.range m).flatMap f++(List.range m).flatMap d):=by
 induction m with
 | zero=>exact .refl _
 | succ m ih =>
  rw[List.perm_iff_count]at ih ⊢;intro a;have:=ih a;simp only[List.range_succ,List.flatMap_append,List.flatMap_cons,List.flatMap_nil,List.append_nil,List.count_append]at this ⊢;omega
theorem zND{x:Option Int}{k:Int}(m:Nat):((List.range m).flatMap λs:Nat=>if x=some (s:Int) then [k] else [])=if ∃s:Nat,s<m/\x=some (s:Int) then [k] else []:=by
 induction m with
 | zero=>rw[if_neg (by rintro⟨s,h,_⟩;omega)];rfl
 | succ m ih =>
  rw[List.range_succ,List.flatMap_append,ih];simp only[List.flatMap_cons,List.flatMap_nil,List.append_nil];by_cases c:∃s:Nat,s<m/\x=some (s:Int)
  ·rw[if_pos c]
   obtain⟨s,h1,h2⟩:=c;rw[if_neg (by rw[h2];simp;omega),if_pos ⟨s,by omega,h2⟩,List.append_nil]
  ·rw[if_neg c]
   by_cases c2:x=some (m:Int)
   ·rw[if_pos c2,if_pos ⟨m,by omega,c2⟩,List.nil_append]
   ·rw[if_neg c2,if_neg,List.nil_append]
    rintro⟨s,h1,h2⟩;by_cases e:s=m
    ·subst e;exact c2 h2
    ·exact c ⟨s,by omega,h2⟩
theorem Oi{sp:List Int}{m:Nat}:∀{n:Nat},(∀i,i<n->∃s:Nat,s<m/\sp[i]? = some (s:Int))->(cat (zb sp n) m).Perm ((List.range n).map Int.ofNat)
 | 0,_=>by
  have:cat (zb sp 0) m=[]:=by
   unfold cat;have:zb sp 0=λ_=>[]:=by funext s;rfl
   rw[this];simp
  rw[this];exact .refl _
 | n+1,h=>by
  have ih:=Oi (sp:=sp) (m:=m) (n:=n) λi hi=>h i (by omega)
  have e:zb sp (n+1)=λs=>zb sp n s++if sp[n]? = some (s:Int) then [(n:Int)] else []:=by funext s;exact kL sp n s
  unfold cat;rw[e];refine(zKj _ _ _).trans ?_;rw[zND,if_pos (h n (by omega)),List.range_succ,List.map_append];exact ih.append_right _
theorem zHE(h:∀i,i<n->∃s:Nat,s<m/\sp[i]? = some (s:Int)):(cat (zb sp n) m).mergeSort (λx y=>decide (x<=y))=(List.range n).map Int.ofNat:=by
 refine List.Perm.eq_of_pairwise (le:=λx y:Int=>x<=y) (λa b _ _ h1 h2=>by omega) ?_ ?_ ((List.mergeSort_perm _ _).trans (Oi h))
 ·have:=List.pairwise_mergeSort (le:=λx y:Int=>decide (x<=y)) (λa b c h1 h2=>by simp at *;omega) (λa b=>by simp;omega) (cat (zb sp n) m)
  exact this.imp λh=>by simpa using h
 ·rw[List.pairwise_map]
  exact List.pairwise_lt_range.imp λ{a b} h=>by show(a:Int)<=b;omega
theorem zFI(sp:List Int)(n s:Nat):(zb sp n s).Pairwise (· < ·):=by
 unfold zb;rw[List.pairwise_map];exact(List.pairwise_lt_range.filter _).imp λ{a b} h=>by show(a:Int)<b;omega
theorem zAO{a:Int}(hq:Q (.bool false) h):RF P zA 338 [.int .i64 a] h Q :=
 yK z1d rfl rfl z3m ⟨λc=>absurd rfl c,λ_=>hq⟩
theorem zMe{a b:Int}(hq:Q (.bool (decide (a<b))) h):RF P zA 326 [.int .i64 a,.int .i64 b] h Q:=by
 refine yK z19 rfl rfl z3i (zAO ⟨false,rfl,λc=>(by cases c),λ_=>⟨λc=>?_,λc=>?_⟩⟩)
 ·rw[decide_eq_true c]at hq;exact hq
 ·rw[decide_eq_false c]at hq;exact hq
theorem zFX{v:V}{xs:List Int}(sl:Sl h v 1 xs.length (zJ xs))(hl:xs.length<=1000)(hs:xs.Pairwise (· < ·))(hn:h.nx<=T.top)(hlow:h.low<=T.top)(hq:Q (.bool true) h):RF P zA 312 [v] h Q:=by
 refine yK z11 rfl rfl z3a ⟨_,sl.len zP rfl,Has.nil.on λtm hs=>?_⟩
 refine wpC.round (λk tm h'=>∃i:Nat,i<=xs.length/\k=i/\h'=h/\Has tm [(3,.int .i64 ((i:Int)-1)),(0,v)]) xs.length ⟨xs.length,oP _,rfl,rfl,?_⟩ ?_
 ·have:zG ((xs.length:Int)-1)=(xs.length:Int)-1:=zD (by omega) (by omega)
  rw[<-this];exact hs.sub (by kernel_rfl)
 clear hs;rintro k tm h' ⟨i,h1,rfl,rfl,hs'⟩;refine wpC.av hs' zT1 rfl rfl ⟨λc=>?_,λc=>hs'.on λtm' hs'=>?_⟩
 ·obtain⟨j,rfl⟩:∃j,k=j+2:=⟨k-2,by omega⟩
  have e1:((j+2:Nat):Int)-1=((j+1:Nat):Int):=by omega
  have e2:zG (((j+1:Nat):Int)-1)=((j:Nat):Int):=by rw[zD (by omega) (by omega)];omega
  rw[e1]at hs' ⊢;obtain⟨b,o,a1,a2⟩:=yj sl (i:=j+1) (by omega);obtain⟨b',o',c1,c2⟩:=yj sl (i:=j) (by omega);have hlt:xs[j]<xs[j+1]:=List.pairwise_iff_getElem.1 hs j (j+1) (by omega) (by omega) (by omega);refine⟨⟨hn,hlow⟩,b,o,a1,_,a2,b',o',by rw[e2];exact c1,_,c2,?_⟩;refine zMe ⟨_,rfl,λc=>?_,λ_=>hs'.on λtm' hs'=>⟨rfl,rfl,j+1,by omega,j+1,by omega,rfl,rfl,?_⟩⟩
  ·have:=of_decide_eq_true c
   omega
  ·have e3:zG (((j+1:Nat):Int)-1)=((j+1:Nat):Int)-1:=zD (by omega) (by omega)
   rw[<-e3];exact hs'.sub (by kernel_rfl)
 ·refine thenC.left (wpS.av hs' zUk rfl rfl (hs'.on λtm2 hs2=>?_))
  exact endW.r1 (hs2.get rfl) hq
theorem YG{e:Nat}(s:Sl h v e n xs){a:Int}{k:Cs->Prop}(hk:k (.ls [.int .i64 a,v])):ws (cond (zL (V.cells (.agg [(.int .i64 a),v]))) (Cs.ofL (V.cells (.agg [(.int .i64 a),v]))) none) k:=yy s hk
theorem zFB{v:V}{log m:Nat}{sp:List Int}(t:ETab h v m (zb sp (2^log)))(hlog:log<=6)(hm:m<=100)(hsp:∀i,i<2^log->∃s:Nat,s<m/\sp[i]? = some (s:Int))(hn:h.nx+300<=T.top)(hlow:h.low<=T.top)(hq:Q (.int .i64 0) h):RF P zA 294 [.agg [.int .i64 log,v]] h Q:=by
 refine RF.forget (n:=300) (v:=.int .i64 0) ?_ (ym _ _) hq;have hpw:2^log<=2^6:=Nat.pow_le_pow_right (by decide) hlog;have hpp:0<2^log:=Nat.two_pow_pos log;have hrow:∀s,s<m->(zb sp (2^log) s).length<=100:=λs _=>by have:=kV sp (2^log) s;omega
 have t0:=t;obtain⟨vs0,sv0,_⟩:=t;refine yK z1P rfl rfl z3Y (YG sv0 ⟨by omega,?_⟩);rintro p0 h1 rfl e1;have w1:=(Vw.nil (S:=zS) (h:=h)).new e1 (by omega);have n1:h1.nx=h.nx+1:=by rw[e1,zH]
 have l1:=w1.low;have t1:ETab h1 v m (zb sp (2^log)):=t0.ext w1.ex0;refine⟨_,w1.ld1 0 rfl zd rfl rfl,λc=>by omega,λ_=>⟨_,w1.ld1 0 rfl zd rfl rfl,λc=>by omega,λ_=>⟨v,w1.ld1 0 rfl wV rfl rfl,_,(sv0.ext w1.ex0).len wV rfl,λc=>by omega,λ_=>Has.nil.on λtm hs=>?_⟩⟩⟩
 refine wpS.av hs zUc rfl rfl ?_;rw[zAD];refine⟨v,w1.ld1 0 rfl wV rfl rfl,_,(sv0.ext w1.ex0).len wV rfl,hs.on λtm2 hs2=>?_⟩
 refine wpC.round (λj tm h'=>∃k:Nat,k<=m/\j=m-k/\h'=h1/\Has tm [(25,.int .i64 k),(24,.int .i64 m),(23,v),(1,.ptr h.nx 0)]) m ⟨0,by omega,by omega,rfl,hs2.sub (by kernel_rfl)⟩ ?_
 clear hs hs2;rintro j tm h' ⟨k,hk,rfl,rfl,hs⟩;refine wpC.av hs zTW rfl rfl ⟨λc=>?_,λc=>hs.on λtm' hs'=>?_⟩
 ·obtain⟨vs,sv,rows⟩:=t1
  obtain⟨u,hu,ow,_⟩:=rows k (by omega);obtain⟨b,o,a1,a2⟩:=sv.at1 (u:=u) (i:=k) (by omega) wV rfl zP rfl rfl hu;refine⟨b,o,a1,u,a2,zFX ow.sl (by have:=hrow k (by omega);omega) (zFI _ _ _) (by omega) (by omega) ⟨true,rfl,λ_=>hs.on λtm' hs'=>⟨rfl,rfl,m-(k+1),by omega,k+1,by omega,rfl,rfl,?_⟩,λc=>(by cases c)⟩⟩
  rw[<-yQ (by omega)];exact hs'.sub (by kernel_rfl)
 ·refine thenC.left (wpS.av hs' zUb rfl rfl ?_)
  rw[zAD];have hlen:(cat (zb sp (2^log)) m).length=2^log:=by rw[(Oi hsp).length_eq,ol,List.length_range]
  refine⟨v,w1.ld1 0 rfl wV rfl rfl,zX7 t1 (by omega) (λs hs=>by have:=hrow s hs;omega) (by omega) λh2 v2 x2 t2=>⟨_,rfl,zKo t2 (by omega) hrow (by have:=x2.top;omega) λh3 v3 x3 ow3 bl3=>⟨_,rfl,?_⟩⟩⟩
  have tt2:=x2.top;have tt3:=x3.top;refine zGR ow3 (by omega) (by omega) (zHE hsp) (x2.trans x3) (λb hb=>by have:=bl3 b hb;have:=x2.le;omega) (by omega) λh4 x4 n4 s4=>⟨rfl,?_⟩
  have w4:=w1.ext x4;rw[ol,List.length_range]at s4;refine⟨_,s4.len zP rfl,?_⟩;rw[zXb];refine⟨_,w4.ld1 0 rfl zd rfl rfl,((1*2^log:Nat):Int),?_,λc=>absurd (by rw[Nat.one_mul]) c,λ_=>⟨_,s4.len zP rfl,hs'.on λtm2 hs2=>?_⟩⟩
  ·rw[zW (by omega)];exact yH (a:=1) (by omega) (by omega)
  refine wpC.round (λj tm h'=>∃k:Nat,k<=2^log/\j=2^log-k/\h'=h4/\Has tm [(48,.int .i64 k),(47,.int .i64 (2^log:Nat)),(46,v3)]) (2^log) ⟨0,by omega,by omega,rfl,hs2.sub (by kernel_rfl)⟩ ?_
  clear hs hs2 hs';rintro j tm h' ⟨k,hk,rfl,rfl,hs⟩;refine wpC.av hs zTX rfl rfl ⟨λc=>?_,λc=>hs.on λtm' hs'=>?_⟩
  ·have hkk:k<2^log:=by omega
   obtain⟨b,o,a1,a2⟩:=yj (l:=(List.range (2^log)).map Int.ofNat) (i:=k) (by rw[ol,List.length_range];exact s4) (by rw[ol,List.length_range];exact hkk);refine⟨b,o,a1,_,a2,λc2=>absurd ?_ c2,λ_=>hs.on λtm' hs'=>⟨rfl,rfl,2^log-(k+1),by omega,k+1,by omega,rfl,rfl,?_⟩⟩
   ·rw[List.getElem_map,List.getElem_range];rfl
   ·rw[<-yQ (by omega)]
    exact hs'.sub (by kernel_rfl)
  ·refine thenC.left (wpS.av hs' zUa rfl rfl (hs'.on λtm2 hs2=>hs2.slt λtm3 hs3=>hs3.slt λtm4 hs4=>?_))
   exact endW.r1 (hs4.get rfl) ⟨rfl,w4.ex0.mono (by omega)⟩
theorem zF2{x:Nat}{h:H}{Q:V->H->Prop}(hx:x<256)(hq:Q (.int .i64 (zO x:Nat)) h):RF P zA 316 [.int .u64 x] h Q:=by
 have hn:zO x<=8:=zw (by omega);refine yK z14 rfl rfl z3d ?_;refine yK z1a rfl rfl z3j ⟨λc=>by omega,λ_=>Has.nil.on λtm hs=>?_⟩
 refine wpS.av hs zUs rfl rfl ⟨λc=>by omega,λ_=>hs.on λtm2 hs2=>?_⟩
 refine wpS.av hs2 zUr rfl rfl ⟨λc=>by omega,λ_=>hs2.on λtm3 hs3=>?_⟩
 refine wpS.av hs3 zUq rfl rfl ⟨(zO x:Nat),?_,hs3.on λtm4 hs4=>hs4.slt λtm5 hs5=>hs5.slt λtm6 hs6=>?_⟩
 ·rw[jr,oe hx]
  have e:(UInt8.ofNat (zO x)).toNat=zO x:=by rw[UInt8.toNat_ofNat'];omega
  rw[<-e];refine wx ?_;clear hq e hn Q h;clear hs hs2 hs3;revert x;decide +kernel
 ·refine endW.r1 (hs6.get rfl) ⟨_,rfl,?_⟩
  have e:zG (0+zG ((zO x:Nat):Int))=((zO x:Nat):Int):=by rw[zD (n:=((zO x:Nat):Int)) (by omega) (by omega),zD (by omega) (by omega)];omega
  rw[e];exact hq
def eN(x p:Nat):Nat:=if x/2^(zO x-zO p)<p then zO x-zO p-1 else zO x-zO p
def zZt(x p:Nat):Bool:=decide (p<=x/2^eN x p) && decide (x/2^eN x p<2*p) && decide (eN x p<=5) && (!decide (x/2^(zO x-zO p)<p) || decide (1<=zO x-zO p)) && decide (zO p<=zO x)
theorem zMs:((List.range 33).all λp=>p == 0 || (List.range 32).all λs=>zZt (s+32) p)=true:=by decide +kernel
theorem zFA{s:Nat}(hs:s<32)(h1:1<=p)(hp:p<=32):p<=(s+32)/2^eN (s+32) p/\(s+32)/2^eN (s+32) p<2*p/\eN (s+32) p<=5/\((s+32)/2^(zO (s+32)-zO p)<p->1<=zO (s+32)-zO p)/\zO p<=zO (s+32):=by
 have h:=List.all_eq_true.1 zMs p (List.mem_range.2 (by omega));have hp0:(p == 0)=false:=by simp;omega
 rw[hp0,Bool.false_or]at h;have:=List.all_eq_true.1 h s (List.mem_range.2 hs);unfold zZt at this;simp only[oG,decide_eq_true_eq,Bool.or_eq_true,Bool.not_eq_true',decide_eq_false_iff_not]at this;obtain⟨⟨⟨⟨a,b⟩,c⟩,d⟩,e⟩:=this;exact⟨a,b,c,λq=>d.elim (λg=>absurd q g) id,e⟩
def kx(r:List Int)(st:Nat):Int:=r[(st+32)/2^eN (st+32) r.length-r.length]?.getD 0
def jz(r:List Int)(st:Nat):Nat:=(st+32) % 2^eN (st+32) r.length
theorem zRh{o:Nat}:zR zA 346 0 h (.ptr p o) k=k (.ptr p (o+0)) h:=by kernel_rfl
theorem YA{log:Int}{s:Nat}(t:ETab h v m row)(hs:s<m)(_:m<=256)(hn:h.nx<T.top)(hq:∀h' u,Ext h h' 1->Ow h' u yw (row s).length (zJ (row s))->Q u h'):RF P zA 295 [.agg [.int .i64 log,v],.int .i64 s] h Q:=by
 obtain⟨vs,sv,rows⟩:=t;obtain⟨u,hu,ow,_⟩:=rows s hs;refine yK z1Q rfl rfl z3Z (YG sv ⟨hn,?_⟩);rintro p0 h1 rfl e1;have w1:=(Vw.nil (S:=zS) (h:=h)).new e1 hn;have s1:=sv.ext w1.ex0;refine⟨λc=>by omega,λ_=>⟨v,w1.ld1 0 rfl wV rfl rfl,_,s1.len wV rfl,λc=>by omega,λ_=>Has.nil.on λtm hs2=>?_⟩⟩
 refine wpS.av hs2 zUd rfl rfl ?_;rw[zRh,zAD];obtain⟨b,o,a1,a2⟩:=s1.at1 (u:=u) hs wV rfl zP rfl rfl hu;exact⟨v,w1.ld1 0 rfl wV rfl rfl,b,o,a1,u,a2,hs2.on λtm3 hs3=>endW.r1 (hs3.get rfl) (hq h1 u w1.ex0 (ow.ext w1.ex0))⟩
theorem zLe{v:V}{m s st:Nat}{row:Nat->List Int}(t:ETab h v m row)(hs:s<m)(hm:m<=256)(hst:st<32)(hp1:1<=(row s).length)(hp:(row s).length<=32)(hn:h.nx+3<=T.top)(hq:Q (.tuple [.int .i64 (kx (row s) st),.int .i64 (eN (st+32) (row s).length:Nat),.int .i64 (jz (row s) st:Nat)]) h):RF P zA 296 [.agg [.int .i64 (5:Nat),v],.int .i64 st,.int .i64 s] h Q:=by
 refine RF.forget (n:=2) (v:=.tuple [.int .i64 (kx (row s) st),.int .i64 (eN (st+32) (row s).length:Nat),.int .i64 (jz (row s) st:Nat)]) ?_ (zm rfl) hq;have t0:=t;obtain⟨vs,sv,_⟩:=t;refine yK z1R rfl rfl z30 (YG sv ⟨by omega,?_⟩);rintro p0 h1 rfl e1;have w1:=(Vw.nil (S:=zS) (h:=h)).new e1 (by omega);have n1:h1.nx=h.nx+1:=by rw[e1,zH]
 obtain⟨q1,q2,q3,q4,q5⟩:=zFA hst hp1 hp;have hx8:zO (st+32)<=8:=zw (by omega);generalize hr:row s=r at *;generalize hpl:r.length=p at *;refine⟨_,_,w1.ldA 0 rfl zJ8 rfl rfl,YA (t0.ext w1.ex0) hs hm (by omega) λh6 u x6 ow=>⟨u,rfl,?_⟩⟩
 have w6:=w1.ext x6;rw[hr,hpl]at ow;have ex:zT .u64 (zT .u64 ((st:Nat):Int)+((1*2^5:Nat):Int))=((st+32:Nat):Int):=by
  rw[zW (by omega),show((st:Nat):Int)+((1*2^5:Nat):Int)=((st+32:Nat):Int)by omega,zW (by omega)]
 have en:zG (((zO (st+32):Nat):Int)-((zO p:Nat):Int))=((zO (st+32)-zO p:Nat):Int):=by rw[zD (by omega) (by omega)];omega
 refine⟨_,w6.ld1 0 rfl zd rfl rfl,((1*2^5:Nat):Int),by rw[zW (by omega)];exact Zx (a:=1) (by omega) (by omega),_,ow.sl.len zP rfl,?_⟩;rw[ex];refine zF2 (by omega) ⟨_,rfl,?_⟩;rw[zW (n:=p) (by omega)];refine zF2 (by omega) ⟨_,rfl,?_⟩;rw[en];rw[zW (n:=zO (st+32)-zO p) (by omega)];have hfin:∀(n:Nat) (tm:Tm),n=eN (st+32) p->Has tm [(7,.int .i64 n),(9,u),(10,.int .u64 (st+32:Nat)),(11,.int .u64 p)]->zMH false zDl ⟨57,tm,[],h6⟩ (endW zA ⟨57,[.tmp 6,.tmp 7,.tmp 8],zGy⟩ λv' h'=>v' = .tuple [.int .i64 (kx r st),.int .i64 (eN (st+32) p:Nat),.int .i64 (jz r st:Nat)]/\Ext h h' 2):=by
  intro n tm hn0 hs;have hpw:2^n<=2^5:=Nat.pow_le_pow_right (by decide) (by omega);have hpp:0<2^n:=Nat.two_pow_pos n;have hsh:(st+32)/2^n<2*p:=by rw[hn0];exact q2
  have hsl:p<=(st+32)/2^n:=by rw[hn0];exact q1
  have hi:(st+32)/2^n-p<r.length:=by omega
  obtain⟨b,o,a1,a2⟩:=yj (l:=r) (by rw[hpl];exact ow.sl) hi;have ei:zG (zT .u64 (((st+32)/2^n:Nat)-(p:Nat):Int))=(((st+32)/2^n-p:Nat):Int):=by
   rw[show((((st+32)/2^n:Nat):Int)-(p:Nat))=(((st+32)/2^n-p:Nat):Int)by omega,zW (by omega),zD (by omega) (by omega)]
  have em:zT .u64 (((1*2^n:Nat):Int)-1)=((2^n-1:Nat):Int):=by
   rw[show(((1*2^n:Nat):Int)-1)=((2^n-1:Nat):Int)by omega,zW (by omega)]
  refine wpS.av hs zUe rfl rfl ⟨_,by rw[zW (by omega)];exact JM (by omega),b,o,by rw[ei];exact a1,_,a2,_,by rw[zW (by omega)];exact Zx (a:=1) (by omega) (by omega),_,by rw[em];exact zE2 (by omega) (by omega),hs.on λtm3 hs3=>?_⟩
  have ha:(st+32) &&& (2^n-1)=jz r st:=by
   rw[qP];unfold jz;rw[hpl,<-hn0]
  have hb:jz r st<=st+32:=Nat.mod_le _ _;refine endW.ok (leave.tmp (hs3.get (t:=6) rfl) (leave.tmp (hs3.get (t:=7) rfl) (leave.tmp (hs3.get (t:=8) rfl) rfl))) ⟨?_,w6.ex0⟩;have e1:r[(st+32)/2^n-p]=kx r st:=by
   unfold kx;rw[hpl,<-hn0,oO hi];rfl
  show V.tuple [_,_,_]=_;rw[ha,e1,zD (by omega) (by omega),hn0]
 refine⟨_,JM (by omega),λc=>Has.nil.on λtm hs2=>?_,λc=>Has.nil.on λtm hs2=>?_⟩
 ·have c':(st+32)/2^(zO (st+32)-zO p)<p:=by omega
  have:=q4 c';have e:zG (((zO (st+32)-zO p:Nat):Int)-1)=((eN (st+32) p:Nat):Int):=by
   rw[zD (by omega) (by omega)];unfold eN;rw[if_pos c'];omega
  refine hfin _ tm rfl ?_;rw[<-e];exact hs2.sub (by kernel_rfl)
 ·refine hfin (zO (st+32)-zO p) tm ?_ (hs2.sub (by kernel_rfl))
  unfold eN;rw[if_neg (by omega)]
structure ET (h:H) (v:V) (m:Nat) (sp:List Int):Prop where
 tab:ETab h v m (zb sp 32)
 hm:m<=100
 all:∀i,i<32->∃s:Nat,s<m/\sp[i]? = some (s:Int)
theorem ET.ext{h h':H}(t:ET h v m sp)(e:Ext h h' n):ET h' v m sp:=⟨t.tab.ext e,t.hm,t.all⟩
theorem ET.check(t:ET h v m sp)(hn:h.nx+300<=T.top)(hlow:h.low<=T.top)(hq:Q (.int .i64 0) h):RF P zA 294 [.agg [.int .i64 (5:Nat),v]] h Q :=
 zFB (log:=5) t.tab (by decide) t.hm t.all hn hlow hq
theorem zFC{s:Nat}(t:ET h v m sp)(hs:s<m)(hr1:1<=(zb sp 32 s).length)(hn:h.nx+310<=T.top)(hlow:h.low<=T.top)(hq:Q (.tuple [.int .i64 ((zb sp 32 s)[0]?.getD 0),.int .i64 0]) h):RF P zA 255 [.agg [.int .i64 (5:Nat),v],.int .i64 s] h Q:=by
 refine RF.forget (n:=2) (v:=.tuple [.int .i64 ((zb sp 32 s)[0]?.getD 0),.int .i64 0]) ?_ (zm rfl) hq;obtain⟨vs,sv,_⟩:=t.tab;refine yK z0u rfl rfl z3D (YG sv ⟨by omega,?_⟩);rintro p0 h1 rfl e1;have w1:=(Vw.nil (S:=zS) (h:=h)).new e1 (by omega);have n1:h1.nx=h.nx+1:=by rw[e1,zH]
 have l1:=w1.low;have t1:=t.ext w1.ex0;refine⟨_,_,w1.ldA 0 rfl YE rfl rfl,t1.check (by omega) (by omega) ⟨_,rfl,λc=>absurd rfl c,λ_=>⟨_,_,w1.ldA 0 rfl YE rfl rfl,YA t1.tab hs (by have:=t.hm;omega) (by omega) λh6 u x6 ow=>⟨u,rfl,_,ow.sl.len zP rfl,λc=>by omega,λ_=>?_⟩⟩⟩⟩
 obtain⟨b,o,a1,a2⟩:=yj ow.sl (i:=0) hr1;refine⟨b,o,a1,_,a2,?_,(w1.ext x6).ex0⟩;rw[oO hr1];rfl
theorem kJ{e:Nat}(s:Sl h v e n xs){a:Int}:V.cells (.agg [.int .i64 a,v])=[.int .i64 a,v]:=by
 obtain⟨_,⟨rfl,_⟩|⟨b,o,cp,cs,k,w,op,rfl,_⟩⟩:=s
 ·rfl
 ·rfl
theorem O5{e:Nat}(s:Sl h v e n xs){a:Int}:zL [.int .i64 a,v]=true:=by
 obtain⟨_,⟨rfl,_⟩|⟨b,o,cp,cs,k,w,op,rfl,_⟩⟩:=s
 ·rfl
 ·rfl
theorem zKg{s st:Nat}(t:ET h v m sp)(hs:s<m)(hst:st<32)(hr1:1<=(zb sp 32 s).length)(hn:h.nx+310<=T.top)(hlow:h.low<=T.top)(hq:Q (.tuple [.int .i64 (kx (zb sp 32 s) st),.int .i64 (eN (st+32) (zb sp 32 s).length:Nat),.int .i64 (jz (zb sp 32 s) st:Nat),.int .i64 0]) h):RF P zA 256 [.agg [.int .i64 (5:Nat),v],.int .i64 st,.int .i64 s] h Q:=by
 refine RF.forget (n:=10) (v:=.tuple [.int .i64 (kx (zb sp 32 s) st),.int .i64 (eN (st+32) (zb sp 32 s).length:Nat),.int .i64 (jz (zb sp 32 s) st:Nat),.int .i64 0]) ?_ (zm rfl) hq;have hm:=t.hm;have hr32:=kV sp 32 s;obtain⟨vs,sv,_⟩:=t.tab;refine yK z0v rfl rfl z3E (YG sv ⟨by omega,?_⟩);rintro p0 h1 rfl e1;have w1:=(Vw.nil (S:=zS) (h:=h)).new e1 (by omega);have n1:h1.nx=h.nx+1:=by rw[e1,zH]
 have l1:=w1.low;have t1:=t.ext w1.ex0;refine⟨_,_,w1.ldA 0 rfl YE rfl rfl,t1.check (by omega) (by omega) ⟨_,rfl,λc=>absurd rfl c,λ_=>⟨_,_,w1.ldA 0 rfl YE rfl rfl,by omega,?_⟩⟩⟩
 rintro p10 h11 rfl e11;have w11:=w1.new e11 (by omega);have n11:h11.nx=h1.nx+1:=by rw[e11,zH]
 obtain⟨u1,u2⟩:=sv.one1;obtain⟨h12,e12,w12,n12,g12⟩:=w11.st (cx:=zA) 0 (t:=346) (f:=0) (u:=.agg [.int .i64 (5:Nat),v]) (cs':=.ls [.int .i64 (5:Nat),v]) rfl (by omega) zJ8 (yl.2 (by rw[kJ sv];rfl)) (oJ _) (by rw[kJ sv];exact O5 sv) (by rw[kJ sv];rfl);have x12:Ext h h12 2:=w12.ex0;have t12:=t.ext x12;refine⟨h12,e12,λc=>by omega,λ_=>⟨_,w12.ld1 1 rfl zd rfl rfl,((1*2^5:Nat):Int),by rw[zW (by omega)];exact yH (a:=1) (by omega) (by omega),λc=>by omega,λ_=>Has.nil.on λtm hs2=>?_⟩⟩
 refine wpS.av hs2 zUR rfl rfl (zJL ⟨_,_,w12.ldA 0 rfl zJ8 rfl rfl,YA t12.tab hs (by omega) (by omega) λh13 u x13 ow=>⟨u,rfl,_,ow.sl.len zP rfl,λc=>by omega,λ_=>hs2.on λtm3 hs3=>thenC.nx (hs3.sealK λtm4 hs4=>?_)⟩⟩)
 have w13:=w12.ext x13;have tt13:=x13.top;refine wpS.av hs4 zUS rfl rfl ⟨_,_,w13.ldA 0 rfl zJ8 rfl rfl,zLe (t12.ext x13).tab hs (by omega) hst hr1 hr32 (by omega) ⟨_,_,_,rfl,hs4.on λtm5 hs5=>?_⟩⟩
 exact endW.ok (leave.tmp (hs5.get (t:=6) rfl) (leave.tmp (hs5.get (t:=7) rfl) (leave.tmp (hs5.get (t:=8) rfl) (leave.tmp (hs5.get (t:=9) rfl) rfl)))) ⟨rfl,w13.ex0.mono (by omega)⟩
end Go.Proofs.YtnpeieeomokomaaGreat
