/- BG. No condition. -/
import Derived.Test.YtnpeieeomokomaaGreatZBF
import Derived.Test.YtnpeieeomokomaaGreatZTA
set_option maxRecDepth 100000
set_option maxHeartbeats 4000000
namespace Go.Proofs.YtnpeieeomokomaaGreat
open Go.Sim
variable{h:H}{xs:Ug}{n:Nat}{v:V}
section
variable (tm:Tm) (p7 p9 pz b2 o2 n2:Nat) (k x0 y0 s:Int) (v8 v3 xv yv e0 a1:V) (c2:Cap)
end
theorem tF{e:Nat}(s:Sl h v e n xs){q:Nat}(a:z6 v=some q):q<h.nx:=by
 obtain⟨_,⟨rfl,_⟩|⟨b,o,c,cs,k,w,op,rfl,hb,_⟩⟩:=s
 .cases a
 cases a;exact hb
theorem CX{i p9 nx z:Nat}{k:Int}{x y:Nd}{ys:Ug}{K:Nat->V->H->Prop}(Y:h.get i=some (.cells (.ls x.cs) ⟨0,262,0⟩ true false))(g9:h.get p9=some (.cells (.ls y.cs) ⟨0,262,0⟩ true false))(l7:i<h.nx)(l9:p9<h.nx)(Z:Sl h x.v 1 nx xs)(sy:Sl h y.v 1 z ys)(x0:0<nx)(y0:0<z)(M:zU xs=true)(N:zU ys=true)(hsz:nx+z<=300)(hn:h.nx+4<=T.top)(lo:h.low<=T.top)(c:∀h' D v,Ext h h' 4->h.nx<=D->D<h'.nx->h'.get D=some (.cells (.ls [.int .i64 (zb (x.c+y.c)),.bool false,.int .i64 k,v]) ⟨0,262,0⟩ true false)->Sl h' v 1 (nx+z) (xs++ys)->IsS v->(∀q,z6 v=some q->h.nx<=q)->K D v h'):
  ∀h1,h1=wW h ((z8 h).new (.cells (.ls []) ⟨0,4,0⟩ true false))->ye zB 23 h1 (.ptr i 3)=some x.v/\∃b o n cp d,zi zB 23 (z8 h1) (.slice h.nx 0 0 (.exact 0)) x.v=some (.slice b o n cp,d)/\(∀ops bs m k,lowOk ops bs m k h1 d)/\b≠i/\b≠p9/\∀h2,h2=wW h1 d->ye zB 23 h2 (.ptr p9 3)=some y.v/\∃j p r u f,zi zB 23 (z8 h2) (.slice b o n cp) y.v=some (.slice j p r u,f)/\f.nx<=T.top/\∀h3,h3=wW h2 f->h3.nx<T.top/\h3.low<=T.top/\∀h4,h4=wW h3 ((z8 h3).new (.cells (.ls [.int .i64 0,.bool false,.int .i64 0,.nilslice]) ⟨0,262,0⟩ true false))->∃h5,jP zB 261 h4 (.ptr h3.nx 0) (.agg [.int .i64 (zb (x.c+y.c)),.bool false,.int .i64 k,.slice j p r u])=some h5/\K h3.nx (.slice j p r u) h5:=by
 have xI:jo yg=true:=de
 have lx:∀{g:H},g.get i=h.get i->ye zB 3 g (.ptr i 0)=some (.int .i64 x.c):=λe=>zJ zX rfl (e.trans Y) rfl
 have ly:∀{g:H},g.get p9=h.get p9->ye zB 3 g (.ptr p9 0)=some (.int .i64 y.c):=λe=>zJ zX rfl (e.trans g9) rfl
 have O:∀{g:H},g.get i=h.get i->ye zB 23 g (.ptr i 3)=some x.v:=λe=>zJ zM rfl (e.trans Y) rfl
 have P:∀{g:H},g.get p9=h.get p9->ye zB 23 g (.ptr p9 3)=some y.v:=λe=>zJ zM rfl (e.trans g9) rfl
 intro h1 E;have A:(z8 h).nx<T.top:=by show h.nx<_;omega
 have n1:h1.nx=h.nx+1:=by rw[E];exact zC (z8 h) (.cells (.ls []) ⟨0,4,0⟩ true false)
 have g1:h1.get h.nx=some (.cells (.ls []) ⟨0,4,0⟩ true false):=by rw[E];exact zK (h:=z8 h) _ A
 have f1:∀q,q<h.nx->h1.get q=h.get q:=λq c=>by rw[E];exact zn (h:=z8 h) _ A c
 have w1:h1.low=h.low:=by rw[E,jV];show min h.low T.top=_;omega
 have up:∀{g:H}{v:V}{n:Nat}{l:Ug},Sl h v 1 n l->h.nx<=g.nx->(∀q,q<h.nx->g.get q=h.get q)->Sl g v 1 n l:=λs a b=>Sl.keep s (λq c=>b q (tF s c)) a
 have Q:Sl (z8 h1) x.v 1 nx xs:=up Z (by show h.nx<=h1.nx;omega) λq c=>f1 q c
 obtain⟨v1,d,a1,z1,⟨r0,r1,r2,r3,r4,_,_⟩,_⟩:=Oz.app (h:=z8 h1) (v:=.slice h.nx 0 0 (.exact 0)) (te:=yg) (t:=23) (e:=3) (xs:=[]) (ys:=xs) (n:=0) (m:=nx) (.inr ⟨rfl,rfl,h.nx,rfl,by show h.nx<h1.nx;omega,g1⟩) (Q.src dg x0) Z.1 zM rfl zX xI M (by show(0+nx)*1<=_;omega) (by show(0+nx)*8<=_;omega) (by show h1.nx<_;omega);have r1:h1.nx<=d.nx:=r1;have r2:d.nx<=h1.nx+1:=r2;have B:d.low=T.top:=r0 rfl;obtain⟨b,o,n,cp,rfl,hb⟩:∃b o n cp,v1 = .slice b o n cp/\h.nx<=b:=by
  have hv:∀b,z6 v1=some b->h.nx<=b:=λb hb=>by
   rcases r4 with⟨e,_⟩|e
   .rw[e]at hb;cases hb;exact oR _
   rw[e]at hb;cases hb;show h.nx<=h1.nx;omega
  rcases z1 with⟨⟨_,⟨_,F⟩|⟨b,_,rfl,_⟩⟩,_⟩|⟨F,_⟩
  .omega
  .exact⟨b,_,_,_,rfl,hv b rfl⟩
  omega
 refine⟨O (f1 i l7),b,o,n,cp,d,a1,?_,dd,dd,λh2 G=>?_⟩
 .intro _ _ _ _;unfold lowOk;split
  .omega
  exact⟨by rw[B];omega,dd⟩
 have n2:h2.nx=d.nx:=by rw[G];rfl
 have w2:h2.low=h.low:=by rw[G,jV,w1,B];omega
 have R:∀q,q<h.nx->h2.get q=h.get q:=λq c=>by rw[G];refine(r3 q (by show q<h1.nx;omega) λe=>?_).trans (f1 q c);cases e;omega
 have S:Sl (z8 h2) y.v 1 z ys:=up sy (by show h.nx<=h2.nx;omega) λq c=>R q c
 have U:Oz (z8 h2) (.slice b o n cp) yg (0+nx) ([]++xs):=z1.keep (by show d.nx<=h2.nx;omega) λb _=>by rw[G];rfl
 obtain⟨v2,f,a2,z2,⟨_,s1,s2,s3,s4,s5,s6⟩,_⟩:=Oz.app U (S.src dg y0) sy.1 zM rfl zX xI N (by show(0+nx+z)*1<=_;omega) (by show(0+nx+z)*8<=_;omega) (by show h2.nx<_;omega);have s1:h2.nx<=f.nx:=s1;have s2:f.nx<=h2.nx+1:=s2;obtain⟨j,p,r,u,rfl⟩:∃b o n cp,v2 = .slice b o n cp:=by
  rcases z2 with⟨⟨_,⟨_,F⟩|⟨b,_,rfl,_⟩⟩,_⟩|⟨F,_⟩
  .omega
  .exact⟨b,_,_,_,rfl⟩
  omega
 refine⟨P (R p9 l9),j,p,r,u,f,a2,dd,λh3 I=>?_⟩;have n3:h3.nx=f.nx:=by rw[I];rfl
 have f3:∀q,q<h.nx->h3.get q=h.get q:=λq c=>by rw[I];refine(s3 q (by show q<h2.nx;omega) λe=>?_).trans (R q c);cases e;omega
 have J:h3.low<=h.low/\min h.low h.nx<=h3.low:=by rw[I,jV,w2];exact⟨Nat.min_le_left _ _,Nat.le_min.2 ⟨Nat.min_le_left _ _,s6 _ (by show _<=T.top;omega) λq e=>by cases e;omega⟩⟩
 have W:∀q,z6 (.slice j p r u)=some q->h.nx<=q:=λq c=>by
  rcases s4 with⟨e,_⟩|e
  .rw[e]at c;cases c;exact hb
  rw[e]at c;cases c;show h.nx<=h2.nx;omega
 have X:Ow h3 (.slice j p r u) yg (0+nx+z) ([]++xs++ys):=by
  rcases z2 with⟨ow,_⟩|⟨F,_⟩
  .exact ow.keep dd λq _=>by rw[I];rfl
  omega
 have w:(z8 h3).nx<T.top:=by show h3.nx<_;omega
 refine⟨w,by have:=J.1;omega,λh4 L=>?_⟩;have n4:h4.nx=h3.nx+1:=by rw[L];exact zC (z8 h3) (.cells (.ls [.int .i64 0,.bool false,.int .i64 0,.nilslice]) ⟨0,262,0⟩ true false)
 have g4:h4.get h3.nx=some (.cells (.ls [.int .i64 0,.bool false,.int .i64 0,.nilslice]) ⟨0,262,0⟩ true false):=by rw[L];exact zK (h:=z8 h3) _ w
 have f4:∀q,q<h3.nx->h4.get q=h3.get q:=λq c=>by rw[L];exact zn (h:=z8 h3) _ w c
 have w4:h4.low=h3.low:=by rw[L,jV];have:=J.1;show min h3.low T.top=_;omega
 obtain⟨s,es⟩:∃s,s=zb (x.c+y.c):=⟨_,rfl⟩;have C:jP zB 261 h4 (.ptr h3.nx 0) (.agg [.int .i64 s,.bool false,.int .i64 k,.slice j p r u])=some (h4.upd h3.nx (some (.cells (.ls [.int .i64 s,.bool false,.int .i64 k,.slice j p r u]) ⟨0,262,0⟩ true false))):=zY ji g4 rfl;have pt:h3.nx<T.top:=w;rw[es]at C;refine⟨_,C,c _ h3.nx (.slice j p r u) ⟨by show h.nx<=h4.nx;omega,by show h4.nx<=_;omega,λq h1=>by rw[zL _ pt dd,f4 q dd];exact f3 q h1,by rw[H.low_upd,w4];have:=J.1;omega,by rw[H.low_upd,w4];have:=J.2;omega⟩ dd (by show h3.nx<h4.nx;omega) (by rw[zF _ pt]) ?_ (.inr ⟨_,_,_,_,rfl⟩) W⟩;have:=X.sl;rw[Nat.zero_add,List.nil_append]at this;exact Sl.keep this (λq c=>by
  have:=tF this c;rw[zL _ pt dd,f4 q dd]) (by show h3.nx<=h4.nx;omega)
def JX(n:Nat)(f:Nat->Int):Ub:=(List.range n).map f
theorem ZH(n:Nat)(f:Nat->Int):(JX n f).length=n:=by simp[JX]
theorem X6{i:Nat}(f:Nat->Int)(h:i<n):(JX n f)[i]? = some (f i):=by simp[JX,List.getElem?_range h]
theorem Q7{s:Nat}(f:Nat->Int)(x:Int)(_:s<n):(JX n f).set s x=JX n λj=>if j=s then x else f j:=by
 apply List.ext_getElem?;intro i;by_cases c:i<n
 .rw[X6 _ c];by_cases e:s=i
  .subst e;rw[List.getElem?_set_self (by rw[ZH];exact c),if_pos rfl]
  rw[og e,X6 _ c,if_neg λg=>e g.symm]
 rw[ov (by rw[ox,ZH];omega),ov (by rw[ZH];omega)]
theorem V6(n:Nat):JX n (λ_=>0)=List.replicate n 0:=by
 apply List.ext_getElem?;intro i;by_cases c:i<n
 .rw[X6 _ c,List.getElem?_replicate,if_pos c]
 rw[ov (by rw[ZH];omega),ov (by rw[List.length_replicate];omega)]
theorem NW{f g:Nat->Int}(h:∀i,i<n->f i=g i):JX n f=JX n g:=List.map_congr_left λi hi=>h i (List.mem_range.1 hi)
def S9(f:Nat->Int)(s:Nat):Nat->Int:=λj=>if j=s then f j+1 else f j
def rQ(f:Nat->Int)(l:Uf):Nat->Int:=l.foldl S9 f
theorem nt:∀{l:Uf}{f:Nat->Int},l.Nodup->∀j,rQ f l j=if j∈l then f j+1 else f j
 | [],_,_,_=>by simp[rQ]
 | s::l,f,h,j=>by
  have h2:=List.nodup_cons.1 h;show rQ (S9 f s) l j=_;rw[nt h2.2];by_cases e:j=s
  .subst e;rw[if_neg h2.1,if_pos (List.mem_cons_self ..)];simp[S9]
  by_cases c:j∈l<;>simp[c,e,S9]
theorem Na{l:Uf}{f:Nat->Int}{i:Nat}(h:i<l.length):rQ f (l.take (i+1))=S9 (rQ f (l.take i)) l[i]:=by unfold rQ;rw[List.take_add_one,oQ h,List.foldl_append];rfl
def sy(t:HT):Uf:=t.ls.map (·.1)
theorem cX(g:Nat)(a b:HT):sy (.join g a b)=sy a++sy b:=List.map_append
theorem RZ:(t:HT)->0<(sy t).length
 | .leaf _ _=>by simp[sy,HT.ls]
 | .join g a b=>by rw[cX,oW];have:=RZ a;omega
theorem bC:(t:HT)->(d:Nat)->t.lv (d+1)=(t.lv d).map λp=>(p.1,p.2+1)
 | .leaf _ _,_=>rfl
 | .join _ a b,d=>by show a.lv (d+2)++b.lv (d+2)=(a.lv (d+1)++b.lv (d+1)).map _;rw[List.map_append,bC a,bC b]
theorem GY{t:HT}{d:Nat}{x:Nat×Nat}(h:x∈t.lv d):x.1∈sy t:=by have:x.1∈(t.lv d).map (·.1):=List.mem_map.2 ⟨x,h,rfl⟩;rw[Zm]at this;exact this
theorem JV{α:Type}{x:α}:∀{l:List α}{i:Nat},l[i]? = some x->(x::l.eraseIdx i).Perm l
 | [],_,h=>by cases h
 | y::l,0,h=>by cases h;exact List.Perm.refl _
 | y::l,i+1,h=>(List.Perm.swap y x _).trans ((JV (l:=l) h).cons y)
abbrev Zj(L:List Nd):Uf:=L.flatMap λz=>sy z.t
structure NL (own:Ub) (n0:Nat) (L:List Nd) (f:Nat->Int):Prop where
 keys:(Zj L).Perm ((pos own own.length).map (·.1))
 dep:∀z∈L,∀x∈z.t.lv 0,f x.1=(x.2:Int)
 zero:∀s,s∉Zj L->f s=0
 hgt:∀z∈L,z.t.hgt+L.length<=n0
section
variable {own:Ub}{n0:Nat}{L:List Nd}{f:Nat->Int}
theorem NL.nd(h:NL own n0 L f):(Zj L).Nodup:=h.keys.symm.nodup (vY _ _)
theorem NL.lt(h:NL own n0 L f){z:Nd}(a:z∈L){s:Nat}(hs:s∈sy z.t):s<own.length:=by obtain⟨y,b,e⟩:=List.mem_map.1 (h.keys.mem_iff.1 (List.mem_flatMap.2 ⟨z,a,hs⟩));rw[<-e];exact(ra _ _ y b).1
theorem NL.bound(h:NL own n0 L f)(s:Nat):0<=f s/\f s<=n0:=by
 by_cases c:s∈Zj L
 .obtain⟨z,a,hs⟩:=List.mem_flatMap.1 c;unfold sy at hs;rw[<-Zm z.t 0]at hs;obtain⟨x,b,rfl⟩:=List.mem_map.1 hs;have d:=h.dep z a x b;have h2:=(KY z.t 0 x b).2;have h3:=h.hgt z a;omega
 rw[h.zero s c];omega
theorem NL.two(h:NL own n0 L f){a b:Nat}{x y:Nd}(h1:L[a]? = some x)(h2:(L.eraseIdx a)[b]? = some y):(x::y::(L.eraseIdx a).eraseIdx b).Perm L/\(sy x.t++sy y.t).Nodup:=by have p:(x::y::(L.eraseIdx a).eraseIdx b).Perm L:=((JV h2).cons _).trans (JV h1);refine⟨p,?_⟩;have nd:=(p.flatMap_right λz=>sy z.t).symm.nodup h.nd;rw[List.flatMap_cons,List.flatMap_cons,<-List.append_assoc]at nd;exact(List.nodup_append.1 nd).1
theorem NL.join(h:NL own n0 L f){e j:Nat}{x y:Nd}(h1:L[e]? = some x)(h2:(L.eraseIdx e)[j]? = some y){c k:Int}{v:V}:
  NL own n0 ((L.eraseIdx e).eraseIdx j++[⟨c,false,k,.join 0 x.t y.t,v⟩]) (rQ f (sy x.t++sy y.t)):=by
 have p:=(h.two h1 h2).1;have b:=p.length_eq;clear h1 h2;generalize (L.eraseIdx e).eraseIdx j=L2 at *;simp only[oc]at b;have i:(sy x.t++(sy y.t++Zj L2)).Perm (Zj L):=p.flatMap_right λz:Nd=>sy z.t
 have nd:(sy x.t++(sy y.t++Zj L2)).Nodup:=i.symm.nodup h.nd;rw[<-List.append_assoc]at nd i;obtain⟨d,_,l⟩:=List.nodup_append.1 nd;have o:Zj (L2++[⟨c,false,k,.join 0 x.t y.t,v⟩])=Zj L2++(sy x.t++sy y.t):=by show(L2++_).flatMap _=_;rw[List.flatMap_append,List.flatMap_cons,List.flatMap_nil,List.append_nil,cX]
 have q:x∈L:=p.mem_iff.1 (by simp);have r:y∈L:=p.mem_iff.1 (by simp);refine⟨by rw[o];exact(List.perm_append_comm.trans i).trans h.keys,λz a w hw=>?_,λs hs=>?_,λz a=>?_⟩
 .rw[nt d];rcases List.mem_append.1 a with a|a
  .rw[if_neg λg=>l _ g _ (List.mem_flatMap.2 ⟨z,a,GY hw⟩) rfl];exact h.dep z (p.mem_iff.1 (by simp[a])) w hw
  rw[List.mem_singleton.1 a]at hw;have hw:w∈x.t.lv 1++y.t.lv 1:=hw;rw[bC,bC]at hw;rcases List.mem_append.1 hw with hw|hw;all_goals
   obtain⟨u,m,rfl⟩:=List.mem_map.1 hw;have t:=GY m
  .rw[if_pos (List.mem_append_left _ t),h.dep x q u m];rfl
  rw[if_pos (List.mem_append_right _ t),h.dep y r u m];rfl
 .rw[o]at hs;rw[nt d,if_neg λg=>hs (List.mem_append_right _ g)];exact h.zero s λg=>hs (by
   rcases List.mem_append.1 (i.mem_iff.2 g)with g|g
   .exact List.mem_append_right _ g
   exact List.mem_append_left _ g)
 rw[oW,List.length_singleton];rcases List.mem_append.1 a with a|a
 .have:=h.hgt z (p.mem_iff.1 (by simp[a]));omega
 rw[List.mem_singleton.1 a];show max x.t.hgt y.t.hgt+1+_<=_;have:=h.hgt x q;have:=h.hgt y r;omega
theorem NL.fin{z:Nd}(h:NL own n0 [z] f):JX own.length f=jl own z.t/\Good own z.t/\z.t.hgt+1<=n0:=by
 have b:Zj [z]=sy z.t:=by show List.flatMap _ [z]=_;simp
 have g:Good own z.t:=by have:=h.keys;rw[b]at this;exact this
 refine⟨?_,g,h.hgt z (by simp)⟩;apply List.ext_getElem?;intro i;by_cases c:i<own.length
 .rw[X6 _ c];by_cases q:i∈sy z.t
  .unfold sy at q;rw[<-Zm z.t 0]at q;obtain⟨x,a,rfl⟩:=List.mem_map.1 q;rw[h.dep z (by simp) x a];exact(KC _ _ g.nd (λy d=>by rw[List.length_replicate];exact g.lvlt y d) x a).symm
  rw[h.zero i (by rw[b];exact q)];unfold jl;rw[gB _ _ _ λx a e=>q (by rw[<-e];exact GY a),List.getElem?_replicate,if_pos c]
 rw[ov (by rw[ZH];omega),ov (by rw[XB];omega)]
end
theorem NL.leaves{own:Ub}{L:List Nd}(e:L.map (·.t)=(pos own own.length).map λp=>HT.leaf p.2 p.1):NL own (pos own own.length).length L λ_=>0:=by
 have c:Zj L=(pos own own.length).map (·.1):=by
  show L.flatMap (λz=>sy z.t)=_;rw[show L.flatMap (λz=>sy z.t)=(L.map (·.t)).flatMap sy by rw[List.flatMap_map],e];generalize pos own own.length=q;induction q with
  | nil=>rfl
  | cons p q ih=>rw[List.map_cons,List.map_cons,<-ih];rfl
 have hl:=congrArg List.length e;rw[oy,oy]at hl;have key:∀z∈L,∃n s,z.t = .leaf n s:=λz a=>by have:z.t∈L.map (·.t):=List.mem_map.2 ⟨z,a,rfl⟩;rw[e]at this;obtain⟨p,_,h⟩:=List.mem_map.1 this;exact⟨_,_,h.symm⟩
 refine⟨by rw[c],λz a x b=>?_,λ_ _=>rfl,λz a=>?_⟩;all_goals obtain⟨n,s,h⟩:=key z a
 .rw[h]at b;rw[List.mem_singleton.1 (show x∈[(s,0)]from b)];rfl
 rw[h];show 0+_<=_;omega
theorem Gl{own:Ub}{t:HT}(h2:own.length<=256)(g:Good own t)(hh:t.hgt<=11)(two:2<=(pos own own.length).length):jE (jl own t)=0:=by
 have a:=KV (QK (PY h2 g hh two));have hl:=XB own t;change jE (xP (jl own t))=0 at a;obtain⟨r,hr,b⟩:=nC (jl own t);generalize xP (jl own t)=z at *;rw[hr]at hl ⊢;have c0:=bW b;unfold jE at a ⊢;have c:wO r=true:=List.all_eq_true.2 λx d=>by rw[b x d];rfl
 have ls:ym 11 (z++r)=ym 11 z:=by have:=gh (m:=11) c0;unfold ym at this ⊢;rw[List.map_append,List.sum_append,this];rfl
 have lz:(z++r).length=z.length+r.length:=oW;rw[if_neg dd]at a ⊢;rw[jw,c,Bool.and_true,j7,c0,ls,Nat.add_zero];exact a
theorem AS{e:Nat}(s:Sl h v e n xs):IsS v:=by
 obtain⟨_,⟨rfl,_⟩|⟨b,o,a,cs,k,w,op,rfl,_⟩⟩:=s
 .exact .inl rfl
 exact .inr ⟨_,_,_,_,rfl⟩
theorem II{x i:Int}{k:V->Prop}(a:IsS v)(c:k (.agg [.int .i64 x,.bool true,.int .i64 i,v])):XU zB 261 (qe zB 261 [(0,.int .i64 x),(1,.bool true),(2,.int .i64 i),(3,v)]) k:=by
 have d:qe zB 261 [(0,.int .i64 x),(1,.bool true),(2,.int .i64 i),(3,v)]=some (.agg [.int .i64 x,.bool true,.int .i64 i,v]):=by rcases a with e|⟨b,o,n,f,e⟩<;>subst e<;>kernel_rfl
 have h2:Iw zB 261=false:=de
 unfold XU;rw[d];simp only[h2];exact c
def svs(t:HT):Ug:=zI ((sy t).map λs=>((s:Nat):Int))
structure NV (h:H) (po:Nat) (y:V) (z:Nd):Prop where
 sl:Sl h z.v 1 (sy z.t).length (svs z.t)
 sep:∀q,z6 z.v=some q->q≠po/\z6 y≠some q
theorem NV.step{h h':H}{po:Nat}{y c:V}{z:Nd}(a:NV h po y z)(d:h.nx<=h'.nx)(f:∀q,q<h.nx->q≠po->z6 y≠some q->h'.get q=h.get q)(i:∀q,z6 c=some q->h.nx<=q\/z6 y=some q):NV h' po c z :=
 ⟨Sl.keep a.sl (λq b=>f q (tF a.sl b) (a.sep q b).1 (a.sep q b).2) d,λq b=>⟨(a.sep q b).1,λe=>(i q e).elim (λg=>by have:=tF a.sl b;omega) (a.sep q b).2⟩⟩
theorem PQ(t:HT):zU (svs t)=true:=yP.2 λv a=>by obtain⟨x,_,rfl⟩:=List.mem_map.1 a;rfl
theorem WR(own:Ub){a:Nat}:∀{b:Nat},a<=b->(pos own a).length<=(pos own b).length:=by
 intro b h;induction h with
 | refl=>exact oR _
 | @step m _ ih=>have:=congrArg List.length (jY own m);rw[oW]at this;show _<=(pos own (m+1)).length;omega
theorem Nk{v y3:V}{own:Ub}{h h0:H}{cs:Cs}{tm:Tm}{po:Nat}{R:Ud}(sl:Sl h v 1 own.length (zI own))(hn9:(pos own own.length).length<=100)(w:Vw zH h h0 1 [(po,yV cs)])(hn:h.nx+1000<=T.top)(hlen:own.length<=256)(hs:Has tm [(5,.int .i64 0),(0,v),(4,.nilslice),(3,y3)])(f:∀h' L y,Vw zH h h' (1+3*(pos own own.length).length) [(po,yV cs)]->L.map (·.t)=((pos own own.length).map λp=>HT.leaf p.2 p.1)->Ow h' y Tq L.length (ZL L)->Sep zH h.nx [(po,yV cs)] y->(∀z∈L,NV h' po y z)->∀j,Has j [(4,y),(3,y3)]->R (.exit 0) ⟨88,j,[],h'⟩):
  wpC P zB false (.loop zAg) ⟨88,tm,[],h0⟩ R:=by
 refine wpC.round (λk tm h'=>∃(i:Nat) (L:List Nd) (y:V),i<=own.length/\k=own.length-i/\Vw zH h h' (1+3*(pos own i).length) [(po,yV cs)]/\L.map (·.t)=((pos own i).map λp=>HT.leaf p.2 p.1)/\Ow h' y Tq L.length (ZL L)/\Sep zH h.nx [(po,yV cs)] y/\(∀z∈L,NV h' po y z) /\
  Has tm [(5,.int .i64 i),(0,v),(4,y),(3,y3)]) own.length ⟨0,[],.nilslice,dd,dd,w,rfl,⟨rfl,.inl ⟨rfl,rfl⟩⟩,λb g=>(by cases g),λz O=>(by cases O),hs.sub de⟩ ?_
 clear hs w;rintro k tm h' ⟨i,L,y,hi,rfl,w,J,ow,sp,Q,hs⟩;have hL:=congrArg List.length J;rw[oy,oy]at hL;have tw:=w.top;have mono:=WR own hi;refine cg E2 hs ⟨_,(sl.ext w.ex0).len zM rfl,λc=>?_,λc=>λj S=>?_⟩
 .have hi:i<own.length:=dd
  obtain⟨pb,pf,a1,a2⟩:=(sl.ext w.ex0).at1 hi zM rfl zX rfl rfl (u:=.int .i64 own[i]) (by rw[od,oQ hi];rfl);have U:own[i]?.getD 0=own[i]:=by rw[oQ hi];rfl
  refine⟨pb,pf,a1,_,a2,λK=>?_,λK=>λW s=>⟨rfl,rfl,own.length-(i+1),dd,i+1,L,y,dd,rfl,?_,?_,ow,sp,Q,?_⟩⟩
  .have X:pos own (i+1)=pos own i++[(i,own[i])]:=by rw[jY,U,if_pos K]
   have m2:=WR own (show i+1<=own.length from hi);rw[X,oW,List.length_singleton]at m2;obtain⟨M,Y,e8,x,l,A⟩:=xG (c:=zB) (h:=h') (t:=23) (e:=3) (u:=.int .i64 (i:Nat)) zM rfl zX rfl rfl rfl rfl dg rfl dd;have w8:=w.ext l;have t8:=w8.top;have B:=AS x;obtain⟨z,N⟩:∃z:Nd,z=⟨own[i],true,i,.leaf own[i] i,M⟩:=⟨_,rfl⟩;have O:IsS z.v:=by rw[N];exact B
   obtain⟨c1,c3⟩:=Yy O;obtain⟨v10,C,Z,s11,d,_⟩:=xG (c:=zB) (h:=Y) (t:=259) (e:=261) (u:=.agg z.cs) (ys:=z.cs) Zy rfl ji rfl rfl c1 rfl dg c3 dd;have D:=w8.ext d;have t11:=D.top;have m:=((ow.ext l).ext d).append (c:=zB) (t:=259) (e:=261) s11 dg Zy rfl ji de c3 (by show(L.length+1)*4<=_;omega) (by show(L.length+1)*48<=_;omega) dd;obtain⟨o,r,e13,m⟩:=m;obtain⟨w13,E,F⟩:=D.grow sp m;obtain⟨_,n1,n2,n3,n4,_⟩:=m;have nv':∀u∈L++[z],NV r po o u:=by
    intro u G;have g11:∀q,q<h'.nx->C.get q=h'.get q:=λq f=>(d.get q (by have:=l.le;omega)).trans (l.get q f)
    have hy:∀q,z6 o=some q->h'.nx<=q\/z6 y=some q:=λq e=>by rw[n4]at e;have:=Option.some.inj e;have:=l.le;have:=d.le;exact .inl dd
    have g13:∀q,q<h'.nx->z6 y≠some q->r.get q=h'.get q:=λq f hn=>(n3 q (by have:=l.le;have:=d.le;omega) hn).trans (g11 q f)
    have I:h'.nx<=r.nx:=by have:=l.le;have:=d.le;omega
    rcases List.mem_append.1 G with G|G
    .exact(Q u G).step I (λq a _ b=>g13 q a b) hy
    rw[List.mem_singleton.1 G,N];have yb:∀q,z6 y=some q->q<h'.nx:=λq e=>ow.blk e
    refine⟨Sl.keep (show Sl Y M 1 1 _ from x) (λq f=>?_) (by have:=d.le;omega),λq f=>?_⟩
    .rw[A]at f;cases f;exact(n3 _ (by have:=l.le;have:=d.le;have:=tF x A;omega) λe=>by have:=yb _ e;omega).trans (d.get _ (tF x A))
    have f:z6 M=some q:=f;rw[A]at f;cases f;refine⟨λe=>?_,λe=>?_⟩
    .have:=w.lt 0 rfl;omega
    rw[n4]at e;have:=Option.some.inj e;have:=l.le;have:=d.le;have:=tF x A;omega
   refine⟨pb,pf,a1,_,a2,M,Y,e8,II B ⟨v10,C,by rw[<-Z,N];rfl,trivial,o,r,e13,λW s=>⟨rfl,rfl,own.length-(i+1),dd,i+1,L++[z],o,dd,rfl,?_,?_,?_,F,nv',?_⟩⟩⟩
   .rw[X,oW];exact w13.more (by show _<=1+3*((pos own i).length+1);omega)
   .rw[List.map_append,J,X,List.map_append,N];rfl
   .rw[oW,K3];have:ZL [z]=z.cs:=List.append_nil _;rw[this];exact E
   rw[<-zf];exact s.sub de
  .rw[jY,U,if_neg K,List.append_nil];exact w
  .rw[jY,U,if_neg K,List.append_nil];exact J
  rw[<-zf];exact s.sub de
 have hi:i=own.length:=dd
 subst hi;exact f h' L y w J ow sp Q j (S.sub de)
theorem Hs{z:Nd}{h1:H}{po b n:Nat}{f:Nat->Int}{cs:Cs}{v8 v6:V}{tm:Tm}{R:Ud}(D:h1.get po=some (yV cs))(hp:po<h1.nx)(row:Row cs n (zI (JX n f)))(F:h1.get b=some (.cells (.ls z.cs) ⟨0,262,0⟩ true false))(G:b<h1.nx)(p:b≠po)(sl:Sl h1 z.v 1 (sy z.t).length (svs z.t))(sep:∀q,z6 z.v=some q->q≠po)(r:∀s∈sy z.t,s<n)(nd:(sy z.t).Nodup)(I:∀s,0<=f s/\f s<=1000)(hl:(sy z.t).length<=1000)(_:n<=1000)(Q:h1.nx<=T.top)(_:h1.low<=T.top)(hs:Has tm [(11,.int .i64 0),(10,.ptr b 0),(3,.slice po 0 n (.exact n)),(8,v8),(6,v6)])(o:∀h' cs',Vw (· = po) h1 h' 0 [(po,yV cs')]->Row cs' n (zI (JX n (rQ f (sy z.t))))->∀d,Has d [(10,.ptr b 0),(3,.slice po 0 n (.exact n)),(8,v8),(6,v6)]->R (.exit 4) ⟨88,d,[],h'⟩):
  wpC P zB false (.loop zAh) ⟨88,tm,[],h1⟩ R:=by
 refine wpC.round (λk tm h'=>∃(i:Nat) (cs':Cs),i<=(sy z.t).length/\k=(sy z.t).length-i/\Vw (· = po) h1 h' 0 [(po,yV cs')]/\Row cs' n (zI (JX n (rQ f ((sy z.t).take i)))) /\
  Has tm [(11,.int .i64 i),(10,.ptr b 0),(3,.slice po 0 n (.exact n)),(8,v8),(6,v6)]) (sy z.t).length ⟨0,cs,dd,dd,Vw.one D hp rfl,row,hs⟩ ?_
 clear hs row D;rintro k tm h' ⟨i,cs',hi,rfl,w,row,hs⟩;have S:=w.top;have t:h'.get b=_:=(w.ex.get b G p).trans F;have lv:ye zB 23 h' (.ptr b 3)=some z.v:=zJ zM rfl t rfl;have l:Sl h' z.v 1 (sy z.t).length (svs z.t):=Sl.keep sl (λq o=>w.ex.get q (tF sl o) (sep q o)) w.le;refine cg E2 hs ?_;refine⟨_,lv,_,l.len zM rfl,λc=>?_,λc=>λd x=>?_⟩
 .have hi:i<(sy z.t).length:=dd
  obtain⟨s,es⟩:∃s,s=(sy z.t)[i]:=⟨_,rfl⟩;have a:s<n:=r s (by rw[es];exact oV hi);have y:s∉(sy z.t).take i:=λhm=>by have:=List.nodup_append.1 (show((sy z.t).take i++(sy z.t).drop i).Nodup by rw[List.take_append_drop];exact nd);exact this.2.2 s hm s (by rw[List.drop_eq_getElem_cons hi,es];exact List.mem_cons_self ..) rfl
  have A:((sy z.t).take i).Nodup:=nd.sublist (List.take_sublist ..);have ev:rQ f ((sy z.t).take i) s=f s:=by rw[nt A,if_neg y]
  have K:=I s;obtain⟨pb,L,a1,a2⟩:=l.at1 hi zM rfl zX rfl rfl (u:=.int .i64 ((s:Nat):Int)) (by unfold svs;rw[od,od,oQ hi,es];rfl);have g:cs'.get? s=some (.int .i64 (f s)):=by rw[row.2.2.2 s a];show((JX n _).map _)[s]? = _;rw[od,X6 _ a,ev];rfl
  have E:xK zB 23 (.slice po 0 n (.exact n)) (.int .i64 ((s:Nat):Int))=some (.ptr po s):=yp zM rfl zX rfl a;obtain⟨h2,B,M,m,N,U⟩:=w.set (cx:=zB) 0 (j:=s) (u:=.int .i64 (f s+1)) row rfl dd a zX rfl rfl rfl rfl;refine⟨_,lv,pb,L,a1,_,a2,_,_,E,_,w.ld1 0 rfl zX g,_,_,E,h2,?_,λO C=>⟨rfl,rfl,(sy z.t).length-(i+1),dd,i+1,B,dd,rfl,N,?_,?_⟩⟩
  .rw[zD (show _<=f s+1 by omega) dd];exact M
  .rw[Na hi,<-es];have:(zI (JX n (rQ f ((sy z.t).take i)))).set s (.int .i64 (f s+1))=zI (JX n (S9 (rQ f ((sy z.t).take i)) s)):=by
    show(List.map _ _).set s _=_;rw[<-List.map_set,Q7 _ _ a];congr 1;refine NW λj _=>?_
    unfold S9;by_cases e:j=s
    .rw[if_pos e,if_pos e,e,ev]
    rw[if_neg e,if_neg e]
   rw[<-this];exact m
  rw[<-zf];exact C.sub de
 have hi:i=(sy z.t).length:=dd
 subst hi;rw[List.take_length]at row;exact o h' cs' w row d (x.sub de)
theorem Oz.ow{te:TI}(s:Oz h v te n xs)(a:0<n):Ow h v te n xs:=by
 rcases s with⟨s,_⟩|⟨b,_⟩
 .exact s
 omega
theorem Oz.blk{te:TI}(s:Oz h v te n xs){q:Nat}(a:z6 v=some q):q<h.nx:=by
 rcases s with⟨s,_⟩|⟨_,_,p,rfl,hp,_⟩
 .exact s.blk a
 cases a;exact hp
theorem Nh{own:Ub}{n0 c0:Nat}{h h0:H}{L0:List Nd}{f0:Nat->Int}{Q:Cs}{y0:V}{po:Nat}{tm:Tm}{R:Ud}(hl:own.length<=256)(h9:n0<=100)(nl:NL own n0 L0 f0)(l1:1<=L0.length)(w:Vw zH h h0 c0 [(po,yV Q)])(row:Row Q own.length (zI (JX own.length f0)))(ow:Ow h0 y0 Tq L0.length (ZL L0))(sp:Sep zH h.nx [(po,yV Q)] y0)(Z:∀z∈L0,NV h0 po y0 z)(hn:h.nx+c0+22*L0.length+100<=T.top)(lo:h.low<=T.top)(hs:Has tm [(6,.int .i64 0),(4,y0),(3,.slice po 0 own.length (.exact own.length))])(i:∀h' cs z f,Vw zH h h' (c0+22*L0.length) [(po,yV cs)]->Row cs own.length (zI (JX own.length f))->NL own n0 [z] f->∀U,Has U [(3,.slice po 0 own.length (.exact own.length))]->R (.exit 2) ⟨88,U,[],h'⟩):
  wpC P zB false (.loop zAi) ⟨88,tm,[],h0⟩ R:=by
 refine wpC.round (λk tm h'=>∃(L:List Nd) (f:Nat->Int) (cs:Cs) (y:V) (mi:Int),k=L.length/\1<=L.length/\L.length<=L0.length/\NL own n0 L f/\Vw zH h h' (c0+22*(L0.length-L.length)) [(po,yV cs)]/\Row cs own.length (zI (JX own.length f))/\Ow h' y Tq L.length (ZL L)/\Sep zH h.nx [(po,yV cs)] y /\
  (∀z∈L,NV h' po y z)/\Has tm [(6,.int .i64 mi),(4,y),(3,.slice po 0 own.length (.exact own.length))]) L0.length ⟨L0,f0,Q,y0,0,rfl,l1,oR _,nl,w.more dd,row,ow,sp,Z,hs⟩ ?_
 clear hs w row ow sp Z nl;rintro k tm h' ⟨L,f,cs,y,mi,rfl,l1,l2,nl,w,row,ow,sp,Z,hs⟩;have tw:=w.top;have lo1:=oS w.low lo;have A:∀z∈L,IsS z.v:=λz hz=>AS (Z z hz).sl
 have hL:L.length<=n0:=by
  rcases L with _|⟨z,L⟩
  .cases l1
  have:=nl.hgt z (by simp);omega
 refine cg E2 hs ⟨_,ow.sl.len Zy rfl,λc=>?_,λc=>λU hs'=>?_⟩
 .have h2:2<=L.length:=dd
  refine vK ow A lo1 λW x ha va e1 xa oza ba=>?_
  have ta:=xa.top;have la:=xa.le;have lw:=w.le;have hx:=List.mem_of_getElem? e1;obtain⟨xc,x1⟩:=Yy (A x hx);have I:(L.eraseIdx W).length=L.length-1:=by rw[List.length_eraseIdx,if_pos (List.getElem?_eq_some_iff.1 e1).1]
  refine⟨_,_,_,_,_,rfl,dd,?_⟩;rintro p8 h9 rfl e9;have w9:=((Vw.nil (S:=zH) (h:=h')).ext xa).new e9 dd;obtain⟨E,e10,w10,n10,f10⟩:=w9.st (cx:=zB) 0 (t:=261) (f:=0) (u:=.agg x.cs) (cs':=.ls x.cs) rfl (by have:=w9.top;omega) ji (by rw[xc];rfl) (zx.2 (by rw[xc];rfl)) (oM _) (by rw[xc];exact x1);have n9:h9.nx=ha.nx+1:=by rw[e9,zC]
  have g10:∀q,q<ha.nx->E.get q=ha.get q:=λq i=>(f10 q dd).trans (by rw[e9];exact zn _ dd i)
  have lo10:E.low<=T.top:=oS w10.low lo1;have ow1:Ow E va Tq (L.eraseIdx W).length (ZL (L.eraseIdx W)):=by rw[I];exact(oza.ow dd).keep dd λq i=>g10 q (oza.blk i)
  refine⟨E,e10,vK ow1 (λz hz=>A z (List.mem_of_mem_eraseIdx hz)) lo10 λj2 B hb vb e2 xb ozb bb=>?_⟩;have tb:=xb.top;have lb:=xb.le;have hy:=List.mem_of_mem_eraseIdx (List.mem_of_getElem? e2);obtain⟨yc,y1⟩:=Yy (A B hy);have len2:((L.eraseIdx W).eraseIdx j2).length=L.length-2:=by rw[List.length_eraseIdx,if_pos (List.getElem?_eq_some_iff.1 e2).1,I];omega
  refine⟨_,_,_,_,_,rfl,dd,?_⟩;rintro p18 h19 rfl e19;have w19:=(w10.ext xb).new e19 dd;obtain⟨l,e20,m,n20,f20⟩:=w19.st (cx:=zB) 0 (t:=261) (f:=0) (u:=.agg B.cs) (cs':=.ls B.cs) rfl (by have:=w19.top;omega) ji (by rw[yc];rfl) (zx.2 (by rw[yc];rfl)) (oM _) (by rw[yc];exact y1);have n19:h19.nx=hb.nx+1:=by rw[e19,zC]
  have g20:∀q,q<hb.nx->l.get q=hb.get q:=λq i=>(f20 q dd).trans (by rw[e19];exact zn _ dd i)
  have o:=m.ex0;have t20:=o.top;have C:l.low<=T.top:=oS o.low lo1;obtain⟨pm,nd2⟩:=nl.two e1 e2;have nvx:=Z x hx;have nvy:=Z B hy;have hlx:=congrArg List.length (show Zj (x::B::(L.eraseIdx W).eraseIdx j2)=_ from rfl);have hk:(sy x.t).length+(sy B.t).length<=256:=by have a1:=(pm.flatMap_right λz=>sy z.t).length_eq;rw[List.flatMap_cons,List.flatMap_cons,oW,oW]at a1;have a2:=nl.keys.length_eq;rw[oy]at a2;have a3:=cE own own.length;have a4:(Zj L).length=(L.flatMap λz=>sy z.t).length:=rfl;omega
  have ND:=CX (k:=mi) (x:=x) (y:=B) (K:=λpz v j=>Ext l j 4/\l.nx<=pz/\pz<j.nx/\j.get pz=some (.cells (.ls [.int .i64 (zb (x.c+B.c)),.bool false,.int .i64 mi,v]) ⟨0,262,0⟩ true false)/\Sl j v 1 (_+_) (_++_)/\IsS v/\∀q,z6 v=some q->l.nx<=q) (m.get 1 rfl) (m.get 0 rfl) (m.lt 1 rfl) (m.lt 0 rfl) (nvx.sl.ext o) (nvy.sl.ext o) (RZ _) (RZ _) (PQ _) (PQ _) dd dd C λ_ _ _ a b c d e f g=>⟨a,b,c,d,e,f,g⟩
  refine⟨l,e20,⟨dd,C⟩,x.c,(show ye zB 3 l (.ptr _ 0)=some (.int .i64 x.c)from zJ zX rfl (m.get 1 rfl) rfl),B.c,(show ye zB 3 l (.ptr _ 0)=some (.int .i64 B.c)from zJ zX rfl (m.get 0 rfl) rfl),_,_,QE (h:=l) dd,?_⟩;obtain⟨q1,b1,o1,m1,cp1,h2',a1,l2,nb1,nb2,F2⟩:=ND _ (Yw C).symm;refine⟨_,q1,trivial,_,h2',a1,l2 _ _ _ _,λhA eA=>?_⟩;obtain⟨q2,b2,o2,m2,c2,h3',a2,t3,F3⟩:=F2 hA eA;refine⟨_,q2,trivial,_,h3',a2,⟨nb1,nb2,t3⟩,λhB eB=>?_⟩;obtain⟨t4,lB,F4⟩:=F3 hB eB;refine⟨t4,?_⟩;rintro pz hC epz eC;obtain⟨j,e21,F,p1,p2,gz,slz,isz,bz⟩:=F4 hC (by rw[Yw lB];exact eC);rw[<-epz]at e21 p1 p2 gz;generalize V.slice b2 o2 m2 c2=vz at e21 gz slz isz bz ⊢;refine⟨j,e21,λtm3 hs3=>?_⟩;obtain⟨z,ez⟩:∃z:Nd,z=⟨zb (x.c+B.c),false,mi,.join 0 x.t B.t,vz⟩:=⟨_,rfl⟩;have gz:j.get pz=some (.cells (.ls z.cs) ⟨0,262,0⟩ true false):=by rw[ez];exact gz
  have J:sy z.t=sy x.t++sy B.t:=by rw[ez];exact cX ..
  have M:z.v=vz:=by rw[ez]
  have w21:=(w.ext o).ext F;have t21:=F.top;have lpo:=w.lt 0 rfl;have D:Sl j z.v 1 (sy z.t).length (svs z.t):=by unfold svs;rw[J,M,oW,List.map_append];show Sl _ _ _ _ (List.map _ _);rw[List.map_append];exact slz
  have lo21:j.low<=T.top:=oS F.low C;have l20:=o.le;have l21:=F.le;refine Hs (z:=z) (v8:=vb) (v6:=.int .i64 mi) (w21.get 0 rfl) (w21.lt 0 rfl) row gz p2 dd D (λq i=>by rw[M]at i;have:=bz q i;omega) (λs hs=>?_) (by rw[J];exact nd2) (λs=>by have:=nl.bound s;omega) (by rw[J,oW];omega) dd dd lo21 (hs3.sub de) λh22 cs22 p row22 tm4 hs4=>?_
  .rw[J]at hs;rcases List.mem_append.1 hs with hs|hs
   .exact nl.lt hx hs
   exact nl.lt hy hs
  have t22:=p.top;have l22:=p.le;have wo22:=w21.extX 0 rfl p.ex (p.get 0 rfl);have gz22:=(p.ex.get pz p2 (show ¬pz=po by omega)).trans gz;obtain⟨zc,z1⟩:=Yy (show IsS z.v by rw[M];exact isz);obtain⟨v23,h23,e23,s23,N,_⟩:=xG (c:=zB) (h:=h22) (t:=259) (e:=261) (u:=.agg z.cs) (ys:=z.cs) Zy rfl ji rfl rfl zc rfl dg z1 dd;have w23:=wo22.ext N;have t23:=N.top;have l23:=N.le;have G:∀q,z6 vb=some q->E.nx<=q/\q<hb.nx:=λq i=>⟨bb q i,ozb.blk i⟩
  have oz23:Oz h23 vb Tq ((L.eraseIdx W).length-1) (ZL ((L.eraseIdx W).eraseIdx j2)):=ozb.keep dd λq i=>by have:=G q i;exact(N.get q dd).trans ((p.ex.get q dd (show ¬q=po by omega)).trans ((F.get q dd).trans (g20 q this.2)))
  obtain⟨v24,O,e24,oz24,⟨_,q1,q2,q3,q4,q5,q6⟩,_⟩:=oz23.app (s23.src dg dg) (show z.cs.length=1*4 from rfl) Zy rfl ji de z1 (by show(_+1)*4<=_;omega) (by show(_+1)*48<=_;omega) dd;have w24:=w23.apart (ExtX.append q1 q2 q3 q5 q6) (λb g=>by have:=G b g;exact .inr dd) (λq i g=>by
   rw[List.mem_singleton.1 i]at g;have:=G _ g;exact absurd this.1 (by show ¬_<=po;omega))
  have X:∀q,z6 v24=some q->(E.nx<=q/\q<hb.nx)\/q=h23.nx:=λq i=>by
   rcases q4 with⟨e,_⟩|e
   .rw[e]at i;exact .inl (G q i)
   rw[e]at i;cases i;exact .inr rfl
  refine thenC.out (sg hs4 ⟨_,_,_,_,zT ji rfl gz22 rfl,v23,h23,e23,trivial,v24,O,e24,λtm6 hs6=>?_⟩);show thenC _ _ .normal _;refine thenC.nx (sg hs6 (λtm7 hs7=>hs7.slt λtm8 hs8=>?_));have Y:((L.eraseIdx W).eraseIdx j2++[z]).length=L.length-1:=by rw[oW,len2,List.length_singleton];omega
  refine⟨rfl,rfl,L.length-1,dd,(L.eraseIdx W).eraseIdx j2++[z],rQ f (sy x.t++sy B.t),cs22,v24,zb (mi+1),Y.symm,dd,dd,?_,w24.more dd,by rw[<-J];exact row22,?_,λq i=>?_,λu hu=>?_,hs8.sub de⟩
  .rw[ez];exact nl.join e1 e2
  .have:=oz24.ow dd;rw[Y,K3,show ZL [z]=z.cs from List.append_nil _];rw[I,show L.length-1-1+1=L.length-1 by omega]at this;exact this
  .refine⟨.inr ?_,λr hr e=>?_⟩
   .have:=X q i;omega
   rw[List.mem_singleton.1 hr]at e;have e:po=q:=e;have:=X q i;omega
  have le24:h'.nx<=O.nx:=dd
  have g24:∀q,q<O.nx->q<j.nx->(∀r,z6 vb=some r->r≠q)->q≠po->O.get q=j.get q:=λq _ i hn hp=>(q3 q dd λe=>hn q e rfl).trans ((N.get q dd).trans (p.ex.get q i hp))
  rcases List.mem_append.1 hu with hu|hu
  .refine(Z u (pm.mem_iff.1 (by simp[hu]))).step le24 (λq a1 a2 _=>?_) λq e=>?_
   .exact(g24 q dd dd (λr hr=>by have:=G r hr;omega) a2).trans ((F.get q dd).trans (o.get q a1))
   have:=X q e;exact .inl dd
  rw[List.mem_singleton.1 hu];refine⟨Sl.keep D (λq i=>?_) (show j.nx<=O.nx by omega),λq i=>?_⟩
  .have a1:=tF D i;rw[M]at i;have a2:=bz q i;exact g24 q dd a1 (λr hr=>by have:=G r hr;omega) dd
  have a1:=tF D i;rw[M]at i;have a2:=bz q i;exact⟨dd,λe=>by have:=X q e;omega⟩
 obtain⟨z,rfl⟩:=List.length_eq_one_iff.1 (show L.length=1 by omega);exact i h' cs z f (w.more dd) row nl U (hs'.sub de)
theorem WG{own:Ub}{Q:Uc}(sl:Sl h v 1 own.length (zI own))(g:GL own)(E:(pos own own.length).length<=12)(F:h.nx+2000<=T.top)(lo:h.low<=T.top)(o:∀h' w t,Ext h h' 400->Dep own h h' w t->Good own t->t.hgt<=11->Q w h'):RF P zB 134 [v] h Q:=by
 have hl:=g.len;obtain⟨cs,em,row⟩:=Row.make (cx:=zB) (h:=h) (k:=own.length) zM rfl zX rfl rfl rfl dd (by show 8*own.length<=_;omega) dd;have p:=(Vw.nil (S:=zH) (h:=h)).new (h':=h.new (yV cs)) rfl dd;refine zh E2 zD2 ⟨_,sl.len zM rfl,_,_,em,λtm hs=>?_⟩;refine Nk (y3:=.slice h.nx 0 own.length (.exact own.length)) sl dd p dd hl (hs.sub de) λh2 L y q m ow sp r s b=>?_
 have u:=congrArg List.length m;rw[oy,oy]at u;have two:=g.two;refine thenC.out (sg b (λx c=>?_));refine Nh hl dd (NL.leaves m) dd q (by rw[V6];show Row _ _ (List.map _ _);rw[List.map_replicate];exact row) ow sp r dd lo (c.sub de) λh4 d z f e a nl A i=>?_
 obtain⟨B,gd,G⟩:=nl.fin;rw[B]at a;refine thenC.out (sg i (λC j=>j.slt λD l=>endW.r1 (l.get rfl) (o h4 _ z.t (e.ex0.mono dd) ⟨h.nx,d,rfl,oR _,e.lt 0 rfl,e.get 0 rfl,a⟩ gd dd)))
theorem zBY{v:V}{own:Ub}{h:H}{Q:Uc}(sl:Sl h v 1 own.length (zI own))(g:GL own)(B:2<=cnt own)(C:(pos own own.length).length<=12)(hn:h.nx+2100<=T.top)(lo:h.low<=T.top)(D:∀h' w l,Ext h h' 410->Sl h' w 1 l.length (zI l)->2<=l.length->l.length<=256->jE l=0->Q (.tuple [w,.int .i64 0]) h'):RF P zB 74 [v] h Q:=by
 have hl:=g.len;have two:=g.two;have E:2<=own.length:=by have:=cE own own.length;omega
 obtain⟨h4,F,G,I,J,m,d⟩:=zGH (Sls.of sl dd) dd;have t6:=m.top;have o:=oS m.low lo;refine zh L74 zJG (LW sl ⟨hl,g.rng⟩ B ⟨_,rfl,λc=>absurd rfl c,λ_=>⟨_,_,F,trivial,_,_,J,λtm hs=>?_⟩⟩);refine wpC.round (λk tm h'=>k=0/\h'=I/\Has tm [(5,G)]) 0 ⟨rfl,rfl,hs.sub de⟩ ?_;clear hs;rintro k tm h' ⟨rfl,rfl,hs⟩;refine cg L74 hs (WG d.1 g C dd o λA p t K L gd M=>⟨_,rfl,λN e=>?_⟩);obtain⟨b,cs,O,R,q,S,row⟩:=L;have r:Sl A p 1 own.length (zI (jl own t)):=by rw[O];exact row.sl q S
 have s:=XB own t;have f:∀x∈jl own t,¬11<x:=λx U c=>by have:=(vT gd).1 ⟨x,U,c⟩;omega
 refine wpC.round (λk tm h'=>∃i:Nat,i<=own.length/\k=own.length-i/\h'=A/\Has tm [(8,.int .i64 i),(6,p),(7,.bool false)]) own.length ⟨0,dd,dd,rfl,e.sub de⟩ ?_;clear e hs;rintro k tm h' ⟨i,hi,rfl,rfl,hs⟩;refine cg L74 hs ⟨_,r.len zM rfl,λc=>?_,λc=>λy a=>?_⟩
 .have hi:i<own.length:=dd
  obtain⟨pb,W,a1,a2⟩:=r.at1 hi zM rfl zX rfl rfl (u:=.int .i64 ((jl own t)[i]'dd)) (by rw[od,oQ dd];rfl);refine⟨pb,W,a1,_,a2,λX=>absurd X (f _ (oV _)),λ_=>λy a=>⟨rfl,rfl,own.length-(i+1),dd,i+1,dd,rfl,rfl,?_⟩⟩;rw[<-zf];exact a.sub de
 refine thenC.left (sg a ((λY z=>z.slt λZ j=>endW.r2 (c:=zB) (n:=52) (body:=bf 74) (j.get rfl) (j.get rfl) (D _ p (jl own t) ((m.trans K).mono dd) (by rw[s];exact r) dd dd (Gl hl gd M two)))))
theorem WT{own:Ub}{a:Nat}:∀{b:Nat},a<=b->(∀j,a<=j->j<b->own[j]?.getD 0=0)->pos own b=pos own a:=by
 intro b hb;induction hb with
 | refl=>intro _;rfl
 | @step b hb ih=>intro h;rw[jY,h b hb dd,if_neg dd,List.append_nil,ih λj c h2=>h j c dd]
theorem WQ{own:Ub}{a:Nat}:∀{i:Nat},(∀j,a<=j->j<a+i->0<own[j]?.getD 0)->(pos own (a+i)).length=(pos own a).length+i
 | 0,_=>rfl
 | i+1,h=>by rw[<-Nat.add_assoc,jY,if_pos (h (a+i) dd dd),oW,WQ λj b h2=>h j b dd,List.length_singleton];omega
theorem QQ{own:Ub}(b:∀x∈own,0<=x):∀{k:Nat},k<=own.length->cnt (own.take k)=(pos own k).length
 | 0,_=>rfl
 | k+1,e=>by
  have a:k<own.length:=dd
  have f:=b own[k] (oV a);rw[List.take_add_one,j7,QQ b dd,jY,oW,oQ a];congr 1;by_cases c:own[k]=0
  .simp[cnt,c]
  have d:0<own[k]:=dd
  simp[cnt,c,d]
def cf(L:Ub)(i:Nat):Nat->Int:=λj=>if 97<=j/\j<97+i then 1+(L[j-97]?.getD 0) % 100 else 0
theorem zAI(L:Ub)(i j:Nat):0<=cf L i j/\cf L i j<=100:=by unfold cf;split<;>omega
theorem DJ{L:Ub}{i:Nat}:(λj=>if j=97+i then 1+(L[i]?.getD 0) % 100 else cf L i j)=cf L (i+1):=by
 funext j;unfold cf;by_cases c:j=97+i
 .subst c;rw[if_pos rfl,if_pos dd,show 97+i-97=i by omega]
 rw[if_neg c];by_cases q:97<=j/\j<97+i
 .rw[if_pos q,if_pos dd]
 rw[if_neg q,if_neg dd]
theorem Se{L:Ub}{m:Nat}(h2:2<=m)(g:m<=9):GL (JX 106 (cf L m))/\2<=cnt (JX 106 (cf L m))/\(pos (JX 106 (cf L m)) 106).length<=12:=by
 have hl:=ZH 106 (cf L m);have b:∀j,j<106->(JX 106 (cf L m))[j]?.getD 0=cf L m j:=λj e=>by rw[X6 _ e];rfl
 have hr:∀x∈JX 106 (cf L m),0<=x/\x<=1000:=λx c=>by obtain⟨j,_,rfl⟩:=List.mem_map.1 c;have:=zAI L m j;omega
 have hp:(pos (JX 106 (cf L m)) 106).length=m:=by rw[WT (a:=97+m) dd λj d h3=>by rw[b j h3];unfold cf;rw[if_neg dd],WQ λj d h3=>by rw[b j dd];unfold cf;rw[if_pos ⟨d,h3⟩];omega,WT (a:=0) dd λj d h3=>by rw[b j dd];unfold cf;rw[if_neg dd]];exact Nat.zero_add _
 have f:=QQ (own:=JX 106 (cf L m)) (λx c=>(hr x c).1) (k:=106) dd;rw[List.take_of_length_le dd]at f;exact⟨⟨dd,hr,by rw[hl];omega⟩,dd,dd⟩
theorem lR{v:V}{L:Ub}{h:H}{Q:Uc}(sl:Sl h v 1 L.length (zI L))(hl:L.length<9223372036854775808)(N:h.nx+6000<=T.top)(lo:h.low<=T.top)(z:∀h' w l,Ext h h' 5000->Sls h' w l->l.length<=256->(l≠[]->jE l=0)->Q w h'):RF P zB 34 [v] h Q:=by
 refine zh L34 zIj ⟨_,sl.len zM rfl,λ_=>z h _ [] ((Ext.refl h).mono dd) (Kh h) dg (λe=>absurd rfl e),λc=>?_⟩;have h2:2<=L.length:=dd
 obtain⟨cs,em,row⟩:=Row.make (cx:=zB) (h:=h) (k:=106) zM rfl zX rfl rfl rfl dd (by show 8*106<=_;omega) dd;have A:=(Vw.nil (S:=zH) (h:=h)).new (h':=h.new (yV cs)) rfl dd;refine⟨_,_,em,λtm hs=>?_⟩;refine wpC.round (λk tm h'=>∃(i:Nat) (f:Cs),i<=9/\i<=L.length/\k=9-i/\Vw zH h h' 1 [(h.nx,yV f)]/\Row f 106 (zI (JX 106 (cf L i)))/\Has tm [(3,.slice h.nx 0 106 (.exact 106)),(4,.int .i64 i),(0,v)]) 9 ⟨0,cs,dd,dd,dd,A,?_,hs.sub de⟩ ?_
 .have:cf L 0=λ_=>0:=by funext j;unfold cf;rw[if_neg dd]
  rw[this,V6];show Row _ _ (List.map _ _);rw[List.map_replicate];exact row
 clear hs A row em;rintro k tm h' ⟨i,f,hi,B,rfl,w,row,hs⟩;have O:=w.top;have q:=sl.ext w.ex0;have fin:∀{b:Tm},(i=9\/i=L.length)->Has b [(3,.slice h.nx 0 106 (.exact 106))]->Wf L34 zGY ⟨37,b,[],h'⟩ (endW zB ⟨37,[.tmp 2],bf 34⟩ Q):=by
  intro b d o;obtain⟨g,C,hp⟩:=Se (L:=L) (m:=i) dd hi;have D:Sl h' (.slice h.nx 0 106 (.exact 106)) 1 (JX 106 (cf L i)).length (zI (JX 106 (cf L i))):=by rw[ZH];exact row.sl (w.lt 0 rfl) (w.get 0 rfl)
  refine sg o (zBY D g C (by rw[ZH];exact hp) dd (oS w.low lo) λh4 u l E s4 l2 r F=>⟨_,_,rfl,λx p=>endW.r1 (p.get rfl) (z h4 u l ((w.ex0.trans E).mono dd) (Sls.of s4 dd) r λ_=>F)⟩)
 refine cg L34 hs ⟨_,q.len zM rfl,λc=>⟨λG=>λs a=>?_,λG=>λs a=>thenC.left (fin (.inl dd) (a.sub de))⟩,λc=>λs a=>thenC.left (fin (.inr dd) (a.sub de))⟩;have d:i<L.length:=dd
 obtain⟨pb,I,a1,a2⟩:=q.at1 d zM rfl zX rfl rfl (u:=.int .i64 L[i]) (by rw[od,oQ d];rfl);have r1:zb (97+(i:Int))=((97+i:Nat):Int):=by rw[zD dd dd];omega
 have r2:zb (1+L[i] % 100)=1+L[i] % 100:=zD dd dd;have J:xK zB 23 (.slice h.nx 0 106 (.exact 106)) (.int .i64 (zb (97+(i:Int))))=some (.ptr h.nx (97+i)):=by rw[r1];exact yp zM rfl zX rfl
 obtain⟨h2,y,K,t,M,R⟩:=w.set (cx:=zB) 0 (j:=97+i) (u:=.int .i64 (1+L[i] % 100)) row rfl dd dd zX rfl rfl rfl rfl;refine sg a ⟨pb,I,a1,_,a2,lV ⟨_,rfl,_,_,J,h2,by rw[r2];exact K,λb o=>o.slt λx p=>⟨rfl,rfl,9-(i+1),dd,i+1,y,dd,dd,rfl,M,?_,?_⟩⟩⟩
 .have:(zI (JX 106 (cf L i))).set (97+i) (.int .i64 (1+L[i] % 100))=zI (JX 106 (cf L (i+1))):=by
   rw[<-xY,Q7 _ _ dd,<-DJ,oQ d];rfl
  rw[<-this];exact t
 rw[<-zf];exact p.sub de
theorem zCw(b:UInt8):wI .and .u8 ((b.toNat:Nat):Int) 3=some (.int .u8 ((b.toNat % 4:Nat):Int)):=by
 have h:∀m:Fin 256,IntKind.u8.wrap ((BitVec.ofInt 8 ((m.val:Nat):Int) &&& BitVec.ofInt 8 3).toNat)=((m.val % 4:Nat):Int):=by decide +kernel
 exact congrArg (λx=>some (V.int .u8 x)) (h ⟨b.toNat,b.toNat_lt⟩)
theorem zB4{e:Nat}(s:Sl h v e n xs){q:Nat}(a:z6 v=some q):q<h.nx:=by
 obtain⟨_,⟨rfl,_⟩|⟨b,o,c,cs,k,w,op,rfl,hb,_⟩⟩:=s
 .cases a
 cases a;exact hb
abbrev eqS(s:Ua):Bool:=decide (2<=s.length) && XM s
theorem ng{s:Ua}:eqS s=true↔(2<=s.length/\XM s=true):=by simp[eqS]
theorem Pq{s:Ua}{l:Ub}{v w:V}{h:H}{tm:Tm}{k:Nat}{sec:Ua}{cl:Ub}(hs:s.length<=1000)(Ieq:2<=s.length/\XM s=true->k=1/\sec.length<=4)(Ine:¬(2<=s.length/\XM s=true)->k≠1)(Inl:l=[]->k≠3)(Ilens:k≠2->cl=l)(B:h.nx<=T.top)(lo:h.low<=T.top)(P:l.length<=1000)(sv:Sl h v 1 l.length (zI l))(sw:Sl h w 1 cl.length (zI cl))(C:Has tm [(10,.str s),(9,.bool true),(15,.int .i64 k),(13,w),(11,v),(12,.str sec)]):Wf L8 zJY ⟨183,tm,[],h⟩ (endW zB ⟨183,[.tmp 8],bf 8⟩ λv _=>v = .bool true):=by
 have last:∀{o:Tm},Has o [(9,.bool true),(15,.int .i64 k),(13,w),(11,v)]->Wf L8 zJX ⟨183,o,[],h⟩ (yL L8 (yL L8 (endW zB ⟨183,[.tmp 8],bf 8⟩ λv _=>v = .bool true))):=by intro o f;refine sg f ⟨λ_=>λD u=>u.slt λE x=>x.slt λF y=>endW.r1 (y.get rfl) rfl,λc=>?_⟩;have e:=Ilens dd;subst e;exact pY sw sv B lo ⟨true,rfl,λ_=>λD u=>u.slt λE x=>x.slt λF y=>endW.r1 (y.get rfl) rfl,λg=>(by cases g)⟩
 have G:∀{d:Tm}{e:Bool},e=eqS s->Has d [(24,.bool e),(9,.bool true),(15,.int .i64 k),(13,w),(11,v),(12,.str sec)]->Wf L8 zBX ⟨183,d,[],h⟩ (yL L8 (endW zB ⟨183,[.tmp 8],bf 8⟩ λv _=>v = .bool true)):=by
  intro d e I b;have ku:∀J:Int,J=l.length->J=0->(k:Int)≠3:=λJ R e2=>by have:=Inl (List.eq_nil_of_length_eq_zero dd);omega
  cases e with
  | true=>obtain⟨N,sz⟩:=Ieq (ng.1 I.symm);refine sg b ⟨λc=>absurd N dd,λ_=>⟨λc=>?_,λ_=>⟨_,sv.len zM rfl,λc=>⟨λz=>absurd z (ku _ rfl c),λ_=>λo f=>last (f.sub de)⟩,λc=>λo f=>last (f.sub de)⟩⟩⟩;have c:(4:Int)<(sec.length:Int):=c;omega
  | false =>
   have N:=Ine λg=>by rw[ng.2 g]at I;cases I
   refine sg b ⟨λc=>absurd c dd,λ_=>⟨_,sv.len zM rfl,λc=>⟨λz=>absurd z (ku _ rfl c),λ_=>λo f=>last (f.sub de)⟩,λc=>λo f=>last (f.sub de)⟩⟩
 have loop:∀{p:Tm}{e0:Bool},e0=decide (2<=s.length)->Has p [(25,.int .i64 1),(10,.str s),(24,.bool e0),(9,.bool true),(15,.int .i64 k),(13,w),(11,v),(12,.str sec)] ->
   wpC Tryz.prog zB false (.loop zJT) ⟨183,p,[],h⟩ (λe s1=>(thenC (λs1=>Wf L8 zBX s1 (yL L8 (endW zB ⟨183,[.tmp 8],bf 8⟩ λv _=>v = .bool true))) (yL L8 (endW zB ⟨183,[.tmp 8],bf 8⟩ λv _=>v = .bool true))) (exitB 0 e) s1):=by
  intro p e0 K m;refine wpC.round (λO tm h'=>∃(i:Nat) (e:Bool),i<=max s.length 1/\O=max s.length 1-i/\h'=h/\1<=i/\(e=true↔2<=s.length/\∀j,j<i->s[j]? = s[0]?)/\Has tm [(25,.int .i64 i),(10,.str s),(24,.bool e),(9,.bool true),(15,.int .i64 k),(13,w),(11,v),(12,.str sec)]) (max s.length 1-1)
   ⟨1,e0,dd,rfl,rfl,dd,by rw[K];simp,m.sub de⟩ ?_
  clear m p;rintro O p h' ⟨i,e,hi,rfl,rfl,Q,r,m⟩;have fin:∀{d:Tm},¬((i:Int)<(s.length:Int))->Has d [(24,.bool e),(9,.bool true),(15,.int .i64 k),(13,w),(11,v),(12,.str sec)]->Wf L8 zBX ⟨183,d,[],h'⟩ (yL L8 (endW zB ⟨183,[.tmp 8],bf 8⟩ λv _=>v = .bool true)):=by
   intro d c b;refine G ?_ b;cases e with
   | true=>obtain⟨h2,h3⟩:=r.1 rfl;exact(ng.2 ⟨h2,PM (oQ (show 0<s.length by omega)) λj L=>h3 j dd⟩).symm
   | false =>
    rcases e2:eqS s with _|_
    .rfl
    exfalso;obtain⟨h2,h3⟩:=ng.1 e2;have:false=true:=r.2 ⟨h2,λj L=>by
     rcases s with _|⟨a,s⟩
     .cases h3
     have h3:(s.all λc=>decide (c=a))=true:=h3;rcases j with _|j
     .rfl
     have A:j<s.length:=by have:i<=max (s.length+1) 1:=hi;omega
     rw[List.getElem?_cons_succ,List.getElem?_cons_zero,oQ A];rw[of_decide_eq_true (List.all_eq_true.1 h3 _ (oV A))]⟩
    cases this
  have next:∀{d:Tm}{e2:Bool},i<s.length->(e2=true↔e=true/\s[i]? = s[0]?)->Has d [(25,.int .i64 (zb ((i:Int)+1))),(10,.str s),(24,.bool e2),(9,.bool true),(15,.int .i64 k),(13,w),(11,v),(12,.str sec)] ->
    ∃j,j<max s.length 1-i/\∃(i:Nat) (e:Bool),i<=max s.length 1/\j=max s.length 1-i/\h'=h'/\1<=i/\(e=true↔2<=s.length/\∀j,j<i->s[j]? = s[0]?)/\Has d [(25,.int .i64 i),(10,.str s),(24,.bool e),(9,.bool true),(15,.int .i64 k),(13,w),(11,v),(12,.str sec)]:=by
   intro d e2 t M b;rw[zf]at b;refine⟨max s.length 1-(i+1),dd,i+1,e2,dd,rfl,rfl,dd,?_,b⟩;rw[M,r];constructor
   .rintro⟨⟨h2,h3⟩,h4⟩;refine⟨h2,λj L=>?_⟩;by_cases e:j=i
    .rw[e];exact h4
    exact h3 j dd
   rintro⟨h2,h3⟩;exact⟨⟨h2,λj L=>h3 j dd⟩,h3 i dd⟩
  cases e with
  | true =>
   refine cg L8 m ⟨λc=>?_,λc=>λd b=>thenC.left (fin c (b.sub de))⟩;have t:i<s.length:=by have:(i:Int)<(s.length:Int):=c;omega
   have g:s[i]? = some s[i]:=oQ t;have g0:s[0]? = some s[0]:=oQ dd;refine⟨⟨B,lo⟩,_,yj (k:=.i64) g,_,yj (k:=.i64) (i:=0) g0,λz=>λd b=>⟨rfl,rfl,next (e2:=true) t ⟨λ_=>⟨rfl,?_⟩,λ_=>rfl⟩ (b.sub de)⟩,λz=>λd b=>⟨rfl,rfl,next (e2:=false) t ⟨λq=>(by cases q),λq=>absurd ?_ z⟩ (b.sub de)⟩⟩
   .rw[g,g0];congr 1;exact UInt8.toNat_inj.1 dd
   have:=q.2;rw[g,g0]at this;rw[Option.some.inj this]
  | false=>refine cg L8 m ⟨λc=>⟨⟨B,lo⟩,λd b=>⟨rfl,rfl,next (e2:=false) (by have:(i:Int)<(s.length:Int):=c;omega) ⟨λq=>(by cases q),λq=>(by cases q.1)⟩ (b.sub de)⟩⟩,λc=>λd b=>thenC.left (fin c (b.sub de))⟩
 refine sg C ⟨λc=>λp m=>loop (e0:=true) ?_ (m.sub de),λc=>λp m=>loop (e0:=false) ?_ (m.sub de)⟩
 .have c:(1:Int)<(s.length:Int):=c;exact(decide_eq_true dd).symm
 have c:¬(1:Int)<(s.length:Int):=c;exact(decide_eq_false dd).symm
theorem Is{v1 H:V}{L1 L2:Ub}{i:Int}{more:Ua}(s1:Sl h v1 1 L1.length (zI L1))(N:Sl h H 1 L2.length (zI L2))(D:L1.length<9223372036854775808)(E:L2.length<9223372036854775808)(hn:h.nx+150000<=T.top)(lo:h.low<=T.top):
  RF P zB 8 [v1,.int .i64 i,H,.str more] h λv _=>v = .bool true:=by
 refine zh L8 fn8 (zAf dd lo ⟨true,rfl,λ_=>⟨λ_=>rfl,λJ=>?_⟩,λg=>(by cases g)⟩);have J:¬(20:Int)<(more.length:Int):=J;refine GZ s1 D dd λs hs=>⟨_,rfl,lR N E dd lo λh1 v l F d O b=>⟨_,rfl,?_⟩⟩
 have t1:=F.top;have I:=DK (l:=l) hs b;have Q:=I.sz;have m:=I.pos;refine rS d b hs (oS F.low lo) (λh2 w A sw=>⟨_,_,_,rfl,?_⟩) dd
 have t2:=A.top;have o:=oS A.low (oS F.low lo);refine GM (d.ext A) dd b hs dd o λh3 B=>⟨_,_,rfl,dd,?_⟩
 have t3:=B.top;have r:=oS B.low o;have a:=(d.ext A).ext B;refine Yu a (λq R=>zB4 a.1 R) dd (by rw[oW];omega) dd r λh4 v4 C nx=>?_
 have U:lW ((xe l s).sec++more) 0 l (max (Int.ofNat s.length) 1)=_:=DL hs b;rw[U]at nx ⊢;have nx:Sl h4 v4 1 (pI (xe l s) l s).length (zI (pI (xe l s) l s)):=nx;have t4:=C.top;refine⟨_,_,_,_,_,rfl,dd,?_⟩;rintro p h5 rfl W;have K:=(Vw.nil (S:=zH) (h:=h4)).new W dd;have t5:=K.top;obtain⟨L,X,M,n6,_⟩:=K.st (cx:=zB) 0 (f:=0) (u:=NU 0 0) rfl dd zp rfl;have t:=M.ex0;have t6:=t.top;have x:=oS t.low (oS C.low r);refine⟨L,X,rS (Kh L) (λe=>absurd rfl e) hs x λh7 w7 j Y=>⟨_,_,_,rfl,?_⟩⟩;have t7:=j.top;have y:=oS j.low x;have Z:=M.ext j;have z:=(((sw.ext B).ext C).ext t).ext j;have cl:=QF (c:=xe l s) (s:=s) (show l.length<=1000 by omega);refine⟨λc=>absurd rfl c,λ_=>⟨λc=>absurd rfl c,λ_=>⟨_,_,Z.ldA 0 rfl zp rfl,false,(GS _ _ _ _ _ _).trans (by rw[jf];rfl),λg=>(by cases g),λ_=>⟨λc=>absurd rfl c,λ_=>⟨λc=>absurd rfl c,λ_=>⟨λc=>absurd rfl c,λ_=>pY ((nx.ext t).ext j) z dd y ⟨true,rfl,λ_=>⟨λc=>?_,λ_=>⟨λc=>?_,λ_=>?_⟩⟩,λg=>(by cases g)⟩⟩⟩⟩⟩⟩⟩
 .have c:((xe l s).sec.length:Int)=0:=c;omega
 .have c:zb ((s.length:Int)+3)<((xe l s).sec.length:Int):=c;rw[zD dd dd]at c;omega
 have g0:(xe l s).sec[0]? = some (xe l s).sec[0]:=oQ m;have hk:(xe l s).sec[0].toNat % 4=(xe l s).k:=by rw[<-I.kind];unfold hb;rw[g0]
 refine⟨_,yj (k:=.i64) (i:=0) g0,_,zCw _,λc=>?_,λ_=>⟨λc=>?_,λ_=>λtm G=>?_⟩⟩
 .rw[zD dd dd]at c;exact absurd (show(((xe l s).sec[0].toNat % 4:Nat):Int)=((xe l s).k:Nat)by rw[hk]) c
 .have c:((xe [] s).sec.length:Int)<((xe l s).sec.length:Int):=c;have:=HK l s;omega
 exact Pq (k:=(xe l s).k) (sec:=(xe l s).sec) (cl:=pI (xe l s) l s) hs I.eq I.ne I.nl I.lens dd y dd ((((a.1.ext C).ext t).ext j)) z (G.sub de)
end Go.Proofs.YtnpeieeomokomaaGreat
