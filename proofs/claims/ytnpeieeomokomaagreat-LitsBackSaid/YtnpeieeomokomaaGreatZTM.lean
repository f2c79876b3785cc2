/- TM. No condition. -/
import Derived.Test.YtnpeieeomokomaaGreatZTJ
import Derived.Test.YtnpeieeomokomaaGreatZTL
import Derived.Test.YtnpeieeomokomaaGreatZCG
import Derived.Test.YtnpeieeomokomaaGreatZTA
set_option maxRecDepth 100000
set_option maxHeartbeats 4000000
namespace Go.Proofs.YtnpeieeomokomaaGreat
open Go.Sim
theorem vv{α}:(t:List α)->(j:Nat)->(x:α)->(h:j<t.length)->(t[j]::t.set j x).Perm (x::t)
 | [],_,_,h=>by simp at h
 | y::t,0,x,_=>by simp;exact List.Perm.swap _ _ _
 | y::t,j+1,x,h=>by
  have h':j<t.length:=by simpa using h
  have ih:=vv t j x h';simp only[List.getElem_cons_succ,List.set_cons_succ];exact(List.Perm.swap _ _ _).trans ((ih.cons y).trans (List.Perm.swap _ _ _))
def PS{α}(l:List α)(i j:Nat):List α:=match l[i]?,l[j]? with|some x,some y=>(l.set i y).set j x|_,_=>l
theorem RY{α}{l:List α}{i j:Nat}(hi:i<l.length)(a:j<l.length):PS l i j=(l.set i l[j]).set j l[i]:=by simp[PS,oQ hi,oQ a]
theorem fM{α}:(l:List α)->(i j:Nat)->(hi:i<l.length)->(a:j<l.length)->((l.set i l[j]).set j l[i]).Perm l
 | [],_,_,h,_=>by simp at h
 | x::t,0,0,_,_=>by simp
 | x::t,0,j+1,_,a=>by
  have h':j<t.length:=by simpa using a
  simp only[List.getElem_cons_succ,List.set_cons_zero,List.set_cons_succ,List.getElem_cons_zero];exact vv t j x h'
 | x::t,i+1,0,hi,_=>by
  have h':i<t.length:=by simpa using hi
  simp only[List.getElem_cons_succ,List.set_cons_succ,List.getElem_cons_zero,List.set_cons_zero];exact vv t i x h'
 | x::t,i+1,j+1,hi,a=>by simp only[List.getElem_cons_succ,List.set_cons_succ];exact(fM t i j (by simpa using hi) (by simpa using a)).cons x
theorem Kl{α}(l:List α)(i j:Nat):(PS l i j).Perm l:=by
 by_cases hi:i<l.length
 .by_cases hj:j<l.length
  .rw[RY hi hj];exact fM l i j hi hj
  unfold PS;rw[ov (by omega:l.length<=j)];split<;>first|exact List.Perm.refl _|simp_all
 unfold PS;rw[ov (by omega:l.length<=i)]
theorem Jc{α}(l:List α)(i j:Nat):(PS l i j).length=l.length:=by unfold PS;split<;>simp
theorem cW{α}{l:List α}{i j:Nat}(hi:i<l.length)(c:j<l.length)(k:Nat):(PS l i j)[k]? = if k=j then l[i]? else if k=i then l[j]? else l[k]?:=by
 rw[RY hi c,List.getElem?_set,List.getElem?_set,ox];by_cases a:k=j
 .subst a;simp[c,oQ hi]
 by_cases b:k=i
 .subst b;rw[if_neg dd,if_pos rfl,if_pos hi,if_neg a,if_pos rfl,oQ c]
 rw[if_neg dd,if_neg dd,if_neg a,if_neg b]
def UpI(w:Nat->Int)(n j:Nat):Prop:=j<n/\(∀k,0<k->k<n->k≠j->w ((k-1)/2)<=w k)/\(∀k,k<n->0<k->(k-1)/2=j->0<j->w ((j-1)/2)<=w k)
def HpI(w:Nat->Int)(n:Nat):Prop:=∀k,0<k->k<n->w ((k-1)/2)<=w k
def A8(w:Nat->Int)(n i:Nat):Prop:=(∀k,0<k->k<n->(k-1)/2≠i->w ((k-1)/2)<=w k)/\(∀k,k<n->0<k->(k-1)/2=i->0<i->w ((i-1)/2)<=w k)
def sw(w:Nat->Int)(i j:Nat):Nat->Int:=λk=>if k=j then w i else if k=i then w j else w k
theorem P4{w n j}(h:UpI w n j)(c:j=0\/w ((j-1)/2)<=w j):HpI w n:=by
 intro k a b;by_cases e:k=j
 .subst e;rcases c with c|c
  .omega
  exact c
 exact h.2.1 k a b e
theorem BL{w n j}(h:UpI w n j)(h0:0<j)(c:w j<=w ((j-1)/2)):UpI (sw w ((j-1)/2) j) n ((j-1)/2):=by
 obtain⟨i,b,h2⟩:=h;have hi:(j-1)/2<j:=dd
 refine⟨dd,λk k0 a d=>?_,λk a k0 f g=>?_⟩
 .unfold sw;by_cases e:k=j
  .subst e;rw[if_neg dd,if_pos rfl,if_pos rfl];exact c
  rw[if_neg e,if_neg d];have:=b k k0 a e;by_cases q:(k-1)/2=j
  .rw[if_pos q];exact h2 k a k0 q h0
  rw[if_neg q];by_cases q2:(k-1)/2=(j-1)/2
  .rw[if_pos q2];rw[q2]at this;omega
  rw[if_neg q2];exact this
 unfold sw;have hp:=b ((j-1)/2) g dd dd;rw[if_neg (by omega:((j-1)/2-1)/2≠j),if_neg (by omega:((j-1)/2-1)/2≠(j-1)/2)];by_cases e:k=j
 .rw[if_pos e];exact hp
 rw[if_neg e,if_neg dd];have:=b k k0 a e;rw[f]at this;omega
theorem QZ{w n i}(h:A8 w n i)(c:∀k,k<n->0<k->(k-1)/2=i->w i<=w k):HpI w n:=by
 intro k a b;by_cases e:(k-1)/2=i
 .rw[e];exact c k b a e
 exact h.1 k a b e
theorem DZ{w n i j}(h:A8 w n i)(d:j<n)(f:0<j)(hp:(j-1)/2=i)(c:w j<=w i)(m:∀k,k<n->0<k->(k-1)/2=i->w j<=w k):A8 (sw w i j) n j:=by
 obtain⟨b,h2⟩:=h;refine⟨λk k0 a g=>?_,λk a k0 l _=>?_⟩
 .unfold sw;rw[if_neg g];by_cases e:(k-1)/2=i
  .rw[if_pos e];by_cases q:k=j
   .rw[if_pos q];exact c
   rw[if_neg q,if_neg dd];exact m k a k0 e
  rw[if_neg e];by_cases q:k=j
  .subst q;omega
  rw[if_neg q];by_cases q2:k=i
  .rw[if_pos q2];subst q2;exact h2 j d f hp k0
  rw[if_neg q2];exact b k k0 a e
 unfold sw;rw[hp,if_neg dd,if_pos rfl,if_neg dd,if_neg dd];have:=b k k0 a dd;rw[l]at this;exact this
theorem zA7{w n}(h:HpI w n):∀k,k<n->w 0<=w k:=by
 intro k;induction k using Nat.strongRecOn with
 | _ k ih =>
  intro a;by_cases e:k=0
  .subst e;exact oU _
  have:=ih ((k-1)/2) dd dd;have:=h k dd a;omega
theorem zA8{w n}(h:HpI w (n+1)):A8 (sw w 0 n) n 0:=by refine⟨λk k0 a b=>?_,λk a k0 c d=>dd⟩;unfold sw;rw[if_neg dd,if_neg b,if_neg dd,if_neg dd];exact h k k0 dd
theorem Dm{w n}(h:HpI w n):UpI w (n+1) n:=by refine⟨dd,λk k0 a b=>h k k0 dd,λk a k0 c d=>dd⟩
theorem HpI.congr{w v n}(h:HpI w n)(e:∀k,k<n->w k=v k):HpI v n:=by intro k k0 a;rw[<-e k a,<-e _ dd];exact h k k0 a
inductive HT where
 | leaf (n:Int) (s:Nat)
 | join (g:Nat) (a b:HT)
def HT.cnt:HT->Int | .leaf n _=>n | .join _ a b=>a.cnt+b.cnt
def HT.hgt:HT->Nat | .leaf _ _=>0 | .join _ a b=>max a.hgt b.hgt+1
def HT.cw:HT->Int | .leaf _ _=>0 | .join _ a b=>max a.cnt b.cnt
def HT.nice:HT->Prop | .leaf n _=>1<=n | .join _ a b=>a.nice/\b.nice/\a.cw<=b.cnt/\b.cw<=a.cnt
def HT.lv:HT->Nat->List (Nat×Nat) | .leaf _ s,d=>[(s,d)] | .join _ a b,d=>a.lv (d+1)++b.lv (d+1)
def HT.ls:HT->List (Nat×Int) | .leaf n s=>[(s,n)] | .join _ a b=>a.ls++b.ls
def F:Nat->Int|0=>1|1=>2|k+2=>F (k+1)+F k
theorem I1:(k:Nat)->1<=F k
 | 0=>dg
 | 1=>dg
 | k+2=>by have:=I1 k;have:=I1 (k+1);show 1<=F (k+1)+F k;omega
theorem A9(k:Nat):F k<=F (k+1):=by
 rcases k with _|k
 .decide
 show F (k+1)<=F (k+1)+F k;have:=I1 k;omega
theorem zCC{a b:Nat}(h:a<=b:=by omega):F a<=F b:=by
 induction h with
 | refl=>exact oU _
 | @step m _ ih=>exact Int.le_trans ih (A9 m)
theorem jX : {t:HT}->t.nice->1<=t.cnt
 | .leaf _ _,h=>h
 | .join _ a b,h=>by have:=jX h.1;have:=jX h.2.1;show 1<=a.cnt+b.cnt;omega
theorem lh : {t:HT}->t.nice->F t.hgt<=t.cnt/\(∀k,t.hgt=k+1->F k<=t.cw)
 | .leaf n s,h=>⟨h,λk e=>by cases e⟩
 | .join g a b,h=>by
  obtain⟨i,hb,j,h2⟩:=h;have d:=lh i;have f:=lh hb;have l:=jX i;have pb:=jX hb;show F (max a.hgt b.hgt+1)<=a.cnt+b.cnt/\(∀k,max a.hgt b.hgt+1=k+1->F k<=max a.cnt b.cnt);refine⟨?_,λk e=>?_⟩
  .by_cases c:a.hgt<=b.hgt
   .rw[Nat.max_eq_right c];cases e:b.hgt with
    | zero=>show(2:Int)<=_;omega
    | succ k=>have:=f.2 k e;have:=f.1;rw[e]at this;show F (k+1)+F k<=_;omega
   rw[Nat.max_eq_left dd];cases e:a.hgt with
   | zero=>omega
   | succ k=>have:=d.2 k e;have:=d.1;rw[e]at this;show F (k+1)+F k<=_;omega
  have e:max a.hgt b.hgt=k:=dd
  by_cases c:a.hgt<=b.hgt
  .rw[Nat.max_eq_right c]at e;subst e;have:=f.1;omega
  rw[Nat.max_eq_left dd]at e;subst e;have:=d.1;omega
theorem N7{t:HT}(h:t.nice)(c:t.cnt<=376):t.hgt<=11:=by
 have:=(lh h).1;by_cases q:t.hgt<=11
 .exact q
 have:F 12<=F t.hgt:=zCC;have e:F 12=377:=dg
 omega
structure Pool (l:List HT):Prop where
 nice:∀t∈l,t.nice
 cw:∀t∈l,∀u∈l,t.cw<=u.cnt
theorem Pool.perm{l r:List HT}(h:Pool l)(p:l.Perm r):Pool r :=
 ⟨λt m=>h.nice t (p.mem_iff.2 m),λt m u n=>h.cw t (p.mem_iff.2 m) u (p.mem_iff.2 n)⟩
theorem Pool.nil:Pool []:=⟨λ_ h=>by simp at h,λ_ h=>by simp at h⟩
theorem Pool.leaf{l:List HT}(h:Pool l)(a:∀t∈l,t.cw=0){n s}(c:1<=n):Pool (.leaf n s::l):=by
 refine⟨λt m=>?_,λt m u b=>?_⟩
 .rcases oq.1 m with e|m
  .subst e;exact c
  exact h.nice t m
 have k:t.cw=0:=by
  rcases oq.1 m with e|m
  .subst e;rfl
  exact a t m
 rw[k];rcases oq.1 b with e|b
 .subst e;show 0<=n;omega
 have:=jX (h.nice u b);omega
theorem Pool.join{a b:HT}{l:List HT}(h:Pool (a::b::l))(h1:∀u∈l,a.cnt<=u.cnt)(h2:∀u∈l,b.cnt<=u.cnt)(g:Nat):Pool (.join g a b::l):=by
 have d:a∈a::b::l:=by simp
 have f:b∈a::b::l:=by simp
 have i:=jX (h.nice a d);have j:=jX (h.nice b f);refine⟨λt m=>?_,λt m u c=>?_⟩
 .rcases oq.1 m with e|m
  .subst e;exact⟨h.nice a d,h.nice b f,h.cw a d b f,h.cw b f a d⟩
  exact h.nice t (by simp[m])
 rcases oq.1 m with e|m
 .subst e;show max a.cnt b.cnt<=_;rcases oq.1 c with e|c
  .subst e;show _<=a.cnt+b.cnt;omega
  have:=h1 u c;have:=h2 u c;omega
 rcases oq.1 c with e|c
 .subst e;have:=h.cw t (by simp[m]) a d;show _<=a.cnt+b.cnt;omega
 exact h.cw t (by simp[m]) u (by simp[c])
def YO(f:Nat->Int):List (Nat×Nat)->Int | []=>0|(_,d)::l=>f d+YO f l
theorem GA(f:Nat->Int)(a b:List (Nat×Nat)):YO f (a++b)=YO f a+YO f b:=by
 induction a with
 | nil=>simp[YO]
 | cons x a ih=>simp only[List.cons_append,YO,ih];omega
theorem Hz(m:Nat):(t:HT)->(d:Nat)->d+t.hgt<=m->YO (λk=>2^(m-k)) (t.lv d)=2^(m-d)
 | .leaf _ _,d,_=>by simp[HT.lv,YO]
 | .join _ a b,d,h=>by
  have h':d+(max a.hgt b.hgt+1)<=m:=h;show YO _ (a.lv (d+1)++b.lv (d+1))=_;rw[GA,Hz m a (d+1) dd,Hz m b (d+1) dd];have:m-d=m-(d+1)+1:=dd
  rw[this,Int.pow_succ];omega
theorem KY:(t:HT)->(d:Nat)->∀x∈t.lv d,d<=x.2/\x.2<=d+t.hgt
 | .leaf _ _,d,x,h=>by simp[HT.lv]at h;subst h;exact⟨oR _,by simp[HT.hgt]⟩
 | .join _ a b,d,x,h=>by
  have h':x∈a.lv (d+1)++b.lv (d+1):=h;show _/\x.2<=d+(max a.hgt b.hgt+1);rcases List.mem_append.1 h' with h|h
  .have:=KY a _ x h;omega
  have:=KY b _ x h;omega
theorem lY:(t:HT)->(d:Nat)->∃x∈t.lv d,x.2=d+t.hgt
 | .leaf n s,d=>⟨(s,d),by simp[HT.lv],rfl⟩
 | .join g a b,d=>by
  by_cases c:a.hgt<=b.hgt
  .obtain⟨x,m,e⟩:=lY b (d+1);refine⟨x,List.mem_append.2 (Or.inr m),?_⟩;show x.2=d+(max a.hgt b.hgt+1);omega
  obtain⟨x,m,e⟩:=lY a (d+1);refine⟨x,List.mem_append.2 (Or.inl m),?_⟩;show x.2=d+(max a.hgt b.hgt+1);omega
theorem Zm:(t:HT)->(d:Nat)->(t.lv d).map (·.1)=t.ls.map (·.1)
 | .leaf _ _,_=>rfl
 | .join _ a b,d=>by show(a.lv (d+1)++b.lv (d+1)).map _=(a.ls++b.ls).map _;rw[List.map_append,List.map_append,Zm a,Zm b]
def qK:List (Nat×Int)->Int | []=>0|(_,n)::l=>n+qK l
theorem KA(a b:List (Nat×Int)):qK (a++b)=qK a+qK b:=by
 induction a with
 | nil=>simp[qK]
 | cons x a ih=>simp only[List.cons_append,qK,ih];omega
theorem rF:(t:HT)->t.cnt=qK t.ls
 | .leaf n s=>by simp[HT.cnt,HT.ls,qK]
 | .join _ a b=>by show a.cnt+b.cnt=qK (a.ls++b.ls);rw[KA,rF a,rF b]
theorem X1{a b:List (Nat×Int)}(h:a.Perm b):qK a=qK b:=by
 induction h with
 | nil=>rfl
 | cons x _ ih=>simp[qK,ih]
 | swap x y l=>simp only[qK];omega
 | trans _ _ a b=>omega
def kM:Ub->List (Nat×Nat)->Ub|o,[]=>o|o,(s,d)::l=>kM (o.set s (d:Int)) l
theorem NI(o:Ub)(a b:List (Nat×Nat)):kM o (a++b)=kM (kM o a) b:=by
 induction a generalizing o with
 | nil=>rfl
 | cons x a ih=>exact ih _
theorem KD(o:Ub)(a:List (Nat×Nat)):(kM o a).length=o.length:=by
 induction a generalizing o with
 | nil=>rfl
 | cons x a ih=>show(kM _ a).length=_;rw[ih];simp
def Xp(f:Int->Int):Ub->Int | []=>0|x::l=>f x+Xp f l
theorem KK(f:Int->Int):(l:Ub)->(i:Nat)->(x y:Int)->l[i]? = some x->Xp f (l.set i y)=Xp f l-f x+f y
 | [],_,_,_,h=>by simp at h
 | a::l,0,x,y,h=>by simp at h;subst h;simp only[List.set_cons_zero,Xp];omega
 | a::l,i+1,x,y,h=>by simp only[List.set_cons_succ,Xp,KK f l i x y (by simpa using h)];omega
theorem gB(o:Ub)(a:List (Nat×Nat))(k:Nat)(h:∀x∈a,x.1≠k):(kM o a)[k]? = o[k]?:=by
 induction a generalizing o with
 | nil=>rfl
 | cons x a ih=>show(kM _ a)[k]? = _;rw[ih _ (λy m=>h y (by simp[m])),List.getElem?_set,if_neg (h x (by simp))]
theorem NJ(f:Int->Int)(f0:f 0=0)(o:Ub)(a:List (Nat×Nat))(nd:(a.map (·.1)).Nodup)(z:∀x∈a,o[x.1]? = some 0):Xp f (kM o a)=Xp f o+YO (λd=>f d) a:=by
 induction a generalizing o with
 | nil=>simp[kM,YO]
 | cons x a ih =>
  have b:=List.nodup_cons.1 (by simpa using nd:(x.1::a.map (·.1)).Nodup);show Xp f (kM (o.set x.1 (x.2:Int)) a)=_+(f x.2+YO _ a);rw[ih _ b.2 (λy m=>?_),KK f o x.1 0 x.2 (z x (by simp)),f0]
  .omega
  rw[List.getElem?_set,if_neg]
  .exact z y (by simp[m])
  intro e;exact b.1 (e ▸ List.mem_map.2 ⟨y,m,rfl⟩)
theorem KC(o:Ub)(a:List (Nat×Nat))(nd:(a.map (·.1)).Nodup)(z:∀x∈a,x.1<o.length):∀x∈a,(kM o a)[x.1]? = some (x.2:Int):=by
 induction a generalizing o with
 | nil=>intro x h;simp at h
 | cons y a ih =>
  have b:=List.nodup_cons.1 (by simpa using nd:(y.1::a.map (·.1)).Nodup);intro x h;show(kM (o.set y.1 (y.2:Int)) a)[x.1]? = _;rcases oq.1 h with e|h
  .subst e;rw[gB _ _ _ (λw m e=>b.1 (List.mem_map.2 ⟨w,m,e⟩)),List.getElem?_set,if_pos rfl,if_pos (z x (by simp))]
  exact ih _ b.2 (λw m=>by rw[ox];exact z w (by simp[m])) x h
def pos(own:Ub):Nat->List (Nat×Int)
 | 0=>[]
 | k+1=>pos own k++(if 0<own[k]?.getD 0 then [(k,own[k]?.getD 0)] else [])
theorem ra(own:Ub):(k:Nat)->∀x∈pos own k,x.1<k/\own[x.1]?.getD 0=x.2/\0<x.2
 | 0,x,h=>by simp[pos]at h
 | k+1,x,h=>by
  rcases List.mem_append.1 h with h|h
  .have:=ra own k x h;exact⟨dd,this.2⟩
  split at h
  .rename_i c;simp at h;subst h;exact⟨by simp,rfl,c⟩
  simp at h
theorem vY(own:Ub):(k:Nat)->((pos own k).map (·.1)).Nodup
 | 0=>by simp[pos]
 | k+1=>by
  show((pos own k++_).map _).Nodup;rw[List.map_append];refine List.nodup_append.2 ⟨vY own k,?_,λa c b hb e=>?_⟩
  .split<;>simp
  obtain⟨x,d,rfl⟩:=List.mem_map.1 c;have:=(ra own k x d).1;split at hb<;>simp at hb;omega
theorem cE(own:Ub):(k:Nat)->(pos own k).length<=k
 | 0=>oR _
 | k+1=>by show(pos own k++_).length<=_;rw[oW];have:=cE own k;split<;>simp<;>omega
def lz(l:Ub):Nat->Nat|0=>0|k+1=>if l[k]?.getD 0≠0 then k else lz l k
theorem gm(l:Ub):(k:Nat)->lz l k<=k-1/\(∀i,i<k->lz l k<i->l[i]?.getD 0=0)/\((∃i,i<k/\l[i]?.getD 0≠0)->l[lz l k]?.getD 0≠0)
 | 0=>⟨oR _,λi h=>dd,λ⟨i,h,_⟩=>dd⟩
 | k+1=>by
  obtain⟨d,h2,h3⟩:=gm l k;unfold lz;by_cases c:l[k]?.getD 0≠0
  .rw[if_pos c];exact⟨dd,λi a b=>dd,λ_=>c⟩
  rw[if_neg c];refine⟨dd,λi a b=>?_,λ⟨i,a,b⟩=>h3 ⟨i,?_,b⟩⟩
  .by_cases e:i=k
   .subst e;omega
   exact h2 i dd b
  by_cases e:i=k
  .subst e;exact absurd b c
  omega
def xP(l:Ub):Ub:=l.take (lz l l.length+1)
theorem Dd(f:Int->Int)(a b:Ub):Xp f (a++b)=Xp f a+Xp f b:=by
 induction a with
 | nil=>simp[Xp]
 | cons x a ih=>simp only[List.cons_append,Xp,ih];omega
theorem KM(f:Int->Int)(f0:f 0=0)(l:Ub)(h:∀x∈l,x=0):Xp f l=0:=by
 induction l with
 | nil=>rfl
 | cons x l ih=>simp only[Xp,h x (by simp),f0,ih λy m=>h y (by simp[m])];rfl
theorem nC(l:Ub):∃r,l=xP l++r/\∀x∈r,x=0:=by refine⟨l.drop (lz l l.length+1),(List.take_append_drop _ _).symm,λx a=>?_⟩;obtain⟨i,hi,e⟩:=List.mem_iff_getElem.1 a;rw[List.getElem_drop]at e;rw[List.length_drop]at hi;have:=(gm l l.length).2.1 (lz l l.length+1+i) dd dd;rw[oQ dd]at this;rw[<-e];exact this
theorem GX(m:Nat)(l:Ub):((ym m l:Nat):Int)=Xp (λx=>(lone m x:Nat)) l:=by
 induction l with
 | nil=>rfl
 | cons x l ih=>simp only[Xp,<-ih];simp[ym]
theorem QP(l:Ub):((cnt l:Nat):Int)=Xp (λx=>if x≠0 then 1 else 0) l:=by
 induction l with
 | nil=>rfl
 | cons x l ih=>simp only[Xp,<-ih];by_cases c:x=0<;>simp[cnt,c];omega
theorem sm{f g:Nat->Int}{l:List (Nat×Nat)}(h:∀x∈l,f x.2=g x.2):YO f l=YO g l:=by
 induction l with
 | nil=>rfl
 | cons x l ih=>obtain⟨a,b⟩:=x;simp only[YO];rw[h (a,b) (by simp),ih λy m=>h y (by simp[m])]
theorem GB(l:List (Nat×Nat)):YO (λ_=>1) l=(l.length:Nat):=by
 induction l with
 | nil=>rfl
 | cons x l ih=>simp only[YO,ih,oc];omega
theorem gC{o:Ub}{a:List (Nat×Nat)}{x:Int}(h:x∈kM o a):x∈o\/∃y∈a,x=(y.2:Int):=by
 induction a generalizing o with
 | nil=>exact Or.inl h
 | cons y a ih =>
  rcases ih h with h|⟨z,m,e⟩
  .rcases List.mem_or_eq_of_mem_set h with h|h
   .exact Or.inl h
   exact Or.inr ⟨y,by simp,h⟩
  exact Or.inr ⟨z,by simp[m],e⟩
theorem PY{own:Ub}{t:HT}(h2:own.length<=256)(hp:(t.ls.map (·.1)).Perm ((pos own own.length).map (·.1)))(hh:t.hgt<=11)(two:2<=(pos own own.length).length):rE (xP (kM (List.replicate own.length 0) (t.lv 0)))=0:=by
 have nd:((t.lv 0).map (·.1)).Nodup:=by rw[Zm];exact hp.symm.nodup (vY _ _)
 have z:∀x∈t.lv 0,x.1<own.length:=by intro x c;have:x.1∈(t.lv 0).map (·.1):=List.mem_map.2 ⟨x,c,rfl⟩;rw[Zm]at this;obtain⟨y,j,e⟩:=List.mem_map.1 (hp.mem_iff.1 this);rw[<-e];exact(ra _ _ y j).1
 have K:∀x∈t.lv 0,(List.replicate own.length (0:Int))[x.1]? = some 0:=λx c=>by rw[List.getElem?_replicate,if_pos (z x c)]
 have o:(t.lv 0).length=(pos own own.length).length:=by have:=congrArg List.length (Zm t 0);simp only[oy]at this;rw[this];simpa using hp.length_eq
 have q:∀x∈t.lv 0,1<=x.2:=by
  cases t with
  | leaf n s=>simp[HT.lv]at o;omega
  | join g a b =>
   intro x c;have h':x∈a.lv 1++b.lv 1:=c;rcases List.mem_append.1 h' with h|h
   .exact(KY a _ x h).1
   exact(KY b _ x h).1
 have A:∀x∈t.lv 0,x.2<=t.hgt:=λx c=>by have:=(KY t 0 x c).2;omega
 generalize F:kM (List.replicate own.length 0) (t.lv 0)=out;have L:out.length=own.length:=by rw[<-F,KD,List.length_replicate]
 have u:∀x∈out,x=0\/∃y∈t.lv 0,x=(y.2:Int):=λx c=>by
  rw[<-F]at c;rcases gC c with h|h
  .exact Or.inl (List.eq_of_mem_replicate h)
  exact Or.inr h
 have B:∀f:Int->Int,f 0=0->Xp f out=YO (λd=>f d) (t.lv 0):=λf f0=>by rw[<-F,NJ f f0 _ _ nd K,KM f f0 _ (λx c=>List.eq_of_mem_replicate c)];omega
 obtain⟨r,hr,I⟩:=nC out;have p:∀f:Int->Int,f 0=0->Xp f (xP out)=YO (λd=>f d) (t.lv 0):=λf f0=>by
  rw[<-B f f0]
  conv=>rhs;rw[hr]
  rw[Dd,KM f f0 r I];omega
 have v:∀x∈xP out,x∈out:=λx c=>List.mem_of_mem_take c
 have C:∀y∈t.lv 0,(y.2:Int)∈xP out:=by
  intro y j;have h:=KC (List.replicate own.length 0) (t.lv 0) nd (λx c=>by rw[List.length_replicate];exact z x c) y j;rw[F]at h;have m:(y.2:Int)∈out:=List.mem_of_getElem? h;rw[hr]at m;rcases List.mem_append.1 m with m|m
  .exact m
  have:=I _ m;have:=q y j;omega
 have D:yQ (xP out)=t.hgt:=by
  obtain⟨y,j,e⟩:=lY t 0;have O:=ZX (C y j);have h2:yQ (xP out)<=t.hgt:=by
   have:=KI (l:=xP out) (a:=0) (m:=t.hgt) dd λx c=>by
    rcases u x (v x c)with e|⟨y,j,e⟩
    .omega
    have:=A y j;omega
   unfold yQ Hl;omega
  omega
 have J:cnt (xP out)=(t.lv 0).length:=by have:=QP (xP out);rw[p _ rfl,sm (g:=λ_=>1) (λx c=>by have:=q x c;rw[if_pos dd]),GB]at this;omega
 have G:ym (yQ (xP out)) (xP out)=2^yQ (xP out):=by
  have h:=GX (yQ (xP out)) (xP out);rw[p _ rfl,D,sm (g:=λk=>2^(t.hgt-k)) (λx c=>?_),Hz t.hgt t 0 dd]at h
  .rw[D];have:((ym t.hgt (xP out):Nat):Int)=((2^t.hgt:Nat):Int):=by rw[h];simp
   omega
  have:=q x c;unfold lone;rw[if_pos dd];simp
 have H:wO (xP out)=true:=by
  unfold wO;rw[List.all_eq_true];intro x c;rcases u x (v x c)with e|⟨y,j,e⟩
  .subst e;decide
  have:=A y j;simp only[oI,decide_eq_true_eq];omega
 have M:cnt (xP out)<=(xP out).length:=List.length_filter_le _ _;have N:(xP out).length<=out.length:=by unfold xP;rw[List.length_take];omega
 have w:(xP out).getLast?≠some 0:=by
  have E:∃i,i<out.length/\out[i]?.getD 0≠0:=by
   rcases e:t.lv 0 with _|⟨y,l⟩
   .rw[e]at o;simp at o;omega
   have j:y∈t.lv 0:=by rw[e];simp
   have m:=v _ (C y j);obtain⟨i,hi,e⟩:=List.mem_iff_getElem.1 m;refine⟨i,hi,?_⟩;rw[oQ hi,e];have:=q y j;show(y.2:Int)≠0;omega
  have:=(gm out out.length).2.2 E;have hb:=(gm out out.length).1;have P:0<out.length:=by obtain⟨i,hi,_⟩:=E;omega
  rw[List.getLast?_eq_getElem?];unfold xP;rw[List.length_take,Nat.min_eq_left dd,List.getElem?_take,if_pos dd];intro e;simp only[Nat.add_sub_cancel]at e;rw[e]at this;exact this rfl
 unfold rE;rw[if_neg dd,if_pos H,if_pos ⟨w,dd,G⟩]
abbrev HE:=Nat×HT
def Y7(l:List HE)(k:Nat):Int:=(l[k]?.map (λe=>e.2.cnt)).getD 0
theorem BX{l:List HE}{i j:Nat}(hi:i<l.length)(c:j<l.length)(k:Nat):Y7 (PS l i j) k=sw (Y7 l) i j k:=by
 unfold Y7 sw;rw[cW hi c];by_cases a:k=j
 .rw[if_pos a,if_pos a]
 rw[if_neg a,if_neg a];by_cases b:k=i
 .rw[if_pos b,if_pos b]
 rw[if_neg b,if_neg b]
theorem cr{l:List HE}{i j:Nat}(hi:i<l.length:=by omega)(a:j<l.length:=by omega):Y7 (PS l i j)=sw (Y7 l) i j:=funext (BX hi a)
theorem fX{l m:List HE}{k:Nat}(h:l[k]? = m[k]?):Y7 l k=Y7 m k:=by unfold Y7;rw[h]
structure Dn (n:Nat) (l m:List HE):Prop where
 perm:m.Perm l
 far:∀k,n<=k->m[k]? = l[k]?
 hp:HpI (Y7 m) n
structure PopR (l:List HE) (x:HE) (m:List HE):Prop where
 perm:l.Perm (x::m)
 hp:HpI (Y7 m) m.length
 least:∀y∈m,x.2.cnt<=y.2.cnt
structure PushR (l:List HE) (x:HE) (m:List HE):Prop where
 perm:m.Perm (x::l)
 hp:HpI (Y7 m) m.length
theorem BW{l:List HE}{y:HE}(h:y∈l):∃k,k<l.length/\Y7 l k=y.2.cnt:=by obtain⟨k,a,e⟩:=List.mem_iff_getElem.1 h;refine⟨k,a,?_⟩;unfold Y7;rw[oQ a,e];rfl
theorem zBD{l m:List HE}{n:Nat}{x:HE}(f:l.length=n+1)(b:l[0]? = some x)(h:HpI (Y7 l) (n+1))(d:Dn n (PS l 0 n) m):m[n]? = some x/\m.length=n+1/\PopR l x (m.take n):=by
 have hl:m.length=n+1:=by rw[d.perm.length_eq,Jc,f]
 have a:m[n]? = some x:=by rw[d.far n (oR _),cW dd dd,if_pos rfl,b]
 have hp:l.Perm (x::m.take n):=by
  have e:m=m.take n++[x]:=by
   conv=>lhs;rw[<-List.take_append_drop n m]
   congr 1;have:n<m.length:=dd
   rw[List.drop_eq_getElem_cons this,List.drop_eq_nil_of_le dd];rw[oQ this]at a;rw[Option.some.inj a]
  have g:l.Perm m:=(d.perm.trans (Kl l 0 n)).symm;refine g.trans ?_
  conv=>lhs;rw[e]
  exact List.perm_append_comm
 refine⟨a,hl,hp,?_,λy i=>?_⟩
 .rw[List.length_take,hl,Nat.min_eq_left dd];exact d.hp.congr λk c=>fX (by rw[List.getElem?_take,if_pos c])
 have:y∈l:=hp.mem_iff.2 (by simp[i]);obtain⟨k,c,e⟩:=BW this;have:=zA7 h k dd;have j:Y7 l 0=x.2.cnt:=by unfold Y7;rw[b];rfl
 omega
theorem Ch{l m:List HE}{x:HE}(d:Dn (l.length+1) (l++[x]) m):PushR l x m:=by
 refine⟨d.perm.trans List.perm_append_comm,?_⟩;have:m.length=l.length+1:=by rw[d.perm.length_eq];simp
 rw[this];exact d.hp
def NT(l:List HE):List (Nat×Int):=l.flatMap λe=>e.2.ls
theorem KF{l m:List HE}(h:l.Perm m):(NT l).Perm (NT m):=h.flatMap_right _
structure HPool (q:List (Nat×Int)) (l:List HE):Prop where
 hp:HpI (Y7 l) l.length
 pool:Pool (l.map (·.2))
 ls:(NT l).Perm q
theorem HPool.nil:HPool [] []:=⟨λk a h=>by simp at h,Pool.nil,List.Perm.refl _⟩
theorem HPool.push{q:List (Nat×Int)}{l m:List HE}{p:Nat}{n:Int}{s:Nat}(h:HPool q l)(a:∀e∈l,e.2.cw=0)(c:1<=n)(r:PushR l (p,.leaf n s) m):HPool (q++[(s,n)]) m/\∀e∈m,e.2.cw=0:=by
 refine⟨⟨r.hp,?_,?_⟩,λe b=>?_⟩
 .have d:=(r.perm.map (·.2)).symm;refine Pool.perm ?_ d;exact h.pool.leaf (λt f=>by obtain⟨e,b,rfl⟩:=List.mem_map.1 f;exact a e b) c
 .refine(KF r.perm).trans ?_;show([(s,n)]++NT l).Perm _;exact List.perm_append_comm.trans (h.ls.append_right _)
 rcases oq.1 (r.perm.mem_iff.1 b)with rfl|b
 .rfl
 exact a e b
theorem HPool.join{q:List (Nat×Int)}{l i l2 c:List HE}{a b:HE}{p g:Nat}(h:HPool q l)(r1:PopR l a i)(r2:PopR i b l2)(r3:PushR l2 (p,.join g a.2 b.2) c):HPool q c/\c.length+1=l.length:=by
 have pl:l.Perm (a::b::l2):=r1.perm.trans (r2.perm.cons a);refine⟨⟨r3.hp,?_,?_⟩,?_⟩
 .refine Pool.perm ?_ (r3.perm.map (·.2)).symm;refine(h.pool.perm (pl.map (·.2))).join (λu d=>?_) (λu d=>?_) g
  .obtain⟨e,f,rfl⟩:=List.mem_map.1 d;exact r1.least e (r2.perm.mem_iff.2 (by simp[f]))
  obtain⟨e,f,rfl⟩:=List.mem_map.1 d;exact r2.least e f
 .refine(KF r3.perm).trans (List.Perm.trans ?_ h.ls);refine List.Perm.trans ?_ (KF pl).symm;show((a.2.ls++b.2.ls)++NT l2).Perm (a.2.ls++(b.2.ls++NT l2));rw[List.append_assoc]
 have:=r3.perm.length_eq;have:=pl.length_eq;simp at *;omega
theorem HPool.one{own:Ub}{e:HE}{n:Nat}(h:HPool (pos own n) [e]):e.2.nice/\e.2.ls.Perm (pos own n):=by refine⟨h.pool.nice e.2 (by simp),?_⟩;have:=h.ls;simpa [NT]using this
theorem sM(own:Ub)(h:∀x∈own,0<=x):(k:Nat)->k<=own.length->qK (pos own k)=(own.take k).sum
 | 0,_=>by simp[pos,qK]
 | k+1,b=>by
  have a:k<own.length:=dd
  show qK (pos own k++_)=_;rw[KA,sM own h k dd,List.take_add_one,List.sum_append,oQ a];have:=h own[k] (by simp);by_cases c:0<own[k]
  .simp[c,qK]
  simp[c,qK];omega
def ZJ(l:Ub):Ub:=l.map λx=>x-x/2
theorem Zi(l:Ub):(ZJ l).length=l.length:=by simp[ZJ]
theorem r9(l:Ub):(k:Nat)->(pos (ZJ l) k).map (·.1)=(pos l k).map (·.1)
 | 0=>rfl
 | k+1=>by
  show(pos (ZJ l) k++_).map _=(pos l k++_).map _;rw[List.map_append,List.map_append,r9 l k];congr 1;have e:(ZJ l)[k]?.getD 0=l[k]?.getD 0-l[k]?.getD 0/2:=by unfold ZJ;rw[od];cases l[k]?<;>simp
  rw[e];by_cases c:0<l[k]?.getD 0
  .rw[if_pos c,if_pos dd];rfl
  rw[if_neg c,if_neg dd]
theorem Dl{own:Ub}{e:HE}(h:HPool (pos own own.length) [e])(b:∀x∈own,0<=x)(c:11<e.2.hgt):377<=own.sum:=by
 obtain⟨d,h2⟩:=h.one;have a:=sM own b own.length (oR _);rw[List.take_length]at a;have f:=rF e.2;rw[X1 h2,a]at f;by_cases q:own.sum<=376
 .have:=N7 d dd;omega
 omega
section
open Go (Oper)
def jR(x y:Int):Int:=if x<y then -1 else if y<x then 1 else 0
theorem Jy{x y:Int}{h:H}{Q:Uc}(a:Q (dh (jR x y)) h):RF P zB 335 [dh x,dh y] h Q:=by
 unfold jR at a;refine zh zIM zF7 (sj ⟨false,rfl,λc=>(by cases c),λ_=>sj ⟨false,rfl,λc=>(by cases c),λ_=>⟨λc=>?_,λc=>⟨λb=>?_,λb=>?_⟩⟩⟩⟩)
 .rw[if_pos c]at a;exact a
 .rw[if_neg c,if_pos b]at a;exact a
 rw[if_neg c,if_neg b]at a;exact a
theorem AB{v:V}{l:Ub}{h:H}{Q:Uc}(sl:Sl h v 1 l.length (l.map λn=>dh n))(hl:l.length<4611686018427387904)(d:Q (dh (jC l)) h):RF P zB 334 [v] h Q:=by
 refine zh zCm zF6 ⟨_,sl.len zM rfl,λtm hs=>?_⟩;refine wpC.round (λk tm h'=>∃i:Nat,i<=l.length/\k=l.length-i/\h'=h/\jC (l.take i)=0/\Has tm [(8,dh i),(7,dh l.length),(6,v),(3,dh 0)]) l.length ⟨0,dd,dd,rfl,by simp[jC],hs.sub de⟩ ?_;rintro k tm h' ⟨i,w,rfl,rfl,h2,hs⟩;refine cg zCm hs ⟨λc=>?_,λc=>λf a=>?_⟩
 .have hi:i<l.length:=dd
  have p:l[i]? = some l[i]:=oQ hi;obtain⟨b,o,r,s⟩:=sl.at1 (u:=dh l[i]) hi zM rfl zX rfl rfl (by rw[od,p];rfl);have q:jC l=if l[i]≠0 then l[i] else jC (l.drop (i+1)):=by rw[gO h2,List.drop_eq_getElem_cons hi];rfl
  refine⟨b,o,r,l[i],s,λg=>λf a=>?_,λg=>λf a=>?_⟩
  .rw[q,if_pos g]at d;exact thenC.rt (thenC.rt (endW.r1 (a.get rfl) d))
  have e:zb ((i:Int)+1)=((i+1:Nat):Int):=by rw[zD dd dd];rfl
  refine⟨rfl,rfl,l.length-(i+1),dd,i+1,dd,rfl,rfl,?_,?_⟩
  .rw[List.take_add_one,p];clear q d hs sl;generalize l.take i=z at h2 ⊢;induction z with
   | nil=>simp only[List.nil_append,Option.toList_some,jC];rw[if_neg g]
   | cons x z ih =>
    simp only[List.cons_append,jC]at h2 ⊢;split at h2
    .rename_i j;exact absurd h2 j
    rename_i j;rw[if_neg j];exact ih h2
  rw[<-e];exact a.sub de
 have hi:i=l.length:=dd
 subst hi;rw[List.take_length]at h2;rw[h2]at d;refine thenC.left (sg a (λt m=>?_));exact endW.r1 (m.get rfl) d
def ai(a0 a1 a2 b0 b1 a:Int):Bool:=lX (jC [jR a0 b0,jR a1 b1,jR a2 a]) 0
section
variable (a0 a1 a2 b0 b1 b2:Int)
abbrev kv(a b c:Int):V:=.agg [dh a,dh b,dh c]
theorem DC{h:H}(a b c:Int)(d:h.nx<T.top):∃h',zO zB 23 3 [(0,dh a),(1,dh b),(2,dh c)] h=some (.slice h.nx 0 3 (.exact 3),h')/\Sl h' (.slice h.nx 0 3 (.exact 3)) 1 3 [dh a,dh b,dh c]/\Ext h h' 1:=by
 have e:zO zB 23 3 [(0,dh a),(1,dh b),(2,dh c)] h=(match (cond (Nat.blt h.nx T.top) (some (h.nx,h.new ((.cells (.ls [dh a,dh b,dh c]) ⟨0,3+1,0⟩ true false)))) none:Option (Nat×H))with|some (b,h')=>some (.slice b 0 3 (.exact 3),h')|none=>none):=de
 rw[(zW _ _).2 d,oN]at e;exact⟨_,e,⟨rfl,.inr ⟨h.nx,0,_,_,_,_,_,rfl,by rw[zC];omega,zK _ d,λi hi=>by
  rcases i with _|_|_|i
  .rfl
  .rfl
  .rfl
  omega⟩⟩,Ext.new _ d⟩
theorem ix0{p:Nat}:xK zB 426 (.ptr p 0) (dh 0)=some (.ptr p 0):=de
theorem ix1{p:Nat}:xK zB 426 (.ptr p 0) (dh 1)=some (.ptr p 1):=de
theorem ix2{p:Nat}:xK zB 426 (.ptr p 0) (dh 2)=some (.ptr p 2):=de
theorem Pr{h:H}{Q:Uc}(a:Q (.bool (ai a0 a1 a2 b0 b1 b2)) h):RF P zB 388 [kv a0 a1 a2,kv b0 b1 b2] h Q:=by
 refine RF.plain ?_ (zg rfl);have a:∀h':H,Plain (.bool (ai a0 a1 a2 b0 b1 b2))/\Q (.bool (ai a0 a1 a2 b0 b1 b2)) h:=λ_=>⟨zk rfl,a⟩
 refine zh zIT zFf ⟨of_decide_eq_true de,?_⟩;rintro p0 j rfl k;have n:=(Vw.nil (S:=zH) (h:=H0)).new (o:=.cells (.ls [dh a0,dh a1,dh a2]) ⟨0,426+1,0⟩ true false) k dg;have n1:j.nx=H0.nx+1:=by rw[k,zC]
 have s:H0.nx=0:=rfl;have t:=zt;refine⟨dd,?_⟩;rintro u h3 rfl m;have b:=n.new (o:=.cells (.ls [dh b0,dh b1,dh b2]) ⟨0,426+1,0⟩ true false) m dd;have v:h3.nx=j.nx+1:=by rw[m,zC]
 have f:h3.low<=T.top:=by have:=b.low;have:H0.low=T.top:=rfl;omega
 have g:h3.nx<=T.top:=dd
 refine⟨⟨g,f⟩,_,_,ix0,_,b.ld1 1 rfl zX rfl,_,_,ix0,_,b.ld1 0 rfl zX rfl,Jy ⟨_,rfl,nd g f ?_⟩⟩;refine⟨_,_,ix1,_,b.ld1 1 rfl zX rfl,_,_,ix1,_,b.ld1 0 rfl zX rfl,Jy ⟨_,rfl,λe d=>⟨by cases e;rfl,d⟩,nd g f ?_⟩⟩;refine⟨_,_,ix2,_,b.ld1 1 rfl zX rfl,_,_,ix2,_,b.ld1 0 rfl zX rfl,Jy ⟨_,rfl,λe d=>⟨by cases e;rfl,d⟩,λe d=>⟨by cases e;rfl,d⟩,?_⟩⟩;obtain⟨i,p,q,w⟩:=DC (h:=h3) (jR a0 b0) (jR a1 b1) (jR a2 b2) dd;refine⟨_,i,p,AB (l:=[jR a0 b0,jR a1 b1,jR a2 b2]) q (by simp) ⟨_,rfl,?_⟩⟩;have hb:=xU (jC [jR a0 b0,jR a1 b1,jR a2 b2]) 0;have r:ai a0 a1 a2 b0 b1 b2=lX (jC [jR a0 b0,jR a1 b1,jR a2 b2]) 0:=rfl;rw[r,hb]at a;refine⟨λc=>?_,λc=>?_⟩
 .rw[decide_eq_true c]at a;exact a i
 rw[decide_eq_false c]at a;exact a i
end
theorem Rz{a0 a1 a2 b0 b1 a:Int}:(ai a0 a1 a2 b0 b1 a=true->a0<=b0)/\(ai a0 a1 a2 b0 b1 a=false->b0<=a0):=by
 unfold ai;rw[xU];by_cases c:a0<b0
 .have:jC [jR a0 b0,jR a1 b1,jR a2 a] = -1:=by simp[jC,jR,c]
  rw[this];exact⟨λ_=>dd,λh=>by cases h⟩
 by_cases b:b0<a0
 .have:jC [jR a0 b0,jR a1 b1,jR a2 a]=1:=by simp[jC,jR,c,b]
  rw[this];exact⟨λh=>(by cases h),λ_=>dd⟩
 exact⟨λ_=>dd,λ_=>dd⟩
end
end Go.Proofs.YtnpeieeomokomaaGreat
