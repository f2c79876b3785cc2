/- N. No condition. -/
import Derived.Test.YtnpeieeomokomaaGreatZM
import Derived.Laws.Externs
import Derived.Test.YtnpeieeomokomaaGreatZG
import Derived.Test.YtnpeieeomokomaaGreatZF
namespace Go.Sim
def AD.conc (ρ:Env):AD->Deferred
 | .coll id=>{ target:=.collected (ρ.blk id),args:=#[] }
 | .fn f cap args=>{ target:=.fn (.func f) (cap.map (V.conc ρ)).toArray,args:=(args.map (V.conc ρ)).toArray }
def AD.In (D:Nat->Prop):AD->Prop
 | .coll id=>D id
 | .fn _ cap args=>(∀v∈cap,v.In D)/\∀v∈args,v.In D
def OpPost (P:Program) (ρ:Env) (D:Nat->Prop) (h:H) (w:World) (res:Result Next):AN->Prop
 | .val v h'=>∃ρ' w',res = .ok (.value (v.conc ρ')) w'/\Mv ρ D h w ρ' h' w'/\HR ρ' (Dx D h h') h' w'/\v.In (Dx D h h')
 | .skip h'=>∃w',res = .ok .skip w'/\Mv ρ D h w ρ h' w'/\HR ρ (Dx D h h') h' w'
 | .call f args=>(∀v∈args,v.In D)/\res=(callFunc f (args.map (V.conc ρ)).toArray).run P w
 | .round l args=>D l/\(∀v∈args,v.In D)/\res=(Instr.yield (ρ.blk l) (args.map (V.conc ρ)).toArray).run P w
 | .dfr d=>d.In D/\res = .ok (.defer (d.conc ρ)) w
 | .recover=>res = .ok .recover w
 | .pan v h'=>h'=h/\v.In D/\res = .halt (.panic (v.conc ρ)) w
section
variable {P:Program}{c:Ctx}{ρ:Env}{D:Nat->Prop}{h:H}{w:World}{ev:Operand->Option V}{a:Operand->Value}
theorem OpPost.ofV {r:Option V}{an:AN}{s:Sem Value}(e:AN.ofV r h=some an) (hs:∀v,r=some v->s.run P w = .ok (v.conc ρ) w/\v.In D) (hr:HR ρ D h w) :
  OpPost P ρ D h w ((do pure (.value (<-s)):Sem Next).run P w) an:=by
 cases r with
 | none=>simp[AN.ofV]at e
 | some v =>
  simp only[AN.ofV,oA]at e;subst e;obtain⟨h1,h2⟩:=hs v rfl;exact⟨ρ,w,by simp[h1],Mv.refl _ _ _ _,by rw[zk];exact hr,by rw[zk];exact h2⟩
theorem OpPost.ofVH {r:Option (V×H)}{an:AN}{s:Sem Value}(e:AN.ofVH r=some an) (hs:∀v h',r=some (v,h')->Post ρ D h w (s.run P w) v h') :
  OpPost P ρ D h w ((do pure (.value (<-s)):Sem Next).run P w) an:=by
 cases r with
 | none=>simp[AN.ofVH]at e
 | some q =>
  obtain⟨v,h'⟩:=q;simp only[AN.ofVH,oA]at e;subst e;obtain⟨ρ',w',h1,h2,h3,h4⟩:=hs v h' rfl;exact⟨ρ',w',by simp[h1],h2,h3,h4⟩
theorem ZY:∀{l:List Operand}{vs:List V},qe ev l=some vs->(∀x∈l,∀v,ev x=some v->a x=v.conc ρ/\v.In D)->l.map a=vs.map (V.conc ρ)/\∀v∈vs,v.In D:=by
 intro l
 induction l with
 | nil=>intro vs e _;simp only[qe,oA]at e;subst e;simp
 | cons x l ih =>
  intro vs e hop;simp only[qe]at e;split at e
  ·cases e
  ·rename_i v hv
   split at e
   ·cases e
   ·rename_i r hr
    simp only[oA]at e;subst e;obtain⟨h1,h2⟩:=hop x (List.mem_cons_self ..) v hv;obtain⟨i1,i2⟩:=ih hr (λy hy=>hop y (oH _ hy))
    refine⟨by simp[h1,i1],λu hu=>?_⟩
    rcases oY.1 hu with rfl|g
    ·exact h2
    ·exact i2 u g
theorem zAv:∀{l:List (Nat×Operand)}{vs:List (Nat×V)},evP ev l=some vs->(∀x∈l.map (·.2),∀v,ev x=some v->a x=v.conc ρ/\v.In D) ->
  l.map (λp=>(p.1,a p.2))=vs.map (λp=>(p.1,p.2.conc ρ))/\∀p∈vs,p.2.In D:=by
 intro l
 induction l with
 | nil=>intro vs e _;simp only[evP,oA]at e;subst e;simp
 | cons x l ih =>
  intro vs e hop;obtain⟨i,x⟩:=x;simp only[evP]at e;split at e
  ·cases e
  ·rename_i v hv
   split at e
   ·cases e
   ·rename_i r hr
    simp only[oA]at e;subst e;obtain⟨h1,h2⟩:=hop x (by simp) v hv;obtain⟨i1,i2⟩:=ih hr (λy hy=>hop y (by simp at hy ⊢;exact .inr hy))
    refine⟨by simp[h1,i1],λu hu=>?_⟩
    rcases oY.1 hu with rfl|g
    ·exact h2
    ·exact i2 u g
theorem Xr {o:Option Operand}{r:Option V}(e:evO ev o=some r) (hop:∀x∈o.toArray,∀v,ev x=some v->a x=v.conc ρ/\v.In D):o.map a=r.map (V.conc ρ):=by
 cases o with
 | none=>simp only[evO,oA]at e;subst e;rfl
 | some x =>
  simp only[evO]at e;split at e
  ·rename_i v hv
   simp only[oA]at e;subst e;simp[(hop x (by simp) v hv).1]
  ·cases e
theorem zD5:∀(n t:Nat) (acc:Array Value),(Extern.BytealgMakeNoZero.digits n t acc).size=acc.size+n:=by
 intro n
 induction n with
 | zero=>intro t acc;rfl
 | succ n ih=>intro t acc;simp only[Extern.BytealgMakeNoZero.digits,ih,Array.size_push];omega
theorem zJR (hr:HR ρ D h w) {ps rs:Array TypeId}{t el n b:Nat}{h':H}(n6:rs[0]? = some t) (n7:P.underlying t=some (.slice el)) (hnew:ky h (some (.ls [])) ⟨1,el+1,0⟩ true=some (b,h')) (hn:n<=4294967296) :
  ∃ρ',∃(_:True),Dx D h h' b/\∃w',(Extern.BytealgMakeNoZero.makeNoZero ps rs #[.int .i64 (n:Int)]).run P w = .ok ((V.slice b 0 n (.skip 0)).conc ρ') w'/\Mv ρ D h w ρ' h' w'/\HR ρ' (Dx D h h') h' w':=by
 obtain⟨g1,cs,e1,rfl,rfl⟩:=Yy hnew;simp only[oA]at e1;subst e1;generalize hcp:Question.cut (Question.appendCap n 0 el) (w.tape w.drawn (Question.appendCap n 0 el))=cp;generalize hby:Question.cut (Question.extern "internal/bytealg.MakeNoZero.bytes" 0) (w.drew.tape w.drew.drawn (Question.extern "internal/bytealg.MakeNoZero.bytes" 0))=by';have hrd:HR ρ D h w.drew.drew:=hr.of_heap rfl;have hsz:=zD5 cp by' #[];simp only[List.size_toArray,List.length_nil,Nat.zero_add]at hsz;obtain⟨a1,a2⟩:=KP hrd g1 (l:=.ls []) (esz:=⟨1,el+1,0⟩) (op:=true) (λi v hv=>by simp[Cs.get?,Cs.getL]at hv) (Extern.BytealgMakeNoZero.digits cp by' #[]) el (0,0) cp
  (λi v hv=>by simp[Cs.get?,Cs.getL]at hv) (λi _ _=>by simp) (by simp[Cs.len,xr]) (by rw[hsz];simp) (λu hu=>⟨Nat.succ.inj hu,.inl rfl⟩)
 refine⟨_,trivial,zB1,_,?_,Mv.trans hr.lt (Mv.of_heap (w':=w.drew.drew) rfl rfl rfl rfl) (by rw[zk];exact a2),a1⟩;have h1:¬((n:Int)<0):=by omega
 have h2:¬((n:Int) > 2^48):=by have:(2:Int)^48=281474976710656:=rfl;omega
 have hdef:Extern.BytealgMakeNoZero.makeNoZero ps rs #[.int .i64 (n:Int)] =
   (do
    let some t:=rs[0]? | stuck "bytealg.MakeNoZero: no result type"
    let .slice elem <-underlying t|stuck "bytealg.MakeNoZero: slice type expected"
    if (n:Int)<0 || (n:Int) > 2^48 then runtimePanic (.error "makeslice: len out of range")
    let cap <-choose (.appendCap (n:Int).toNat 0 elem)
    askRoom cap
    let bytes <-choose (.extern "internal/bytealg.MakeNoZero.bytes" 0)
    let a <-newRow elem (Extern.BytealgMakeNoZero.digits cap bytes #[])
    pure (.slice (some a) (n:Int).toNat cap)):=rfl
 rw[hdef];simp only[n6,Sem.run_bind,run_underlying n7,Result.andThen_ok];simp only[h1,h2,decide_false,Bool.or_false,Bool.false_eq_true,if_false,oV,Sem.run_bind,Sem.run_pure,Result.andThen_ok,run_choose,Question.forced,World.drew_eq,hcp,run_askRoom,hby];simp only[newRow,Sem.run_bind,run_newObj,Result.andThen_ok,World.alloc_eq,Sem.run_pure,V.conc,Cap.val,Env.at_blk,Env.at_off,Env.at_cap,Nat.sub_zero,World.size_drew];rfl
theorem zDE (ok:CtxOK P c) {cl:Call}{ty:TypeId}{an:AN}(e:yr c cl ev h=some an) (hr:HR ρ D h w) (hop:∀x∈cl.operands,∀v,ev x=some v->a x=v.conc ρ/\v.In D) :
  OpPost P ρ D h w ((do let d <-resolve a cl ty;invoke d.target d.args:Sem Next).run P w) an:=by
 unfold yr at e;split at e
 ·cases e
 ·rename_i args hargs
  obtain⟨ha,hin⟩:=ZY (a:=a) (ρ:=ρ) (D:=D) hargs (λx hx v hv=>hop x (by
   unfold Call.operands;rw[Array.mem_append];exact .inr (by simpa using hx)) v hv)
  have hargsA:cl.args.map a=(args.map (V.conc ρ)).toArray:=by
   apply Array.ext';rw[Array.toList_map,ha]
  split at e
  ·rename_i f hf
   have hopf:∀v,ev f=some v->a f=v.conc ρ/\v.In D:=λv hv=>hop f (by
    unfold Call.operands;rw[Array.mem_append];exact .inl (by simp[hf])) v hv
   split at e
   ·rename_i g first captured hv
    obtain⟨h1,h2⟩:=hopf _ hv;simp only[V.In,V.InL_iff]at h2;unfold qH at e;cases hne:Yw c g with
    | true =>
     rw[hne,oK]at e;split at e
     ·rename_i x
      simp only[oA]at e;subst e;unfold Yw at hne;split at hne
      ·rename_i k hk
       obtain rfl:=oF hne;obtain⟨fn,n1,n2,n3,n4,n5⟩:=ok.noesc _ hk;refine⟨ρ,w,?_,Mv.refl _ _ _ _,by rw[zk];exact hr,by rw[zk];exact hin x (by simp)⟩;simp only[resolve,hf,h1,V.conc,Deferred.ofValue,Sem.run_bind,Sem.run_pure,Result.andThen_ok,invoke,hargsA,V.concL_eq];simp only[List.map_nil,List.map_cons];have:=run_callFunc_extern n1 n2 n3 n4 n5 #[x.conc ρ] w;rw[Go.Lib.run_noEscape]at this;simpa using this
      ·cases hne
     ·cases e
    | false =>
    rw[hne,oL]at e;split at e
    ·rename_i el hel
     unfold zTk at hel;split at hel
     case h_2=>cases hel
     rename_i k el' hk;cases hb:Nat.beq g k with
     | false=>simp[hb]at hel
     | true =>
     simp only[hb,oK,oA]at hel;subst hel;obtain rfl:=oF hb;obtain⟨fn,ps,rs,t,n1,n2,n3,n4,n5,n6,n7⟩:=ok.mnz _ _ hk;cases hm:zVJ el' h first args captured with
     | none=>rw[hm]at e;cases e
     | some q =>
     obtain⟨v,h'⟩:=q;rw[hm]at e;simp only[AN.ofVH,oA]at e;subst e;unfold zVJ at hm;split at hm
     case h_2=>cases hm
     rename_i n;cases hbn:Nat.ble n 4294967296 with
     | false=>simp[hbn]at hm
     | true =>
     have hn:=oE hbn;simp only[hbn,oK]at hm;split at hm
     case h_2=>cases hm
     rename_i b hh' hnew;simp only[oA,oB]at hm;obtain⟨rfl,rfl⟩:=hm;obtain⟨p1,p2,p3,p4⟩:=zJR (P:=P) hr n6 n7 hnew hn;obtain⟨w',q1,q2,q3⟩:=p4;refine⟨p1,w',?_,q2,q3,by simp only[V.In];exact p3⟩;simp only[resolve,hf,h1,V.conc,Deferred.ofValue,Sem.run_bind,Sem.run_pure,Result.andThen_ok,invoke,hargsA,V.concL_eq];have:=run_callFunc_extern n1 n2 n3 n4 n5 #[.int .i64 (n:Int)] w;rw[q1]at this;simpa [V.conc]using this
    simp only[oA]at e;subst e;refine⟨λv hv=>?_,?_⟩
    ·rcases List.mem_append.1 hv with g1|g1
     ·exact h2.2.1 v g1
     ·rcases List.mem_append.1 g1 with g2|g2
      ·exact hin v g2
      ·exact h2.2.2 v g2
    ·simp only[resolve,hf,h1,V.conc,Deferred.ofValue,Sem.run_bind,Sem.run_pure,Result.andThen_ok,invoke,hargsA,V.concL_eq]
     congr 2
     simp[List.append_assoc]
   ·rename_i l hv
    simp only[oA]at e;subst e;obtain⟨h1,h2⟩:=hopf _ hv;simp only[V.In]at h2;refine⟨h2,hin,?_⟩;simp only[resolve,hf,h1,V.conc,Deferred.ofValue,Sem.run_bind,Sem.run_pure,Result.andThen_ok,invoke,hargsA]
    congr 2
    simp
   ·cases e
  ·rename_i b hb
   have base:((do let d <-resolve a cl ty;invoke d.target d.args:Sem Next))=builtin b cl.argTypes ty (cl.args.map λ| .const _=>true|_=>false) (args.map (V.conc ρ)).toArray:=by
    simp only[resolve,hb,hargsA];rfl
   rw[base];have atys:∀l,cl.argTypes.toList=l->cl.argTypes=l.toArray:=λl hl=>by rw[<-hl]
   split at e
   ·rename_i x t hat
    rw[atys _ hat];exact OpPost.ofV (s:=Builtin.len_ #[t] ty #[x.conc ρ]) e (λv hv=>zFR ok hv hr (hin x (by simp)) #[t] rfl ty (by simp)) hr
   ·rename_i x t hat
    rw[atys _ hat];exact OpPost.ofV (s:=Builtin.cap_ #[t] ty #[x.conc ρ]) e (λv hv=>zFO ok hv #[t] rfl ty (by simp)) hr
   ·rename_i s x t tx hat
    rw[atys _ hat];exact OpPost.ofVH (s:=Builtin.append_ #[t,tx] ty #[s.conc ρ,x.conc ρ]) e (λv h' hv=>zAT ok hv hr (hin s (by simp)) (hin x (by simp)) ty)
   ·rename_i d x t t2 hat
    rw[atys _ hat];exact OpPost.ofVH (s:=Builtin.copy_ #[t,t2] ty #[d.conc ρ,x.conc ρ]) e (λv h' hv=>zDG ok hv hr (hin d (by simp)) (hin x (by simp)) #[t,t2] rfl ty (by simp))
   ·rename_i x l
    refine OpPost.ofV (s:=Builtin.min_ cl.argTypes ty ((x::l).map (V.conc ρ)).toArray) e (λv hv=>?_) hr;obtain⟨m1,m2⟩:=Yx (P:=P) (w:=w) ρ false l x v hv;refine⟨?_,m2 D (hin x (by simp))⟩;simpa [Builtin.min_]using m1
   ·rename_i x l
    refine OpPost.ofV (s:=Builtin.max_ cl.argTypes ty ((x::l).map (V.conc ρ)).toArray) e (λv hv=>?_) hr;obtain⟨m1,m2⟩:=Yx (P:=P) (w:=w) ρ true l x v hv;refine⟨?_,m2 D (hin x (by simp))⟩;simpa [Builtin.max_]using m1
   ·simp only[oA]at e;subst e
    simp[OpPost,builtin]
   ·rename_i x
    exact OpPost.ofV (s:=Builtin.unsafeSliceData_ cl.argTypes ty #[x.conc ρ]) e (λv hv=>Xd hv hr (hin x (by simp)) _ _) hr
   ·rename_i p n pt l hat
    exact OpPost.ofVH (s:=Builtin.unsafeString_ cl.argTypes ty #[p.conc ρ,n.conc ρ]) e (λv h' hv=>Xe ok hv hr (hin p (by simp)) _ _ (by
     have:cl.argTypes.toList[0]? = some pt:=by rw[hat];rfl
     simpa using this))
   ·cases e
  ·rename_i r name hr'
   split at e
   ·rename_i t v hv
    obtain⟨h1,h2⟩:=hop r (by
     unfold Call.operands;rw[Array.mem_append];exact .inl (by simp[hr'])) _ hv
    simp only[V.In]at h2;split at e
    ·rename_i f hf
     simp only[oA]at e;subst e;refine⟨λu hu=>(oY.1 hu).elim (λg=>g ▸ h2) (hin u),?_⟩
     have hm:=zAW ok hf (P.types.size+Made.depth-1) (v.conc ρ) w;rw[show P.types.size+Made.depth-1+1=P.types.size+Made.depth from by unfold Made.depth;omega]at hm;simp only[resolve,hr',h1,V.conc,Sem.run_bind,Sem.run_pure,Result.andThen_ok,invoke,hargsA];have ht:(List.map (V.conc ρ) args).take args.length=List.map (V.conc ρ) args:=List.take_of_length_le (by simp);simp[callMethod,hm,ht]
    ·rename_i f el hf
     split at e
     ·rename_i u hu
      simp only[oA]at e;subst e;obtain⟨hm,hud⟩:=zAV ok hf (P.types.size+Made.depth-1) v u hu hr h2;refine⟨λx hx=>(oY.1 hx).elim (λg=>g ▸ hud) (hin x),?_⟩
      rw[show P.types.size+Made.depth-1+1=P.types.size+Made.depth from by unfold Made.depth;omega]at hm;simp only[resolve,hr',h1,V.conc,Sem.run_bind,Sem.run_pure,Result.andThen_ok,invoke,hargsA];have ht:(List.map (V.conc ρ) args).take args.length=List.map (V.conc ρ) args:=List.take_of_length_le (by simp);simp[callMethod,hm,ht]
     ·cases e
    ·cases e
   ·cases e
theorem Xc (ok:CtxOK P c) {o:Oper}{an:AN}(e:yD c o ev h=some an) (hr:HR ρ D h w) (hop:∀x∈o.op.operands,∀v,ev x=some v->a x=v.conc ρ/\v.In D) :
  OpPost P ρ D h w ((execOp a o).run P w) an:=by
 unfold yD at e;split at e
 case h_1 x ho =>
  rw[ho]at hop;cases hx:ev x with
  | none=>simp[hx,AN.ofV]at e
  | some v =>
   obtain⟨h1,h2⟩:=hop x (by simp[Op.operands]) v hx;simp only[hx,AN.ofV,oA]at e;subst e;exact⟨ρ,w,by simp[execOp,ho,h1],Mv.refl _ _ _ _,by rw[zk];exact hr,by rw[zk];exact h2⟩
 case h_2 x ho =>
  rw[ho]at hop;cases hx:ev x with
  | none=>simp[hx,AN.ofV]at e
  | some v =>
   obtain⟨h1,h2⟩:=hop x (by simp[Op.operands]) v hx;simp only[hx,AN.ofV,oA]at e;subst e;exact⟨ρ,w,by simp[execOp,ho,h1],Mv.refl _ _ _ _,by rw[zk];exact hr,by rw[zk];exact h2⟩
 case h_3 cc x y ho =>
  rw[ho]at hop;split at e
  ·rename_i t hc
   obtain⟨c1,_⟩:=hop cc (by simp[Op.operands]) _ hc;rw[show execOp a o=(do pure (.value (<-(do pure (if <-asBool (a cc) then a x else a y):Sem Value))):Sem Next)from by simp[execOp,ho]];refine OpPost.ofV e (λv hv=>?_) hr;cases t with
   | true =>
    simp only[oK]at hv;obtain⟨h1,h2⟩:=hop x (by simp[Op.operands]) v hv;exact⟨by simp[c1,V.conc,asBool,h1],h2⟩
   | false =>
    simp only[oL]at hv;obtain⟨h1,h2⟩:=hop y (by simp[Op.operands]) v hv;exact⟨by simp[c1,V.conc,asBool,h1],h2⟩
  ·cases e
 case h_4 t ho =>
  split at e
  ·rename_i ti hti
   obtain⟨i,k⟩:=ok.ty t ti hti;split at e
   ·rename_i z hz
    obtain⟨z1,z2⟩:=kL k hz ρ w;split at e
    ·rename_i b h1 hn
     simp only[oA]at e;subst e;obtain⟨ρ',m1,m2,m3,m4,m5⟩:=YN hr hn (V.cells_In (z2 D)) t (λu hu=>Nat.succ.inj hu);refine⟨ρ',_,?_,m1,m2,by simp only[V.In];exact m3⟩;simp[execOp,ho,Instr.alloc,z1,newVar,newRow,V.cells_conc,V.conc,m4,m5]
    ·cases e
   ·cases e
  ·cases e
 case h_5 t x ho =>
  rw[ho]at hop;split at e
  ·rename_i v hv
   obtain⟨h1,h2⟩:=hop x (by simp[Op.operands]) v hv;split at e
   ·rename_i b hh hn
    simp only[oA]at e;subst e;obtain⟨ρ',m1,m2,m3,m4,m5⟩:=YN hr hn (V.cells_In h2) t (λu hu=>Nat.succ.inj hu);refine⟨ρ',_,?_,m1,m2,by simp only[V.In];exact m3⟩;simp[execOp,ho,Instr.box,h1,newVar,newRow,V.cells_conc,V.conc,m4,m5]
   ·cases e
  ·cases e
 case h_6 t ps ho =>
  rw[ho]at hop;split at e
  ·rename_i l hl
   obtain⟨p1,p2⟩:=zAv (a:=a) (ρ:=ρ) (D:=D) hl (λx hx v hv=>hop x (by simpa [Op.operands]using hx) v hv)
   have harr:ps.map (λp=>(p.1,a p.2))=(l.map λp=>(p.1,p.2.conc ρ)).toArray:=by
    apply Array.ext';rw[Array.toList_map,p1]
   rw[show execOp a o=(do pure (.value (<-Instr.build t (l.map λp=>(p.1,p.2.conc ρ)).toArray)):Sem Next)from by simp only[execOp,ho];rw[<-harr]]
   exact OpPost.ofV e (λv hv=>zB7 ok hv p2) hr
  ·cases e
 case h_7 t n ps ho =>
  rw[ho]at hop;split at e
  ·rename_i l hl
   obtain⟨p1,p2⟩:=zAv (a:=a) (ρ:=ρ) (D:=D) hl (λx hx v hv=>hop x (by simpa [Op.operands]using hx) v hv)
   have harr:ps.map (λp=>(p.1,a p.2))=(l.map λp=>(p.1,p.2.conc ρ)).toArray:=by
    apply Array.ext';rw[Array.toList_map,p1]
   rw[show execOp a o=(do pure (.value (<-Instr.buildSlice t n (l.map λp=>(p.1,p.2.conc ρ)).toArray)):Sem Next)from by simp only[execOp,ho];rw[<-harr]]
   exact OpPost.ofVH e (λv h' hv=>Y9 ok hv hr p2)
  ·cases e
 case h_8 t x ho =>
  rw[ho]at hop;split at e
  ·rename_i v hv
   obtain⟨h1,h2⟩:=hop x (by simp[Op.operands]) v hv;rw[show execOp a o=(do pure (.value (<-Instr.loadAt t (v.conc ρ))):Sem Next)from by simp[execOp,ho,h1]];exact OpPost.ofV e (λu hu=>Xb ok hu hr h2) hr
  ·cases e
 case h_9 t x y ho =>
  rw[ho]at hop;split at e
  ·rename_i p v hp hv
   obtain⟨h1,h2⟩:=hop x (by simp[Op.operands]) p hp;obtain⟨h3,h4⟩:=hop y (by simp[Op.operands]) v hv;split at e
   ·rename_i h' hst
    simp only[oA]at e;subst e;obtain⟨w',s1,s2,s3,s4⟩:=zIh ok hst hr h2 h4;exact⟨w',by simp[execOp,ho,h1,h3,s1],s3,by rw[wa s4];exact s2⟩
   ·cases e
  ·cases e
 case h_10 x ho =>
  rw[ho]at hop;split at e
  ·rename_i b q hv
   obtain⟨h1,h2⟩:=hop x (by simp[Op.operands]) _ hv;simp only[oA]at e;subst e;exact⟨ρ,w,by simp[execOp,ho,h1,V.conc],Mv.refl _ _ _ _,by rw[zk];exact hr,by rw[zk];exact h2⟩
  ·rename_i t v hv
   obtain⟨h1,h2⟩:=hop x (by simp[Op.operands]) _ hv;simp only[oA]at e;subst e;exact⟨ρ,w,by simp[execOp,ho,h1,V.conc],Mv.refl _ _ _ _,by rw[zk];exact hr,by rw[zk];exact h2⟩
  ·rename_i g q1 q2 hv
   obtain⟨h1,h2⟩:=hop x (by simp[Op.operands]) _ hv;simp only[oA]at e;subst e;exact⟨ρ,w,by simp[execOp,ho,h1,V.conc],Mv.refl _ _ _ _,by rw[zk];exact hr,by rw[zk];exact h2⟩
  ·rename_i l hv
   obtain⟨h1,h2⟩:=hop x (by simp[Op.operands]) _ hv;simp only[oA]at e;subst e;exact⟨ρ,w,by simp[execOp,ho,h1,V.conc],Mv.refl _ _ _ _,by rw[zk];exact hr,by rw[zk];exact h2⟩
  ·cases e
 case h_11 op t x y ty ho =>
  rw[ho]at hop;split at e
  ·rename_i u v hu hv
   obtain⟨h1,h2⟩:=hop x (by simp[Op.operands]) u hu;obtain⟨h3,h4⟩:=hop y (by simp[Op.operands]) v hv;rw[show execOp a o=(do pure (.value (<-(do eqGuard op t x y (u.conc ρ) (v.conc ρ);binOp op t (u.conc ρ) (v.conc ρ):Sem Value))):Sem Next)from by simp[execOp,ho,h1,h3]];exact OpPost.ofV e (λq hq=>zFN ok hq h2 h4) hr
  ·cases e
 case h_12 op t x ho =>
  rw[ho]at hop;split at e
  ·rename_i u hu
   obtain⟨h1,h2⟩:=hop x (by simp[Op.operands]) u hu;rw[show execOp a o=(do pure (.value (<-Op.unary op (u.conc ρ))):Sem Next)from by simp[execOp,ho,h1]];exact OpPost.ofV e (λq hq=>⟨(zAk hq ρ).1,(zAk (P:=P) (w:=w) hq ρ).2 D⟩) hr
  ·cases e
 case h_13 s d x ho =>
  rw[ho]at hop;split at e
  ·rename_i u hu
   obtain⟨h1,h2⟩:=hop x (by simp[Op.operands]) u hu;rw[show execOp a o=(do pure (.value (<-convert s d (u.conc ρ))):Sem Next)from by simp[execOp,ho,h1]];exact OpPost.ofVH e (λv h' hv=>zDF ok hv hr h2)
  ·cases e
 case h_14 t x ho =>
  rw[ho]at hop;split at e
  ·rename_i ti b q len cp hti hv
   obtain⟨i,k⟩:=ok.ty t ti hti;obtain⟨h1,h2⟩:=hop x (by simp[Op.operands]) _ hv;split at e
   ·rename_i n el hd
    cases hb:Nat.ble n len with
    | false=>simp[hb]at e
    | true =>
     simp only[hb,oK,oA]at e;subst e;have:=oE hb;have hn:¬len<n:=by omega
     exact⟨ρ,w,by simp[execOp,ho,h1,V.conc,Instr.arrayAt,z7 k,hd,hn],Mv.refl _ _ _ _,by rw[zk];exact hr,by rw[zk];simpa [V.In]using h2⟩
   ·cases e
  ·cases e
 case h_15 t x ho =>
  rw[ho]at hop;split at e
  ·rename_i ti v hti hv
   obtain⟨i,k⟩:=ok.ty t ti hti;obtain⟨h1,h2⟩:=hop x (by simp[Op.operands]) _ hv;split at e
   ·cases e
   ·rename_i hd
    simp only[oA]at e;subst e;refine⟨ρ,w,?_,Mv.refl _ _ _ _,by rw[zk];exact hr,by rw[zk];simpa [V.In]using h2⟩;simp only[execOp,ho,h1,V.conc,Instr.makeInterface,Sem.run_bind,z7 k,Result.andThen_ok];cases hdd:ti.desc<;>first|rfl|exact absurd hdd (hd _)
  ·cases e
 case h_16 g first captured ho =>
  rw[ho]at hop;split at e
  ·rename_i u v hu hv
   obtain⟨a1,a2⟩:=ZY (a:=a) (ρ:=ρ) (D:=D) hu (λx hx v hv=>hop x (by simp[Op.operands];exact .inl (by simpa using hx)) v hv)
   obtain⟨b1,b2⟩:=ZY (a:=a) (ρ:=ρ) (D:=D) hv (λx hx v hv=>hop x (by simp[Op.operands];exact .inr (by simpa using hx)) v hv)
   simp only[oA]at e;subst e;have e1:first.map a=(u.map (V.conc ρ)).toArray:=by apply Array.ext';rw[Array.toList_map,a1]
   have e2:captured.map a=(v.map (V.conc ρ)).toArray:=by apply Array.ext';rw[Array.toList_map,b1]
   refine⟨ρ,w,?_,Mv.refl _ _ _ _,by rw[zk];exact hr,by rw[zk];simp only[V.In,V.InL_iff];exact⟨λ_=>by simp,a2,b2⟩⟩
   simp[execOp,ho,Instr.makeFunc,e1,e2,V.conc,V.concL_eq]
  ·cases e
 case h_17 t l k ho =>
  rw[ho]at hop;split at e
  ·rename_i u v hu hv
   obtain⟨h1,h2⟩:=hop l (by simp[Op.operands]) u hu;obtain⟨h3,h4⟩:=hop k (by simp[Op.operands]) v hv;rw[show execOp a o=(do pure (.value (<-Instr.makeSlice t (u.conc ρ) (v.conc ρ))):Sem Next)from by simp[execOp,ho,h1,h3]];exact OpPost.ofVH e (λq h' hq=>zDO ok hq hr)
  ·cases e
 case h_18 t x lo hi mx ho =>
  rw[ho]at hop;split at e
  ·rename_i v p q m hv hp hq hm
   obtain⟨h1,h2⟩:=hop x (by simp[Op.operands]) v hv;have e1:=Xr (a:=a) (ρ:=ρ) (D:=D) hp (λy hy v hv=>hop y (by simp[Op.operands]at hy ⊢;simp[hy]) v hv)
   have e2:=Xr (a:=a) (ρ:=ρ) (D:=D) hq (λy hy v hv=>hop y (by simp[Op.operands]at hy ⊢;simp[hy]) v hv)
   have e3:=Xr (a:=a) (ρ:=ρ) (D:=D) hm (λy hy v hv=>hop y (by simp[Op.operands]at hy ⊢;simp[hy]) v hv)
   rw[show execOp a o=(do pure (.value (<-Instr.sliceAt t (v.conc ρ) (p.map (V.conc ρ)) (q.map (V.conc ρ)) (m.map (V.conc ρ)))):Sem Next)from by simp only[execOp,ho,h1,e1,e2,e3]];exact OpPost.ofV e (λu hu=>zBc ok hu hr h2) hr
  ·cases e
 case h_19 t x f ho =>
  rw[ho]at hop;split at e
  ·rename_i ti b q hti hv
   obtain⟨i,k⟩:=ok.ty t ti hti;obtain⟨h1,h2⟩:=hop x (by simp[Op.operands]) _ hv;split at e
   ·rename_i fs hd
    split at e
    ·rename_i fd hfd
     unfold afa at e;split at e
     ·rename_i tf htf
      obtain⟨i2,k2⟩:=ok.ty _ tf htf;cases hb:Nat.blt 0 tf.size with
      | false=>simp[hb]at e
      | true =>
       simp only[hb,oK,oA]at e;subst e;have:=(z8 _ _).1 hb;have hne:¬tf.size=0:=by omega
       refine⟨ρ,w,?_,Mv.refl _ _ _ _,by rw[zk];exact hr,by rw[zk];simpa [V.In]using h2⟩;simp[execOp,ho,h1,V.conc,Instr.fieldAt,z7 k,hd,hfd,Instr.sureAddr,fieldPlace,yI k2,hne,yL,Nat.add_assoc]
     ·cases e
    ·cases e
   ·cases e
  ·cases e
 case h_20 t x f ho =>
  rw[ho]at hop;split at e
  ·rename_i v hv
   obtain⟨h1,h2⟩:=hop x (by simp[Op.operands]) v hv;rw[show execOp a o=(do pure (.value (<-Instr.field t (v.conc ρ) f)):Sem Next)from by simp[execOp,ho,h1]];exact OpPost.ofV e (λu hu=>zFP ok hu h2) hr
  ·cases e
 case h_21 t x ix ho =>
  rw[ho]at hop;split at e
  ·rename_i u v hu hv
   obtain⟨h1,h2⟩:=hop x (by simp[Op.operands]) u hu;obtain⟨h3,h4⟩:=hop ix (by simp[Op.operands]) v hv;rw[show execOp a o=(do pure (.value (<-Instr.indexAt t (u.conc ρ) (v.conc ρ))):Sem Next)from by simp[execOp,ho,h1,h3]];exact OpPost.ofV e (λq hq=>zFQ ok hq h2) hr
  ·cases e
 case h_22 t x ix ho =>
  rw[ho]at hop;split at e
  ·rename_i u v hu hv
   obtain⟨h1,h2⟩:=hop x (by simp[Op.operands]) u hu;obtain⟨h3,h4⟩:=hop ix (by simp[Op.operands]) v hv;rw[show execOp a o=(do pure (.value (<-Instr.index t (u.conc ρ) (v.conc ρ))):Sem Next)from by simp[execOp,ho,h1,h3]];exact OpPost.ofV e (λq hq=>zB9 ok hq h2) hr
  ·cases e
 case h_23 x i ho =>
  rw[ho]at hop;split at e
  ·rename_i l hv
   obtain⟨h1,h2⟩:=hop x (by simp[Op.operands]) _ hv;simp only[V.In,V.InL_iff]at h2;rw[show execOp a o=(do pure (.value (<-Instr.extract ((V.tuple l).conc ρ) i)):Sem Next)from by simp[execOp,ho,h1]];refine OpPost.ofV e (λu hu=>⟨?_,h2 u (List.mem_of_getElem? hu)⟩) hr
   simp[Instr.extract,zFp,hu]
  ·cases e
 case h_24 cl ho =>
  rw[ho]at hop;rw[show execOp a o=(do let d <-resolve a cl o.type;invoke d.target d.args:Sem Next)from by simp only[execOp,ho]];exact zDE ok e hr (by simpa [Op.operands]using hop)
 case h_25 x ho =>
  rw[ho]at hop;split at e
  ·rename_i t v hv
   obtain⟨h1,h2⟩:=hop x (by simp[Op.operands]) _ hv;simp only[oA]at e;subst e;exact⟨rfl,h2,by simp[execOp,ho,h1,V.conc,Instr.panic]⟩
  ·cases e
 case h_26 cl ho =>
  rw[ho]at hop;split at e
  ·rename_i args f hargs hf
   obtain⟨a1,a2⟩:=ZY (a:=a) (ρ:=ρ) (D:=D) hargs (λx hx v hv=>hop x (by
    simp only[Op.operands,Call.operands];rw[Array.mem_append];exact .inr (by simpa using hx)) v hv)
   split at e
   ·rename_i g first captured hv
    obtain⟨h1,h2⟩:=hop f (by simp only[Op.operands,Call.operands];rw[Array.mem_append];exact .inl (by simp[hf])) _ hv;simp only[V.In,V.InL_iff]at h2;simp only[oA]at e;subst e;have hargsA:cl.args.map a=(args.map (V.conc ρ)).toArray:=by apply Array.ext';rw[Array.toList_map,a1]
    refine⟨⟨h2.2.2,λv hv=>(List.mem_append.1 hv).elim (h2.2.1 v) (a2 v)⟩,?_⟩
    simp[execOp,ho,resolve,hf,h1,V.conc,V.concL_eq,Deferred.ofValue,hargsA,AD.conc]
   ·cases e
  ·cases e
 case h_27 t ho =>
  rw[show execOp a o=(do pure (.value (<-Instr.makeMap t none)):Sem Next)from by simp[execOp,ho]];exact OpPost.ofVH e (λu h' hu=>zAX hu hr t)
 case h_28 x xt t okf ho =>
  rw[ho]at hop;split at e
  ·rename_i v hv
   obtain⟨h1,h2⟩:=hop x (by simp[Op.operands]) v hv;rw[show execOp a o=(do pure (.value (<-Instr.typeAssert (v.conc ρ) xt t okf)):Sem Next)from by simp[execOp,ho,h1]];exact OpPost.ofV e (λu hu=>zDR ok hu h2) hr
  ·cases e
 case h_29 t x k okf ho =>
  rw[ho]at hop;split at e
  ·rename_i m kv hm hk
   obtain⟨h1,h2⟩:=hop x (by simp[Op.operands]) _ hm;obtain⟨h3,h4⟩:=hop k (by simp[Op.operands]) _ hk;rw[show execOp a o=(do pure (.value (<-Instr.lookup t (m.conc ρ) (kv.conc ρ) okf)):Sem Next)from by simp[execOp,ho,h1,h3]];exact OpPost.ofV e (λu hu=>zDN ok hu hr h2 h4) hr
  ·cases e
 case h_30 t x k y ho =>
  rw[ho]at hop;split at e
  ·rename_i m kv v hm hk hv
   obtain⟨h1,h2⟩:=hop x (by simp[Op.operands]) _ hm;obtain⟨h3,h4⟩:=hop k (by simp[Op.operands]) _ hk;obtain⟨h5,h6⟩:=hop y (by simp[Op.operands]) _ hv;split at e
   ·rename_i h' hu
    simp only[oA]at e;subst e;obtain⟨w',s1,s2,s3⟩:=zFU ok hu hr h2 h4 h6;exact⟨w',by simp[execOp,ho,h1,h3,h5,s1],s2,s3⟩
   ·cases e
  ·cases e
 case h_31=>cases e
end
end Go.Sim
