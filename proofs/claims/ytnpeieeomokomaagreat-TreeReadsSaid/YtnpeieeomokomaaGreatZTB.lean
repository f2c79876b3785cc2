/- TB. No condition. -/
import Derived.Test.YtnpeieeomokomaaGreatZTA
namespace Go.Proofs.YtnpeieeomokomaaGreat
open Go.Sim
abbrev tint:TI:=⟨3,.int .i64,1,8,some (.int .i64 0),true,false,false,[]⟩
abbrev ints (l:List Int):List V:=l.map fun n=>V.int .i64 n
theorem ints_app (l m:List Int):ints (l++m)=ints l++ints m:=List.map_append ..
theorem ints_len (l:List Int):(ints l).length=l.length:=List.length_map ..
theorem ints_rep (n:Nat):ints (List.replicate n 0)=List.replicate n (.int .i64 0):=by simp [ints]
def oD (log:Int) (v:V):O:=.cells (.ls [.int .i64 log,v]) ⟨0,59+1,0⟩ true false
set_option maxRecDepth 100000 in
theorem ne_nil_no {n:Nat} {k:V→Prop} (hk:k (.bool false)):wpBin ctx .neq 163 (t n) (.const .nilIface) 4 .nilIface .nilIface k:=by
 have e:abin ctx .neq 163 (t n) (.const .nilIface) .nilIface .nilIface=some (.bool false):=by kernel_rfl
 exact ⟨false,e,fun g=>(by cases g),fun _=>hk⟩
set_option maxRecDepth 100000 in
theorem ne_nil_yes {n:Nat} {e:Int} {k:V→Prop} (hk:k (.bool true)):wpBin ctx .neq 163 (t n) (.const .nilIface) 4 (brk e) .nilIface k:=by
 have e:abin ctx .neq 163 (t n) (.const .nilIface) (brk e) .nilIface=some (.bool true):=by kernel_rfl
 exact ⟨true,e,fun _=>hk,fun g=>(by cases g)⟩
structure HD (hb h:H) (c r p0 p9:Nat) (s:List UInt8) (p:Nat) (log:Int) (v:V) (l:List Int):Prop where
 ex:ExtX (· = r) hb h c
 gr:h.get r=some (oRd s p)
 g0:h.get p0=some (oD 0 .nilslice)
 g9:h.get p9=some (oD log v)
 ow:Ow h v tint l.length (ints l)
 vb:∀ b,vblk v=some b→hb.next≤b∧b≠p0∧b≠p9
 r1:r<hb.next
 q0:hb.next≤p0
 l0:p0<h.next
 q9:hb.next≤p9
 l9:p9<h.next
 ne:p0≠p9
theorem HD.bound {hb h:H} {c r p0 p9:Nat} {s:List UInt8} {p:Nat} {log:Int} {v:V} {l:List Int} (d:HD hb h c r p0 p9 s p log v l):h.next≤hb.next+c:=d.ex.top
theorem _root_.Go.Sim.Ow.blk_lt {h:H} {v:V} {te:TI} {n:Nat} {xs:List V} (s:Ow h v te n xs) {b:Nat} (hb:vblk v=some b):b<h.next:=by
 obtain ⟨_,⟨rfl,_⟩ | ⟨b',cs,rfl,h3,_⟩⟩:=s
 ·cases hb
 ·cases hb; exact h3
theorem _root_.Go.Sim.Ow.cells {h:H} {v:V} {te:TI} {n:Nat} {xs:List V} (s:Ow h v te n xs):v.cells=[v]∧allOne [v]=true:=by
 obtain ⟨_,⟨rfl,_⟩ | ⟨b',cs,rfl,h3,_⟩⟩:=s
 ·exact ⟨rfl,rfl⟩
 ·exact ⟨rfl,rfl⟩
theorem HD.take {hb h h':H} {c r p0 p9:Nat} {s:List UInt8} {p q:Nat} {log:Int} {v:V} {l:List Int} (d:HD hb h c r p0 p9 s p log v l) (x:ExtX (· = r) h h' 1) (g:h'.get r=some (oRd s q)):HD hb h' (c+1) r p0 p9 s q log v l:=by
 have h1:=d.q0
 have h2:=d.q9
 have h3:=d.r1
 exact ⟨d.ex.trans x,g,(x.get _ d.l0 (by omega)).trans d.g0,(x.get _ d.l9 (by omega)).trans d.g9,d.ow.keep x.le fun b e=>x.get _ (d.ow.blk_lt e) (by have:=(d.vb b e).1; omega),d.vb,d.r1,d.q0,Nat.lt_of_lt_of_le d.l0 x.le,d.q9,Nat.lt_of_lt_of_le d.l9 x.le,d.ne⟩
theorem HD.grow {hb h h1:H} {c r p0 p9:Nat} {s:List UInt8} {p:Nat} {log:Int} {v v':V} {l m:List Int} (d:HD hb h c r p0 p9 s p log v l) (hn:h.next<T.top)
  (a:Ow h1 v' tint (l.length+m.length) (ints l++ints m)∧h.next≤h1.next∧h1.next≤h.next+1∧(∀ b,b<h.next→vblk v≠some b→h1.get b=h.get b)∧vblk v'=some h.next∧h1.low≤h.low∧(∀ m,m≤h.low→(∀ b,vblk v=some b→m≤b)→m≤h1.low)) :
  ∃ h2,ast ctx 23 h1 (.ptr p9 (0+1)) v'=some h2∧HD hb h2 (c+1) r p0 p9 s p log v' (l++m):=by
 obtain ⟨a1,a2,a3,a4,a5,a6,a7⟩:=a
 have x1:=ExtX.append a2 a3 a4 a6 a7
 have h1':=d.q0
 have h2':=d.q9
 have h3':=d.r1
 have e1:=d.ex.le
 have e2:=d.l0
 have e3:=d.l9
 have k:∀ b,b<h.next→(∀ b',vblk v=some b'→b'≠b)→h1.get b=h.get b:=fun b hb hv=>a4 b hb fun e=>hv b e rfl
 have g9:h1.get p9=some (oD log v):=(k p9 d.l9 fun b e=>(d.vb b e).2.2).trans d.g9
 obtain ⟨c1,c2⟩:=a1.cells
 refine ⟨_,ast_at ty23 g9 (by rw [c1]; rfl) (Nat.zero_le _) (by rw [c1]; exact c2) (by rw [c1]; rfl),?_⟩
 have hp9:p9<T.top:=by omega
 have y:ExtX (· = r) hb h1 (c+1):=d.ex.andThen x1 fun b hb=>.inr (d.vb b hb).1
 exact ⟨y.upd _ hp9 (.inr d.q9),by rw [get_upd_ne _ hp9 (by omega),k r (by omega) (fun b e=>by have:=(d.vb b e).1; omega)]; exact d.gr,
  by rw [get_upd_ne _ hp9 d.ne,k p0 d.l0 (fun b e=>(d.vb b e).2.1)]; exact d.g0,
  get_upd_self _ hp9,
  by
   rw [List.length_append,ints_app]
   exact a1.keep (Nat.le_refl _) fun b e=>get_upd_ne _ hp9 (by rw [a5] at e; cases e; omega),
  fun b e=>by rw [a5] at e; cases e; omega,d.r1,d.q0,by show p0<h1.next; omega,d.q9,by show p9<h1.next; omega,d.ne⟩
end Go.Proofs.YtnpeieeomokomaaGreat
namespace Go.Proofs.YtnpeieeomokomaaGreat
open Go.Sim
theorem HD.put0 {hb h:H} {c r p0 p9:Nat} {s:List UInt8} {p:Nat} {log:Int} {v:V} {l:List Int} (d:HD hb h c r p0 p9 s p log v l) (hn:h.next≤T.top) :
  ∃ h2,ast ctx 23 h (.ptr p9 (0+1)) v=some h2∧HD hb h2 c r p0 p9 s p log v l:=by
 have h1':=d.q0
 have h2':=d.q9
 have h3':=d.r1
 have h4':=d.l9
 obtain ⟨c1,c2⟩:=d.ow.cells
 refine ⟨_,ast_at ty23 d.g9 (by rw [c1]; rfl) (Nat.zero_le _) (by rw [c1]; exact c2) (by rw [c1]; rfl),?_⟩
 have hp9:p9<T.top:=by omega
 exact ⟨d.ex.upd _ hp9 (.inr d.q9),by rw [get_upd_ne _ hp9 (by omega)]; exact d.gr,by rw [get_upd_ne _ hp9 d.ne]; exact d.g0,get_upd_self _ hp9,
  d.ow.keep (Nat.le_refl _) fun b e=>get_upd_ne _ hp9 (d.vb b e).2.2,d.vb,d.r1,d.q0,d.l0,d.q9,d.l9,d.ne⟩
theorem ow_len {h:H} {v:V} {l:List Int} (o:Ow h v tint l.length (ints l)):alen ctx 23 h v=some (.int .i64 l.length):=o.sl.len ty23 rfl
set_option maxRecDepth 100000 in
set_option maxHeartbeats 1000000 in
theorem zeros_loop {hb h:H} {c c0 r p0 p9:Nat} {s:List UInt8} {p:Nat} {log:Int} {v:V} {l0:List Int} {symbols f:Nat} {left:Int} {tm:Tm} {R:AX→St→Prop} (d:HD hb h c r p0 p9 s p log v l0)
    (hs:Has tm [(18,.int .i64 3),(0,.ptr r 0),(6,.ptr p0 0),(10,.ptr p9 0),(2,.int .i64 symbols),(11,.int .i64 left)])
    (hlen:s.length≤1048576) (hp:p≤8*s.length) (hl:l0.length≤symbols) (hsy:symbols≤256) (hf:symbols+1≤f+l0.length) (hc:c+4≤8*l0.length+c0) (hnx:hb.next+8*symbols+c0+10≤T.top)
    (hret:rdZeros s symbols f p l0.length=none→∀ e tm' h',e=5∨e=23→Has tm' [(6,.ptr p0 0),(7,brk e)]→ExtX (· = r) hb h' (8*symbols+c0+10)→h'.get p0=some (oD 0 .nilslice)→R .ret ⟨137,tm',[],h'⟩)
    (hexit:∀ tm' h' c' v' l' p',rdZeros s symbols f p l0.length=some (l'.length,p')→l'=l0++List.replicate (l'.length-l0.length) 0→l0.length≤l'.length→c'≤8*l'.length+c0→HD hb h' c' r p0 p9 s p' log v' l'→p'≤8*s.length→l'.length≤symbols →
      Has tm' [(0,.ptr r 0),(6,.ptr p0 0),(10,.ptr p9 0),(2,.int .i64 symbols),(11,.int .i64 left)]→R (.exit 2) ⟨137,tm',[],h'⟩) :
    wpC P ctx false (.loop l137_0) ⟨137,tm,[],h⟩ R:=by
  generalize hR0:rdZeros s symbols f p l0.length=R0 at hret hexit
  refine wpC.round (fun k tm h=>∃ c p v l,HD hb h c r p0 p9 s p log v l∧l=l0++List.replicate (l.length-l0.length) 0∧l0.length≤l.length∧l.length≤symbols∧p≤8*s.length ∧
      ((∃ f,k=f+1∧rdZeros s symbols f p l.length=R0∧symbols+1≤f+l.length∧c+4≤8*l.length+c0∧Has tm [(18,.int .i64 3),(0,.ptr r 0),(6,.ptr p0 0),(10,.ptr p9 0),(2,.int .i64 symbols),(11,.int .i64 left)]) ∨
       (∃ x:Nat,k=0∧x≠3∧R0=some (l.length,p)∧c≤8*l.length+c0∧Has tm [(18,.int .i64 x),(0,.ptr r 0),(6,.ptr p0 0),(10,.ptr p9 0),(2,.int .i64 symbols),(11,.int .i64 left)]))) (f+1)
    ⟨c,p,v,l0,d,by simp,Nat.le_refl _,hl,hp,.inl ⟨f,rfl,hR0,hf,hc,hs⟩⟩ ?_
  clear d hs hl hf hc hR0 hp
  rintro k tm h ⟨c,p,v,l,d,hl1,hl2,hl3,hp,⟨f,rfl,hR0,hf,hc,hs⟩ | ⟨x,rfl,hx,hR0,hc,hs⟩⟩
  rotate_left
  · -- no zeros follow
    exact wpC.at hs vl137_0 rfl rfl ⟨fun c1=>absurd c1 (by omega),fun _=>hs.on fun tm' hs'=>hexit tm' h c v l p hR0 hl1 hl2 hc d hp hl3 (hs'.sub rfl)⟩
  obtain ⟨f,rfl⟩:∃ g,f=g+1:=⟨f-1,by omega⟩
  have hb1:=d.bound
  have e0:=d.ex.le
  have hr1:=d.r1
  refine wpC.at hs vl137_0 rfl rfl ⟨fun _=>distTake_ok (n:=2) d.gr (by omega) (by omega) hlen hp (by decide) (fun c2 h1 x1 g1=>?_) (fun c2 h1 x1=>?_),fun c1=>absurd rfl c1⟩
  rotate_left
  · -- bits are missing
    have hn:R0=none:=by
      rw [← hR0]
      show (if 8*s.length<p+2 then none else _)=none
      rw [if_pos (by omega)]
    have y:ExtX (· = r) hb h1 (c+1):=d.ex.trans (ExtX.of x1)
    have g0:h1.get p0=some (oD 0 .nilslice):=(x1.get _ d.l0).trans d.g0
    have:=x1.top
    have:=d.l0
    have:=x1.le
    refine ⟨0,brk 5,rfl,ne_nil_yes ⟨_,ast_at ty59 g0 rfl (Nat.zero_le _) rfl rfl,hs.on fun tm' hs'=>hret hn 5 tm' _ (.inl rfl) (hs'.sub rfl) ?_ (get_upd_self _ (by omega))⟩⟩
    have z:=y.upd (some (oD 0 .nilslice)) (b:=p0) (by omega) (.inr d.q0)
    exact ⟨z.le,Nat.le_trans z.top (by omega),z.get,z.low,z.lo⟩
  have d1:=d.take x1 g1
  have hb2:=d1.bound
  have e1:=d1.ex.le
  have hd0:=d1.l0
  refine ⟨_,.nilIface,rfl,ne_nil_no ?_⟩
  show ∃ v8,ald ctx 23 h1 (.ptr p9 (0+1))=some v8∧_
  have hw:w64 ((l.length:Int)+(fnum s p 2:Nat))=((l.length+fnum s p 2:Nat):Int):=by
    have:=fnum_lt s p 2
    rw [w64_id (by omega) (by omega)]; rfl
  have hf4:=fnum_lt s p 2
  refine ⟨v,ald_one ty23 rfl d1.g9 rfl,_,ow_len d1.ow,fun c3=>?_,fun c3=>?_⟩
  · -- too many
    rw [hw] at c3
    have hn:R0=none:=by
      rw [← hR0]
      show (if 8*s.length<p+2 then none else if symbols<l.length+fnum s p 2 then none else _)=none
      rw [if_neg (by omega),if_pos (by omega)]
    refine wpOpt_brk ⟨_,ast_at ty59 d1.g0 rfl (Nat.zero_le _) rfl rfl,hs.on fun tm' hs'=>hret hn 23 tm' _ (.inr rfl) (hs'.sub rfl) ?_ (get_upd_self _ (by omega))⟩
    have z:=d1.ex.upd (some (oD 0 .nilslice)) (b:=p0) (by omega) (.inr d1.q0)
    exact ⟨z.le,Nat.le_trans z.top (by omega),z.get,z.low,z.lo⟩
  rw [hw] at c3
  have hfit:l.length+fnum s p 2≤symbols:=by omega
  have hun:R0=(if fnum s p 2=3 then rdZeros s symbols f (p+2) (l.length+3) else some (l.length+fnum s p 2,p+2)):=by
    rw [← hR0]
    show (if 8*s.length<p+2 then none else if symbols<l.length+fnum s p 2 then none else _)=_
    rw [if_neg (by omega),if_neg (by omega)]
  show ∃ v14,ald ctx 23 h1 (.ptr p9 (0+1))=some v14∧_
  refine ⟨v,ald_one ty23 rfl d1.g9 rfl,trivial,?_⟩
  generalize fnum s p 2=x at *
  have fin:∀ c' v' h',HD hb h' c' r p0 p9 s (p+2) log v' (l++List.replicate x 0)→c'≤c+2 →
      (∀ tm',Has tm' [(18,.int .i64 (x:Nat)),(0,.ptr r 0),(6,.ptr p0 0),(10,.ptr p9 0),(2,.int .i64 symbols),(11,.int .i64 left)] →
        ∃ j,j<f+1+1∧∃ c p v l,HD hb h' c r p0 p9 s p log v l∧l=l0++List.replicate (l.length-l0.length) 0∧l0.length≤l.length∧l.length≤symbols∧p≤8*s.length ∧
      ((∃ f,j=f+1∧rdZeros s symbols f p l.length=R0∧symbols+1≤f+l.length∧c+4≤8*l.length+c0∧Has tm' [(18,.int .i64 3),(0,.ptr r 0),(6,.ptr p0 0),(10,.ptr p9 0),(2,.int .i64 symbols),(11,.int .i64 left)]) ∨
       (∃ x:Nat,j=0∧x≠3∧R0=some (l.length,p)∧c≤8*l.length+c0∧Has tm' [(18,.int .i64 x),(0,.ptr r 0),(6,.ptr p0 0),(10,.ptr p9 0),(2,.int .i64 symbols),(11,.int .i64 left)]))):=by
    intro c' v' h' d2 hc' tm' hs'
    have ll:(l++List.replicate x 0:List Int).length=l.length+x:=by rw [List.length_append,List.length_replicate]
    have hl':(l++List.replicate x 0:List Int)=l0++List.replicate ((l++List.replicate x 0:List Int).length-l0.length) 0:=by
      rw [ll]
      conv=>lhs; rw [hl1]
      rw [List.append_assoc,List.replicate_append_replicate]
      congr 2
      omega
    by_cases hx3:x=3
    · subst hx3
      rw [if_pos rfl] at hun
      exact ⟨f+1,by omega,c',p+2,v',_,d2,hl',by omega,by omega,c2,.inl ⟨f,rfl,by rw [ll]; exact hun.symm,by omega,by omega,hs'⟩⟩
    · rw [if_neg hx3] at hun
      exact ⟨0,by omega,c',p+2,v',_,d2,hl',by omega,by omega,c2,.inr ⟨x,rfl,hx3,by rw [ll]; exact hun,by omega,hs'⟩⟩
  rcases Nat.eq_zero_or_pos x with hx0 | hx0
  · subst hx0
    obtain ⟨h2,e2,d2⟩:=d1.put0 (by omega)
    refine ⟨v,h1,Ow.zeros0 (u:=.int .i64 0) d1.ow ty23 rfl ty3 rfl rfl rfl rfl,?_⟩
    show ∃ h19,ast ctx 23 h1 (.ptr p9 (0+1)) v=some h19∧_
    refine ⟨h2,e2,hs.on fun tm' hs'=>⟨rfl,rfl,fin (c+1) v h2 (by simpa using d2) (by omega) tm' (hs'.sub rfl)⟩⟩
  · obtain ⟨v',h2,e2,a⟩:=Ow.zeros (m:=x) (u:=.int .i64 0) d1.ow hx0 ty23 rfl ty3 rfl rfl rfl rfl rfl (by omega) (by show (l.length+x)*8≤_; omega) (by omega)
    obtain ⟨h3,e3,d3⟩:=d1.grow (m:=List.replicate x 0) (by omega) (by rw [List.length_replicate,ints_rep]; exact a)
    refine ⟨v',h2,e2,?_⟩
    show ∃ h19,ast ctx 23 h2 (.ptr p9 (0+1)) v'=some h19∧_
    exact ⟨h3,e3,hs.on fun tm' hs'=>⟨rfl,rfl,fin (c+1+1) v' h3 d3 (by omega) tm' (hs'.sub rfl)⟩⟩
end Go.Proofs.YtnpeieeomokomaaGreat
namespace Go.Proofs.YtnpeieeomokomaaGreat
open Go.Sim
theorem _root_.Go.Sim.ExtX.more {S:Nat→Prop} {h h':H} {m n:Nat} (a:ExtX S h h' m) (hm:m≤n):ExtX S h h' n:=⟨a.le,Nat.le_trans a.top (Nat.add_le_add_left hm _),a.get,a.low,a.lo⟩
theorem build1 {n:Int} {h:H} (hn:h.next<T.top):∃ v h',abuildSlice ctx 23 1 [(0,.int .i64 n)] h=some (v,h')∧Sl h' v 1 1 [.int .i64 n]∧Ext h h' 1:=by
 obtain ⟨v,h',e,s,x,_⟩:=buildSlice1 (c:=ctx) (h:=h) (u:=.int .i64 n) (ys:=[.int .i64 n]) (te:=tint) ty23 rfl ty3 rfl rfl rfl rfl (by decide) rfl hn
 exact ⟨v,h',e,s,x⟩
set_option maxRecDepth 100000 in
set_option maxHeartbeats 1000000 in
theorem value_step {hb h:H} {c c0 r p0 p9:Nat} {s:List UInt8} {q:Nat} {log:Int} {v:V} {l:List Int} {symbols x left:Nat} {tm:Tm} {R:AX→St→Prop} (d:HD hb h c r p0 p9 s q log v l)
  (hs:Has tm [(0,.ptr r 0),(6,.ptr p0 0),(10,.ptr p9 0),(2,.int .i64 symbols),(14,.int .i64 x),(11,.int .i64 left)])
  (hlen:s.length≤1048576) (hq:q≤8*s.length) (hl:l.length≤symbols) (hsy:symbols≤256) (hx:x≤left+1) (hlf:left≤1048576) (hleft:0<left) (hc:c≤8*l.length+c0+2) (hnx:hb.next+8*symbols+c0+20≤T.top)
  (hret:(l.length=symbols∨x=1∧rdZeros s symbols (symbols+1) q (l.length+1)=none)→∀ e tm' h',e=5∨e=23→Has tm' [(6,.ptr p0 0),(7,brk e)]→ExtX (· = r) hb h' (8*symbols+c0+20)→h'.get p0=some (oD 0 .nilslice)→R .ret ⟨137,tm',[],h'⟩)
  (hgo:x≠1→l.length≠symbols→∀ tm' h' c' v',c'≤8*(l.length+1)+c0→HD hb h' c' r p0 p9 s q log v' (l++[(x:Int)-1])→Has tm' [(0,.ptr r 0),(6,.ptr p0 0),(10,.ptr p9 0),(2,.int .i64 symbols),(11,.int .i64 (left-max (x-1) 1:Nat))]→R (.exit 1) ⟨137,tm',[],h'⟩)
  (hz:x=1→l.length≠symbols→∀ tm' h' c' v' l' q',rdZeros s symbols (symbols+1) q (l.length+1)=some (l'.length,q')→l'=l++List.replicate (l'.length-l.length) 0→l.length<l'.length→c'≤8*l'.length+c0→HD hb h' c' r p0 p9 s q' log v' l'→q'≤8*s.length→l'.length≤symbols →
   Has tm' [(0,.ptr r 0),(6,.ptr p0 0),(10,.ptr p9 0),(2,.int .i64 symbols),(11,.int .i64 left)]→R .normal ⟨137,tm',[],h'⟩) :
  W137 false r137_1 ⟨137,tm,[],h⟩ R:=by
 have hb1:=d.bound
 have e0:=d.ex.le
 have hl0:=d.l0
 refine wpS.at hs vr137_1 rfl rfl ?_
 show ∃ v2,ald ctx 23 h (.ptr p9 (0+1))=some v2∧_
 refine ⟨v,ald_one ty23 rfl d.g9 rfl,_,ow_len d.ow,fun c1=>?_,fun c1=>?_⟩
 ·refine wpOpt_brk ⟨_,ast_at ty59 d.g0 rfl (Nat.zero_le _) rfl rfl,hs.on fun tm' hs'=>hret (.inl (by omega)) 23 tm' _ (.inr rfl) (hs'.sub rfl) ?_ (get_upd_self _ (by omega))⟩
  exact (d.ex.upd (some (oD 0 .nilslice)) (b:=p0) (by omega) (.inr d.q0)).more (by omega)
 have hll:l.length<symbols:=by omega
 have ex:w64 ((x:Int)-1)=(x:Int)-1:=w64_id (by omega) (by omega)
 show ∃ v8,ald ctx 23 h (.ptr p9 (0+1))=some v8∧_
 rw [ex]
 obtain ⟨v9,h1,e1,s1,x1⟩:=build1 (n:=(x:Int)-1) (h:=h) (by omega)
 have t1:=x1.top
 have t1':=x1.le
 have o1:=d.ow.ext x1
 obtain ⟨v',h2,e2,a⟩:=Ow.append (c:=ctx) (te:=tint) (m:=1) o1 s1 (by decide) ty23 rfl ty3 rfl rfl (by show (l.length+1)*1≤_; omega) (by show (l.length+1)*8≤_; omega) (by omega)
 have d1:HD hb h1 (c+1) r p0 p9 s q log v l:=⟨d.ex.andThen (ExtX.of (S:=fun _=>False) x1) (fun _ g=>g.elim),(x1.get _ (by have:=d.r1; omega)).trans d.gr,(x1.get _ d.l0).trans d.g0,(x1.get _ d.l9).trans d.g9,o1,d.vb,d.r1,d.q0,Nat.lt_of_lt_of_le d.l0 x1.le,d.q9,Nat.lt_of_lt_of_le d.l9 x1.le,d.ne⟩
 obtain ⟨h3,e3,d3⟩:=d1.grow (m:=[(x:Int)-1]) (by omega) a
 refine ⟨v,ald_one ty23 rfl d.g9 rfl,v9,h1,e1,trivial,v',h2,e2,?_⟩
 show ∃ h15,ast ctx 23 h2 (.ptr p9 (0+1)) v'=some h15∧_
 have l1:(l++[(x:Int)-1]).length=l.length+1:=by simp
 refine ⟨h3,e3,fun c2=>hs.on fun tm' hs'=>hgo (by omega) (by omega) tm' h3 _ v' (by omega) d3 ?_,fun c2=>hs.on fun tm' hs'=>?_⟩
 ·have:w64 ((left:Int)-max ((x:Int)-1) 1)=((left-max (x-1) 1:Nat):Int):=by
   have hx1:x≠1:=by omega
   rw [w64_id (by omega) (by omega)]; omega
  rw [← this]
  exact hs'.sub rfl
 ·have hx1:x=1:=by omega
  subst hx1
  refine zeros_loop (c0:=c0) (f:=symbols+1) (left:=left) d3 (hs'.sub rfl) hlen hq (by omega) hsy (by omega) (by omega) (by omega) (fun hn e tm2 h4 he g1 g2 g3=>?_) (fun tm2 h4 c4 v4 l4 q4 hz4 hl4 hle hc4 d4 hq4 hs4 g1=>?_)
  ·refine g1.slt fun tm3 g4=>?_
   exact hret (.inr ⟨rfl,by rw [l1] at hn; exact hn⟩) e tm3 h4 he (g4.sub rfl) (g2.more (by omega)) g3
  ·show sealQ L137 R (exitB 2 (.exit 2)) _
   rw [exitB_it]
   refine g1.slt fun tm3 g4=>?_
   rw [l1] at hz4 hl4 hle
   exact hz rfl (by omega) tm3 h4 c4 v4 l4 q4 hz4 (by
    conv=>lhs; rw [hl4]
    rw [List.append_assoc]
    congr 1
    show [((1:Nat):Int)-1]++_=_
    rw [show [((1:Nat):Int)-1]=List.replicate 1 (0:Int) from rfl,List.replicate_append_replicate]
    congr 1
    omega) (by omega) hc4 d4 hq4 hs4 (g4.sub rfl)
end Go.Proofs.YtnpeieeomokomaaGreat
namespace Go.Proofs.YtnpeieeomokomaaGreat
open Go.Sim
set_option maxRecDepth 100000 in
set_option maxHeartbeats 2000000 in
theorem read_loop {hb h:H} {c c0 r p0 p9:Nat} {s:List UInt8} {p:Nat} {log:Int} {v:V} {l0:List Int} {symbols f left:Nat} {tm:Tm} {R:AX→St→Prop} (d:HD hb h c r p0 p9 s p log v l0)
  (hs:Has tm [(11,.int .i64 left),(0,.ptr r 0),(6,.ptr p0 0),(10,.ptr p9 0),(2,.int .i64 symbols),(7,.nilIface)])
  (hlen:s.length≤1048576) (hp:p≤8*s.length) (hl:l0.length≤symbols) (hsy:symbols≤256) (hlf:left≤1048576) (hf:symbols+2≤f+l0.length) (hc:c≤8*l0.length+c0) (hnx:hb.next+8*symbols+c0+20≤T.top) (hlow:hb.low≤T.top)
  (hret:rdProbs s symbols f left p l0=none→∀ e tm' h',e=5∨e=23→Has tm' [(6,.ptr p0 0),(7,brk e)]→ExtX (· = r) hb h' (8*symbols+c0+20)→h'.get p0=some (oD 0 .nilslice)→R .ret ⟨137,tm',[],h'⟩)
  (hexit:∀ tm' h' c' v' l' p',rdProbs s symbols f left p l0=some (l',p')→c'≤8*symbols+c0→HD hb h' c' r p0 p9 s p' log v' l'→p'≤8*s.length→l'.length≤symbols→Has tm' [(6,.ptr p0 0),(10,.ptr p9 0)]→R (.exit 0) ⟨137,tm',[],h'⟩) :
  wpC P ctx false (.loop l137_2) ⟨137,tm,[],h⟩ R:=by
 generalize hR0:rdProbs s symbols f left p l0=R0 at hret hexit
 refine wpC.round (fun k tm h=>∃ c p v l left,HD hb h c r p0 p9 s p log v l∧rdProbs s symbols k left p l=R0∧symbols+2≤k+l.length∧l.length≤symbols∧p≤8*s.length∧left≤1048576∧c≤8*l.length+c0 ∧
  Has tm [(11,.int .i64 (left:Nat)),(0,.ptr r 0),(6,.ptr p0 0),(10,.ptr p9 0),(2,.int .i64 symbols)]) f
  ⟨c,p,v,l0,left,d,hR0,hf,hl,hp,hlf,hc,hs.sub rfl⟩ ?_
 clear d hs hl hf hc hR0 hp hlf
 rintro k tm h ⟨c,p,v,l,left,d,hR0,hf,hl,hp,hlf,hc,hs⟩
 obtain ⟨k,rfl⟩:∃ g,k=g+1:=⟨k-1,by omega⟩
 have hb1:=d.bound
 have e0:=d.ex.le
 have hr1:=d.r1
 have hl0':=d.l0
 have hlow1:h.low≤T.top:=Nat.le_trans d.ex.low hlow
 refine wpC.at hs vl137_2 rfl rfl ⟨fun c1=>?_,fun c1=>hs.on fun tm' hs'=>?_⟩
 rotate_left
 ·have:left=0:=by omega
  subst this
  have hn:R0=some (l,p):=by rw [← hR0]; rfl
  exact hexit tm' h c v l p hn (by omega) d hp hl (hs'.sub rfl)
 have hleft:0<left:=by omega
 have hun:R0=match rdOne s left p with
  | none=>none
  | some (v,q) =>
   if l.length=symbols then none
   else if v=1 then
    match rdZeros s symbols (symbols+1) q (l.length+1) with
    | none=>none
    | some (n,r)=>rdProbs s symbols k left r (l++List.replicate (n-l.length) 0)
   else rdProbs s symbols k (left-max (v-1) 1) q (l++[(v:Int)-1]):=by
  rw [← hR0]
  show (if left=0 then some (l,p) else _)=_
  rw [if_neg (by omega)]
  rfl
 have next:∀ x q,rdOne s left p=some (x,q)→∀ h' c' tm',HD hb h' c' r p0 p9 s q log v l→c'≤c+2→Has tm' [(0,.ptr r 0),(6,.ptr p0 0),(10,.ptr p9 0),(2,.int .i64 symbols),(14,.int .i64 (x:Nat)),(11,.int .i64 (left:Nat))] →
   W137 false r137_1 ⟨137,tm',[],h'⟩ (fun e s1=>(sealQ L137 (thenC (fun s1=>s1.n=137∧s1.dfr=[]∧∃ j,j<k+1∧∃ c p v l left,HD hb s1.heap c r p0 p9 s p log v l∧rdProbs s symbols j left p l=R0∧symbols+2≤j+l.length∧l.length≤symbols∧p≤8*s.length∧left≤1048576∧c≤8*l.length+c0 ∧
    Has s1.tm [(11,.int .i64 (left:Nat)),(0,.ptr r 0),(6,.ptr p0 0),(10,.ptr p9 0),(2,.int .i64 symbols)]) R)) (exitB 1 e) s1):=by
  intro x q hx h' c' tm' d' hc' hs'
  obtain ⟨hx1,hq⟩:=rdOne_le hleft hx
  rw [hx] at hun
  simp only at hun
  refine value_step (c0:=c0) d' hs' hlen hq hl hsy hx1 hlf hleft (by omega) (by omega) (fun hn e tm2 h2 he g1 g2 g3=>?_) (fun hx1 hls tm2 h2 c2 v2 hc2 d2 g1=>?_) (fun hx1 hls tm2 h2 c2 v2 l2 q2 hz hl2 hlt hc2 d2 hq2 hs2 g1=>?_)
  ·refine g1.slt fun tm3 g4=>?_
   refine hret ?_ e tm3 h2 he (g4.sub rfl) g2 g3
   rw [hun]
   rcases hn with hn | ⟨hn,hn2⟩
   ·rw [if_pos hn]
   ·by_cases hls:l.length=symbols
    ·rw [if_pos hls]
    ·rw [if_neg hls,if_pos hn,hn2]
  ·rw [if_neg hls,if_neg hx1] at hun
   show sealQ L137 _ (exitB 1 (.exit 1)) _
   rw [exitB_it]
   refine g1.slt fun tm3 g4=>?_
   exact ⟨rfl,rfl,k,by omega,c2,q,v2,_,_,d2,hun.symm,by simp; omega,by simp; omega,hq,by omega,by simp; omega,g4.sub rfl⟩
  ·rw [if_neg hls,if_pos hx1,hz] at hun
   simp only at hun
   refine g1.slt fun tm3 g4=>?_
   exact ⟨rfl,rfl,k,by omega,c2,q2,v2,l2,left,d2,by rw [hun]; congr 1,by omega,hs2,hq2,hlf,hc2,g4.sub rfl⟩
 have hsb:=sh_facts left
 have hB:shB left≤21:=nbits_bound (by omega)
 have hB0:=shB_pos left
 have hT:=shT_le hleft
 have eb:w64 ((shB left:Nat)-1:Int)=((shB left-1:Nat):Int):=by rw [w64_id (by omega) (by omega)]; omega
 have fl:=fnum_lt s p (shB left-1)
 have pw:2^(shB left-1)≤2^20:=Nat.pow_le_pow_right (by decide) (by omega)
 have bad:rdOne s left p=none→R0=none:=fun hn=>by rw [hun,hn]
 refine shape_ok hlf (by omega) hlow1 ⟨(shB left:Nat),(shT left:Nat),rfl,?_⟩
 rw [eb]
 refine distTake_ok (n:=shB left-1) d.gr (by omega) (by omega) hlen hp (by omega) (fun c2 h1 x1 g1=>?_) (fun c2 h1 x1=>?_)
 rotate_left
 ·have y:ExtX (· = r) hb h1 (c+1):=d.ex.trans (ExtX.of x1)
  have g0:h1.get p0=some (oD 0 .nilslice):=(x1.get _ d.l0).trans d.g0
  have:=x1.le
  refine ⟨0,brk 5,rfl,ne_nil_yes ⟨_,ast_at ty59 g0 rfl (Nat.zero_le _) rfl rfl,hs.on fun tm' hs'=>hret (bad ?_) 5 tm' _ (.inl rfl) (hs'.sub rfl) ((y.upd _ (by omega) (.inr d.q0)).more (by omega)) (get_upd_self _ (by omega))⟩⟩
  unfold rdOne
  rw [if_pos (by omega)]
 have d1:=d.take x1 g1
 have hb2:=d1.bound
 have e1:=d1.ex.le
 have hl1':=d1.l0
 refine ⟨_,.nilIface,rfl,ne_nil_no ⟨fun c3=>?_,fun c3=>hs.on fun tm' hs'=>?_⟩⟩
 rotate_left
 ·-- a bit less is enough
  refine next (fnum s p (shB left-1)) (p+(shB left-1)) ?_ h1 (c+1) tm' d1 (by omega) (hs'.sub rfl)
  unfold rdOne
  rw [if_neg (by omega),if_pos (by omega)]
 refine distTake_ok (n:=1) d1.gr (by omega) (by omega) hlen (by omega) (by decide) (fun c4 h2 x2 g2=>?_) (fun c4 h2 x2=>?_)
 rotate_left
 ·have y:ExtX (· = r) hb h2 (c+1+1):=d1.ex.trans (ExtX.of x2)
  have g0:h2.get p0=some (oD 0 .nilslice):=(x2.get _ d1.l0).trans d1.g0
  have:=x2.le
  refine ⟨0,brk 5,rfl,ne_nil_yes ⟨_,ast_at ty59 g0 rfl (Nat.zero_le _) rfl rfl,hs.on fun tm' hs'=>hret (bad ?_) 5 tm' _ (.inl rfl) (hs'.sub rfl) ((y.upd _ (by omega) (.inr d.q0)).more (by omega)) (get_upd_self _ (by omega))⟩⟩
  unfold rdOne
  rw [if_neg (by omega),if_neg (by omega),if_pos (by omega)]
 have d2:=d1.take x2 g2
 have ep:p+(shB left-1)+1=p+shB left:=by omega
 rw [ep] at d2
 have hsl:=fnum_last s p hB0
 have hs2:=sbit_lt s (p+(shB left-1))
 have f1:fnum s (p+(shB left-1)) 1=sbit s (p+(shB left-1)):=by simp [fnum]
 have mm:sbit s (p+(shB left-1))*2^(shB left-1)≤1*2^(shB left-1):=Nat.mul_le_mul_right _ (by omega)
 have hfull:rdOne s left p=some (if 2^(shB left-1)≤fnum s p (shB left) then fnum s p (shB left)-shT left else fnum s p (shB left),p+shB left):=by
  unfold rdOne
  rw [if_neg (by omega),if_neg (by omega),if_neg (by omega)]
 have ev:w64 (((fnum s p (shB left-1):Nat):Int)+((sbit s (p+(shB left-1))*2^(shB left-1):Nat):Int))=((fnum s p (shB left):Nat):Int):=by
  rw [w64_id (by omega) (by omega),hsl]; rfl
 rw [f1]
 refine ⟨_,.nilIface,rfl,ne_nil_no ⟨((sbit s (p+(shB left-1))*2^(shB left-1):Nat):Int),shlN_i64 (n:=shB left-1) (by omega) (by omega),((1*2^(shB left-1):Nat):Int),shlN_i64 (a:=1) (n:=shB left-1) (by omega) (by omega),fun c5=>hs.on fun tm' hs'=>?_,fun c5=>hs.on fun tm' hs'=>?_⟩⟩
 ·rw [ev] at c5
  have c6:2^(shB left-1)≤fnum s p (shB left):=by omega
  rw [if_pos c6] at hfull
  have fu:=fnum_lt s p (shB left)
  have e2:w64 (w64 (((fnum s p (shB left-1):Nat):Int)+((sbit s (p+(shB left-1))*2^(shB left-1):Nat):Int))-(shT left:Nat))=((fnum s p (shB left)-shT left:Nat):Int):=by
   have:shT left≤fnum s p (shB left):=by unfold shT at *; omega
   rw [ev,w64_id (by omega) (by omega)]; omega
  refine next _ _ hfull h2 (c+1+1) tm' d2 (by omega) ?_
  rw [← e2]
  exact hs'.sub rfl
 ·rw [ev] at c5
  have c6:¬ 2^(shB left-1)≤fnum s p (shB left):=by omega
  rw [if_neg c6] at hfull
  refine next _ _ hfull h2 (c+1+1) tm' d2 (by omega) ?_
  rw [← ev]
  exact hs'.sub rfl
end Go.Proofs.YtnpeieeomokomaaGreat
namespace Go.Proofs.YtnpeieeomokomaaGreat
open Go.Sim
def rdAcc (s:List UInt8) (most:Nat):Prop:=4≤8*s.length∧most<fnum s 0 4+5
instance (s:List UInt8) (most:Nat):Decidable (rdAcc s most):=inferInstanceAs (Decidable (_∧_))
def rdDist (s:List UInt8) (most symbols:Nat):Option (Nat×List Int×Nat) :=
 if 8*s.length<4 then none
 else if most<fnum s 0 4+5 then none
 else (rdProbs s symbols (symbols+2) (2^(fnum s 0 4+5)) 4 []).map fun x=>(fnum s 0 4+5,x.1,x.2)
set_option maxRecDepth 100000 in
set_option maxHeartbeats 1000000 in
theorem read_ok {s:List UInt8} {r most symbols:Nat} {h:H} {Q:V→H→Prop} (hg:h.get r=some (oRd s 0)) (hr:r<h.next) (hlen:s.length≤1048576) (hsy:symbols≤256) (hnx:h.next+8*symbols+30≤T.top) (hlow:h.low≤T.top) (hm:most≤15)
  (hbad:rdDist s most symbols=none→∀ e h',(e=31↔rdAcc s most)→e=5∨e=23∨e=31→ExtX (· = r) h h' (8*symbols+30)→Q (.tuple [.agg [.int .i64 0,.nilslice],brk e]) h')
  (hgood:∀ log l p v h',rdDist s most symbols=some (log,l,p)→ExtX (· = r) h h' (8*symbols+30)→h'.get r=some (oRd s p)→Ow h' v tint l.length (ints l)→(∀ b,vblk v=some b→h.next≤b)→p≤8*s.length→l.length≤symbols→Q (.tuple [.agg [.int .i64 (log:Nat),v],.nilIface]) h') :
  RF P ctx 137 [.ptr r 0,.int .i64 most,.int .i64 symbols] h Q:=by
 refine RF.enterS ctx_ok fn137 (ble _ _ rfl) (ble _ _ rfl) vb137 ⟨by omega,?_⟩
 rintro p0 h1 rfl e1
 obtain ⟨n1,x1,g1⟩:=made_new e1 (by omega)
 have gr1:h1.get r=some (oRd s 0):=(x1.get _ hr).trans hg
 refine distTake_ok (n:=4) gr1 (by omega) (by omega) hlen (by omega) (by decide) (fun c2 h3 x3 g3=>?_) (fun c2 h3 x3=>?_)
 rotate_left
 ·-- bits are missing
  have g0:h3.get h.next=some (oD 0 .nilslice):=(x3.get _ (by omega)).trans g1
  have:=x3.le
  have y:ExtX (· = r) h h3 (1+1):=(ExtX.of x1).trans (ExtX.of x3)
  have hn:rdDist s most symbols=none:=by unfold rdDist; rw [if_pos (by omega)]
  refine ⟨0,brk 5,rfl,ne_nil_yes ⟨_,ast_at ty59 g0 rfl (Nat.zero_le _) rfl rfl,endL.ok (leaveL.cell (ald_agg ty59 rfl (get_upd_self _ (by omega)) rfl) rfl) ?_⟩⟩
  refine hbad hn 5 _ ⟨fun g=>absurd g (by decide),fun g=>absurd g.1 (by omega)⟩ (.inl rfl) ((y.upd _ (by omega) (.inr (Nat.le_refl _))).more (by omega))
 have t3:=x3.top
 have t3':=x3.le
 refine ⟨_,.nilIface,rfl,ne_nil_no ⟨by omega,?_⟩⟩
 rintro p8 h9 rfl e9
 obtain ⟨n9,x9,g9⟩:=made_new e9 (by omega)
 have f4:=fnum_lt s 0 4
 have el:w64 (((fnum s 0 4:Nat):Int)+5)=((fnum s 0 4+5:Nat):Int):=by rw [w64_id (by omega) (by omega)]; rfl
 rw [el]
 obtain ⟨h10,e10,g10,k10,x10,n10⟩:∃ h10,ast ctx 59 h9 (.ptr h3.next 0) (.agg [.int .i64 ((fnum s 0 4+5:Nat):Int),.nilslice])=some h10∧h10.get h3.next=some (oD ((fnum s 0 4+5:Nat):Int) .nilslice)∧(∀ b,b<h3.next→h10.get b=h3.get b)∧Ext h3 h10 1∧h10.next=h9.next :=
  ⟨_,ast_at ty59 g9 rfl (Nat.zero_le _) rfl rfl,get_upd_self _ (by omega),fun b hb=>by rw [get_upd_ne _ (by omega) (by omega),x9.get _ hb],x9.upd _ (by omega) (Nat.le_refl _),rfl⟩
 have y:ExtX (· = r) h h10 (1+1+1):=((ExtX.of x1).trans x3).trans (ExtX.of x10)
 have g0:h10.get h.next=some (oD 0 .nilslice):=(k10 _ (by omega)).trans ((x3.get _ (by omega) (by omega)).trans g1)
 refine ⟨h10,e10,_,ald_one ty3 rfl g10 rfl,fun c=>?_,fun c=>⟨_,ald_one ty3 rfl g10 rfl,((1*2^(fnum s 0 4+5):Nat):Int),shlN_i64 (a:=1) (by omega) ?_,Has.nil.on fun tm hs=>?_⟩⟩
 ·-- too accurate
  have hn:rdDist s most symbols=none:=by unfold rdDist; rw [if_neg (by omega),if_pos (by omega)]
  refine wpOpt_brk ⟨_,ast_at ty59 g0 rfl (Nat.zero_le _) rfl rfl,endL.ok (leaveL.cell (ald_agg ty59 rfl (get_upd_self _ (by omega)) rfl) rfl) ?_⟩
  refine hbad hn 31 _ ⟨fun _=>⟨by omega,by omega⟩,fun _=>rfl⟩ (.inr (.inr rfl)) ((y.upd _ (by omega) (.inr (Nat.le_refl _))).more (by omega))
 ·have:2^(fnum s 0 4+5)≤2^20:=Nat.pow_le_pow_right (by decide) (by omega)
  omega
 have pw:2^(fnum s 0 4+5)≤2^20:=Nat.pow_le_pow_right (by decide) (by omega)
 have hun:rdDist s most symbols=(rdProbs s symbols (symbols+2) (2^(fnum s 0 4+5)) 4 []).map fun x=>(fnum s 0 4+5,x.1,x.2):=by
  unfold rdDist
  rw [if_neg (by omega),if_neg (by omega)]
 have d:HD h h10 3 r h.next h3.next s 4 ((fnum s 0 4+5:Nat):Int) .nilslice [] :=
  ⟨y,(k10 _ (by omega)).trans g3,g0,g10,Ow.nil _ _,fun b e=>(by cases e),hr,Nat.le_refl _,by omega,by omega,by omega,by omega⟩
 have hs1:=hs.sub (l':=[(11,.int .i64 ((1*2^(fnum s 0 4+5):Nat):Int)),(0,.ptr r 0),(6,.ptr h.next 0),(10,.ptr h3.next 0),(2,.int .i64 symbols),(7,.nilIface)]) rfl
 rw [Nat.one_mul] at hs1
 refine read_loop (c0:=3) (f:=symbols+2) d hs1 hlen (by omega) (by simp) hsy (by omega) (by simp) (by simp) (by omega) hlow (fun hn e tm2 h2 he hs2 y2 g2=>?_) (fun tm2 h2 c2 v2 l2 p2 hz hc2 d2 hp2 hl2 hs2=>?_)
 ·have y2':=y2.le
  refine endW.ok (leave.cell (hs2.get rfl) (ald_agg ty59 rfl g2 rfl) (leave.tmp (hs2.get rfl) rfl)) ?_
  refine hbad (by rw [hun,hn]; rfl) e h2 ⟨fun g=>by omega,fun g=>absurd g.2 (by omega)⟩ (by omega) (y2.more (by omega))
 ·have b2:=d2.bound
  have l0:=d2.l0
  have hnx2:=d2.ex.le
  refine thenC.out ?_
  refine wpS.at hs2 vr137_3 rfl rfl ⟨_,_,ald_agg ty59 rfl d2.g9 rfl,_,ast_at ty59 d2.g0 (by rfl) (Nat.zero_le _) ?_ (by rfl),hs2.on fun tm3 hs3=>?_⟩
  ·show allOne [.int .i64 ((fnum s 0 4+5:Nat):Int),v2]=true
   exact allOne_iff.2 fun u hu=>by
    rcases List.mem_cons.1 hu with rfl | hu
    ·rfl
    ·exact allOne_iff.1 d2.ow.cells.2 u hu
  ·refine endW.ok (leave.cell (hs3.get rfl) (ald_agg ty59 rfl (get_upd_self _ (by omega)) rfl) (leave.tmp (hs3.get rfl) rfl)) ?_
   refine hgood _ l2 p2 v2 _ (by rw [hun,hz]; rfl) ((d2.ex.upd _ (by omega) (.inr d2.q0)).more (by omega)) ?_ ?_ (fun b e=>(d2.vb b e).1) hp2 hl2
   ·rw [get_upd_ne _ (by omega) (by omega)]; exact d2.gr
   ·exact d2.ow.keep (Nat.le_refl _) fun b e=>get_upd_ne _ (by omega) (by have:=(d2.vb b e).2.1; omega)
end Go.Proofs.YtnpeieeomokomaaGreat
