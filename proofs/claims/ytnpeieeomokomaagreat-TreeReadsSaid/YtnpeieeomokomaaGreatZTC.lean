/- TC. No condition. -/
import Derived.Test.YtnpeieeomokomaaGreatZTB
import Derived.WalkKit
import Derived.LaidEql
import Derived.Stop.Asserts
import Derived.RowKitTokens
import Derived.Below
namespace Go.Proofs.YtnpeieeomokomaaGreat
open Go.RowKit Go.Extern.Stop Go.Stop Go.Extern
section
set_option maxRecDepth 100000
theorem isComparable (w:World):(callFunc 394 #[.agg #[.pointer (some ⟨1,24,none⟩)]]).run Tryz.prog w = .ok (.value (.bool true)) w:=by kernel_rfl
theorem isTypeOf' (v:Value) (w:World):(callFunc 210 #[.iface 24 v]).run Tryz.prog w = .ok (.value (.iface 322 (.agg #[.pointer (some ⟨1,24,none⟩)]))) w:=by kernel_rfl
theorem isMethodComparable (v:Value) (w:World):(Go.method 545 322 v "Comparable").run Tryz.prog w = .ok (394,v) w:=by kernel_rfl
theorem noIsE (v:Value) (xT:TypeId) (w:World):(Instr.typeAssert (.iface 24 v) xT 324 true).run Tryz.prog w = .ok (.tuple #[.nilIface,.bool false]) w:=run_typeAssert_lacksB Tryz.underlying324 (by kernel_rfl) (by kernel_rfl) v xT w
theorem noUnwrapE (v:Value) (xT:TypeId) (w:World):(Instr.typeAssert (.iface 24 v) xT 327 true).run Tryz.prog w = .ok (.tuple #[.nilIface,.bool false]) w:=run_typeAssert_lacksB Tryz.underlying327 (by kernel_rfl) (by kernel_rfl) v xT w
theorem noUnwrapsE (v:Value) (xT:TypeId) (w:World):(Instr.typeAssert (.iface 24 v) xT 329 true).run Tryz.prog w = .ok (.tuple #[.nilIface,.bool false]) w:=run_typeAssert_lacksB Tryz.underlying329 (by kernel_rfl) (by kernel_rfl) v xT w
theorem noIsW (v:Value) (xT:TypeId) (w:World):(Instr.typeAssert (.iface 269 v) xT 324 true).run Tryz.prog w = .ok (.tuple #[.nilIface,.bool false]) w:=run_typeAssert_lacksB Tryz.underlying324 (by kernel_rfl) (by kernel_rfl) v xT w
theorem hasUnwrapW (v:Value) (xT:TypeId) (w:World):(Instr.typeAssert (.iface 269 v) xT 327 true).run Tryz.prog w = .ok (.tuple #[.iface 269 v,.bool true]) w:=run_typeAssert_hasB Tryz.underlying327 (by kernel_rfl) v xT w
theorem methodUnwrap (v:Value) (w:World):(Go.method 545 269 v "Unwrap").run Tryz.prog w = .ok (390,v) w:=by kernel_rfl
theorem eqE (e:Int) (w:World):(binOp .eql 163 (.iface 24 (.int .i64 e)) (.iface 24 (.int .i64 31))).run Tryz.prog w = .ok (.bool (decide (e=31))) w:=by kernel_rfl
theorem is_brk31 (w:World) :
  Calls Tryz.prog 138 #[.iface 269 (.agg #[.iface 24 (.int .i64 31)]),.iface 24 (.int .i64 31)] w fun x w'=>x = .returned (.bool true)∧w'=w.alloc (.cells #[.iface 24 (.int .i64 31)] 269):=by
 have tT:=isTypeOf'
 have cT:=isComparable
 have mR:=isMethodComparable
 have nE:=noIsE
 have uE:=noUnwrapE
 have vE:=noUnwrapsE
 have nW:=noIsW
 have uW:=hasUnwrapW
 have mU:=methodUnwrap
 have hty:=run_eql_iface_types (P:=Tryz.prog) 269 24 (.agg #[.iface 24 (.int .i64 31)]) (.int .i64 31) Tryz.underlying163 (by decide)
 have heq:∀ w,(binOp .eql 163 (.iface 24 (.int .i64 31)) (.iface 24 (.int .i64 31))).run Tryz.prog w = .ok (.bool true) w:=fun w=>eqE 31 w
 go_enter Tryz.func138,Tryz.ntmps138
 go_wp2
 refine wp_loop_rounds 2 ?_
 rw [rounds_succ]
 go_wp2
 simp only [Array.getD,List.size_toArray,List.length_cons,List.length_nil,Nat.reduceAdd,Nat.reduceLT,dite_true,Array.getInternal,List.getElem_toArray,List.getElem_cons_succ,List.getElem_cons_zero]
 rw [rounds_succ]
 go_wp2
 go_ret
 refine ⟨rfl,?_⟩
 rfl
theorem is_brkNo (e:Int) (he:e≠31) (w:World) :
  Calls Tryz.prog 138 #[.iface 269 (.agg #[.iface 24 (.int .i64 e)]),.iface 24 (.int .i64 31)] w fun x w'=>x = .returned (.bool false)∧w'=w.alloc (.cells #[.iface 24 (.int .i64 e)] 269):=by
 have tT:=isTypeOf'
 have cT:=isComparable
 have mR:=isMethodComparable
 have nE:=noIsE
 have uE:=noUnwrapE
 have vE:=noUnwrapsE
 have nW:=noIsW
 have uW:=hasUnwrapW
 have mU:=methodUnwrap
 have hty:=run_eql_iface_types (P:=Tryz.prog) 269 24 (.agg #[.iface 24 (.int .i64 e)]) (.int .i64 31) Tryz.underlying163 (by decide)
 have heq:∀ w,(binOp .eql 163 (.iface 24 (.int .i64 e)) (.iface 24 (.int .i64 31))).run Tryz.prog w = .ok (.bool false) w:=fun w=>by rw [eqE e w,decide_eq_false he]
 go_enter Tryz.func138,Tryz.ntmps138
 go_wp2
 refine wp_loop_rounds 2 ?_
 rw [rounds_succ]
 go_wp2
 simp only [Array.getD,List.size_toArray,List.length_cons,List.length_nil,Nat.reduceAdd,Nat.reduceLT,dite_true,Array.getInternal,List.getElem_toArray,List.getElem_cons_succ,List.getElem_cons_zero]
 rw [rounds_succ]
 go_wp2
 go_ret
 refine ⟨rfl,?_⟩
 rfl
theorem is_nil (w:World) :
  Calls Tryz.prog 138 #[.nilIface,.iface 24 (.int .i64 31)] w fun x w'=>x = .returned (.bool false)∧w'=w:=by
 have hn:=run_eql_iface_nil_left (P:=Tryz.prog) w 24 (.int .i64 31) Tryz.underlying163
 go_enter Tryz.func138,Tryz.ntmps138
 go_wp2
 go_ret
 exact ⟨rfl,rfl⟩
end
end Go.Proofs.YtnpeieeomokomaaGreat
namespace Go.Proofs.YtnpeieeomokomaaGreat
open Go.Sim
theorem _root_.Go.Sim.HR.alloc {ρ:Env} {D:Nat→Prop} {h:H} {w:World} (r:HR ρ D h w) (x:Obj):HR ρ D h (w.alloc x) where
 cap:=r.cap
 lt:=r.lt
 rel:=fun id o d g=>by rw [Go.RowKit.Below.heap_alloc w x _ (r.lt_size d g)]; exact r.rel id o d g
 inj:=r.inj
theorem _root_.Go.Sim.Mv.alloc (ρ:Env) (D:Nat→Prop) (h:H) (w:World) (x:Obj):Mv ρ D h w ρ h (w.alloc x) where
 next:=Nat.le_refl _
 size:=by show w.heap.size≤(w.heap.push x).size; simp
 os:=rfl
 tape:=rfl
 output:=rfl
 agree:=Agree.refl _ _
 old:=fun id o _ g=>⟨o,g,rfl⟩
 img:=fun id o h1 h2 _=>absurd h2 (by omega)
 frame:=fun r hr _=>Go.RowKit.Below.heap_alloc w x r hr
 low:=Nat.le_refl _
 kept:=fun _ _ _=>rfl
theorem _root_.Go.Sim.SimF.of_calls {P:Program} {f:Nat} {args:List V} {h:H} {b:Bool}
  (hc:∀ ρ w,Calls P f (args.map (V.conc ρ)).toArray w fun x w'=>x = .returned (.bool b)∧(w'=w∨∃ o,w'=w.alloc o)):SimF P f args h (.ret (.bool b) h):=by
 intro ρ D w r _
 refine callsIn_wide.2 ((hc ρ w).mono ?_)
 rintro x w' ⟨rfl,rfl | ⟨o,rfl⟩⟩
 ·exact ⟨ρ,rfl,Mv.refl _ _ _ _,by rw [Dx_self]; exact r,trivial⟩
 ·exact ⟨ρ,rfl,Mv.alloc _ _ _ _ _,by rw [Dx_self]; exact r.alloc o,trivial⟩
theorem isFn:∃ fi,ctx.fn.get 138=some fi:=Option.isSome_iff_exists.1 (by kernel_rfl)
theorem errIs_ok {e:Int} {h:H} {Q:V→H→Prop} (hq:Q (.bool (decide (e=31))) h):RF P ctx 138 [brk e,.iface 24 (.int .i64 31)] h Q:=by
 refine ⟨_,h,⟨isFn,SimF.of_calls fun ρ w=>?_⟩,hq⟩
 by_cases he:e=31
 ·subst he
  exact (is_brk31 w).mono fun x w' g=>⟨g.1,.inr ⟨_,g.2⟩⟩
 ·rw [decide_eq_false he]
  exact (is_brkNo e he w).mono fun x w' g=>⟨g.1,.inr ⟨_,g.2⟩⟩
theorem errIsNil_ok {h:H} {Q:V→H→Prop} (hq:Q (.bool false) h):RF P ctx 138 [.nilIface,.iface 24 (.int .i64 31)] h Q :=
 ⟨_,h,⟨isFn,SimF.of_calls fun ρ w=>(is_nil w).mono fun x w' g=>⟨g.1,.inl g.2⟩⟩,hq⟩
end Go.Proofs.YtnpeieeomokomaaGreat
namespace Go.Proofs.YtnpeieeomokomaaGreat
open Go.Sim
theorem _root_.Go.Sim.thenC.nx {K:St→Prop} {R:AX→St→Prop} {s:St} (h:K s):thenC K R .normal s:=h
theorem sliceS_all (s:List UInt8):sliceS s 0 s.length=s:=by simp [sliceS]
abbrev flt (e at':Int):V:=.agg [.int .i64 e,.int .i64 at']
set_option maxRecDepth 100000 in
set_option maxHeartbeats 2000000 in
theorem distRead_ok {s:List UInt8} {h:H} {Q:V→H→Prop} (hlen:s.length≤2000) (hnx:h.next+200≤T.top) (hlow:h.low≤T.top)
  (hbad:rdDist s 6 12=none→∀ h',Ext h h' 150→Q (.tuple [.agg [.int .i64 0,.nilslice],.int .i64 0,flt (if rdAcc s 6 then 31 else 23) 0]) h')
  (hgood:∀ log l p v h',rdDist s 6 12=some (log,l,p)→Ext h h' 150→Ow h' v tint l.length (ints l)→(∀ b,vblk v=some b→h.next≤b)→p≤8*s.length→l.length≤12→Q (.tuple [.agg [.int .i64 (log:Nat),v],.int .i64 ((p+7)/8:Nat),flt 0 0]) h') :
  RF P ctx 80 [.str s,.int .i64 0,.int .i64 6,.int .i64 12] h Q:=by
 refine RF.enterS ctx_ok fn80 (ble _ _ rfl) (ble _ _ rfl) vb80 ⟨by omega,?_⟩
 rintro p0 h1 rfl e1
 obtain ⟨n1,x1,g1⟩:=made_new e1 (by omega)
 refine ⟨by omega,?_⟩
 rintro p2 h3 rfl e3
 obtain ⟨n3,x3,g3⟩:=made_new e3 (by omega)
 refine ⟨fun c=>absurd c (by decide),fun _=>⟨fun c=>absurd c (by show ¬ ((s.length:Int)<0); omega),fun _=>⟨fun c=>absurd c (by decide),fun _=>⟨fun c=>absurd c (by decide),fun _=>⟨fun c=>absurd c (by decide),fun _=>⟨fun c=>absurd c (by decide),fun _=>Has.nil.on fun tm hs=>?_⟩⟩⟩⟩⟩⟩
 refine wpS.at hs vr80_0 rfl rfl (hs.on fun tm1 hs1=>?_)
 refine thenC.nx (hs1.sealK fun tm2 hs2=>?_)
 have em:min (Int.ofNat s.length) (w64 (0+2000))=(s.length:Int):=by
  show min (s.length:Int) (w64 2000)=_
  rw [w64_id (by omega) (by omega)]; omega
 refine wpS.at hs2 vr80_1 rfl rfl ⟨s,by rw [em]; have:=slice_str (s:=s) (h:=h3) (Nat.zero_le s.length) (Nat.le_refl _); rwa [sliceS_all] at this,by omega,?_⟩
 rintro p1 h4 rfl e4
 obtain ⟨n4,x4,g4⟩:=made_new e4 (by omega)
 obtain ⟨h5,e5,g5,x5,n5⟩:∃ h5,ast ctx 112 h4 (.ptr h3.next 0) (.agg [.str s,.int .i64 0])=some h5∧h5.get h3.next=some (oRd s 0)∧Ext h3 h5 1∧h5.next=h4.next :=
  ⟨_,ast_at ty112 g4 rfl (Nat.zero_le _) rfl rfl,get_upd_self _ (by omega),x4.upd _ (by omega) (Nat.le_refl _),rfl⟩
 have x35:Ext h h5 (1+1+1):=(x1.trans x3).trans x5
 have g15:h5.get h.next=some (oD 0 .nilslice):=by rw [x5.get _ (by omega),x3.get _ (by omega)]; exact g1
 have g35:h5.get h1.next=some (.cells (.ls [.int .i64 0,.int .i64 0]) ⟨0,26+1,0⟩ true false):=by rw [x5.get _ (by omega)]; exact g3
 have hl5:h5.low≤T.top:=Nat.le_trans x35.low hlow
 refine ⟨h5,e5,read_ok (most:=6) (symbols:=12) g5 (by omega) (by omega) (by decide) (by omega) hl5 (by decide) (fun hn e h6 he1 he2 y6=>?_) (fun log l p v h6 hz y6 gr ow hv hp hl=>?_)⟩
 ·-- an error
  have x6:=ExtX.ext x35 y6 (fun b hb=>by omega)
  have l6:=y6.le
  have g16:h6.get h.next=some (oD 0 .nilslice):=(y6.get _ (by omega) (by omega)).trans g15
  have g36:h6.get h1.next=some (.cells (.ls [.int .i64 0,.int .i64 0]) ⟨0,26+1,0⟩ true false):=(y6.get _ (by omega) (by omega)).trans g35
  have t6:=x6.top
  refine ⟨0,.nilslice,brk e,rfl,?_⟩
  obtain ⟨h7,e7,g17,g37,x7,n7⟩:∃ h7,ast ctx 59 h6 (.ptr h.next 0) (.agg [.int .i64 0,.nilslice])=some h7∧h7.get h.next=some (oD 0 .nilslice)∧h7.get h1.next=some (.cells (.ls [.int .i64 0,.int .i64 0]) ⟨0,26+1,0⟩ true false)∧Ext h h7 (1+1+1+(8*12+30))∧h7.next=h6.next :=
   ⟨_,ast_at ty59 g16 rfl (Nat.zero_le _) rfl rfl,get_upd_self _ (by omega),by rw [get_upd_ne _ (by omega) (by omega)]; exact g36,x6.upd _ (by omega) (Nat.le_refl _),rfl⟩
  obtain ⟨h8,e8,g18,g38,x8,n8⟩:∃ h8,ast ctx 59 h7 (.ptr h.next 0) (.agg [.int .i64 0,.nilslice])=some h8∧h8.get h.next=some (oD 0 .nilslice)∧h8.get h1.next=some (.cells (.ls [.int .i64 0,.int .i64 0]) ⟨0,26+1,0⟩ true false)∧Ext h h8 (1+1+1+(8*12+30))∧h8.next=h7.next :=
   ⟨_,ast_at ty59 g17 rfl (Nat.zero_le _) rfl rfl,get_upd_self _ (by omega),by rw [get_upd_ne _ (by omega) (by omega)]; exact g37,x7.upd _ (by omega) (Nat.le_refl _),rfl⟩
  refine ⟨h7,e7,errIs_ok ⟨_,rfl,fun c=>?_,fun c=>?_⟩⟩
  ·have he:e=31:=of_decide_eq_true c
   have hacc:=he1.1 he
   refine ⟨h8,e8,_,ast_at ty26 g38 rfl (Nat.zero_le _) rfl rfl,hs2.on fun tm3 hs3=>endW.ok (leave.cell (hs3.get rfl) (ald_agg ty59 rfl ((get_upd_ne _ (by omega) (by omega)).trans g18) rfl) (leave.tmp (hs3.get rfl) (leave.cell (hs3.get rfl) (ald_agg ty26 rfl (get_upd_self _ (by omega)) rfl) rfl))) ?_⟩
   have:=hbad hn (h8.upd h1.next (some (.cells (.ls [.int .i64 31,.int .i64 0]) ⟨0,26+1,0⟩ true false))) ((x8.upd _ (by omega) (by omega)).mono (by omega))
   rw [if_pos hacc] at this
   exact this
  ·have he:e≠31:=of_decide_eq_false c
   have hacc:¬ rdAcc s 6:=fun g=>he (he1.2 g)
   refine ne_nil_yes ⟨h8,e8,_,ast_at ty26 g38 rfl (Nat.zero_le _) rfl rfl,hs2.on fun tm3 hs3=>endW.ok (leave.cell (hs3.get rfl) (ald_agg ty59 rfl ((get_upd_ne _ (by omega) (by omega)).trans g18) rfl) (leave.tmp (hs3.get rfl) (leave.cell (hs3.get rfl) (ald_agg ty26 rfl (get_upd_self _ (by omega)) rfl) rfl))) ?_⟩
   have:=hbad hn (h8.upd h1.next (some (.cells (.ls [.int .i64 23,.int .i64 0]) ⟨0,26+1,0⟩ true false))) ((x8.upd _ (by omega) (by omega)).mono (by omega))
   rw [if_neg hacc] at this
   exact this
 ·-- the distribution
  have x6:=ExtX.ext x35 y6 (fun b hb=>by omega)
  have l6:=y6.le
  have g16:h6.get h.next=some (oD 0 .nilslice):=(y6.get _ (by omega) (by omega)).trans g15
  have g36:h6.get h1.next=some (.cells (.ls [.int .i64 0,.int .i64 0]) ⟨0,26+1,0⟩ true false):=(y6.get _ (by omega) (by omega)).trans g35
  have t6:=x6.top
  obtain ⟨c1,c2⟩:=ow.cells
  have ho:allOne [.int .i64 ((log:Nat):Int),v]=true:=allOne_iff.2 fun u hu=>by
   rcases List.mem_cons.1 hu with rfl | hu
   ·rfl
   ·exact allOne_iff.1 c2 u hu
  refine ⟨_,v,.nilIface,rfl,?_⟩
  obtain ⟨h7,e7,g17,g37,x7,n7,k7⟩:∃ h7,ast ctx 59 h6 (.ptr h.next 0) (.agg [.int .i64 ((log:Nat):Int),v])=some h7∧h7.get h.next=some (oD ((log:Nat):Int) v)∧h7.get h1.next=some (.cells (.ls [.int .i64 0,.int .i64 0]) ⟨0,26+1,0⟩ true false)∧Ext h h7 (1+1+1+(8*12+30))∧h7.next=h6.next∧∀ b,b≠h.next→h7.get b=h6.get b :=
   ⟨_,ast_at ty59 g16 rfl (Nat.zero_le _) ho rfl,get_upd_self _ (by omega),by rw [get_upd_ne _ (by omega) (by omega)]; exact g36,x6.upd _ (by omega) (Nat.le_refl _),rfl,fun b hb=>get_upd_ne _ (by omega) hb⟩
  refine ⟨h7,e7,errIsNil_ok ⟨_,rfl,fun c=>(by cases c),fun _=>ne_nil_no ?_⟩⟩
  have gr7:h7.get h3.next=some (oRd s p):=(k7 _ (by omega)).trans gr
  refine ⟨s,(p:Nat),ald_agg ty112 rfl gr7 rfl,nextF_ok (by omega) hp ⟨_,_,rfl,_,v,ald_agg ty59 rfl g17 rfl,?_⟩⟩
  obtain ⟨h8,e8,g18,g38,x8,n8,k8⟩:∃ h8,ast ctx 59 h7 (.ptr h.next 0) (.agg [.int .i64 ((log:Nat):Int),v])=some h8∧h8.get h.next=some (oD ((log:Nat):Int) v)∧h8.get h1.next=some (.cells (.ls [.int .i64 0,.int .i64 0]) ⟨0,26+1,0⟩ true false)∧Ext h h8 (1+1+1+(8*12+30))∧h8.next=h7.next∧∀ b,b≠h.next→h8.get b=h7.get b :=
   ⟨_,ast_at ty59 g17 rfl (Nat.zero_le _) ho rfl,get_upd_self _ (by omega),by rw [get_upd_ne _ (by omega) (by omega)]; exact g37,x7.upd _ (by omega) (Nat.le_refl _),rfl,fun b hb=>get_upd_ne _ (by omega) hb⟩
  have ew:w64 (0+(((p+7)/8:Nat):Int))=(((p+7)/8:Nat):Int):=by rw [w64_id (by omega) (by omega)]; omega
  refine ⟨h8,e8,_,ast_at ty26 g38 rfl (Nat.zero_le _) rfl rfl,hs2.on fun tm3 hs3=>endW.ok (leave.cell (hs3.get rfl) (ald_agg ty59 rfl ((get_upd_ne _ (by omega) (by omega)).trans g18) rfl) (leave.tmp (hs3.get rfl) (leave.cell (hs3.get rfl) (ald_agg ty26 rfl (get_upd_self _ (by omega)) rfl) rfl))) ?_⟩
  rw [ew]
  refine hgood log l p v _ hz ((x8.upd _ (by omega) (by omega)).mono (by omega)) (ow.keep ?_ fun b e=>?_) (fun b e=>Nat.le_trans x35.le (hv b e)) hp hl
  ·show h6.next≤h8.next; omega
  ·have:=hv b e
   rw [get_upd_ne _ (by omega) (by omega),k8 _ (by omega),k7 _ (by omega)]
end Go.Proofs.YtnpeieeomokomaaGreat
