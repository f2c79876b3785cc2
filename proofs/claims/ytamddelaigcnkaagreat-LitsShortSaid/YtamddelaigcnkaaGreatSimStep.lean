/- One operation in its region, and the turn of the evaluator. -/
import Derived.Test.YtamddelaigcnkaaGreatSimRun
namespace Go.Sim

section
variable {P : Program} {c : Ctx} {orc : Nat → List V → H → Option (V × H)} {rd : Option Nat}

theorem aop_defer {o : Oper} {ev : Operand → Option V} {h : H} {an : AN} {cl : Call} (ho : o.op = .defer cl) (e : aop c o ev h = some an) : ∃ d, an = .dfr d := by
  unfold aop at e
  simp only [ho] at e
  split at e
  · split at e
    · simp only [Option.some.injEq] at e; exact ⟨_, e.symm⟩
    · cases e
  · cases e

theorem semAt_run {o : Oper} {ev : Operand → Option V} {h : H} {an : AN} (e : aop c o ev h = some an) (hd : rd.isSome = true → ∀ d, an ≠ .dfr d) (r : Nat → Nat) (a : Operand → Value) : Oper.semAt (rd.map r) a o = execOp a o := by
  cases rd with
  | none => rfl
  | some l =>
    refine Oper.semAt_eq _ _ _ fun cl hcl => ?_
    obtain ⟨d, hd'⟩ := aop_defer hcl e
    exact hd rfl d hd'

theorem stepOp_sound (ok : CtxOK P c) (hor : OrcOk P c orc) {ih : Bool → Code → St → Option Out} (hih : IHok P ih) {o : Oper} {s s' : St} {x : AX}
    (e : stepOp c orc rd.isSome ih o s = some (x, s')) {ρ : Env} {D : Nat → Prop} {w : World} {a : Act} (k : StR ρ D s a w) {next : Act → World → Prop} {Q : Exit → Act → World → Prop}
    (hn : x = .normal → ∀ ρ' v w', Mv ρ D s.heap w ρ' s'.heap w' → (s.dfr = s'.dfr ∨ rd = none) → StR ρ' (Dx D s.heap s'.heap) s' v w' → next v w')
    (hq : ∀ v, x = .panic v → ∀ ρ' w', Mv ρ D s.heap w ρ' s'.heap w' → StR ρ' (Dx D s.heap s'.heap) s' a w' → v.In (Dx D s.heap s'.heap) → Q (.panic [{ v := v.conc ρ', recovered := false }]) a w') :
    o.wpIn (Fx (rd.map ρ.blk)) 0 P a w next Q := by
  refine ⟨fun _ _ => trivial, ?_⟩
  unfold stepOp at e
  cases hop : aop c o (evx s.tm) s.heap with
  | none => simp [hop] at e
  | some an =>
    have hsem := semAt_run (rd := rd) hop
    have hs := aop_sound (P := P) (a := a.eval) ok hop k.hr (fun y _ v hv => evx_sound k y v hv)
    have put : ∀ (v : V) (h' : H) (ρ' : Env) (w' : World) (s2 : St), putD s o.dst v h' = some s2 → Mv ρ D s.heap w ρ' h' w' → HR ρ' (Dx D s.heap h') h' w' → v.In (Dx D s.heap h') →
        Mv ρ D s.heap w ρ' s2.heap w' ∧ StR ρ' (Dx D s.heap s2.heap) s2 (a.put o.dst (v.conc ρ')) w' := by
      intro v h' ρ' w' s2 hp m r hv
      rw [putD_heap] at hp
      have k1 := k.step m r
      have hp' : putD { s with heap := h' } o.dst v ({ s with heap := h' } : St).heap = some s2 := hp
      obtain ⟨k2, hh⟩ := StR.put k1 hv hp'
      have hh : s2.heap = h' := hh
      rw [hh]; exact ⟨m, k2⟩
    have dfrPut : ∀ (v : V) (h' : H) (s2 : St), putD s o.dst v h' = some s2 → s.dfr = s2.dfr := by
      intro v h' s2 hp
      unfold putD at hp
      split at hp
      · simp only [Option.some.injEq] at hp; subst hp; rfl
      · rename_i t _
        cases hb : Nat.blt t s.n with
        | false => simp [hb] at hp
        | true => simp only [hb, cond_true, Option.some.injEq] at hp; subst hp; rfl
    simp only [hop] at e
    cases an with
    | val v h' =>
      rw [show (Fx (rd.map ρ.blk)).round = rd.map ρ.blk from rfl, hsem (fun _ _ h => by cases h)]
      obtain ⟨ρ', w', hr, m, r, hv⟩ := hs
      simp only at e
      split at e
      · rename_i s2 hp
        simp only [Option.some.injEq, Prod.mk.injEq] at e
        obtain ⟨rfl, rfl⟩ := e
        obtain ⟨m2, k2⟩ := put v h' ρ' w' _ hp m r hv
        rw [hr]
        exact hn rfl _ _ _ m2 (.inl (dfrPut _ _ _ hp)) k2
      · cases e
    | skip h' =>
      rw [show (Fx (rd.map ρ.blk)).round = rd.map ρ.blk from rfl, hsem (fun _ _ h => by cases h)]
      obtain ⟨w', hr, m, r⟩ := hs
      simp only at e
      split at e
      · rename_i s2 hp
        simp only [Option.some.injEq, Prod.mk.injEq] at e
        obtain ⟨rfl, rfl⟩ := e
        obtain ⟨m2, k2⟩ := put undefV h' ρ w' _ hp m r (undefV_In _)
        rw [hr]
        rw [undefV_conc] at k2
        exact hn rfl _ _ _ m2 (.inl (dfrPut _ _ _ hp)) k2
      · cases e
    | call f args =>
      rw [show (Fx (rd.map ρ.blk)).round = rd.map ρ.blk from rfl, hsem (fun _ _ h => by cases h)]
      obtain ⟨hin, hr⟩ := hs
      simp only at e
      cases hcall : callO c orc ih f args s.heap with
      | none => simp [hcall] at e
      | some out =>
        obtain ⟨fi, hfi⟩ := callO_fn hor hcall
        rw [hr, callFunc_enter ok hfi]
        refine ⟨fun h => by simp [Fx] at h, callsIn_Fx none _ (CallsIn.mono (callO_sound ok hor hih hcall ρ D w k.hr hin) ?_)⟩
        simp only [hcall] at e
        cases out with
        | ret v h' =>
          simp only at e
          rintro en w' ⟨ρ', rfl, m, r, hv⟩
          split at e
          · rename_i s2 hp
            simp only [Option.some.injEq, Prod.mk.injEq] at e
            obtain ⟨rfl, rfl⟩ := e
            obtain ⟨m2, k2⟩ := put v h' ρ' w' _ hp m r hv
            exact hn rfl _ _ _ m2 (.inl (dfrPut _ _ _ hp)) k2
          · cases e
        | panic v h' =>
          simp only [Option.some.injEq, Prod.mk.injEq] at e
          obtain ⟨rfl, rfl⟩ := e
          rintro en w' ⟨ρ', rfl, m, r, hv⟩
          exact hq v rfl ρ' w' m (k.step m r) hv
    | round l args =>
      rw [show (Fx (rd.map ρ.blk)).round = rd.map ρ.blk from rfl, hsem (fun _ _ h => by cases h)]
      obtain ⟨hl, hin, hr⟩ := hs
      simp only at e
      cases hround : roundF ih l args s.heap with
      | none => simp [hround] at e
      | some out =>
        simp only [hround] at e
        obtain ⟨fn, tmps, y, z, hy, hR⟩ := roundF_sound hih hround ρ D w k.hr hl hin
        rw [hr, hy]
        refine ⟨fun h => by simp [Fx] at h, roundIn_Fx none _ (RoundIn.mono hR ?_)⟩
        cases out with
        | ret v h' =>
          simp only at e
          rintro en w' ⟨ρ', rfl, m, r, hv⟩
          split at e
          · rename_i s2 hp
            simp only [Option.some.injEq, Prod.mk.injEq] at e
            obtain ⟨rfl, rfl⟩ := e
            obtain ⟨m2, k2⟩ := put v h' ρ' w' _ hp m r hv
            exact hn rfl _ _ _ m2 (.inl (dfrPut _ _ _ hp)) k2
          · cases e
        | panic v h' => simp at e
    | dfr d =>
      cases rd with
      | some l => simp at e
      | none =>
        obtain ⟨hdi, hr⟩ := hs
        simp only [Option.isSome_none, cond_false] at e
        split at e
        · rename_i s2 hp
          simp only [Option.some.injEq, Prod.mk.injEq] at e
          obtain ⟨rfl, rfl⟩ := e
          rw [show (Fx (Option.map ρ.blk none)).round = none from rfl, Oper.semAt_none, hr]
          have k1 : StR ρ D { s with dfr := d :: s.dfr } { a with defers := d.conc ρ :: a.defers } w :=
            ⟨k.tm, by simp [k.dfr], fun d' hd' => by rcases List.mem_cons.1 hd' with rfl | q <;> first | exact hdi | exact k.dfrIn _ q, k.hr⟩
          obtain ⟨k2, hh⟩ := StR.put (s' := s2) k1 (undefV_In D) hp
          have hh : s2.heap = s.heap := hh
          refine hn rfl ρ _ w ?_ (.inr rfl) ?_
          · rw [hh]; exact Mv.refl _ _ _ _
          · rw [hh, Dx_self]
            rw [undefV_conc] at k2
            exact k2
        · cases e
    | recover => simp at e
    | pan v h' =>
      rw [show (Fx (rd.map ρ.blk)).round = rd.map ρ.blk from rfl, hsem (fun _ _ h => by cases h)]
      obtain ⟨rfl, hv, hr⟩ := hs
      simp only [Option.some.injEq, Prod.mk.injEq] at e
      obtain ⟨rfl, rfl⟩ := e
      rw [hr]
      exact hq v rfl ρ w (Mv.refl _ _ _ _) (by rw [Dx_self]; exact k) (by rw [Dx_self]; exact hv)

theorem wanted_sound {ρ : Env} {D : Nat → Prop} {s : St} {a : Act} {w : World} (k : StR ρ D s a w) (ops : Array Oper) (o : Oper) : Region.wanted o (yielded ops a.tmps) = wantedB ops.toList s.tm o := by
  unfold Region.wanted wantedB yielded
  cases o.guard with
  | none => rfl
  | some g =>
    obtain ⟨j, wt⟩ := g
    simp only [Array.getElem?_toList]
    cases ops[j]? with
    | none => simp
    | some o' =>
      simp only [Option.bind_some]
      cases o'.dst with
      | none => simp
      | some d =>
        simp only [Option.bind_some]
        have hval := k.tm.val d
        rw [Array.getD_eq_getD_getElem?] at hval
        cases hx : a.tmps[d]? with
        | some y =>
          rw [hx] at hval
          simp only [Option.getD_some] at hval
          simp only [hval]
          cases hg : getV s.tm d <;> simp [V.conc]
        | none =>
          rw [hx] at hval
          simp only [Option.getD_none] at hval
          simp only
          cases hg : getV s.tm d <;> rw [hg] at hval <;> first | rfl | simp [V.conc, undef] at hval

theorem opsF_sound (ok : CtxOK P c) (hor : OrcOk P c orc) {ih : Bool → Code → St → Option Out} (hih : IHok P ih) {ops : Array Oper} :
    ∀ (l : List Oper) (is : List Nat), is.mapM (fun i => ops[i]?) = some l → ∀ {s s' : St} {x : AX}, opsF c orc rd.isSome ih ops.toList l s = some (.done x s') →
    ∀ {ρ0 : Env} {D0 : Nat → Prop} {s0 : St} {w0 : World} {ρ : Env} {w : World} {a : Act}, (∀ id, D0 id → id < s0.heap.next) → (∀ l, rd = some l → D0 l) → Mv ρ0 D0 s0.heap w0 ρ s.heap w → StR ρ (Dx D0 s0.heap s.heap) s a w →
    wpOpsIn (Fx (rd.map ρ0.blk)) 0 P ops (Ends ρ0 D0 s0 w0 x s') is a w := by
  intro l
  induction l with
  | nil =>
    intro is his s s' x e ρ0 D0 s0 w0 ρ w a hlt hl m k
    cases is with
    | nil =>
      simp only [opsF, Option.some.injEq, Out.done.injEq] at e
      obtain ⟨rfl, rfl⟩ := e
      exact ⟨ρ, m, k, rfl, trivial⟩
    | cons i is =>
      simp only [List.mapM_cons, Option.bind_eq_bind, Option.bind_eq_some_iff] at his
      obtain ⟨o, _, l', _, h⟩ := his
      simp at h
  | cons o l ih' =>
    intro is his s s' x e ρ0 D0 s0 w0 ρ w a hlt hl m k
    cases is with
    | nil => simp at his
    | cons i is =>
      simp only [List.mapM_cons, Option.bind_eq_bind, Option.bind_eq_some_iff] at his
      obtain ⟨o', ho, l', hl', h⟩ := his
      simp only [Option.pure_def, Option.some.injEq, List.cons.injEq] at h
      obtain ⟨rfl, rfl⟩ := h
      simp only [wpOpsIn, ho]
      rw [wanted_sound k]
      simp only [opsF] at e
      cases hw : wantedB ops.toList s.tm o' with
      | true =>
        simp only [hw, cond_true] at e
        rw [if_pos rfl]
        have hl2 : ∀ l, rd = some l → Dx D0 s0.heap s.heap l := fun q hq => .inl (hl q hq)
        rw [← rd_agree m.agree hl]
        split at e
        · rename_i s1 hs1
          refine stepOp_sound ok hor hih hs1 k ?_ (fun v hv => by cases hv)
          intro _ ρ' a' w' m' _ k'
          rw [rd_agree m.agree hl]
          rw [Dx_trans (D := D0) m.next m'.next] at k'
          exact ih' is hl' e hlt hl (Mv.trans hlt m m') k'
        · rename_i y s1 hy hs1
          simp only [Option.some.injEq, Out.done.injEq] at e
          obtain ⟨rfl, rfl⟩ := e
          refine stepOp_sound ok hor hih hs1 k (fun hn => absurd hn hy) ?_
          intro v hv ρ' w' m' k' hvi
          subst hv
          have hDx := Dx_trans (D := D0) m.next m'.next
          exact ⟨ρ', Mv.trans hlt m m', by rw [← hDx]; exact k', rfl, by rw [← hDx]; exact hvi⟩
        · cases e
      | false =>
        simp only [hw, cond_false] at e
        rw [if_neg (by simp)]
        split at e
        · rename_i s1 hs1
          obtain ⟨k2, hh⟩ := StR.put k (undefV_In _) hs1
          rw [undefV_conc] at k2
          exact ⟨fun _ _ => trivial, ih' is hl' e hlt hl (by rw [hh]; exact m) (by rw [hh]; exact k2)⟩
        · cases e

theorem mapM_range (ops : Array Oper) : (List.range ops.size).mapM (fun i => ops[i]?) = some ops.toList := by
  have h : ∀ (l : List Oper) (p : List Oper), (List.range' p.length l.length).mapM (fun i => (p ++ l)[i]?) = some l := by
    intro l
    induction l with
    | nil => intro p; simp
    | cons a l ih =>
      intro p
      have := ih (p ++ [a])
      simp only [List.length_append, List.length_cons, List.length_nil, Nat.zero_add, List.append_assoc, List.singleton_append] at this
      simp [List.range'_succ, List.mapM_cons, this]
  have := h ops.toList []
  simp only [List.length_nil, List.nil_append, Array.length_toList, ← List.range_eq_range', Array.getElem?_toList] at this
  exact this

end
end Go.Sim
