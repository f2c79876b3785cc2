/- A region whose order is open: any operation whose turn may be. -/
import Derived.Test.YtamddelaigcnkaaGreatSimDraw5
namespace Go.Sim

theorem ORel.and {ρ ρ2 : Env} {D E : Nat → Prop} {id : Nat} {o : O} {x y : Option Obj} (h : ORel ρ D id o x) (h2 : ORel ρ2 E id o y) : ORel ρ (fun i => D i ∧ E i) id o x := by
  cases o with
  | cells l esz wr op =>
    obtain ⟨c, e, fz, h1, h3, h4, h5⟩ := h
    obtain ⟨_, _, _, _, _, h6, _⟩ := h2
    exact ⟨c, e, fz, h1, h3, fun i v hv => V.In_and v (h4 i v hv) (h6 i v hv), h5⟩
  | map es clock =>
    exact ⟨h.1, fun e he => ⟨V.In_and _ (h.2 e he).1 (h2.2 e he).1, V.In_and _ (h.2 e he).2 (h2.2 e he).2⟩⟩
  | loop s p n tm params assign body dfr =>
    obtain ⟨fn, tmps, h1, h3, h4⟩ := h
    obtain ⟨_, _, _, h5, h6⟩ := h2
    exact ⟨fn, tmps, h1, ⟨h3.size, h3.cap, h3.val, fun t => V.In_and _ (h3.inn t) (h5.inn t)⟩, h4, h6⟩
  | deferred b => exact h
  | strIter l pos => exact h
  | mapIter r since seen stepped => exact ⟨h.1, fun r hr => ⟨h.2 r hr, h2.2 r hr⟩⟩

theorem putT_inj {d : Option Tmp} {tm : Tm} {v u : V} (hd : ∀ t, d = some t → t < Tb.top) (e : putT tm d v = putT tm d u) (tm2 : Tm) : putT tm2 d v = putT tm2 d u := by
  cases d with
  | none => rfl
  | some t =>
    simp only [putT] at e ⊢
    have h1 := congrArg (fun x : Tm => getV x t) e
    simp only [getV_set _ _ _ _ (hd t rfl), if_true] at h1
    rw [h1]

theorem freeOp_congr {tm tm2 : Tm} {b : Nat} {o : Oper} (h : ∀ x ∈ o.op.operands, evx tm x = evx tm2 x) : freeOp tm b o = freeOp tm2 b o := by
  unfold freeOp
  cases ho : o.op <;> try rfl
  case load t a =>
    rw [ho] at h
    simp only [h a (by simp [Op.operands])]
  case slice t a lo hi mx =>
    rw [ho] at h
    simp only [h a (by simp [Op.operands])]
  case convert s d a =>
    rw [ho] at h
    simp only [h a (by simp [Op.operands])]

theorem mem_tmpsOf {ops : List Oper} {o : Oper} {t : Tmp} (h : Operand.tmp t ∈ o.op.operands) : t ∈ tmpsOf ops o :=
  List.mem_append_right _ (List.mem_filterMap.2 ⟨.tmp t, by simpa using h, rfl⟩)

theorem evx_congr {ops : List Oper} {o : Oper} {tm tm2 : Tm} (h : ∀ t, t ∈ tmpsOf ops o → getV tm t = getV tm2 t) : ∀ x ∈ o.op.operands, evx tm x = evx tm2 x := by
  intro x hx
  cases x with
  | tmp t => simp only [evx, h t (mem_tmpsOf hx)]
  | _ => rfl

section
variable {P : Program} {c : Ctx} {orc : Nat → List V → H → Option (V × H)} {rd : Option Nat} {ih : Bool → Code → St → Option Out}
variable {ops : Array Oper} {m : Nat} {st : Nat → St} {ρ0 : Env} {D0 : Nat → Prop} {a0 : Act} {w0 : World}

theorem wantedB_congr {ops : List Oper} {o : Oper} {tm tm2 : Tm} (h : ∀ t, t ∈ tmpsOf ops o → getV tm t = getV tm2 t) : wantedB ops tm o = wantedB ops tm2 o := by
  unfold wantedB
  cases hg : o.guard with
  | none => rfl
  | some g =>
    obtain ⟨j, wt⟩ := g
    simp only
    cases hj : ops[j]? with
    | none => rfl
    | some o' =>
      simp only
      cases hd : o'.dst with
      | none => rfl
      | some d =>
        simp only
        rw [h d (List.mem_append_left _ (by simp only [hg, hj, hd]; exact List.mem_singleton.2 rfl))]

theorem Inv.step (B : Base P c orc rd ih ops m st ρ0 D0 a0 w0) {S : Nat → Prop} {J : Nat} {tm : Tm} {ρ : Env} {a : Act} {w : World} (I : Inv ops m st ρ0 D0 w0 S J tm ρ a w) {k : Nat} {o : Oper} (hk : k < m) (hn : ¬ S k) (ho : ops[k]? = some o)
    (he : ∀ e ∈ o.after, edgeOk e = true → S e.on) {K : Act → World → Prop} {Q : Exit → Act → World → Prop}
    (hK : ∀ J' tm' ρ' a' w', Inv ops m st ρ0 D0 w0 (Add S k) J' tm' ρ' a' w' → K a' w') : wpOpIn (Fx (rd.map ρ0.blk)) 0 P ops Q k K a w := by
  unfold wpOpIn
  simp only [ho]
  have hlook := B.looks I.closed (fun j hj => Nat.lt_of_lt_of_le (I.lt j hj) I.le) I.tmv hk hn ho he
  have hbe := before_in I.closed k o (by simpa using ho) he
  have kS : StR ρ (DS D0 st S) { n := (st 0).n, tm := tm, dfr := (st 0).dfr, heap := (st J).heap } a w := ⟨I.tmR, I.dfr, fun d hd => AD.In_mono (fun _ h => .inl h) (B.k0.dfrIn d hd), I.hr⟩
  have hwant : Region.wanted o (yielded ops a.tmps) = wantedB ops.toList (st k).tm o := by
    rw [wanted_sound kS]; exact wantedB_congr hlook
  rw [hwant]
  obtain ⟨o', ho', hstep, af⟩ := B.hs k hk
  rw [ho] at ho'; cases ho'
  have hops : ∀ x ∈ o.op.operands, evx tm x = evx (st k).tm x := evx_congr hlook
  have hJm := I.le
  -- the steps that are left out turn nothing old
  have hnst : ∀ i, J ≤ i → i < k → Quiet (st i) (st (i + 1)) := by
    intro i h1 h2
    refine Classical.byContradiction fun hq => ?_
    obtain ⟨oi, hoi, _, afi⟩ := B.hs i (by omega)
    rcases afi.eff with h | ⟨_, b, _, _, h3⟩ | ⟨_, h3⟩
    · exact hq h
    · have := (I.nst i (by omega) hq).1 (hbe i (h3 k h2 hk))
      omega
    · have := (I.nst i (by omega) hq).1 (hbe i (h3 k h2 hk))
      omega
  have hkq : k < J → Quiet (st k) (st (k + 1)) := fun h => Classical.byContradiction fun hq => hn ((I.nst k hk hq).2 h)
  have hDlt : ∀ id, DS D0 st S id → id < (st J).heap.next := I.hr.lt
  have hadd : ∀ id, DS D0 st (Add S k) id ↔ DS D0 st S id ∨ ((st k).heap.next ≤ id ∧ id < (st (k + 1)).heap.next) := by
    intro id
    constructor
    · rintro (h | ⟨j, hj | rfl, h⟩)
      · exact .inl (.inl h)
      · exact .inl (.inr ⟨j, hj, h⟩)
      · exact .inr h
    · rintro ((h | ⟨j, hj, h⟩) | h)
      · exact .inl h
      · exact .inr ⟨j, .inl hj, h⟩
      · exact .inr ⟨k, .inr rfl, h⟩
  -- from J on to k
  have hgo : J ≤ k → (∀ id, DS D0 st S id → (st k).heap.get id = (st J).heap.get id) ∧ HR ρ (DS D0 st S) (st k).heap w := by
    intro hJk
    have h1 : ∀ id, DS D0 st S id → (st k).heap.get id = (st J).heap.get id := fun id hd => B.quiet_range hJk (by omega) hnst (hDlt id hd)
    refine ⟨h1, B.cap (by omega), fun id hd => Nat.lt_of_lt_of_le (hDlt id hd) (B.next_mono hJk (by omega)), fun id o' hd hg => I.hr.rel id o' hd (by rw [← h1 id hd]; exact hg), fun i j oi oj hi hj hgi hgj => ?_⟩
    exact I.hr.inj i j oi oj hi hj (by rw [← h1 i hi]; exact hgi) (by rw [← h1 j hj]; exact hgj)
  have hmax1 : k < J → max J (k + 1) = J := fun h => by omega
  have hmax2 : J ≤ k → max J (k + 1) = k + 1 := fun h => by omega
  rcases hstep with ⟨hw, hp⟩ | ⟨hw, s', hst, hlow, hd, hs1⟩
  · rw [hw, if_neg (by simp)]
    refine ⟨fun _ _ => trivial, ?_⟩
    obtain ⟨g1, hs1⟩ := putD_some hp
    have hheap : (st (k + 1)).heap = (st k).heap := by rw [hs1]
    have htm : (st (k + 1)).tm = putT (st k).tm o.dst undefV := by rw [hs1]
    have hdst : ∀ t, o.dst = some t → t < (st 0).n := fun t ht => by rw [← B.n_eq (q := k) (by omega)]; exact g1 t ht
    have hc : ∀ g : H, ∀ id, DS D0 st (Add S k) id ↔ DS D0 st S id ∨ (g.next ≤ id ∧ id < g.next) := fun g id => by
      rw [hadd id, hheap]
      constructor
      · rintro (h | h)
        · exact .inl h
        · omega
      · rintro (h | h)
        · exact .inl h
        · omega
    rw [← undefV_conc ρ]
    rcases Nat.lt_or_ge k J with hkJ | hJk
    · exact hK _ _ _ _ _ (I.combine B hk hn ho he rfl (g := (st J).heap) (g1 := (st J).heap) (D' := DS D0 st S) (fun _ h => h) (fun _ h => .inl h) (Mv.refl _ _ _ _) (by rw [Dx_self]; exact I.hr) (undefV_In _) hDlt
        (fun id _ => by rw [hmax1 hkJ]) (fun id h1 h2 => absurd h1 h2) (hc _) (fun _ _ => rfl) (.inr fun id o' h1 h2 _ => by omega) htm hdst hnst)
    · obtain ⟨h1, h2⟩ := hgo hJk
      exact hK _ _ _ _ _ (I.combine B hk hn ho he rfl (g := (st k).heap) (g1 := (st k).heap) (D' := DS D0 st S) (fun _ h => h) (fun _ h => .inl h) (Mv.refl _ _ _ _) (by rw [Dx_self]; exact h2) (undefV_In _) h2.lt
        (fun id _ => by rw [hmax2 hJk, hheap]) (fun id h1 h2 => absurd h1 h2) (hc _) (fun id hd => (h1 id hd).symm) (.inr fun id o' h1 h2 _ => by omega) htm hdst hnst)
  · rw [hw, if_pos rfl]
    obtain ⟨v0, hd0, hs', htr⟩ := stepOp_at hst
    have e3 := htr tm hops
    have hdst : ∀ t, o.dst = some t → t < (st 0).n := fun t ht => by rw [← B.n_eq (q := k) (by omega)]; exact hd0 t ht
    have hdtop : ∀ t, o.dst = some t → t < Tb.top := fun t ht => Nat.lt_of_lt_of_le (hdst t ht) B.k0.tm.cap
    have htm0 : (st (k + 1)).tm = putT (st k).tm o.dst v0 := by rw [hs1, hs']; rfl
    have hnx : (st (k + 1)).heap.next = s'.heap.next := by rw [hs1]; rfl
    have hgt : ∀ id, (st (k + 1)).heap.get id = s'.heap.get id := fun id => by rw [hs1]; rfl
    rw [← rd_agree I.agree B.hl]
    obtain ⟨ρt, at', wt, kt⟩ := B.kt k hk
    have hopS : ∀ x ∈ o.op.operands, ∀ v, evx tm x = some v → a.eval x = v.conc ρ ∧ v.In (DS D0 st S) := fun x _ v hv => evx_sound kS x v hv
    have hfr : Quiet (st k) (st (k + 1)) → ∀ {D' : Nat → Prop} {ρ' : Env} {w' : World}, (∀ id, D' id → id < (st k).heap.next) → Mv ρ D' (low0 (st k).heap) w ρ' s'.heap w' →
        ∀ id o', (low0 (st k).heap).next ≤ id → id < s'.heap.next → s'.heap.get id = some o' → w.heap.size ≤ ρ'.blk id := by
      intro hq D' ρ' w' hlt mv id o' h1 h2 h3
      rcases (mv.img id o' h1 h2 h3).2 with h4 | ⟨j, oj, hj, hgj, _, _, hnone⟩
      · exact h4
      · have h5 := hq j (hlt j hj)
        rw [hgt, hnone] at h5
        have hgj : (st k).heap.get j = some oj := hgj
        rw [hgj] at h5; cases h5
    have hcs : ∀ id, DS D0 st (Add S k) id ↔ DS D0 st S id ∨ ((low0 (st k).heap).next ≤ id ∧ id < s'.heap.next) := fun id => by rw [hadd id, hnx]; exact Iff.rfl
    have hputv : ∀ v, putT tm o.dst v0 = putT tm o.dst v → (st (k + 1)).tm = putT (st k).tm o.dst v := fun v hv => by rw [htm0]; exact putT_inj hdtop hv _
    rcases Nat.lt_or_ge k J with hkJ | hJk
    · by_cases hex : ∃ i, k < i ∧ i < J ∧ ¬ Quiet (st i) (st (i + 1))
      · -- a store went ahead: the operation does not look at its block
        have hsee : ∀ i, k < i → i < J → ¬ Quiet (st i) (st (i + 1)) → free0 o = true ∨ ∃ b, freeOp tm b o = true ∧ ∀ id, id ≠ b → (st (i + 1)).heap.get id = (st i).heap.get id := by
          intro i h1 h2 hq
          have hSi := (I.nst i (by omega) hq).2 h2
          obtain ⟨oi, hoi, _, afi⟩ := B.hs i (by omega)
          rcases afi.eff with h | ⟨_, b, h3, h4, _⟩ | ⟨h4, _⟩
          · exact absurd h hq
          case inr.inr =>
            rcases h4 k o h1 (by simpa using ho) with h5 | ⟨h5, _⟩
            · exact absurd (I.closed.bit hSi h5) hn
            · exact .inl h5
          · rcases h4 k o h1 (by simpa using ho) with h5 | ⟨h5, h6⟩
            · exact absurd (I.closed.bit hSi h5) hn
            · refine .inr ⟨b, ?_, h3⟩
              rw [← h5]
              refine freeOp_congr (evx_congr (ops := ops.toList) fun t ht => ?_)
              rw [hlook t ht]
              exact (B.tm_range (Nat.le_of_lt h1) (by omega) fun j oj h7 h8 h9 h10 => h6 j oj t h7 h8 (by simpa using h9) h10 ht).symm
        obtain ⟨i0, h1, h2, h3⟩ := hex
        obtain ⟨b0, hb0⟩ : ∃ b0, freeOp tm b0 o = true := by
          rcases hsee i0 h1 h2 h3 with h | ⟨b0, hb0, _⟩
          · exact ⟨0, free0_op h tm 0⟩
          · exact ⟨b0, hb0⟩
        have e4 := e3
        unfold stepOp at e4
        cases hop : aop c o (evx tm) (low0 (st k).heap) with
        | none => simp only [hop] at e4; cases e4
        | some an =>
          obtain ⟨v, rfl, hall⟩ := aop_free hb0 hop
          simp only [hop] at e4
          rw [putD_of (s := { st k with heap := low0 (st k).heap, tm := tm }) hd0] at e4
          simp only [Option.some.injEq, Prod.mk.injEq, true_and] at e4
          have hheap : s'.heap = low0 (st k).heap := (congrArg St.heap e4).symm
          have hputs : putT tm o.dst v = putT tm o.dst v0 := congrArg St.tm e4
          have hload : ∀ t x b' o', o.op = .load t x → evx tm x = some (.ptr b' o') → (st J).heap.get b' = (low0 (st k).heap).get b' := by
            intro t x b' o' hl hx
            have hx' : evx (st k).tm x = some (.ptr b' o') := by rw [← hops x (by rw [hl]; simp [Op.operands])]; exact hx
            have hin := (evx_sound kt x _ hx').2
            simp only [V.In] at hin
            refine B.same_range (Nat.le_of_lt hkJ) hJm (kt.hr.lt _ hin) fun i h4 h5 h6 => ?_
            by_cases hq : Quiet (st i) (st (i + 1))
            · exact hq b' h6
            · have hik : k < i := by
                rcases Nat.eq_or_lt_of_le h4 with rfl | g
                · exact absurd (hkq hkJ) hq
                · exact g
              rcases hsee i hik h5 hq with h7 | ⟨b, h7, h8⟩
              · exfalso
                unfold free0 at h7
                simp only [hl] at h7
                cases h7
              refine h8 b' fun e => ?_
              subst e
              unfold freeOp at h7
              simp only [hl, hx] at h7
              simp at h7
          have hJop := hall (st J).heap hload
          have e5 : stepOp c orc rd.isSome ih o { n := (st 0).n, tm := tm, dfr := (st 0).dfr, heap := (st J).heap } = some (.normal, { n := (st 0).n, tm := putT tm o.dst v, dfr := (st 0).dfr, heap := (st J).heap }) := by
            unfold stepOp
            simp only [hJop]
            rw [putD_of (s := { n := (st 0).n, tm := tm, dfr := (st 0).dfr, heap := (st J).heap }) hdst]
          refine stepOp_low B.ok B.hor B.hih e5 rfl hopS I.hr ?_
          intro ρ' v' w' mv hr' hv' htm'
          have htm' : putT tm o.dst v = putT tm o.dst v' := htm'
          refine hK _ _ _ _ _ (I.combine B hk hn ho he rfl (g := (st J).heap) (g1 := (st J).heap) (D' := DS D0 st S) (fun _ h => h) (fun _ h => .inl h) mv hr' hv' hDlt
            (fun id _ => by rw [hmax1 hkJ]) (fun id h1 h2 => absurd h1 h2) (fun id => ?_) (fun _ _ => rfl) (.inr fun id o' h1 h2 _ => by omega) (hputv v' (by rw [← hputs, htm'])) hdst hnst)
          rw [hcs id, hheap]
          constructor
          · rintro (h | h)
            · exact .inl h
            · omega
          · rintro (h | h)
            · exact .inl h
            · omega
      · -- only new blocks came up ahead
        have hq2 : ∀ i, k ≤ i → i < J → Quiet (st i) (st (i + 1)) := by
          intro i h1 h2
          rcases Nat.eq_or_lt_of_le h1 with rfl | g
          · exact hkq hkJ
          · exact Classical.byContradiction fun hq => hex ⟨i, g, h2, hq⟩
        have hback : ∀ id, id < (st k).heap.next → (st J).heap.get id = (st k).heap.get id := fun id h => B.quiet_range (Nat.le_of_lt hkJ) hJm hq2 h
        have hsub : ∀ id, DS D0 st S id → id < (st k).heap.next → Dx D0 (st 0).heap (st k).heap id := by
          rintro id (h | ⟨j, hj, h1, h2⟩) h3
          · exact .inl h
          · have hjJ := I.lt j hj
            exact .inr ⟨Nat.le_trans (B.next_mono (Nat.zero_le _) (by omega)) h1, h3⟩
        have hrk : HR ρ (fun id => DS D0 st S id ∧ id < (st k).heap.next) (low0 (st k).heap) w := by
          refine ⟨B.cap (by omega), fun id h => h.2, fun id o' h hg => ?_, fun i j oi oj hi hj hgi hgj => ?_⟩
          · have hg : (st k).heap.get id = some o' := hg
            have h1 := I.hr.rel id o' h.1 (by rw [hback id h.2]; exact hg)
            have h2 := kt.hr.rel id o' (hsub id h.1 h.2) hg
            have h3 := h1.and h2
            refine h3.agree (D := fun i => DS D0 st S i ∧ Dx D0 (st 0).heap (st k).heap i) ⟨h.1, hsub id h.1 h.2⟩ (fun i hi => ⟨hi.1, kt.hr.lt i hi.2⟩) (Agree.refl _ _)
          · exact I.hr.inj i j oi oj hi.1 hj.1 (by rw [hback i hi.2]; exact hgi) (by rw [hback j hj.2]; exact hgj)
        refine stepOp_low B.ok B.hor B.hih e3 hd (fun x hx v hv => ?_) hrk ?_
        · obtain ⟨h1, h2⟩ := hopS x hx v hv
          have h3 := (evx_sound kt x v (by rw [← hops x hx]; exact hv)).2
          exact ⟨h1, V.In_and v h2 (V.In_mono kt.hr.lt v h3)⟩
        · intro ρ' v w' mv hr' hv htm'
          have htm' : putT tm o.dst v0 = putT tm o.dst v := htm'
          refine hK _ _ _ _ _ (I.combine B hk hn ho he rfl (g := low0 (st k).heap) (g1 := s'.heap) (D' := fun id => DS D0 st S id ∧ id < (st k).heap.next) (fun _ h => h.1)
            (fun id h => ⟨.inl h, Nat.lt_of_lt_of_le (B.k0.hr.lt id h) (B.next_mono (Nat.zero_le _) (by omega))⟩) mv hr' hv (fun _ h => h.2) (fun id hd => ?_) (fun id h1 h2 => ?_) hcs (fun id h => hback id h.2) (.inr (hfr (hkq hkJ) (fun _ h => h.2) mv)) (hputv v htm') hdst hnst)
          · rw [hmax1 hkJ, ← hgt id]
            refine B.quiet_range (by omega) hJm (fun i h1 h2 => hq2 i (by omega) h2) ?_
            rw [hnx]
            exact hr'.lt id hd
          · rw [hmax1 hkJ]
            refine ⟨?_, rfl⟩
            have h3 : (st k).heap.next ≤ id := Nat.le_of_not_lt fun h => h2 ⟨h1, h⟩
            rcases h1 with h | ⟨j, hj, h4, h5⟩
            · have := Nat.lt_of_lt_of_le (B.k0.hr.lt id h) (B.next_mono (q := k) (Nat.zero_le _) (by omega)); omega
            · have hjJ := I.lt j hj
              rcases Nat.lt_trichotomy j k with g | g | g
              · have := B.next_mono (p := j + 1) (q := k) g (by omega); omega
              · subst g; exact absurd hj hn
              · have := B.next_mono (p := k + 1) (q := j) g (by omega)
                rw [hnx] at this; omega
    · obtain ⟨h1, h2⟩ := hgo hJk
      refine stepOp_low B.ok B.hor B.hih e3 hd hopS h2.low0 ?_
      intro ρ' v w' mv hr' hv htm'
      have htm' : putT tm o.dst v0 = putT tm o.dst v := htm'
      exact hK _ _ _ _ _ (I.combine B hk hn ho he rfl (g := low0 (st k).heap) (g1 := s'.heap) (D' := DS D0 st S) (fun _ h => h) (fun _ h => .inl h) mv hr' hv h2.lt
        (fun id _ => by rw [hmax2 hJk, hgt]) (fun id h1 h2 => absurd h1 h2) hcs (fun id hd => (h1 id hd).symm) (.inl fun _ h => h) (hputv v htm') hdst hnst)

end
end Go.Sim
