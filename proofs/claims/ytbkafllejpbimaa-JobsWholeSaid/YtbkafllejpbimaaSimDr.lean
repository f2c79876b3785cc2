/- A drawn region whose last places call a function that a temporary holds. -/
import Derived.Test.YtbkafllejpbimaaSimWp
namespace Go.Sim
variable (P : Program) (c : Ctx)

/-- A call of a function that a temporary holds, and what comes behind it. -/
def wpT (b : Bool) (ops : List Oper) (o : Oper) (l : List Oper) (s : St) (Q : AX → St → Prop) : Prop :=
  match o.op with
  | .call cl =>
    (match cl.callee with
    | .value x => (match evx s.tm x with
      | some (.func (.func _) _ _) => wantedB ops s.tm o = true ∧ wpOp c P o (evx s.tm) s.heap fun v h => put1 o.dst v s h fun s' => wpO P c b ops l s' Q
      | _ => False)
    | _ => False)
  | _ => False

def wpQ (b : Bool) (ops : List Oper) : Nat → List Oper → St → (AX → St → Prop) → Prop
  | 0, [], s, Q => Q .normal s
  | 0, o :: l, s, Q => wpT P c b ops o l s Q
  | _ + 1, [], s, Q => Q .normal s
  | r + 1, o :: l, s, Q =>
    if wantedB ops s.tm o = true then
      (if isPan o.op = true then False else if isDP o.op = true then False
       else wpOp c P o (evx s.tm) s.heap fun v h => put1 o.dst v s h fun s' => wpQ b ops r l s' Q)
    else put1 o.dst undefV s s.heap fun s' => wpQ b ops r l s' Q

variable {P c}

theorem opsF_tc (ok : CtxOK P c) {b : Bool} {ops : List Oper} {o : Oper} {l : List Oper} {s : St} {Q : AX → St → Prop} (ht : l.all tailOp = true) (hc : callFs l = []) (h : wpT P c b ops o l s Q) :
    ∃ orc, OrcOk P c orc ∧ ∃ x s', opsF c orc b ih0 ops (o :: l) s = some (.done x s') ∧ Q x s' := by
  unfold wpT at h
  split at h
  · rename_i cl ho
    split at h
    · rename_i x hcal
      split at h
      · rename_i g first captured hx
        obtain ⟨hw, h⟩ := h
        have hk := wpOp_out h
        have rest : ∀ {orc orc' : Nat → List V → H → Option (V × H)} {s1 : St}, opsF c orc b ih0 ops l s1 = opsF c orc' b ih0 ops l s1 := fun {_ _ _} => tail_ops l ht fun f hf => by rw [hc] at hf; cases hf
        have plain : ∀ s1, stepOp c orc0 b ih0 o s = some (.normal, s1) → wpO P c b ops l s1 Q → ∃ orc, OrcOk P c orc ∧ ∃ x s', opsF c orc b ih0 ops (o :: l) s = some (.done x s') ∧ Q x s' := by
          intro s1 hs hk
          obtain ⟨orc, h1, _, x, s', h3, h4⟩ := opsF_wp ok l (b := b) (ops := ops) ht (by rw [hc]; rfl) hk
          refine ⟨orc0, orc0_ok, x, s', ?_, h4⟩
          simp only [opsF, hw, cond_true, hs]
          rw [rest (orc' := orc)]; exact h3
        cases ha : aop c o (evx s.tm) s.heap with
        | none => rw [ha] at hk; exact hk.elim
        | some an =>
          rw [ha] at hk
          cases an with
          | val v h' =>
            have hk : put1 o.dst v s h' (fun s' => wpO P c b ops l s' Q) := hk
            obtain ⟨s1, hp, hk⟩ := put1_spec hk
            exact plain s1 (by unfold stepOp; simp only [ha, hp]) hk
          | skip h' =>
            have hk : put1 o.dst undefV s h' (fun s' => wpO P c b ops l s' Q) := hk
            obtain ⟨s1, hp, hk⟩ := put1_spec hk
            exact plain s1 (by unfold stepOp; simp only [ha, hp]) hk
          | round lp args =>
            exfalso
            unfold aop at ha
            simp only [ho] at ha
            unfold acall at ha
            cases hl : evL (evx s.tm) cl.args.toList with
            | none => simp [hl] at ha
            | some as =>
              simp only [hl, hcal, hx] at ha
              unfold acallF at ha
              cases hi : isNoesc c g with
              | true =>
                rw [hi, cond_true] at ha
                split at ha <;> cases ha
              | false =>
                rw [hi, cond_false] at ha
                split at ha
                · rename_i el _
                  revert ha
                  generalize amnz el s.heap first as captured = q
                  cases q <;> (intro e; cases e)
                · cases ha
          | call f args =>
            obtain ⟨v, h', ⟨hfn, hs⟩, hq⟩ := hk
            obtain ⟨s1, hp, hk⟩ := put1_spec hq
            obtain ⟨orc, h1, _, x, s', h3, h4⟩ := opsF_wp ok l (b := b) (ops := ops) ht (by rw [hc]; rfl) hk
            refine ⟨orc1 f args s.heap v h', orc1_ok hfn hs, x, s', ?_, h4⟩
            have hs' : stepOp c (orc1 f args s.heap v h') b ih0 o s = some (.normal, s1) := by
              unfold stepOp
              simp only [ha]
              unfold callO
              rw [orc1_at]
              simp only [hp]
            simp only [opsF, hw, cond_true, hs']
            rw [rest (orc' := orc)]; exact h3
          | _ => exact hk.elim
      · exact h.elim
    · exact h.elim
  · exact h.elim

theorem drawF_tc (ok : CtxOK P c) {b : Bool} {ops : List Oper} {bs : List Nat} {m : Nat} : ∀ (l : List Oper) (r k : Nat) {s : St} {Q : AX → St → Prop}, s.heap.next ≤ T.top → s.heap.low ≤ T.top → (l.take r).all (quietOp c) = true →
    (∀ o l', l.drop r = o :: l' → l'.all tailOp = true ∧ callFs l' = []) → wpQ P c b ops r l s Q → ∃ orc, OrcOk P c orc ∧ ∃ x s', drawF c orc b ih0 ops bs m r k l s = some (.done x s') ∧ Q x s' := by
  intro l
  induction l with
  | nil => intro r k s Q _ _ _ _ h; exact ⟨orc0, orc0_ok, .normal, s, by cases r <;> rfl, by cases r <;> exact h⟩
  | cons o l ih =>
    intro r k s Q hn hl hq ht h
    cases r with
    | zero =>
      obtain ⟨t1, t2⟩ := ht o l rfl
      obtain ⟨orc, h1, x, s', h3, h4⟩ := opsF_tc ok (ops := ops) t1 t2 h
      exact ⟨orc, h1, x, s', h3, h4⟩
    | succ r =>
      simp only [List.take_succ_cons, List.all_cons, Bool.and_eq_true] at hq
      simp only [List.drop_succ_cons] at ht
      simp only [wpQ] at h
      split at h
      · rename_i hw
        have hpn : ¬ isPan o.op = true := by
          intro hd
          have h1 := hq.1
          unfold quietOp at h1
          unfold isPan at hd
          cases ho : o.op <;> simp only [ho] at h1 hd <;> first | (cases h1; done) | (cases hd; done)
        have hdp : ¬ isDP o.op = true := by
          intro hd
          have h1 := hq.1
          unfold quietOp at h1
          unfold isDP at hd
          cases ho : o.op <;> simp only [ho] at h1 hd <;> first | (cases h1; done) | (cases hd; done)
        rw [if_neg hpn, if_neg hdp] at h
        have hk := wpOp_out h
        cases ha : aop c o (evx s.tm) s.heap with
        | none => rw [ha] at hk; exact hk.elim
        | some an =>
          obtain ⟨v, h2, rfl, ht2, hlow, hn2⟩ := aop_top hq.1 hn ha
          rw [ha] at hk
          have hk : put1 o.dst v s h2 (fun s' => wpQ P c b ops r l s' Q) := hk
          rw [put1_iff] at hk
          have heq : (⟨h2.tbl, h2.next, cond (Nat.ble s.heap.low T.top) s.heap.low T.top⟩ : H) = h2 := by
            rw [Nat.ble_eq_true_of_le hl, cond_true, ← hlow]
          have hd1 : ∀ tm', wpQ P c b ops r l ⟨s.n, tm', s.dfr, h2⟩ Q → (∀ orc, stepOp c orc b ih0 o ⟨s.n, s.tm, s.dfr, topH s.heap⟩ = some (.normal, ⟨s.n, tm', s.dfr, topH h2⟩)) →
              ∃ orc, OrcOk P c orc ∧ ∃ x s', drawF c orc b ih0 ops bs m (r + 1) k (o :: l) s = some (.done x s') ∧ Q x s' := by
            intro tm' hw2 hst
            obtain ⟨orc, h1, x, s', h3, h4⟩ := ih r (k + 1) (s := ⟨s.n, tm', s.dfr, h2⟩) hn2 (by show h2.low ≤ _; rw [hlow]; exact hl) hq.2 ht hw2
            refine ⟨orc, h1, x, s', ?_, h4⟩
            unfold drawF
            show cond (wantedB ops s.tm o) (match stepOp c orc b ih0 o ⟨s.n, s.tm, s.dfr, topH s.heap⟩ with | some (.normal, s') => _ | _ => none) _ = _
            rw [hw, cond_true, hst orc]
            show cond (Nat.ble s.heap.next T.top || _) (cond (sameLen s.dfr s.dfr) (drawF c orc b ih0 ops bs m r (k + 1) l ⟨s.n, tm', s.dfr, ⟨h2.tbl, h2.next, cond (Nat.ble s.heap.low T.top) s.heap.low T.top⟩⟩) none) none = _
            rw [Nat.ble_eq_true_of_le hn, Bool.true_or, cond_true, sameLen_refl, cond_true, heq]
            exact h3
          rcases hk with ⟨hd2, hk⟩ | ⟨t, hd2, hb, hk⟩
          · refine hd1 s.tm hk fun orc => ?_
            unfold stepOp
            simp only [ht2, hd2]
            rfl
          · refine hd1 _ hk fun orc => ?_
            unfold stepOp
            simp only [ht2, hd2]
            unfold putD
            simp only [hb, cond_true]
      · rename_i hw
        have hw : wantedB ops s.tm o = false := by simpa using hw
        obtain ⟨s1, hp, hk⟩ := put1_spec h
        have hs1 : s1.heap = s.heap := by
          obtain ⟨_, e⟩ := putD_some hp
          rw [e]
        obtain ⟨orc, h1, x, s', h3, h4⟩ := ih r (k + 1) (s := s1) (by rw [hs1]; exact hn) (by rw [hs1]; exact hl) hq.2 ht hk
        refine ⟨orc, h1, x, s', ?_, h4⟩
        unfold drawF
        show cond (wantedB ops s.tm o) _ (match putD s o.dst undefV s.heap with | some s' => drawF c orc b ih0 ops bs m r (k + 1) l s' | none => none) = _
        rw [hw, cond_false, hp]
        exact h3


/-- So many quiet operations, a call of what a temporary holds, and others that call nobody. -/
def drawTc (c : Ctx) (ops : List Oper) : Bool :=
  (ops.take (drawM ops)).all (quietOp c) && ((ops.drop (drawM ops + 1)).all tailOp && (match callFs (ops.drop (drawM ops + 1)) with | [] => true | _ => false) && (drawOk ops).isSome)

theorem wpDr.of_tc (ok : CtxOK P c) {b : Bool} {ops : List Oper} {s : St} {Q : AX → St → Prop} (hp : drawTc c ops = true) (hn : s.heap.next ≤ T.top) (hl : s.heap.low ≤ T.top) (h : wpQ P c b ops (drawM ops) ops s Q) : wpDr P c b ops s Q := by
  unfold drawTc at hp
  simp only [Bool.and_eq_true, Option.isSome_iff_exists] at hp
  obtain ⟨h1, ⟨h2, h3⟩, m, hm⟩ := hp
  have hmm : drawM ops = m := by unfold drawM; rw [hm]
  rw [hmm] at h h1 h2 h3
  have h3 : callFs (ops.drop (m + 1)) = [] := by
    revert h3
    cases callFs (ops.drop (m + 1)) with
    | nil => intro _; rfl
    | cons a l => intro e; cases e
  obtain ⟨orc, hor, x, s', e, hq⟩ := drawF_tc (bs := befores ops []) (m := m) ok ops m 0 hn hl h1 (fun o l' e => by
    have : l' = ops.drop (m + 1) := by rw [← List.drop_drop, e]; rfl
    rw [this]; exact ⟨h2, h3⟩) h
  exact ⟨orc, m, x, s', hor, hm, e, hq⟩

end Go.Sim
