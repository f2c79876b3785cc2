/- A region whose order is open: every order. -/
import Derived.Test.YtamddelaigcnkaaGreatSimDraw6
namespace Go.Sim

section
variable {P : Program} {c : Ctx} {orc : Nat → List V → H → Option (V × H)} {rd : Option Nat} {ih : Bool → Code → St → Option Out}
variable {ops : Array Oper} {m : Nat} {st : Nat → St} {ρ0 : Env} {D0 : Nat → Prop} {a0 : Act} {w0 : World}

theorem Inv.finish (B : Base P c orc rd ih ops m st ρ0 D0 a0 w0) {S : Nat → Prop} {J : Nat} {tm : Tm} {ρ : Env} {a : Act} {w : World} (I : Inv ops m st ρ0 D0 w0 S J tm ρ a w) (hall : ∀ i, i < m → S i) :
    Mv ρ0 D0 (st 0).heap w0 ρ (st m).heap w ∧ StR ρ (Dx D0 (st 0).heap (st m).heap) (st m) a w := by
  have hJ : J = m := by
    have h1 := I.le
    rcases Nat.eq_or_lt_of_le h1 with h | h
    · exact h
    · have := I.lt J (hall J h); omega
  subst hJ
  have hDS : DS D0 st S = Dx D0 (st 0).heap (st J).heap := by
    funext id
    simp only [eq_iff_iff]
    constructor
    · rintro (h | ⟨j, hj, h1, h2⟩)
      · exact .inl h
      · have := I.lt j hj
        exact .inr ⟨Nat.le_trans (B.next_mono (Nat.zero_le _) (by omega)) h1, Nat.lt_of_lt_of_le h2 (B.next_mono (p := j + 1) this (Nat.le_refl _))⟩
    · rintro (h | ⟨h1, h2⟩)
      · exact .inl h
      · obtain ⟨j, h3, h4⟩ := Base.born h1 h2
        exact .inr ⟨j, hall j h3, h4⟩
  have htm : ∀ t, getV tm t = getV (st J).tm t := by
    intro t
    rcases I.tmv t with ⟨j, oj, hj, hoj, hd, hmax, hv⟩ | ⟨hno, hv⟩
    · rw [hv]
      have := I.lt j hj
      exact (B.tm_range (p := j + 1) this (Nat.le_refl _) fun i oi h1 h2 hoi hdi => by have := hmax i oi (hall i h2) hoi hdi; omega).symm
    · rw [hv]
      exact (B.tm_range (Nat.zero_le _) (Nat.le_refl _) fun i oi _ h2 hoi hdi => hno i oi (hall i h2) hoi hdi).symm
  have hr := I.hr
  have htr := I.tmR
  rw [hDS] at hr htr
  refine ⟨⟨B.next_mono (Nat.zero_le _) (Nat.le_refl _), I.size, I.os, I.tape, I.output, I.agree, fun id o' h hg => B.old_range (Nat.zero_le _) (Nat.le_refl _) h hg, fun id o' h1 h2 h3 => ?_, I.frame, B.low_mono (Nat.le_refl _), fun id h1 h2 => B.kept_range (Nat.le_refl _) h1 h2⟩, ?_⟩
  · refine ⟨?_, I.img id o' (by rw [hDS]; exact .inr ⟨h1, h2⟩) h1 h3⟩
    obtain ⟨j, h4, h5, h6⟩ := Base.born h1 h2
    obtain ⟨o2, h7, h8⟩ := B.old_range (p := j + 1) h4 (Nat.le_refl _) h6 h3
    obtain ⟨o, _, _, af⟩ := B.hs j h4
    rw [h8]; exact af.wr id o2 h5 h6 h7
  · refine ⟨⟨?_, ?_, fun t => ?_, fun t => ?_⟩, ?_, ?_, hr⟩
    · rw [B.n_eq (Nat.le_refl _)]; exact htr.size
    · rw [B.n_eq (Nat.le_refl _)]; exact htr.cap
    · rw [← htm t]; exact htr.val t
    · rw [← htm t]; exact htr.inn t
    · rw [B.dfr_eq (Nat.le_refl _)]; exact I.dfr
    · rw [B.dfr_eq (Nat.le_refl _)]; exact fun d hd => AD.In_mono Dx_sub (B.k0.dfrIn d hd)

theorem Inv.start (B : Base P c orc rd ih ops m st ρ0 D0 a0 w0) {S : Nat → Prop} (hS : ∀ j, ¬ S j) : Inv ops m st ρ0 D0 w0 S 0 (st 0).tm ρ0 a0 w0 := by
  have hDS : DS D0 st S = D0 := by
    funext id
    simp only [eq_iff_iff]
    constructor
    · rintro (h | ⟨j, hj, _⟩)
      · exact h
      · exact absurd hj (hS j)
    · exact .inl
  refine { lt := fun j hj => absurd hj (hS j), le := Nat.zero_le _, closed := fun j o hj => absurd hj (hS j), nst := fun i _ _ => ⟨fun h => absurd h (hS i), fun h => by omega⟩
           tmv := fun t => .inr ⟨fun j o hj => absurd hj (hS j), rfl⟩, tmR := by rw [hDS]; exact B.k0.tm, dfr := B.k0.dfr, hr := by rw [hDS]; exact B.k0.hr
           size := Nat.le_refl _, os := rfl, tape := rfl, output := rfl, agree := Agree.refl _ _, img := fun id o' hd h0 _ => ?_, frame := fun _ _ _ => rfl }
  rw [hDS] at hd
  have := B.k0.hr.lt id hd
  exfalso; omega

theorem opsF_step (ok : CtxOK P c) (hor : OrcOk P c orc) (hih : IHok P ih) {i : Nat} {o : Oper} (ho : ops[i]? = some o) {l : List Oper} {s sf s0 : St} {x : AX} (e : opsF c orc rd.isSome ih ops.toList (o :: l) s = some (.done x sf))
    {ρ : Env} {w : World} {a : Act} (hlt : ∀ id, D0 id → id < s0.heap.next) (hl : ∀ l, rd = some l → D0 l) (m : Mv ρ0 D0 s0.heap w0 ρ s.heap w) (k : StR ρ (Dx D0 s0.heap s.heap) s a w) {K : Act → World → Prop}
    (hK : ∀ s1 ρ1 a1 w1, opsF c orc rd.isSome ih ops.toList l s1 = some (.done x sf) → Mv ρ0 D0 s0.heap w0 ρ1 s1.heap w1 → StR ρ1 (Dx D0 s0.heap s1.heap) s1 a1 w1 → K a1 w1) :
    wpOpIn (Fx (rd.map ρ0.blk)) 0 P ops (Ends ρ0 D0 s0 w0 x sf) i K a w := by
  unfold wpOpIn
  simp only [ho]
  rw [wanted_sound k]
  simp only [opsF] at e
  cases hw : wantedB ops.toList s.tm o with
  | true =>
    simp only [hw, cond_true] at e
    rw [if_pos rfl]
    rw [← rd_agree m.agree hl]
    split at e
    · rename_i s1 hs1
      refine stepOp_sound ok hor hih hs1 k ?_ (fun v hv => by cases hv)
      intro _ ρ' a' w' m' _ k'
      rw [Dx_trans (D := D0) m.next m'.next] at k'
      exact hK s1 ρ' a' w' e (Mv.trans hlt m m') k'
    · rename_i y s1 hy hs1
      simp only [Option.some.injEq, Out.done.injEq] at e
      obtain ⟨rfl, rfl⟩ := e
      refine stepOp_sound ok hor hih hs1 k (fun hn => absurd hn hy) ?_
      intro v hv ρ' w' m' k' hvi
      subst hv
      have hDx := Dx_trans (D := D0) m.next m'.next
      exact ⟨ρ', Mv.trans hlt m m', by rw [← hDx]; exact k', rfl, by rw [← hDx]; exact hvi⟩
    · cases e
  | false =>
    simp only [hw, cond_false] at e
    rw [if_neg (by simp)]
    split at e
    · rename_i s1 hs1
      obtain ⟨k2, hh⟩ := StR.put k (undefV_In _) hs1
      rw [undefV_conc] at k2
      exact ⟨fun _ _ => trivial, hK s1 ρ _ w e (by rw [hh]; exact m) (by rw [hh]; exact k2)⟩
    · cases e

theorem getD_set_self {listed : Array Bool} {i : Nat} (h : i < listed.size) : (listed.setIfInBounds i true).getD i false = true := by
  simp [h]

theorem unlisted {md : Region.Mode} {i : Nat} {listed : Array Bool} (h : i ∈ Region.ready md ops listed) : i < ops.size ∧ listed.getD i false = false ∧ i < listed.size := by
  obtain ⟨h1, o, ho, _⟩ := mem_ready.1 h
  refine ⟨?_, ?_, ?_⟩
  · rcases Nat.lt_or_ge i ops.size with g | g
    · exact g
    · rw [Array.getElem?_eq_none g] at ho; cases ho
  all_goals
    rcases Nat.lt_or_ge i listed.size with g | g
    · first | exact g | (simpa [g] using h1)
    · simp [Array.getD_eq_getD_getElem?, Array.getElem?_eq_none g] at h1

theorem ready_edges {md : Region.Mode} {i : Nat} {listed : Array Bool} (h : i ∈ Region.ready md ops listed) {o : Oper} (ho : ops[i]? = some o) : ∀ e ∈ o.after, edgeOk e = true → listed.getD e.on false = true := by
  obtain ⟨_, o', ho', he⟩ := mem_ready.1 h
  rw [ho] at ho'; cases ho'
  exact fun e hm hk => he e hm (binds_ok hk)

theorem tail_any (B : Base P c orc rd ih ops m st ρ0 D0 a0 w0) {md : Region.Mode} (hmd : Comes md ops) {x : AX} {sf : St} : ∀ (fuel j : Nat) (listed : Array Bool) (s : St) (ρ : Env) (a : Act) (w : World), m ≤ j → j ≤ ops.size → ops.size - j ≤ fuel → listed.size = ops.size →
    Closed ops.toList (fun i => listed.getD i false = true) → (∀ i, i < ops.size → (listed.getD i false = true ↔ i < j)) → opsF c orc rd.isSome ih ops.toList (ops.toList.drop j) s = some (.done x sf) →
    Mv ρ0 D0 (st 0).heap w0 ρ s.heap w → StR ρ (Dx D0 (st 0).heap s.heap) s a w → wpAnyIn (Fx (rd.map ρ0.blk)) 0 P md ops (Ends ρ0 D0 (st 0) w0 x sf) fuel listed a w := by
  intro fuel
  have hend : ∀ (j : Nat) (s : St) (ρ : Env) (a : Act) (w : World), j = ops.size → opsF c orc rd.isSome ih ops.toList (ops.toList.drop j) s = some (.done x sf) →
      Mv ρ0 D0 (st 0).heap w0 ρ s.heap w → StR ρ (Dx D0 (st 0).heap s.heap) s a w → Ends ρ0 D0 (st 0) w0 x sf .normal a w := by
    intro j s ρ a w hj e mv k
    rw [List.drop_of_length_le (by simp; omega)] at e
    simp only [opsF, Option.some.injEq, Out.done.injEq] at e
    obtain ⟨rfl, rfl⟩ := e
    exact ⟨ρ, mv, k, rfl, trivial⟩
  induction fuel with
  | zero =>
    intro j listed s ρ a w hmj hj hf hsz hcl hli e mv k
    refine ⟨?_, hend j s ρ a w (by omega) e mv k⟩
    rw [List.eq_nil_iff_forall_not_mem]
    intro i hi
    obtain ⟨h1, h2, _⟩ := unlisted hi
    rw [(hli i h1).2 (by omega)] at h2
    cases h2
  | succ fuel ihf =>
    intro j listed s ρ a w hmj hj hf hsz hcl hli e mv k
    refine ⟨fun hnil => ?_, fun i hi => ?_⟩
    · have hjN : j = ops.size := by
        rcases Nat.eq_or_lt_of_le hj with h | h
        · exact h
        · have := (hli j h).1 (ready_nil B.hm hmd hnil hsz j h); omega
      exact hend j s ρ a w hjN e mv k
    · obtain ⟨h1, h2, h3⟩ := unlisted hi
      have ho : ops[i]? = some ops[i] := Array.getElem?_eq_getElem h1
      have hbe := before_in hcl i ops[i] (by simp) (ready_edges hi ho)
      have hij : i = j := by
        have hge : j ≤ i := Nat.le_of_not_lt fun h => by rw [(hli i h1).2 h] at h2; cases h2
        rcases Nat.eq_or_lt_of_le hge with h | h
        · exact h.symm
        · have := hbe j (tailFrom_spec _ _ i (by rw [← B.hmeq]; omega) (by simpa using h1) j h)
          have := (hli j (by omega)).1 this
          omega
      subst hij
      have hdrop : ops.toList.drop i = ops[i] :: ops.toList.drop (i + 1) := by
        rw [List.drop_eq_getElem_cons (by simpa using h1)]; simp
      rw [hdrop] at e
      refine opsF_step B.ok B.hor B.hih ho e B.k0.hr.lt B.hl mv k ?_
      intro s1 ρ1 a1 w1 e1 mv1 k1
      have hget : ∀ i', (listed.setIfInBounds i true).getD i' false = true ↔ (listed.getD i' false = true ∨ i' = i) := by
        intro i'
        by_cases hii : i' = i
        · subst hii; simp [getD_set_self h3]
        · rw [getD_set_ne false (fun h => hii h.symm)]; simp [hii]
      refine ihf (i + 1) _ s1 ρ1 a1 w1 (by omega) (by omega) (by omega) (by simpa using hsz) ?_ ?_ e1 mv1 k1
      · intro j' o' hj' ho' e' hm hk
        rcases (hget j').1 hj' with h | rfl
        · exact (hget _).2 (.inl (hcl j' o' h ho' e' hm hk))
        · have ho' : ops[j']? = some o' := by simpa using ho'
          exact (hget _).2 (.inl (ready_edges hi ho' e' hm hk))
      · intro i' hi'
        rw [hget i', hli i' hi']
        omega

def cnt (listed : Array Bool) : Nat → Nat
  | 0 => 0
  | n + 1 => cnt listed n + (if listed.getD n false = true then 0 else 1)

def left (ops : Array Oper) (listed : Array Bool) : Nat := cnt listed ops.size

omit ops in
theorem cnt_same {listed : Array Bool} {i : Nat} : ∀ n, n ≤ i → cnt (listed.setIfInBounds i true) n = cnt listed n := by
  intro n
  induction n with
  | zero => intro _; rfl
  | succ n ih =>
    intro h
    simp only [cnt]
    rw [ih (by omega), getD_set_ne false (show i ≠ n by omega)]

omit ops in
theorem cnt_set {listed : Array Bool} {i : Nat} (h2 : listed.getD i false = false) (h3 : i < listed.size) : ∀ n, i < n → cnt (listed.setIfInBounds i true) n < cnt listed n := by
  intro n
  induction n with
  | zero => intro h; omega
  | succ n ih =>
    intro h
    simp only [cnt]
    by_cases hin : i = n
    · subst hin
      rw [cnt_same _ (Nat.le_refl _), getD_set_self h3, h2]
      simp
    · rw [getD_set_ne false hin]
      have := ih (by omega)
      omega

theorem left_set {listed : Array Bool} {i : Nat} (h1 : i < ops.size) (h2 : listed.getD i false = false) (h3 : i < listed.size) : left ops (listed.setIfInBounds i true) < left ops listed :=
  cnt_set h2 h3 _ h1

omit ops in
theorem cnt_zero {listed : Array Bool} : ∀ n, cnt listed n = 0 → ∀ i, i < n → listed.getD i false = true := by
  intro n
  induction n with
  | zero => intro _ i h; omega
  | succ n ih =>
    intro h i hi
    simp only [cnt] at h
    rcases Nat.lt_or_ge i n with g | g
    · exact ih (by omega) i g
    · have : i = n := by omega
      subst this
      by_cases hb : listed.getD i false = true
      · exact hb
      · rw [if_neg hb] at h; omega

omit ops in
theorem cnt_ge {listed : Array Bool} {m : Nat} : ∀ n, (∀ i, i < n → listed.getD i false = true → i < m) → n - m ≤ cnt listed n := by
  intro n
  induction n with
  | zero => intro _; omega
  | succ n ih =>
    intro h
    have h1 := ih fun i hi => h i (by omega)
    simp only [cnt]
    by_cases hb : listed.getD n false = true
    · have := h n (by omega) hb; omega
    · rw [if_neg hb]; omega

theorem any_sound (B : Base P c orc rd ih ops m st ρ0 D0 a0 w0) {md : Region.Mode} (hmd : Comes md ops) {x : AX} {sf : St} (e : opsF c orc rd.isSome ih ops.toList (ops.toList.drop m) (st m) = some (.done x sf)) :
    ∀ (fuel : Nat) (listed : Array Bool) (J : Nat) (tm : Tm) (ρ : Env) (a : Act) (w : World), left ops listed ≤ fuel → listed.size = ops.size → Inv ops m st ρ0 D0 w0 (fun i => listed.getD i false = true) J tm ρ a w →
      wpAnyIn (Fx (rd.map ρ0.blk)) 0 P md ops (Ends ρ0 D0 (st 0) w0 x sf) fuel listed a w := by
  intro fuel
  have hdone : ∀ (fuel : Nat) (listed : Array Bool) (J : Nat) (tm : Tm) (ρ : Env) (a : Act) (w : World), left ops listed ≤ fuel → listed.size = ops.size → Inv ops m st ρ0 D0 w0 (fun i => listed.getD i false = true) J tm ρ a w →
      (∀ i, i < m → listed.getD i false = true) → wpAnyIn (Fx (rd.map ρ0.blk)) 0 P md ops (Ends ρ0 D0 (st 0) w0 x sf) fuel listed a w := by
    intro fuel listed J tm ρ a w hf hsz I hall
    obtain ⟨mv, k⟩ := I.finish B hall
    have hiff : ∀ i, i < ops.size → (listed.getD i false = true ↔ i < m) := fun i _ => ⟨fun h => Nat.lt_of_lt_of_le (I.lt i h) I.le, hall i⟩
    exact tail_any B hmd fuel m listed (st m) ρ a w (Nat.le_refl _) B.m_le (Nat.le_trans (cnt_ge _ fun i hi h => (hiff i hi).1 h) hf) hsz I.closed hiff e mv k
  induction fuel with
  | zero =>
    intro listed J tm ρ a w hf hsz I
    exact hdone 0 listed J tm ρ a w hf hsz I fun i hi => cnt_zero _ (Nat.le_zero.1 hf) i (Nat.lt_of_lt_of_le hi B.m_le)
  | succ fuel ihf =>
    intro listed J tm ρ a w hf hsz I
    by_cases hall : ∀ i, i < m → listed.getD i false = true
    · exact hdone (fuel + 1) listed J tm ρ a w hf hsz I hall
    · have hex : ∃ i, i < m ∧ listed.getD i false = false := by
        refine Classical.byContradiction fun h => hall fun i hi => ?_
        cases hb : listed.getD i false with
        | true => rfl
        | false => exact absurd ⟨i, hi, hb⟩ h
      obtain ⟨i0, hi0, hb0⟩ := hex
      refine ⟨fun hnil => ?_, fun i hi => ?_⟩
      · have := ready_nil B.hm hmd hnil hsz i0 (Nat.lt_of_lt_of_le hi0 B.m_le)
        rw [hb0] at this; cases this
      · obtain ⟨h1, h2, h3⟩ := unlisted hi
        have ho : ops[i]? = some ops[i] := Array.getElem?_eq_getElem h1
        have hed := ready_edges hi ho
        have him : i < m := by
          refine Nat.lt_of_not_le fun hmi => ?_
          have hbe := before_in I.closed i ops[i] (by simp) hed
          have := hbe i0 (tailFrom_spec _ _ i (by rw [← B.hmeq]; exact hmi) (by simpa using h1) i0 (by omega))
          rw [hb0] at this; cases this
        refine I.step B him (by rw [h2]; simp) ho hed ?_
        intro J' tm' ρ' a' w' I'
        have hS : Add (fun i => listed.getD i false = true) i = fun i' => (listed.setIfInBounds i true).getD i' false = true := by
          funext i'
          simp only [eq_iff_iff, Add]
          by_cases hii : i' = i
          · subst hii; simp [getD_set_self h3]
          · rw [getD_set_ne false (fun h => hii h.symm)]; simp [hii]
        rw [hS] at I'
        exact ihf _ J' tm' ρ' a' w' (by have := left_set h1 h2 h3; omega) (by simpa using hsz) I'


theorem drawF_sound (ok : CtxOK P c) (hor : OrcOk P c orc) (hih : IHok P ih) {id : Nat} {ops : Array Oper} {s s' : St} {x : AX} {m : Nat} (hm : drawOk ops.toList = some m)
    (e : drawF c orc rd.isSome ih ops.toList (befores ops.toList []) m m 0 ops.toList s = some (.done x s')) : SimC P rd (.region id ops true) s x s' := by
  intro ρ D w a k hl
  have hmle : m ≤ ops.toList.length := by
    unfold drawOk at hm
    cases hc : (rowsOk ops.toList (befores ops.toList []) 0 ops.toList && (!(Region.departs ops.toList.toArray) || (witOk ops.toList (Region.linearise .gc ops.toList.toArray 0) [] && hasAll (Region.linearise .gc ops.toList.toArray 0) ops.toList.length))) with
    | false => simp only [hc, cond_false] at hm; cases hm
    | true =>
      simp only [hc, cond_true, Option.some.injEq] at hm
      rw [← hm]; exact tailFrom_le _ _
  obtain ⟨st, h0, h1, h2, h3⟩ := trace (rd := rd) ok hor hih (ops := ops) m 0 ops.toList s e (by simp) hmle k hl
  simp only [Nat.zero_add] at h1 h3
  subst h0
  let w1 : World := { w with drawn := w.drawn + 1 }
  have k1 : StR ρ D (st 0) a w1 := ⟨k.tm, k.dfr, k.dfrIn, k.hr.of_heap rfl⟩
  have B : Base P c orc rd ih ops m st ρ D a w1 := ⟨ok, hor, hih, hm, h1, k1, h2, hl⟩
  have mv0 : Mv ρ D (st 0).heap w ρ (st 0).heap w1 := Mv.of_heap rfl rfl rfl rfl
  refine wpIn_mono (Q := Ends ρ D (st 0) w1 x s') (wpIn_region_draw fun t => ?_) ?_
  · refine schedule_comes _ ops t (fun l => wpOpsIn (Fx (rd.map ρ.blk)) 0 P ops (Ends ρ D (st 0) w1 x s') l a w1) fun md hmd t => ?_
    refine wpAnyIn_sound ops.size t _ a w1 ?_
    have hS : ∀ j, ¬ ((Array.replicate ops.size false).getD j false = true) := fun j h => by
      simp only [Array.getD_eq_getD_getElem?, Array.getElem?_replicate] at h
      split at h <;> simp at h
    refine any_sound B hmd h3 ops.size _ 0 (st 0).tm ρ a w1 ?_ (by simp) (Inv.start B hS)
    unfold left
    have : ∀ (l : Array Bool) n, cnt l n ≤ n := fun l n => by
      induction n with
      | zero => exact Nat.le_refl _
      | succ n ih => simp only [cnt]; split <;> omega
    exact this _ _
  · rintro ex a' w' ⟨ρ', mv, k', rfl, hx⟩
    refine ⟨ρ', Mv.trans k.hr.lt mv0 (by rw [Dx_self]; exact mv), k', rfl, hx⟩

end
end Go.Sim
