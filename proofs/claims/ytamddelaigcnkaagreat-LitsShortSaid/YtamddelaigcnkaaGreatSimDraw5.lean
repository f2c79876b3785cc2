/- A region whose order is open: what holds after some of its operations. -/
import Derived.Test.YtamddelaigcnkaaGreatSimDraw4
namespace Go.Sim

section
variable {P : Program} {c : Ctx} {orc : Nat → List V → H → Option (V × H)} {rd : Option Nat} {ih : Bool → Code → St → Option Out}
variable {ops : Array Oper} {m : Nat} {st : Nat → St} {ρ0 : Env} {D0 : Nat → Prop} {a0 : Act} {w0 : World}

def Add (S : Nat → Prop) (k : Nat) : Nat → Prop := fun j => S j ∨ j = k

structure Inv (ops : Array Oper) (m : Nat) (st : Nat → St) (ρ0 : Env) (D0 : Nat → Prop) (w0 : World) (S : Nat → Prop) (J : Nat) (tm : Tm) (ρ : Env) (a : Act) (w : World) : Prop where
  lt : ∀ j, S j → j < J
  le : J ≤ m
  closed : Closed ops.toList S
  nst : ∀ i, i < m → ¬ Quiet (st i) (st (i + 1)) → (S i ↔ i < J)
  tmv : TmOK ops st S tm
  tmR : TmR ρ (DS D0 st S) (st 0).n tm a.tmps
  dfr : a.defers = (st 0).dfr.map (AD.conc ρ)
  hr : HR ρ (DS D0 st S) (st J).heap w
  size : w0.heap.size ≤ w.heap.size
  os : w.os = w0.os
  tape : w.tape = w0.tape
  output : w.output = w0.output
  agree : Agree D0 ρ0 ρ
  img : ∀ id o', DS D0 st S id → (st 0).heap.next ≤ id → (st J).heap.get id = some o' → w0.heap.size ≤ ρ.blk id ∨
    ∃ j o, D0 j ∧ (st 0).heap.get j = some o ∧ o.wr = true ∧ ρ0.blk j = ρ.blk id ∧ (st J).heap.get j = none
  frame : ∀ r, r < w0.heap.size → (∀ j o, D0 j → (st 0).heap.get j = some o → o.wr = true → ρ0.blk j ≠ r) → w.heap[r]? = w0.heap[r]?

variable (B : Base P c orc rd ih ops m st ρ0 D0 a0 w0)
include B

theorem Base.looks {S : Nat → Prop} {tm : Tm} (hc : Closed ops.toList S) (_ : ∀ j, S j → j < m) (ht : TmOK ops st S tm) {k : Nat} {o : Oper} (hk : k < m) (hn : ¬ S k) (ho : ops[k]? = some o)
    (he : ∀ e ∈ o.after, edgeOk e = true → S e.on) : ∀ t, t ∈ tmpsOf ops.toList o → getV tm t = getV (st k).tm t := by
  intro t hm
  have hb := before_in hc k o (by simpa using ho) he
  rcases ht t with ⟨j, oj, hj, hoj, hd, hmax, hv⟩ | ⟨hno, hv⟩
  · rw [hv]
    rcases Nat.lt_trichotomy j k with g | g | g
    · refine (B.tm_range (p := j + 1) g (by omega) fun i oi h1 h2 hoi hdi => ?_).symm
      rcases B.apart h2 hoi ho with h3 | ⟨h3, _⟩
      · have := hmax i oi (hb i h3) hoi hdi; omega
      · exact (h3 t hdi).1 hm
    · subst g; exact absurd hj hn
    · rcases B.apart g ho hoj with h3 | ⟨_, h3⟩
      · exact absurd (hc.bit hj h3) hn
      · exact absurd hm (h3 t hd)
  · rw [hv]
    refine (B.tm_range (Nat.zero_le _) (by omega) fun i oi _ h2 hoi hdi => ?_).symm
    rcases B.apart h2 hoi ho with h3 | ⟨h3, _⟩
    · exact hno i oi (hb i h3) hoi hdi
    · exact (h3 t hdi).1 hm

theorem Base.tm_add {S : Nat → Prop} {tm : Tm} (hc : Closed ops.toList S) (ht : TmOK ops st S tm) {k : Nat} {o : Oper} (hn : ¬ S k) (ho : ops[k]? = some o)
    {v : V} (hv : (st (k + 1)).tm = putT (st k).tm o.dst v) (hd : ∀ t, o.dst = some t → t < (st 0).n) : TmOK ops st (Add S k) (putT tm o.dst v) := by
  intro t
  by_cases hdt : o.dst = some t
  · have htop : t < Tb.top := Nat.lt_of_lt_of_le (hd t hdt) B.k0.tm.cap
    refine .inl ⟨k, o, .inr rfl, ho, hdt, fun j' o' hj' ho' hd' => ?_, ?_⟩
    · rcases hj' with hj' | rfl
      · rcases Nat.lt_or_ge k j' with g | g
        · rcases B.apart g ho ho' with h3 | ⟨h3, _⟩
          · exact absurd (hc.bit hj' h3) hn
          · exact absurd hd' (h3 t hdt).2
        · exact g
      · exact Nat.le_refl _
    · rw [hv, hdt]
      simp only [putT]
      rw [getV_set _ _ _ _ htop, getV_set _ _ _ _ htop, if_pos rfl, if_pos rfl]
  · have hg : getV (putT tm o.dst v) t = getV tm t := by
      cases hd' : o.dst with
      | none => rfl
      | some d =>
        simp only [putT]
        rw [getV_set _ _ _ _ (Nat.lt_of_lt_of_le (hd d hd') B.k0.tm.cap), if_neg (fun e => hdt (by rw [hd', e]))]
    rw [hg]
    rcases ht t with ⟨j, oj, hj, hoj, hd, hmax, hv⟩ | ⟨hno, hv⟩
    · refine .inl ⟨j, oj, .inl hj, hoj, hd, fun j' o' hj' ho' hd' => ?_, hv⟩
      rcases hj' with hj' | rfl
      · exact hmax j' o' hj' ho' hd'
      · rw [ho] at ho'; cases ho'; exact absurd hd' hdt
    · refine .inr ⟨fun j' o' hj' ho' hd' => ?_, hv⟩
      rcases hj' with hj' | rfl
      · exact hno j' o' hj' ho' hd'
      · rw [ho] at ho'; cases ho'; exact absurd hd' hdt

theorem Inv.combine {S : Nat → Prop} {J : Nat} {tm : Tm} {ρ : Env} {a : Act} {w : World} (I : Inv ops m st ρ0 D0 w0 S J tm ρ a w) {k : Nat} {o : Oper} (hk : k < m) (hn : ¬ S k) (ho : ops[k]? = some o)
    (he : ∀ e ∈ o.after, edgeOk e = true → S e.on) {J' : Nat} (hJ' : J' = max J (k + 1)) {g g1 : H} {D' : Nat → Prop} {ρ' : Env} {w' : World} {v : V}
    (hD' : ∀ id, D' id → DS D0 st S id) (_ : ∀ id, D0 id → D' id) (mv : Mv ρ D' g w ρ' g1 w') (hr' : HR ρ' (Dx D' g g1) g1 w') (hv : v.In (Dx D' g g1)) (hlt : ∀ id, D' id → id < g.next)
    (ha : ∀ id, Dx D' g g1 id → (st J').heap.get id = g1.get id)
    (hb : ∀ id, DS D0 st S id → ¬ D' id → g1.next ≤ id ∧ (st J').heap.get id = (st J).heap.get id)
    (hc : ∀ id, DS D0 st (Add S k) id ↔ DS D0 st S id ∨ (g.next ≤ id ∧ id < g1.next))
    (he' : ∀ id, D' id → (st J).heap.get id = g.get id)
    (hf : (∀ id, DS D0 st S id → D' id) ∨ ∀ id o', g.next ≤ id → id < g1.next → g1.get id = some o' → w.heap.size ≤ ρ'.blk id)
    (htm : (st (k + 1)).tm = putT (st k).tm o.dst v) (hdst : ∀ t, o.dst = some t → t < (st 0).n)
    (hnst : ∀ i, J ≤ i → i < k → Quiet (st i) (st (i + 1))) :
    Inv ops m st ρ0 D0 w0 (Add S k) J' (putT tm o.dst v) (Env.mix g1.next ρ' ρ) (a.put o.dst (v.conc ρ')) w' := by
  have hJm : J' ≤ m := by have := I.le; omega
  have hmix1 : ∀ id, id < g1.next → (Env.mix g1.next ρ' ρ).blk id = ρ'.blk id := fun id h => by simp only [Env.mix, if_pos h]
  have hmix2 : ∀ id, g1.next ≤ id → (Env.mix g1.next ρ' ρ).blk id = ρ.blk id := fun id h => by simp only [Env.mix]; rw [if_neg (by omega)]
  have ag1 : Agree (Dx D' g g1) ρ' (Env.mix g1.next ρ' ρ) := fun id hd => by
    have := hr'.lt id hd
    simp only [Env.mix, if_pos this]; exact ⟨trivial, trivial, trivial⟩
  have ag2 : Agree (DS D0 st S) ρ (Env.mix g1.next ρ' ρ) := fun id hd => by
    by_cases hd' : D' id
    · have h1 := ag1 id (.inl hd')
      have h2 := mv.agree id hd'
      exact ⟨h1.1.trans h2.1, h1.2.1.trans h2.2.1, h1.2.2.trans h2.2.2⟩
    · have h1 := (hb id hd hd').1
      simp only [Env.mix]
      rw [if_neg (by omega), if_neg (by omega), if_neg (by omega)]; exact ⟨rfl, rfl, rfl⟩
  have sub2 : ∀ id, DS D0 st S id → DS D0 st (Add S k) id := fun id h => (hc id).2 (.inl h)
  have sub1 : ∀ id, Dx D' g g1 id → DS D0 st (Add S k) id := fun id h => h.elim (fun h => sub2 id (hD' id h)) fun h => (hc id).2 (.inr h)
  have hDlt : ∀ id, DS D0 st (Add S k) id → id < (st J').heap.next := by
    rintro id (h | ⟨j, hj, h1, h2⟩)
    · exact Nat.lt_of_lt_of_le (B.k0.hr.lt id h) (B.next_mono (Nat.zero_le _) hJm)
    · have hjJ : j + 1 ≤ J' := by
        rcases hj with hj | rfl
        · have := I.lt j hj; omega
        · omega
      exact Nat.lt_of_lt_of_le h2 (B.next_mono hjJ hJm)
  -- what a block outside holds
  have out : ∀ id o', DS D0 st S id → ¬ D' id → (st J').heap.get id = some o' → (st J).heap.get id = some o' ∧ g1.next ≤ id ∧ ρ.blk id < w.heap.size ∧ w'.heap[ρ.blk id]? = w.heap[ρ.blk id]? := by
    intro id o' h1 h2 h3
    obtain ⟨h4, h5⟩ := hb id h1 h2
    rw [h5] at h3
    have h6 := I.hr.lt_size h1 h3
    refine ⟨h3, h4, h6, mv.frame _ h6 fun j oj hj hgj hwj e => ?_⟩
    have hj2 := hD' j hj
    have := I.hr.inj j id oj o' hj2 h1 (by rw [he' j hj]; exact hgj) h3 hwj e
    subst this
    exact h2 hj
  refine
    { lt := fun j hj => ?_, le := hJm, closed := ?_, nst := fun i hi hq => ?_, tmv := B.tm_add I.closed I.tmv hn ho htm hdst, tmR := ?_, dfr := ?_, hr := ?_
      size := Nat.le_trans I.size mv.size, os := mv.os.trans I.os, tape := mv.tape.trans I.tape, output := mv.output.trans I.output, agree := fun id hd => ?_, img := ?_, frame := ?_ }
  · rcases hj with hj | rfl
    · have := I.lt j hj; omega
    · omega
  · intro j oj hj hoj e hm hke
    rcases hj with hj | rfl
    · exact .inl (I.closed j oj hj hoj e hm hke)
    · have : oj = o := by
        have h1 : ops[j]? = some oj := by simpa using hoj
        rw [ho] at h1; cases h1; rfl
      subst this
      exact .inl (he e hm hke)
  · constructor
    · rintro (hj | rfl)
      · have := I.lt i hj; omega
      · omega
    · intro hiJ
      rcases Nat.lt_or_ge i J with g' | g'
      · exact .inl ((I.nst i hi hq).2 g')
      · rcases Nat.lt_or_ge i k with g2 | g2
        · exact absurd (hnst i g' g2) hq
        · exact .inr (by omega)
  · have h1 : TmR (Env.mix g1.next ρ' ρ) (DS D0 st (Add S k)) (st 0).n tm a.tmps := I.tmR.agree sub2 ag2
    have hvc : v.conc ρ' = v.conc (Env.mix g1.next ρ' ρ) := (V.conc_agree ag1 v hv).symm
    rw [hvc]
    cases hd : o.dst with
    | none => exact h1
    | some t => exact h1.put (hdst t hd) (V.In_mono sub1 v hv)
  · have : (a.put o.dst (v.conc ρ')).defers = a.defers := by cases o.dst <;> rfl
    rw [this, I.dfr]
    exact (dfr_agree (fun id hd => ag2 id (.inl hd)) B.k0.dfrIn).symm
  · refine ⟨B.cap hJm, hDlt, fun id o' hd hg => ?_, fun i j oi oj hi hj hgi hgj hwi hij => ?_⟩
    · by_cases hx : Dx D' g g1 id
      · rw [ha id hx] at hg
        rw [(ag1 id hx).1]
        exact (hr'.rel id o' hx hg).agree hx sub1 ag1
      · have hS : DS D0 st S id := ((hc id).1 hd).elim (fun h => h) fun h => absurd (.inr h) hx
        obtain ⟨h3, h4, _, h6⟩ := out id o' hS (fun h => hx (.inl h)) hg
        rw [(ag2 id hS).1, h6]
        exact (I.hr.rel id o' hS h3).agree hS sub2 ag2
    · by_cases hxi : Dx D' g g1 i
      · rw [(ag1 i hxi).1] at hij
        by_cases hxj : Dx D' g g1 j
        · rw [(ag1 j hxj).1] at hij
          exact hr'.inj i j oi oj hxi hxj (by rw [← ha i hxi]; exact hgi) (by rw [← ha j hxj]; exact hgj) hwi hij
        · exfalso
          have hSj : DS D0 st S j := ((hc j).1 hj).elim (fun h => h) fun h => absurd (.inr h) hxj
          obtain ⟨h3, h4, h5, _⟩ := out j oj hSj (fun h => hxj (.inl h)) hgj
          rw [(ag2 j hSj).1] at hij
          rcases hxi with hxi | hxi
          · rw [(mv.agree i hxi).1] at hij
            have hgi' : g1.get i = some oi := by rw [← ha i (.inl hxi)]; exact hgi
            obtain ⟨o2, h7, h8⟩ := mv.old i oi (hlt i hxi) hgi'
            have := I.hr.inj i j o2 oj (hD' i hxi) hSj (by rw [he' i hxi]; exact h7) h3 (by rw [← h8]; exact hwi) hij
            subst this
            exact hxj (.inl hxi)
          · rcases hf with hf | hf
            · exact hxj (.inl (hf j hSj))
            · have := hf i oi hxi.1 hxi.2 (by rw [← ha i (.inr hxi)]; exact hgi)
              omega
      · have hSi : DS D0 st S i := ((hc i).1 hi).elim (fun h => h) fun h => absurd (.inr h) hxi
        obtain ⟨h3, h4, h5, _⟩ := out i oi hSi (fun h => hxi (.inl h)) hgi
        rw [(ag2 i hSi).1] at hij
        by_cases hxj : Dx D' g g1 j
        · exfalso
          rw [(ag1 j hxj).1] at hij
          rcases hxj with hxj | hxj
          · rw [(mv.agree j hxj).1] at hij
            have hgj' : g1.get j = some oj := by rw [← ha j (.inl hxj)]; exact hgj
            obtain ⟨o2, h7, h8⟩ := mv.old j oj (hlt j hxj) hgj'
            have := I.hr.inj i j oi o2 hSi (hD' j hxj) h3 (by rw [he' j hxj]; exact h7) hwi hij
            subst this
            exact hxi (.inl hxj)
          · rcases hf with hf | hf
            · exact hxi (.inl (hf i hSi))
            · have := hf j oj hxj.1 hxj.2 (by rw [← ha j (.inr hxj)]; exact hgj)
              omega
        · have hSj : DS D0 st S j := ((hc j).1 hj).elim (fun h => h) fun h => absurd (.inr h) hxj
          obtain ⟨h3', _⟩ := out j oj hSj (fun h => hxj (.inl h)) hgj
          rw [(ag2 j hSj).1] at hij
          exact I.hr.inj i j oi oj hSi hSj h3 h3' hwi hij
  · have h1 := I.agree id hd
    have h2 := ag2 id (.inl hd)
    exact ⟨h2.1.trans h1.1, h2.2.1.trans h1.2.1, h2.2.2.trans h1.2.2⟩
  · intro id o' hd h0 hg
    have hJJ : J ≤ J' := by omega
    have dead : ∀ j, D0 j → (st J).heap.get j = none → (st J').heap.get j = none := fun j hj hn => by
      cases hg' : (st J').heap.get j with
      | none => rfl
      | some q =>
        obtain ⟨q2, h7, _⟩ := B.old_range hJJ hJm (I.hr.lt j (.inl hj)) hg'
        rw [hn] at h7; cases h7
    rcases (hc id).1 hd with hS | hfr
    · rw [(ag2 id hS).1]
      have hold : ∃ o2, (st J).heap.get id = some o2 := by
        by_cases hd' : D' id
        · rw [ha id (.inl hd')] at hg
          obtain ⟨o2, h7, _⟩ := mv.old id o' (hlt id hd') hg
          exact ⟨o2, by rw [he' id hd']; exact h7⟩
        · exact ⟨o', (out id o' hS hd' hg).1⟩
      obtain ⟨o2, h7⟩ := hold
      exact (I.img id o2 hS h0 h7).imp (fun h => h) fun ⟨j, o, d1, d2, d3, d4, d5⟩ => ⟨j, o, d1, d2, d3, d4, dead j d1 d5⟩
    · rw [hmix1 id hfr.2]
      rcases (mv.img id o' hfr.1 hfr.2 (by rw [← ha id (.inr hfr)]; exact hg)).2 with h1 | ⟨j, oj, d1, d2, d3, d4, d5⟩
      · exact .inl (Nat.le_trans I.size h1)
      · have hgJ : (st J).heap.get j = some oj := by rw [he' j d1]; exact d2
        have hjn : (st J').heap.get j = none := by rw [ha j (.inl d1)]; exact d5
        have hS := hD' j d1
        have hcase : D0 j ∨ (st 0).heap.next ≤ j := by
          rcases hS with h | ⟨i, hi, h1, _⟩
          · exact .inl h
          · have h2 := I.lt i hi
            have h3 := I.le
            exact .inr (Nat.le_trans (B.next_mono (Nat.zero_le _) (by omega)) h1)
        rcases hcase with hcase | hcase
        · obtain ⟨o2, h7, h8⟩ := B.old_range (Nat.zero_le _) I.le (B.k0.hr.lt j hcase) hgJ
          exact .inr ⟨j, o2, hcase, h7, by rw [← h8]; exact d3, by rw [← d4]; exact (I.agree j hcase).1.symm, hjn⟩
        · rcases I.img j oj hS hcase hgJ with h1 | ⟨j0, o0, e1, e2, e3, e4, e5⟩
          · exact .inl (by rw [← d4]; exact h1)
          · exact .inr ⟨j0, o0, e1, e2, e3, e4.trans d4, dead j0 e1 e5⟩
  · intro r hrl hr0
    rw [mv.frame r (Nat.lt_of_lt_of_le hrl I.size) fun j oj hj hgj hwj e => ?_]
    · exact I.frame r hrl hr0
    · have hgJ : (st J).heap.get j = some oj := by rw [he' j hj]; exact hgj
      have hS := hD' j hj
      have hcase : D0 j ∨ (st 0).heap.next ≤ j := by
        rcases hS with h | ⟨i, hi, h1, _⟩
        · exact .inl h
        · have h2 := I.lt i hi
          have h3 := I.le
          exact .inr (Nat.le_trans (B.next_mono (Nat.zero_le _) (by omega)) h1)
      rcases hcase with hcase | hcase
      · obtain ⟨o2, h7, h8⟩ := B.old_range (Nat.zero_le _) I.le (B.k0.hr.lt j hcase) hgJ
        exact hr0 j o2 hcase h7 (by rw [← h8]; exact hwj) (by rw [← (I.agree j hcase).1]; exact e)
      · rcases I.img j oj hS hcase hgJ with h1 | ⟨j0, o0, e1, e2, e3, e4, _⟩
        · omega
        · exact hr0 j0 o0 e1 e2 e3 (e4.trans e)

end
end Go.Sim
