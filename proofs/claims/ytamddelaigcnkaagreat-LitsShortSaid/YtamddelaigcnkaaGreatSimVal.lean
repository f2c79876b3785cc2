/- Objects, an abstract heap, and what it means that a world holds it. -/
import Derived.Test.YtamddelaigcnkaaGreatSimCs
namespace Go.Sim

/-- Is it the value of one cell? -/
def V.one : V → Bool
  | .agg _ => false
  | .tuple _ => false
  | _ => true

/-- Temporaries: a table; what is not there is nothing. -/
def undefV : V := .tuple []
abbrev Tm : Type := Tb V
def getV (tm : Tm) (t : Nat) : V := Tb.get undefV tm t
theorem undefV_conc (ρ : Env) : undefV.conc ρ = undef := by simp [undefV, V.conc, V.concL, undef]
theorem undefV_In (D : Nat → Prop) : undefV.In D := by simp [undefV, V.In, V.InL]

structure TmR (ρ : Env) (D : Nat → Prop) (n : Nat) (tm : Tm) (a : Array Value) : Prop where
  size : a.size = n
  cap : n ≤ Tb.top
  val : ∀ t, a.getD t undef = (getV tm t).conc ρ
  inn : ∀ t, (getV tm t).In D

structure Ent where
  key : V
  val : V
  born : Nat

def Ent.conc (ρ : Env) (e : Ent) : MapEntry := { key := e.key.conc ρ, val := e.val.conc ρ, born := e.born }

/-- Of a row: the cells of an element (where the end is open), its elements' type and one (or 0: not known), and the place from which on nothing is frozen. -/
structure Rk where
  n : Nat
  ty : Nat
  fz : Nat

/-- Objects: a row of cells (of such elements; may it be written; is its end open) · a map · a loop's record · the block for a loop's deferred calls · a walk over a map, a string. -/
inductive O where
  | cells (l : Cs) (esz : Rk) (wr op : Bool)
  | map (es : List Ent) (clock : Nat)
  | loop (st : LoopState) (pending : Option Code) (n : Nat) (tm : Tm) (params : Array Tmp) (assign body : Code) (dfr : Nat)
  | deferred (there : Bool)
  | strIter (l : List UInt8) (pos : Nat)
  | mapIter (m : Option Nat) (since : Nat) (seen : List Nat) (stepped : Nat)

def O.wr : O → Bool
  | .cells _ _ w _ => w
  | _ => true

structure H where
  tbl : T O
  next : Nat
  low : Nat

def H.get (h : H) (id : Nat) : Option O := h.tbl.get id

def ORel (ρ : Env) (D : Nat → Prop) (b : Nat) : O → Option Obj → Prop
  | .cells l esz wr op, x => ∃ c e fz, x = some (.cells c e fz) ∧ (∀ i v, l.get? i = some v → c[ρ.off b + i]? = some (v.conc ρ)) ∧ (∀ i v, l.get? i = some v → v.In D) ∧
      (wr = true → ρ.off b = 0 ∧ (∀ i, i < c.size → esz.fz ≤ i → ¬ (fz.1 ≤ i ∧ i < fz.2)) ∧ l.len ≤ c.size ∧ c.size = (if op then ρ.cap b * esz.n else l.len) ∧
        ∀ t, esz.ty = t + 1 → e = t ∧ (fz.1 = fz.2 ∨ (fz.1 = 0 ∧ fz.2 ≤ esz.fz)))
  | .map es clock, x => x = some (.map (es.map (Ent.conc ρ)).toArray clock) ∧ ∀ e ∈ es, e.key.In D ∧ e.val.In D
  | .loop st pending n tm params assign body dfr, x => ∃ fn tmps, x = some (.loop { state := st, pending, fn, tmps, params, assign, body, defers := ρ.blk dfr }) ∧ TmR ρ D n tm tmps ∧ D dfr
  | .deferred there, x => x = some (.deferred (if there then some [] else none))
  | .strIter l pos, x => x = some (.stringIter ⟨l.toArray⟩ pos)
  | .mapIter m since seen stepped, x => x = some (.mapIter (m.map ρ.blk) since seen.toArray stepped) ∧ ∀ r, m = some r → D r

structure HR (ρ : Env) (D : Nat → Prop) (h : H) (w : World) : Prop where
  cap : h.next ≤ T.top
  lt : ∀ id, D id → id < h.next
  rel : ∀ id o, D id → h.get id = some o → ORel ρ D id o w.heap[ρ.blk id]?
  inj : ∀ i j oi oj, D i → D j → h.get i = some oi → h.get j = some oj → oi.wr = true → ρ.blk i = ρ.blk j → i = j

/-- The blocks known behind a step. -/
def Dx (D : Nat → Prop) (h h' : H) : Nat → Prop := fun id => D id ∨ (h.next ≤ id ∧ id < h'.next)

structure Mv (ρ : Env) (D : Nat → Prop) (h : H) (w : World) (ρ' : Env) (h' : H) (w' : World) : Prop where
  next : h.next ≤ h'.next
  size : w.heap.size ≤ w'.heap.size
  os : w'.os = w.os
  tape : w'.tape = w.tape
  output : w'.output = w.output
  agree : Agree D ρ ρ'
  old : ∀ id o', id < h.next → h'.get id = some o' → ∃ o, h.get id = some o ∧ o'.wr = o.wr
  img : ∀ id o', h.next ≤ id → id < h'.next → h'.get id = some o' → o'.wr = true ∧
    (w.heap.size ≤ ρ'.blk id ∨ ∃ j o, D j ∧ h.get j = some o ∧ o.wr = true ∧ ρ.blk j = ρ'.blk id ∧ h'.get j = none)
  frame : ∀ r, r < w.heap.size → (∀ j o, D j → h.get j = some o → o.wr = true → ρ.blk j ≠ r) → w'.heap[r]? = w.heap[r]?
  low : h'.low ≤ h.low
  kept : ∀ id, id < h.next → id < h'.low → h'.get id = h.get id

theorem Dx_sub {D : Nat → Prop} {h h' : H} : ∀ id, D id → Dx D h h' id := fun _ => .inl
theorem Dx_self {D : Nat → Prop} {h : H} : Dx D h h = D := by
  funext id; simp only [Dx, eq_iff_iff]; constructor
  · rintro (h1 | h1)
    · exact h1
    · omega
  · exact .inl
theorem Dx_next {D : Nat → Prop} {h h' : H} (e : h'.next = h.next) : Dx D h h' = D := by
  funext id; simp only [Dx, eq_iff_iff]; constructor
  · rintro (h1 | h1)
    · exact h1
    · omega
  · exact .inl
theorem Dx_trans {D : Nat → Prop} {h h1 h2 : H} (a : h.next ≤ h1.next) (b : h1.next ≤ h2.next) : Dx (Dx D h h1) h1 h2 = Dx D h h2 := by
  funext id; simp only [Dx, eq_iff_iff]; constructor
  · rintro ((c | c) | c)
    · exact .inl c
    · exact .inr (by omega)
    · exact .inr (by omega)
  · rintro (c | c)
    · exact .inl (.inl c)
    · by_cases e : id < h1.next
      · exact .inl (.inr (by omega))
      · exact .inr (by omega)

theorem Mv.refl (ρ : Env) (D : Nat → Prop) (h : H) (w : World) : Mv ρ D h w ρ h w :=
  ⟨Nat.le_refl _, Nat.le_refl _, rfl, rfl, rfl, Agree.refl _ _, fun _ o' _ e => ⟨o', e, rfl⟩, fun _ _ a b => by omega, fun _ _ _ => rfl, Nat.le_refl _, fun _ _ _ => rfl⟩

theorem Mv.trans {ρ ρ1 ρ2 : Env} {D : Nat → Prop} {h h1 h2 : H} {w w1 w2 : World} (hD : ∀ id, D id → id < h.next)
    (a : Mv ρ D h w ρ1 h1 w1) (b : Mv ρ1 (Dx D h h1) h1 w1 ρ2 h2 w2) : Mv ρ D h w ρ2 h2 w2 where
  next := Nat.le_trans a.next b.next
  size := Nat.le_trans a.size b.size
  os := b.os.trans a.os
  tape := b.tape.trans a.tape
  output := b.output.trans a.output
  agree := fun id hid => by
    obtain ⟨x1, x2, x3⟩ := a.agree id hid
    obtain ⟨y1, y2, y3⟩ := b.agree id (.inl hid)
    exact ⟨y1.trans x1, y2.trans x2, y3.trans x3⟩
  old := fun id o' hlt he => by
    obtain ⟨o1, he1, e1⟩ := b.old id o' (Nat.lt_of_lt_of_le hlt a.next) he
    obtain ⟨o, he2, e2⟩ := a.old id o1 hlt he1
    exact ⟨o, he2, e1.trans e2⟩
  img := fun id o' h0 h2' he => by
    have dead : ∀ k, k < h.next → h1.get k = none → h2.get k = none := fun k hk hn => by
      cases hc : h2.get k with
      | none => rfl
      | some o => obtain ⟨o1, he1, _⟩ := b.old k o (Nat.lt_of_lt_of_le hk a.next) hc; rw [hn] at he1; cases he1
    by_cases hid : id < h1.next
    · obtain ⟨o1, he1, e1⟩ := b.old id o' hid he
      obtain ⟨hw, hi⟩ := a.img id o1 h0 hid he1
      have hag := (b.agree id (.inr ⟨h0, hid⟩)).1
      refine ⟨e1.trans hw, ?_⟩
      rcases hi with hi | ⟨j, o, d1, d2, d3, d4, d5⟩
      · exact .inl (by rw [hag]; exact hi)
      · exact .inr ⟨j, o, d1, d2, d3, by rw [hag]; exact d4, dead j (hD j d1) d5⟩
    · obtain ⟨hw, hi⟩ := b.img id o' (by omega) h2' he
      refine ⟨hw, ?_⟩
      rcases hi with hi | ⟨j, o, d1, d2, d3, d4, d5⟩
      · exact .inl (Nat.le_trans a.size hi)
      · rcases d1 with d1 | d1
        · obtain ⟨o0, g1, g2⟩ := a.old j o (hD j d1) d2
          exact .inr ⟨j, o0, d1, g1, g2.symm.trans d3, by rw [← d4]; exact (a.agree j d1).1.symm, d5⟩
        · obtain ⟨_, hj⟩ := a.img j o d1.1 d1.2 d2
          rcases hj with hj | ⟨k, ok, k1, k2, k3, k4, k5⟩
          · exact .inl (by rw [← d4]; exact hj)
          · exact .inr ⟨k, ok, k1, k2, k3, k4.trans d4, dead k (hD k k1) k5⟩
  frame := fun r hr hno => by
    rw [b.frame r (Nat.lt_of_lt_of_le hr a.size) ?_, a.frame r hr hno]
    intro j o d1 d2 d3
    rcases d1 with d1 | d1
    · obtain ⟨o0, g1, g2⟩ := a.old j o (hD j d1) d2
      rw [(a.agree j d1).1]
      exact hno j o0 d1 g1 (g2.symm.trans d3)
    · obtain ⟨_, hj⟩ := a.img j o d1.1 d1.2 d2
      rcases hj with hj | ⟨k, ok, k1, k2, k3, k4, _⟩
      · omega
      · rw [← k4]; exact hno k ok k1 k2 k3
  low := Nat.le_trans b.low a.low
  kept := fun id h0 hl => (b.kept id (Nat.lt_of_lt_of_le h0 a.next) hl).trans (a.kept id h0 (Nat.lt_of_lt_of_le hl b.low))

/-- A world that drew an answer holds what it held. -/
theorem HR.of_heap {ρ : Env} {D : Nat → Prop} {h : H} {w w' : World} (r : HR ρ D h w) (e : w'.heap = w.heap) : HR ρ D h w' :=
  ⟨r.cap, r.lt, by rw [e]; exact r.rel, r.inj⟩
theorem Mv.of_heap {ρ : Env} {D : Nat → Prop} {h : H} {w w' : World} (e : w'.heap = w.heap) (e1 : w'.os = w.os) (e2 : w'.tape = w.tape) (e3 : w'.output = w.output) : Mv ρ D h w ρ h w' :=
  ⟨Nat.le_refl _, by rw [e]; exact Nat.le_refl _, e1, e2, e3, Agree.refl _ _, fun _ o' _ e => ⟨o', e, rfl⟩, fun _ _ a b => by omega, fun r _ _ => by rw [e], Nat.le_refl _, fun _ _ _ => rfl⟩

end Go.Sim
