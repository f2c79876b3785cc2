/- The abstract heap's two moves, a new block and a block turned, and the world's moves that go with them. -/
import Derived.Test.YtamddelaigcnkaaGreatSimVal
namespace Go.Sim

def H.upd (h : H) (id : Nat) (o : Option O) : H :=
  match h with
  | ⟨t, n, l⟩ => ⟨t.set id o, n, cond (Nat.ble l id) l id⟩

def H.new (h : H) (o : O) : H :=
  match h with
  | ⟨t, n, l⟩ => ⟨t.set n (some o), n + 1, l⟩

theorem H.upd_eq (h : H) (id : Nat) (o : Option O) : h.upd id o = { tbl := h.tbl.set id o, next := h.next, low := cond (Nat.ble h.low id) h.low id } := rfl
theorem H.new_eq (h : H) (o : O) : h.new o = { tbl := h.tbl.set h.next (some o), next := h.next + 1, low := h.low } := rfl

def Env.at (ρ : Env) (id blk cap : Nat) : Env :=
  { blk := fun i => if i = id then blk else ρ.blk i
    off := fun i => if i = id then 0 else ρ.off i
    cap := fun i => if i = id then cap else ρ.cap i }

@[simp] theorem Env.at_blk (ρ : Env) (id b c : Nat) : (ρ.at id b c).blk id = b := by simp [Env.at]
@[simp] theorem Env.at_off (ρ : Env) (id b c : Nat) : (ρ.at id b c).off id = 0 := by simp [Env.at]
@[simp] theorem Env.at_cap (ρ : Env) (id b c : Nat) : (ρ.at id b c).cap id = c := by simp [Env.at]

theorem Env.at_agree {ρ : Env} {D : Nat → Prop} {id b c : Nat} (h : ¬ D id) : Agree D ρ (ρ.at id b c) := fun i hi => by
  have : i ≠ id := fun e => h (e ▸ hi)
  simp [Env.at, this]

theorem H.low_upd (h : H) (id : Nat) (o : Option O) : (h.upd id o).low = min h.low id := by
  rw [H.upd_eq]
  cases hb : Nat.ble h.low id
  · have : ¬ h.low ≤ id := fun e => by rw [Nat.ble_eq_true_of_le e] at hb; cases hb
    simp only [cond_false]; omega
  · have := Nat.le_of_ble_eq_true hb
    simp only [cond_true]; omega

theorem H.get_upd (h : H) (id j : Nat) (o : Option O) (hl : id < T.top) : (h.upd id o).get j = if j = id then o else h.get j := by
  simp [H.upd_eq, H.get, T.get_set _ _ _ _ hl]
theorem H.get_new (h : H) (j : Nat) (o : O) (hl : h.next < T.top) : (h.new o).get j = if j = h.next then some o else h.get j := by
  simp [H.new_eq, H.get, T.get_set _ _ _ _ hl]

/-- Objects under another environment that agrees. -/
theorem TmR.agree {ρ ρ' : Env} {D D' : Nat → Prop} {n : Nat} {tm : Tm} {a : Array Value} (h : TmR ρ D n tm a) (hs : ∀ id, D id → D' id) (ha : Agree D ρ ρ') : TmR ρ' D' n tm a :=
  ⟨h.size, h.cap, fun t => by rw [V.conc_agree ha _ (h.inn t)]; exact h.val t, fun t => V.In_mono hs _ (h.inn t)⟩

theorem ORel.agree {ρ ρ' : Env} {D D' : Nat → Prop} {b : Nat} {o : O} {x : Option Obj} (h : ORel ρ D b o x) (hb : D b) (hs : ∀ id, D id → D' id) (ha : Agree D ρ ρ') : ORel ρ' D' b o x := by
  cases o with
  | cells l esz wr op =>
    obtain ⟨c, e, fz, rfl, h1, h2, h3⟩ := h
    obtain ⟨_, a2, a3⟩ := ha b hb
    refine ⟨c, e, fz, rfl, fun i v hv => ?_, fun i v hv => V.In_mono hs _ (h2 i v hv), ?_⟩
    · rw [a2, V.conc_agree ha v (h2 i v hv)]; exact h1 i v hv
    · rw [a2, a3]; exact h3
  | map es clock =>
    obtain ⟨h1, h2⟩ := h
    refine ⟨?_, fun e he => ⟨V.In_mono hs _ (h2 e he).1, V.In_mono hs _ (h2 e he).2⟩⟩
    rw [h1]
    congr 2
    congr 1
    apply List.map_congr_left
    intro e he
    simp [Ent.conc, V.conc_agree ha _ (h2 e he).1, V.conc_agree ha _ (h2 e he).2]
  | loop st pending n tm params assign body dfr =>
    obtain ⟨fn, tmps, h1, h2, h3⟩ := h
    refine ⟨fn, tmps, ?_, h2.agree hs ha, hs _ h3⟩
    rw [h1, (ha dfr h3).1]
  | deferred there => exact h
  | strIter l pos => exact h
  | mapIter m since seen stepped =>
    obtain ⟨h1, h2⟩ := h
    refine ⟨?_, fun r hr => hs _ (h2 r hr)⟩
    cases m with
    | none => exact h1
    | some r => simp only [Option.map_some] at *; rw [(ha r (h2 r rfl)).1]; exact h1

theorem ORel.some {ρ : Env} {D : Nat → Prop} {b : Nat} {o : O} {x : Option Obj} (h : ORel ρ D b o x) : ∃ y, x = some y := by
  cases o with
  | cells l esz wr op => obtain ⟨c, e, fz, rfl, _⟩ := h; exact ⟨_, rfl⟩
  | map es clock => exact ⟨_, h.1⟩
  | loop st pending n tm params assign body dfr => obtain ⟨fn, tmps, h1, _⟩ := h; exact ⟨_, h1⟩
  | deferred there => exact ⟨_, h⟩
  | strIter l pos => exact ⟨_, h⟩
  | mapIter m since seen stepped => exact ⟨_, h.1⟩

theorem HR.lt_size {ρ : Env} {D : Nat → Prop} {h : H} {w : World} (r : HR ρ D h w) {id : Nat} {o : O} (hd : D id) (hg : h.get id = some o) : ρ.blk id < w.heap.size := by
  obtain ⟨y, hy⟩ := (r.rel id o hd hg).some
  rcases Nat.lt_or_ge (ρ.blk id) w.heap.size with g | g
  · exact g
  · rw [Array.getElem?_eq_none g] at hy; cases hy

/-- A block is turned. -/
theorem HR.upd {ρ : Env} {D : Nat → Prop} {h : H} {w : World} (r : HR ρ D h w) {b : Nat} {o o' : O} {x : Obj} (hd : D b) (hg : h.get b = some o) (hw : o.wr = true) (_ : o'.wr = true)
    (hx : ORel ρ D b o' (some x)) : HR ρ D (h.upd b (some o')) (w.putObj (ρ.blk b) x) where
  cap := r.cap
  lt := r.lt
  rel := fun id o1 d1 g1 => by
    have hb : b < T.top := Nat.lt_of_lt_of_le (r.lt b hd) r.cap
    rw [H.get_upd _ _ _ _ hb] at g1
    by_cases e : id = b
    · subst e
      rw [if_pos rfl] at g1; cases g1
      rw [World.putObj_heap_same (r.lt_size hd hg)]; exact hx
    · rw [if_neg e] at g1
      have hne : ρ.blk id ≠ ρ.blk b := fun hc => e (r.inj b id o o1 hd d1 hg g1 hw hc.symm).symm
      rw [World.putObj_heap_other hne]; exact r.rel id o1 d1 g1
  inj := fun i j oi oj di dj gi gj wi hij => by
    have hb : b < T.top := Nat.lt_of_lt_of_le (r.lt b hd) r.cap
    rw [H.get_upd _ _ _ _ hb] at gi gj
    by_cases ei : i = b
    · by_cases ej : j = b
      · rw [ei, ej]
      · rw [if_neg ej] at gj; subst ei; exact r.inj i j o oj hd dj hg gj hw hij
    · rw [if_neg ei] at gi
      by_cases ej : j = b
      · subst ej; exact r.inj i j oi o di dj gi hg wi hij
      · rw [if_neg ej] at gj; exact r.inj i j oi oj di dj gi gj wi hij

theorem Mv.upd {ρ : Env} {D : Nat → Prop} {h : H} {w : World} (r : HR ρ D h w) {b : Nat} {o o' : O} {x : Obj} (hd : D b) (hg : h.get b = some o) (hw : o.wr = true) (hw' : o'.wr = true) :
    Mv ρ D h w ρ (h.upd b (some o')) (w.putObj (ρ.blk b) x) where
  next := Nat.le_refl _
  size := by simp
  os := rfl
  tape := rfl
  output := rfl
  agree := Agree.refl _ _
  old := fun id o1 _ g1 => by
    have hb : b < T.top := Nat.lt_of_lt_of_le (r.lt b hd) r.cap
    rw [H.get_upd _ _ _ _ hb] at g1
    by_cases e : id = b
    · subst e; rw [if_pos rfl] at g1; cases g1; exact ⟨o, hg, hw'.trans hw.symm⟩
    · rw [if_neg e] at g1; exact ⟨o1, g1, rfl⟩
  img := fun id _ a b _ => by simp only [H.upd_eq] at b; omega
  frame := fun k _ hk => World.putObj_heap_other (fun e => hk b o hd hg hw e.symm)
  low := by rw [H.low_upd]; omega
  kept := fun id _ hl => by
    have hb : b < T.top := Nat.lt_of_lt_of_le (r.lt b hd) r.cap
    rw [H.low_upd] at hl
    rw [H.get_upd _ _ _ _ hb, if_neg (by omega)]

/-- A new block. -/
theorem HR.new {ρ : Env} {D : Nat → Prop} {h : H} {w : World} (r : HR ρ D h w) {o : O} {x : Obj} (c : Nat) (hn : h.next < T.top)
    (hx : ORel (ρ.at h.next w.heap.size c) (Dx D h (h.new o)) h.next o (some x)) : HR (ρ.at h.next w.heap.size c) (Dx D h (h.new o)) (h.new o) (w.alloc x) := by
  have hnd : ¬ D h.next := fun hd => by have := r.lt _ hd; omega
  have hag : Agree D ρ (ρ.at h.next w.heap.size c) := Env.at_agree hnd
  have hcase : ∀ id, Dx D h (h.new o) id → id = h.next ∨ (D id ∧ id ≠ h.next) := by
    rintro id (d | d)
    · exact .inr ⟨d, fun e => hnd (e ▸ d)⟩
    · simp only [H.new_eq] at d; exact .inl (by omega)
  refine ⟨by simp only [H.new_eq]; omega, ?_, ?_, ?_⟩
  · rintro id d
    rcases hcase id d with e | ⟨d, _⟩
    · simp only [H.new_eq]; omega
    · have := r.lt id d; simp only [H.new_eq]; omega
  · rintro id o1 d g1
    rw [H.get_new _ _ _ hn] at g1
    rcases hcase id d with e | ⟨d1, e⟩
    · subst e
      rw [if_pos rfl] at g1; cases g1
      rw [Env.at_blk, World.alloc_heap_new]; exact hx
    · rw [if_neg e] at g1
      have hr := r.rel id o1 d1 g1
      have hlt := r.lt_size d1 g1
      rw [(hag id d1).1, show (w.alloc x).heap[ρ.blk id]? = w.heap[ρ.blk id]? from by
        show (w.heap.push x)[ρ.blk id]? = _
        rw [Array.getElem?_push, if_neg (by omega)]]
      exact hr.agree d1 Dx_sub hag
  · rintro i j oi oj di dj gi gj wi hij
    rw [H.get_new _ _ _ hn] at gi gj
    rcases hcase i di with ei | ⟨di, ei⟩ <;> rcases hcase j dj with ej | ⟨dj, ej⟩
    · rw [ei, ej]
    · rw [if_neg ej] at gj
      have := r.lt_size dj gj
      subst ei
      rw [Env.at_blk, (hag j dj).1] at hij; omega
    · rw [if_neg ei] at gi
      have := r.lt_size di gi
      subst ej
      rw [Env.at_blk, (hag i di).1] at hij; omega
    · rw [if_neg ei] at gi; rw [if_neg ej] at gj
      rw [(hag i di).1, (hag j dj).1] at hij
      exact r.inj i j oi oj di dj gi gj wi hij

theorem Mv.new {ρ : Env} {D : Nat → Prop} {h : H} {w : World} (r : HR ρ D h w) {o : O} {x : Obj} (c : Nat) (hn : h.next < T.top) (hw : o.wr = true) :
    Mv ρ D h w (ρ.at h.next w.heap.size c) (h.new o) (w.alloc x) := by
  have hnd : ¬ D h.next := fun hd => by have := r.lt _ hd; omega
  refine ⟨by simp [H.new_eq], by simp, rfl, rfl, rfl, Env.at_agree hnd, ?_, ?_, ?_, Nat.le_refl _, ?_⟩
  · intro id o1 hlt g1
    rw [H.get_new _ _ _ hn, if_neg (by omega)] at g1; exact ⟨o1, g1, rfl⟩
  · intro id o1 h0 h1 g1
    simp only [H.new_eq] at h1
    obtain rfl : id = h.next := by omega
    rw [H.get_new _ _ _ hn, if_pos rfl] at g1; cases g1
    exact ⟨hw, .inl (by rw [Env.at_blk]; exact Nat.le_refl _)⟩
  · intro k hk _
    show (w.heap.push x)[k]? = _
    rw [Array.getElem?_push, if_neg (by omega)]
  · intro id h0 _
    rw [H.get_new _ _ _ hn, if_neg (by omega)]

/-- A value's run: it goes through, hands back the value v, and leaves the heap h'. -/
def RunV (P : Program) (s : Sem Value) (D : Nat → Prop) (h : H) (v : V) (h' : H) : Prop :=
  ∀ ρ w, HR ρ D h w → ∃ ρ' w', s.run P w = .ok (v.conc ρ') w' ∧ Mv ρ D h w ρ' h' w' ∧ HR ρ' (Dx D h h') h' w' ∧ v.In (Dx D h h')

end Go.Sim
