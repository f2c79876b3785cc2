/- The evaluator's numbers and strings are the model's. -/
import Derived.Test.YtamddelaigcnkaaGreatSimCells
import Derived.Laws.Strings
namespace Go.Sim

theorem wrap_i64 (n : Int) (h1 : -9223372036854775808 ≤ n) (h2 : n < 9223372036854775808) : IntKind.i64.wrap n = n := by
  unfold IntKind.wrap IntKind.bits IntKind.signed
  simp only [Int.reducePow, Nat.reduceSub, Bool.true_and, decide_eq_true_eq, ge_iff_le]
  split <;> omega

theorem wrap_u64 (n : Nat) : IntKind.u64.wrap (Int.ofNat n) = Int.ofNat (n % 18446744073709551616) := by
  unfold IntKind.wrap IntKind.bits IntKind.signed
  simp only [Int.reducePow, Nat.reduceSub, Bool.false_and, Bool.false_eq_true, if_false]
  rfl

theorem wrap_u8 (n : Nat) : IntKind.u8.wrap (Int.ofNat n) = Int.ofNat (n % 256) := by
  unfold IntKind.wrap IntKind.bits IntKind.signed
  simp only [Int.reducePow, Nat.reduceSub, Bool.false_and, Bool.false_eq_true, if_false]
  rfl

theorem blt_iff (a b : Nat) : Nat.blt a b = true ↔ a < b := by
  unfold Nat.blt; rw [Nat.ble_eq]; omega
theorem blt_false (a b : Nat) : Nat.blt a b = false ↔ ¬ a < b := by rw [← blt_iff, Bool.not_eq_true]
theorem ble_false (a b : Nat) : Nat.ble a b = false ↔ ¬ a ≤ b := by rw [← Nat.ble_eq, Bool.not_eq_true]
theorem not_lt_dec (a b : Int) : (!decide (a < b)) = decide (b ≤ a) := by
  rw [Bool.eq_iff_iff]; simp

set_option maxRecDepth 4000 in
theorem wrapF_eq (k : IntKind) (n : Int) : wrapF k n = k.wrap n := by
  cases k with
  | i64 =>
    cases n with
    | ofNat m =>
      simp only [wrapF]
      rcases hb : Nat.blt m 9223372036854775808 with _ | _
      · rfl
      · have h := hb
        have := (blt_iff _ _).1 h
        rw [cond_true, wrap_i64 _ (by simp only [Int.ofNat_eq_natCast]; omega) (by simp only [Int.ofNat_eq_natCast]; omega)]
    | negSucc m =>
      simp only [wrapF]
      rcases hb : Nat.blt m 9223372036854775808 with _ | _
      · exact cond_false _ _
      · have h := hb
        have := (blt_iff _ _).1 h
        rw [cond_true, wrap_i64 _ (by have := Int.negSucc_eq m; omega) (by have := Int.negSucc_eq m; omega)]
  | u64 =>
    cases n with
    | ofNat m =>
      simp only [wrapF]
      cases h : Nat.blt m 18446744073709551616
      · rw [cond_false, wrap_u64]
      · have := (blt_iff _ _).1 h
        rw [cond_true, wrap_u64, Nat.mod_eq_of_lt this]
    | negSucc m => rfl
  | u8 =>
    cases n with
    | ofNat m => simp only [wrapF]; rw [wrap_u8]
    | negSucc m => rfl
  | _ => rfl

theorem ltF_eq (a b : Int) : ltF a b = decide (a < b) := by
  cases a <;> cases b <;> simp only [ltF] <;> rw [Bool.eq_iff_iff] <;> simp <;> omega
theorem eqF_eq (a b : Int) : eqF a b = (a == b) := by
  cases a <;> cases b <;> simp only [eqF] <;> rw [Bool.eq_iff_iff] <;> simp <;> omega
theorem addF_eq (a b : Int) : addF a b = a + b := by
  cases a <;> cases b <;> simp [addF]
theorem subF_eq (a b : Int) : subF a b = a - b := by
  cases a with
  | ofNat a =>
    cases b with
    | ofNat b =>
      simp only [subF]
      cases h : Nat.ble b a
      · have := (ble_false _ _).1 h; rw [cond_false]; simp only [Int.ofNat_eq_natCast]; omega
      · have := Nat.le_of_ble_eq_true h; rw [cond_true]; simp only [Int.ofNat_eq_natCast]; omega
    | negSucc b => rfl
  | negSucc a => cases b <;> rfl
theorem mulF_eq (a b : Int) : mulF a b = a * b := by
  cases a <;> cases b <;> simp [mulF]
theorem divF_eq (a b : Int) : divF a b = a.tdiv b := by
  cases a <;> cases b <;> rfl
theorem modF_eq (a b : Int) : modF a b = a.tmod b := by
  cases a <;> cases b <;> rfl
theorem shlF_eq (a : Int) (n : Nat) : shlF a n = a * 2 ^ n := by
  cases a with
  | ofNat a => simp only [shlF, Nat.shiftLeft_eq', Nat.shiftLeft_eq]; simp
  | negSucc a => rfl
theorem shrF_eq (a : Int) (n : Nat) : shrF a n = a.fdiv (2 ^ n) := by
  cases a with
  | ofNat a =>
    have h1 : ((2 : Int) ^ n) = ((2 ^ n : Nat) : Int) := by simp
    have h2 : a.shiftRight n = a / 2 ^ n := Nat.shiftRight_eq_div_pow a n
    simp only [shrF]
    rw [h1, h2, Int.fdiv_eq_ediv_of_nonneg _ (Int.natCast_nonneg _)]
    rfl
  | negSucc a => rfl
theorem kindEq_iff (j k : IntKind) : kindEq j k = true ↔ j = k := by cases j <;> cases k <;> simp [kindEq]
theorem kindEq_false (j k : IntKind) : kindEq j k = false ↔ j ≠ k := by cases j <;> cases k <;> simp [kindEq]

theorem eqB_eq : ∀ (a b : List UInt8), eqB a b = (a == b) := by
  intro a
  induction a with
  | nil => intro b; cases b <;> rfl
  | cons x a ih =>
    intro b
    cases b with
    | nil => rfl
    | cons y b =>
      simp only [eqB, ih]
      cases h : Nat.beq x.toNat y.toNat
      · have : x ≠ y := fun e => by subst e; rw [Nat.beq_refl] at h; cases h
        simp [this]
      · have : x = y := UInt8.toNat_inj.1 (Nat.eq_of_beq_eq_true h)
        simp [this]

theorem toList_conc (l : List UInt8) : (⟨l.toArray⟩ : ByteArray).toList = l := by
  rw [ByteArray.toList_eq]
section
variable {P : Program} {w : World}

theorem binOp_int {op : BinOp} {t : TypeId} {k k' : IntKind} {m n : Int} {r : V} (hs : isShift op = true ∨ k = k') (h : intB op k m n = some r) (ρ : Env) :
    (binOp op t (.int k m) (.int k' n)).run P w = .ok (r.conc ρ) w ∧ ∀ D, r.In D := by
  cases op <;> simp only [intB, isShift, Bool.false_eq_true, false_or] at h hs
  case shl =>
    rw [ltF_eq] at h
    by_cases hn : n < 0
    · simp [hn] at h
    · simp only [hn, decide_false, cond_false, Option.some.injEq] at h
      subst h
      have hmin : (cond (n.toNat.ble k.bits) n.toNat k.bits) = min n.toNat k.bits := by
        cases hb : Nat.ble n.toNat k.bits
        · have := (ble_false _ _).1 hb; rw [cond_false]; omega
        · have := Nat.le_of_ble_eq_true hb; rw [cond_true]; omega
      refine ⟨?_, fun _ => by simp [V.In]⟩
      simp [binOp, Op.shift, hn, V.conc, wrapF_eq, shlF_eq, hmin]
  case shr =>
    rw [ltF_eq] at h
    by_cases hn : n < 0
    · simp [hn] at h
    · simp only [hn, decide_false, cond_false, Option.some.injEq] at h
      subst h
      have hmin : (cond (n.toNat.ble k.bits) n.toNat k.bits) = min n.toNat k.bits := by
        cases hb : Nat.ble n.toNat k.bits
        · have := (ble_false _ _).1 hb; rw [cond_false]; omega
        · have := Nat.le_of_ble_eq_true hb; rw [cond_true]; omega
      refine ⟨?_, fun _ => by simp [V.In]⟩
      simp [binOp, Op.shift, hn, V.conc, shrF_eq, hmin]
  case quo =>
    subst hs
    rw [eqF_eq] at h
    by_cases hn : n = 0
    · simp [hn] at h
    · have hb : (n == 0) = false := by simpa using hn
      simp only [hb, cond_false, Option.some.injEq] at h
      subst h
      exact ⟨by simp [binOp, Op.intDiv, hn, V.conc, wrapF_eq, divF_eq], fun _ => by simp [V.In]⟩
  case rem =>
    subst hs
    rw [eqF_eq] at h
    by_cases hn : n = 0
    · simp [hn] at h
    · have hb : (n == 0) = false := by simpa using hn
      simp only [hb, cond_false, Option.some.injEq] at h
      subst h
      exact ⟨by simp [binOp, Op.intDiv, hn, V.conc, modF_eq], fun _ => by simp [V.In]⟩
  case and => subst hs; simp only [bitsF, Option.some.injEq] at h; subst h; exact ⟨by simp [binOp, Op.intBits, V.conc], fun _ => by simp [V.In]⟩
  case or => subst hs; simp only [bitsF, Option.some.injEq] at h; subst h; exact ⟨by simp [binOp, Op.intBits, V.conc], fun _ => by simp [V.In]⟩
  case xor => subst hs; simp only [bitsF, Option.some.injEq] at h; subst h; exact ⟨by simp [binOp, Op.intBits, V.conc], fun _ => by simp [V.In]⟩
  case andNot => subst hs; simp only [bitsF, Option.some.injEq] at h; subst h; exact ⟨by simp [binOp, Op.intBits, V.conc], fun _ => by simp [V.In]⟩
  case add => subst hs; simp only [Option.some.injEq] at h; subst h; exact ⟨by simp [binOp, Op.intArith, V.conc, wrapF_eq, addF_eq], fun _ => by simp [V.In]⟩
  case sub => subst hs; simp only [Option.some.injEq] at h; subst h; exact ⟨by simp [binOp, Op.intArith, V.conc, wrapF_eq, subF_eq], fun _ => by simp [V.In]⟩
  case mul => subst hs; simp only [Option.some.injEq] at h; subst h; exact ⟨by simp [binOp, Op.intArith, V.conc, wrapF_eq, mulF_eq], fun _ => by simp [V.In]⟩
  case eql => subst hs; simp only [Option.some.injEq] at h; subst h; exact ⟨by simp [binOp, Op.intCmp, V.conc, eqF_eq], fun _ => by simp [V.In]⟩
  case neq => subst hs; simp only [Option.some.injEq] at h; subst h; exact ⟨by simp [binOp, Op.intCmp, V.conc, eqF_eq, bne], fun _ => by simp [V.In]⟩
  case lss => subst hs; simp only [Option.some.injEq] at h; subst h; exact ⟨by simp [binOp, Op.intCmp, V.conc, ltF_eq], fun _ => by simp [V.In]⟩
  case leq => subst hs; simp only [Option.some.injEq] at h; subst h; exact ⟨by simp only [V.conc, ltF_eq, not_lt_dec]; simp [binOp, Op.intCmp], fun _ => by simp [V.In]⟩
  case gtr => subst hs; simp only [Option.some.injEq] at h; subst h; exact ⟨by simp [binOp, Op.intCmp, V.conc, ltF_eq], fun _ => by simp [V.In]⟩
  case geq => subst hs; simp only [Option.some.injEq] at h; subst h; exact ⟨by simp only [V.conc, ltF_eq, not_lt_dec]; simp [binOp, Op.intCmp], fun _ => by simp [V.In]⟩

theorem binOp_str {op : BinOp} {t : TypeId} {m n : List UInt8} {r : V} (h : strB op m n = some r) (ρ : Env) :
    (binOp op t (.string ⟨m.toArray⟩) (.string ⟨n.toArray⟩)).run P w = .ok (r.conc ρ) w ∧ ∀ D, r.In D := by
  cases op <;> simp only [strB] at h <;> try (cases h; done)
  case add =>
    rw [lenB_eq, lenB_eq] at h
    cases hb : Nat.ble (m.length + (n.length + 0)) 4611686018427387904
    · rw [hb] at h; cases h
    · have hl := Nat.le_of_ble_eq_true hb
      rw [hb, cond_true, Option.some.injEq] at h
      subst h
      refine ⟨?_, fun _ => by simp [V.In]⟩
      have hsz : ¬ ((((⟨m.toArray⟩ : ByteArray).size + (⟨n.toArray⟩ : ByteArray).size : Nat) : Int) > IntKind.i64.max) := by
        have e1 : (⟨m.toArray⟩ : ByteArray).size = m.length := by simp [ByteArray.size]
        have e2 : (⟨n.toArray⟩ : ByteArray).size = n.length := by simp [ByteArray.size]
        have e3 : IntKind.i64.max = 9223372036854775807 := rfl
        rw [e1, e2, e3]; omega
      have hap : (⟨m.toArray⟩ : ByteArray) ++ ⟨n.toArray⟩ = ⟨(m ++ n).toArray⟩ := by
        apply ByteArray.ext
        rw [ByteArray.data_append]
        simp
      simp only [binOp, Op.stringOp, if_neg hsz, V.conc, Sem.run_pure, hap]
  case eql => simp only [Option.some.injEq] at h; subst h; exact ⟨by simp [binOp, Op.stringOp, V.conc, eqB_eq], fun _ => by simp [V.In]⟩
  case neq => simp only [Option.some.injEq] at h; subst h; exact ⟨by simp [binOp, Op.stringOp, V.conc, eqB_eq], fun _ => by simp [V.In]⟩
  case lss => simp only [Option.some.injEq] at h; subst h; exact ⟨by simp [binOp, Op.stringOp, V.conc], fun _ => by simp [V.In]⟩
  case geq => simp only [Option.some.injEq] at h; subst h; exact ⟨by simp [binOp, Op.stringOp, V.conc], fun _ => by simp [V.In]⟩

theorem aun_sound {op : UnOp} {v r : V} (h : aun op v = some r) (ρ : Env) : (Op.unary op (v.conc ρ)).run P w = .ok (r.conc ρ) w ∧ ∀ D, r.In D := by
  unfold aun at h
  split at h
  · simp only [Option.some.injEq] at h; subst h
    exact ⟨by simp [Op.unary, Op.intArith, V.conc, wrapF_eq, subF_eq], fun _ => by simp [V.In]⟩
  · simp only [bitsF, Option.some.injEq] at h; subst h
    exact ⟨by simp [Op.unary, Op.intBits, V.conc], fun _ => by simp [V.In]⟩
  · simp only [Option.some.injEq] at h; subst h
    exact ⟨by simp [Op.unary, V.conc], fun _ => by simp [V.In]⟩
  · cases h

theorem minmax_sound (ρ : Env) (mx : Bool) : ∀ (l : List V) (v r : V), minmax mx v l = some r →
    (List.foldlM (m := Sem) (if mx then Builtin.max2 else Builtin.min2) (v.conc ρ) (l.map (V.conc ρ))).run P w = .ok (r.conc ρ) w ∧ (∀ D, v.In D → r.In D) := by
  intro l
  induction l with
  | nil =>
    intro v r h
    have : v = r := by cases v <;> simpa [minmax] using h
    subst this
    exact ⟨by simp, fun _ h => h⟩
  | cons x l ih =>
    intro v r h
    cases v <;> cases x <;> simp only [minmax] at h <;> try (cases h; done)
    rename_i k a k' b
    obtain ⟨h1, h2⟩ := ih _ _ h
    refine ⟨?_, fun D _ => h2 D (by simp [V.In])⟩
    cases mx
    · simp only [cond_false, ltF_eq] at h1
      by_cases hc : b < a
      · simpa [V.conc, Builtin.min2, hc] using h1
      · simpa [V.conc, Builtin.min2, hc] using h1
    · simp only [cond_true, ltF_eq] at h1
      by_cases hc : a < b
      · simpa [V.conc, Builtin.max2, hc] using h1
      · simpa [V.conc, Builtin.max2, hc] using h1
end
end Go.Sim
