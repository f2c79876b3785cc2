/- Numbers: shifts, and bits, of numbers that are not negative. -/
import Derived.Test.YtamddelaigcnkaaGreatSimLib
namespace Go.Sim

theorem wrapN_u64 {n : Nat} (h : n < 18446744073709551616) : wrapF .u64 (n : Int) = (n : Int) := by
  rw [wrapF_eq]
  simp only [IntKind.wrap, IntKind.bits, IntKind.signed]; simp; omega

theorem wrapN_u8 {n : Nat} : wrapF .u8 (n : Int) = ((n % 256 : Nat) : Int) := by
  rw [wrapF_eq]
  simp only [IntKind.wrap, IntKind.bits, IntKind.signed]; simp

theorem wrapK_u64 {n : Nat} (h : n < 18446744073709551616) : IntKind.u64.wrap (n : Int) = (n : Int) := by
  rw [← wrapF_eq]; exact wrapN_u64 h

theorem wrapK_i64 {n : Nat} (h : n < 9223372036854775808) : IntKind.i64.wrap (n : Int) = (n : Int) := by
  rw [← wrapF_eq]; exact w64_id (Int.le_trans (by decide) (Int.natCast_nonneg _)) (Int.ofNat_lt.2 h)

theorem shlN_u64 {a n : Nat} (hn : n ≤ 64) (h : a * 2 ^ n < 18446744073709551616) : intB .shl .u64 (a : Int) (n : Int) = some (.int .u64 ((a * 2 ^ n : Nat) : Int)) := by
  show cond (ltF (n : Int) 0) none (some (V.int .u64 (wrapF .u64 (shlF (a : Int) (cond (Nat.ble n 64) n 64))))) = _
  rw [Nat.ble_eq_true_of_le hn, cond_true, ltF_eq, shlF_eq]
  have h3 : decide ((n : Int) < 0) = false := by simp
  rw [h3, cond_false]
  have e : (a : Int) * 2 ^ n = ((a * 2 ^ n : Nat) : Int) := by rw [Int.natCast_mul, Int.natCast_pow]; rfl
  rw [e, wrapN_u64 h]

theorem shlN_i64 {a n : Nat} (hn : n ≤ 64) (h : a * 2 ^ n < 9223372036854775808) : intB .shl .i64 (a : Int) (n : Int) = some (.int .i64 ((a * 2 ^ n : Nat) : Int)) := by
  show cond (ltF (n : Int) 0) none (some (V.int .i64 (wrapF .i64 (shlF (a : Int) (cond (Nat.ble n 64) n 64))))) = _
  rw [Nat.ble_eq_true_of_le hn, cond_true, ltF_eq, shlF_eq]
  have h3 : decide ((n : Int) < 0) = false := by simp
  rw [h3, cond_false]
  have e : (a : Int) * 2 ^ n = ((a * 2 ^ n : Nat) : Int) := by rw [Int.natCast_mul, Int.natCast_pow]; rfl
  rw [e]
  exact congrArg _ (congrArg _ (w64_id (Int.le_trans (by decide) (Int.natCast_nonneg _)) (Int.ofNat_lt.2 h)))

theorem shrN_u64 {a n : Nat} (h : n ≤ 64) : intB .shr .u64 (a : Int) (n : Int) = some (.int .u64 ((a / 2 ^ n : Nat) : Int)) := by
  show cond (ltF (n : Int) 0) none (some (V.int .u64 (shrF (a : Int) (cond (Nat.ble n 64) n 64)))) = _
  rw [Nat.ble_eq_true_of_le h, cond_true, ltF_eq]
  have h3 : decide ((n : Int) < 0) = false := by simp
  rw [h3, cond_false]
  congr 2
  show Int.ofNat (Nat.shiftRight a n) = _
  rw [show Nat.shiftRight a n = a >>> n from rfl, Nat.shiftRight_eq_div_pow]
  rfl

theorem shrN_i64 {a n : Nat} (h : n ≤ 64) : intB .shr .i64 (a : Int) (n : Int) = some (.int .i64 ((a / 2 ^ n : Nat) : Int)) := by
  show cond (ltF (n : Int) 0) none (some (V.int .i64 (shrF (a : Int) (cond (Nat.ble n 64) n 64)))) = _
  rw [Nat.ble_eq_true_of_le h, cond_true, ltF_eq]
  have h3 : decide ((n : Int) < 0) = false := by simp
  rw [h3, cond_false]
  congr 2
  show Int.ofNat (Nat.shiftRight a n) = _
  rw [show Nat.shiftRight a n = a >>> n from rfl, Nat.shiftRight_eq_div_pow]
  rfl

theorem ofInt_nat {w n : Nat} (h : n < 2 ^ w) : (BitVec.ofInt w (n : Int)).toNat = n := by
  rw [BitVec.ofInt_natCast, BitVec.toNat_ofNat, Nat.mod_eq_of_lt h]

theorem orN_u64 {a b : Nat} (ha : a < 18446744073709551616) (hb : b < 18446744073709551616) : intB .or .u64 (a : Int) (b : Int) = some (.int .u64 ((a ||| b : Nat) : Int)) := by
  show some (V.int .u64 (IntKind.u64.wrap (((BitVec.ofInt 64 (a : Int) ||| BitVec.ofInt 64 (b : Int)).toNat : Nat) : Int))) = _
  rw [BitVec.toNat_or, ofInt_nat (show a < 2 ^ 64 from ha), ofInt_nat (show b < 2 ^ 64 from hb)]
  rw [wrapK_u64 (show a ||| b < 2 ^ 64 from Nat.or_lt_two_pow ha hb)]

theorem andN_u64 {a b : Nat} (ha : a < 18446744073709551616) (hb : b < 18446744073709551616) : intB .and .u64 (a : Int) (b : Int) = some (.int .u64 ((a &&& b : Nat) : Int)) := by
  show some (V.int .u64 (IntKind.u64.wrap (((BitVec.ofInt 64 (a : Int) &&& BitVec.ofInt 64 (b : Int)).toNat : Nat) : Int))) = _
  rw [BitVec.toNat_and, ofInt_nat (show a < 2 ^ 64 from ha), ofInt_nat (show b < 2 ^ 64 from hb)]
  rw [wrapK_u64 (Nat.lt_of_le_of_lt Nat.and_le_left ha)]

theorem andN_i64 {a b : Nat} (ha : a < 9223372036854775808) (hb : b < 9223372036854775808) : intB .and .i64 (a : Int) (b : Int) = some (.int .i64 ((a &&& b : Nat) : Int)) := by
  show some (V.int .i64 (IntKind.i64.wrap (((BitVec.ofInt 64 (a : Int) &&& BitVec.ofInt 64 (b : Int)).toNat : Nat) : Int))) = _
  rw [BitVec.toNat_and, ofInt_nat (show a < 2 ^ 64 by omega), ofInt_nat (show b < 2 ^ 64 by omega)]
  rw [wrapK_i64 (Nat.lt_of_le_of_lt Nat.and_le_left ha)]

/-- The lowest bits. -/
theorem and_mask (a n : Nat) : a &&& (2 ^ n - 1) = a % 2 ^ n := Nat.and_two_pow_sub_one_eq_mod a n

/-- Bits that do not meet. -/
theorem or_add {a b i : Nat} (h : a < 2 ^ i) : a ||| b * 2 ^ i = a + b * 2 ^ i := by
  rw [Nat.mul_comm, Nat.or_comm, ← Nat.two_pow_add_eq_or_of_lt h]; omega

/-- So many bytes of a number, the lowest one first. -/
def le (x : Nat) : Nat → List UInt8
  | 0 => []
  | k + 1 => UInt8.ofNat (x % 256) :: le (x / 256) k

theorem le_len (x k : Nat) : (le x k).length = k := by
  induction k generalizing x with
  | zero => rfl
  | succ k ih => simp [le, ih]

theorem le_app (x k : Nat) : le x (k + 1) = le x k ++ [UInt8.ofNat (x / 256 ^ k % 256)] := by
  induction k generalizing x with
  | zero => simp [le]
  | succ k ih =>
    rw [le, ih]
    simp only [le, List.cons_append]
    rw [Nat.div_div_eq_div_mul, ← Nat.pow_succ']

/-- The number of bytes, the lowest one first. -/
def unle : List UInt8 → Nat
  | [] => 0
  | b :: l => b.toNat + 256 * unle l

theorem unle_lt (l : List UInt8) : unle l < 256 ^ l.length := by
  induction l with
  | nil => simp [unle]
  | cons b l ih =>
    have hb := b.toNat_lt
    simp only [unle, List.length_cons, Nat.pow_succ]
    omega

theorem unle_app (l : List UInt8) (b : UInt8) : unle (l ++ [b]) = unle l + b.toNat * 256 ^ l.length := by
  induction l with
  | nil => simp [unle]
  | cons a l ih =>
    simp only [List.cons_append, unle, ih, List.length_cons, Nat.pow_succ]
    rw [Nat.mul_add, ← Nat.add_assoc]
    congr 1
    rw [Nat.mul_comm 256, Nat.mul_assoc]

theorem unle_le (x k : Nat) : unle (le x k) = x % 256 ^ k := by
  induction k generalizing x with
  | zero => simp [le, unle, Nat.mod_one]
  | succ k ih =>
    have h1 : (UInt8.ofNat (x % 256)).toNat = x % 256 := by
      rw [UInt8.toNat_ofNat']
      omega
    rw [le, unle, ih, h1, Nat.pow_succ, Nat.mul_comm (256 ^ k), Nat.mod_mul]

end Go.Sim
