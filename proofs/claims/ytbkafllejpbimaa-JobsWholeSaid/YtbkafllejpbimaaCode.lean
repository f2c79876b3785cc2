/- The functions' texts without their remarks, and the types, as the evaluator reads them; what holds behind each. No condition. -/
import Derived.Test.YtbkafllejpbimaaCtx
import Derived.Test.YtbkafllejpbimaaSimWp
import Derived.Test.YtbkafllejpbimaaCodeA
namespace Go.Proofs.Ytbkafllejpbimaa
open Go.Sim

theorem vb46 (a0_0 : Int) (a0_1 : Int) (a0_2 : Int) (a0_3 : Int) (a0_4 : Bool) (a0_5 : Bool) (a1 : Int) (h : H) (Q : V → H → Prop) : wpC Try.prog ctx false b46 ⟨30, setArgs [(.agg [(.int .i64 a0_0), (.int .i64 a0_1), (.int .i64 a0_2), (.int .i64 a0_3), (.bool a0_4), (.bool a0_5)]), (.int .i64 a1)] 0 (Tb.leaf undefV), [], h⟩ (endW ctx ⟨30, [.tmp 4, .tmp 5], b46⟩ Q) = ((h.next < T.top ∧ ∀ p0 h1, p0 = h.next → h1 = h.new (.cells (.ls [(.int .i64 a0_0), (.int .i64 a0_1), (.int .i64 a0_2), (.int .i64 a0_3), (.bool a0_4), (.bool a0_5)]) ⟨0, 25, 0⟩ true false) → ∃ (x2 : Int) (x3 : Int) (x4 : Int) (x5 : Int) (b6 : Bool) (b7 : Bool), ald ctx 24 h1 (.ptr p0 0) = some (.agg [(.int .i64 x2), (.int .i64 x3), (.int .i64 x4), (.int .i64 x5), (.bool b6), (.bool b7)]) ∧ RF Try.prog ctx 54 [(.agg [(.int .i64 x2), (.int .i64 x3), (.int .i64 x4), (.int .i64 x5), (.bool b6), (.bool b7)]), (.int .i64 a1)] h1 (fun v8 h9 => ∃ (x10 : Int) (x11 : Int), v8 = (.tuple [(.int .i64 x10), (.int .i64 x11)]) ∧ ((x11 ≠ (0 : Int) → Q (.tuple [.nilslice, (.int .i64 x11)]) h9) ∧ (¬(x11 ≠ (0 : Int)) → (V.one .nilslice = true ∧ h9.next < T.top ∧ ∀ p12 h13, p12 = h9.next → h13 = h9.new (.cells (.ls [.nilslice]) ⟨0, 23, 0⟩ true false) → RF Try.prog ctx 55 [(.int .i64 x10), (.int .i64 a1)] h13 (fun v14 h15 => ∃ (v16 : V), v14 = v16 ∧ RC Try.prog false q46_2 ⟨30, (Tb.set (Tb.set (Tb.set (Tb.set (Tb.set (Tb.set (Tb.set (Tb.set (Tb.set (Tb.set (Tb.set (Tb.set (Tb.set (Tb.set (Tb.set (Tb.set (Tb.set (Tb.set (Tb.set (Tb.leaf undefV) 0 (.agg [(.int .i64 a0_0), (.int .i64 a0_1), (.int .i64 a0_2), (.int .i64 a0_3), (.bool a0_4), (.bool a0_5)])) 1 (.int .i64 a1)) 2 (.ptr p0 0)) 4 .nilslice) 5 (.int .i64 (0 : Int))) 12 (.agg [(.int .i64 x2), (.int .i64 x3), (.int .i64 x4), (.int .i64 x5), (.bool b6), (.bool b7)])) 13 (.int .i64 a1)) 14 (.tuple [(.int .i64 x10), (.int .i64 x11)])) 11 (.tuple [(.int .i64 x10), (.int .i64 x11)])) 15 (.int .i64 x10)) 16 (.int .i64 x11)) 6 (.int .i64 x10)) 7 (.int .i64 x11)) 17 (.int .i64 x11)) 18 (.bool false)) 8 (.ptr p12 0)) 20 (.int .i64 x10)) 21 (.int .i64 a1)) 22 v16), [], h15⟩ (fun e s1 => (thenC (fun s1 => wpC Try.prog ctx false r46_3 s1 (endW ctx ⟨30, [.tmp 4, .tmp 5], b46⟩ Q)) (endW ctx ⟨30, [.tmp 4, .tmp 5], b46⟩ Q)) (exitB 0 e) s1)))))))) := by kernel_rfl

/- cheesepress/cheesepressref30.Ends -/
def b47 : Code :=
 (.seq
  (.region 0 ⟨[O1 (some 2) 0 (.box 24 (t 0)),
    O1 (some 4) 22 (.assign (.const (.slice none 0 0))),
    O1 (some 5) 28 (.assign (ci 0))]⟩ false)
  (.seq
   (.region 1 ⟨[O1 (some 7) 24 (.load 24 (t 2)),
     O1 (some 8) 28 (.call ⟨(.value (.func 32)), #[(t 7)], #[24]⟩),
     O1 (some 6) 28 (.assign (t 8))]⟩ false)
   (.seq
    (.seq
     (.region 2 ⟨[O1 (some 9) 28 (.move (t 6)),
       O1 (some 10) 4 (.binOp .eql 28 (t 9) (ci 0) 28),
       O1 (some 11) 4 (.move (t 10)),
       O2 (some 12) 3 (.move (t 1)) (2, true),
       O2 (some 13) 4 (.binOp .lss 3 (t 12) (ci 0) 3) (2, true),
       O2 (some 14) 4 (.move (t 13)) (2, true),
       O2 (some 15) 3 (.move (t 1)) (5, false),
       O2 (some 16) 4 (.binOp .gtr 3 (t 15) (ci 1048576) 3) (5, false),
       O2 (some 17) 4 (.pick (t 14) (.const (.bool true)) (t 16)) (2, true),
       O1 (some 18) 4 (.pick (t 11) (t 17) (.const (.bool false)))]⟩ false)
     (.cond (t 18)
      (.region 3 ⟨[O1 (some 6) 28 (.assign (ci 2))]⟩ false)
      .skip))
    (.seq
     (.seq
      (.region 4 ⟨[O1 (some 19) 28 (.move (t 6)),
        O1 (some 20) 4 (.binOp .neq 28 (t 19) (ci 0) 28)]⟩ false)
      (.cond (t 20)
       (.seq
        (.region 5 ⟨[O1 (some 21) 28 (.move (t 6)),
          O1 (some 4) 22 (.assign (.const (.slice none 0 0))),
          O1 (some 5) 28 (.assign (t 21))]⟩ false)
        .ret)
       .skip))
     (.seq
      (.region 6 ⟨[O1 (some 22) 24 (.load 24 (t 2)),
        O1 (some 23) 3 (.move (t 1)),
        O1 (some 24) 22 (.call ⟨(.value (.func 56)), #[(t 22), (t 23)], #[24, 3]⟩),
        O1 (some 4) 22 (.assign (t 24)),
        O1 (some 5) 28 (.assign (ci 0))]⟩ false)
      .ret)))))
theorem fn47 : (ctx.fn.get 47).map slimF = some ⟨25, [.tmp 4, .tmp 5], b47⟩ := by kernel_rfl
theorem vb47 (a0_0 : Int) (a0_1 : Int) (a0_2 : Int) (a0_3 : Int) (a0_4 : Bool) (a0_5 : Bool) (a1 : Int) (h : H) (Q : V → H → Prop) : wpC Try.prog ctx false b47 ⟨25, setArgs [(.agg [(.int .i64 a0_0), (.int .i64 a0_1), (.int .i64 a0_2), (.int .i64 a0_3), (.bool a0_4), (.bool a0_5)]), (.int .i64 a1)] 0 (Tb.leaf undefV), [], h⟩ (endW ctx ⟨25, [.tmp 4, .tmp 5], b47⟩ Q) = ((h.next < T.top ∧ ∀ p0 h1, p0 = h.next → h1 = h.new (.cells (.ls [(.int .i64 a0_0), (.int .i64 a0_1), (.int .i64 a0_2), (.int .i64 a0_3), (.bool a0_4), (.bool a0_5)]) ⟨0, 25, 0⟩ true false) → ∃ (x2 : Int) (x3 : Int) (x4 : Int) (x5 : Int) (b6 : Bool) (b7 : Bool), ald ctx 24 h1 (.ptr p0 0) = some (.agg [(.int .i64 x2), (.int .i64 x3), (.int .i64 x4), (.int .i64 x5), (.bool b6), (.bool b7)]) ∧ RF Try.prog ctx 32 [(.agg [(.int .i64 x2), (.int .i64 x3), (.int .i64 x4), (.int .i64 x5), (.bool b6), (.bool b7)])] h1 (fun v8 h9 => ∃ (x10 : Int), v8 = (.int .i64 x10) ∧ ((x10 = (0 : Int) → ((a1 < (0 : Int) → (((2 : Int) ≠ (0 : Int) → Q (.tuple [.nilslice, (.int .i64 (2 : Int))]) h9) ∧ (¬((2 : Int) ≠ (0 : Int)) → ∃ (x11 : Int) (x12 : Int) (x13 : Int) (x14 : Int) (b15 : Bool) (b16 : Bool), ald ctx 24 h9 (.ptr p0 0) = some (.agg [(.int .i64 x11), (.int .i64 x12), (.int .i64 x13), (.int .i64 x14), (.bool b15), (.bool b16)]) ∧ RF Try.prog ctx 56 [(.agg [(.int .i64 x11), (.int .i64 x12), (.int .i64 x13), (.int .i64 x14), (.bool b15), (.bool b16)]), (.int .i64 a1)] h9 (fun v17 h18 => ∃ (v19 : V), v17 = v19 ∧ Q (.tuple [v19, (.int .i64 (0 : Int))]) h18)))) ∧ (¬(a1 < (0 : Int)) → (((1048576 : Int) < a1 → (((2 : Int) ≠ (0 : Int) → Q (.tuple [.nilslice, (.int .i64 (2 : Int))]) h9) ∧ (¬((2 : Int) ≠ (0 : Int)) → ∃ (x20 : Int) (x21 : Int) (x22 : Int) (x23 : Int) (b24 : Bool) (b25 : Bool), ald ctx 24 h9 (.ptr p0 0) = some (.agg [(.int .i64 x20), (.int .i64 x21), (.int .i64 x22), (.int .i64 x23), (.bool b24), (.bool b25)]) ∧ RF Try.prog ctx 56 [(.agg [(.int .i64 x20), (.int .i64 x21), (.int .i64 x22), (.int .i64 x23), (.bool b24), (.bool b25)]), (.int .i64 a1)] h9 (fun v26 h27 => ∃ (v28 : V), v26 = v28 ∧ Q (.tuple [v28, (.int .i64 (0 : Int))]) h27)))) ∧ (¬((1048576 : Int) < a1) → ((x10 ≠ (0 : Int) → Q (.tuple [.nilslice, (.int .i64 x10)]) h9) ∧ (¬(x10 ≠ (0 : Int)) → ∃ (x29 : Int) (x30 : Int) (x31 : Int) (x32 : Int) (b33 : Bool) (b34 : Bool), ald ctx 24 h9 (.ptr p0 0) = some (.agg [(.int .i64 x29), (.int .i64 x30), (.int .i64 x31), (.int .i64 x32), (.bool b33), (.bool b34)]) ∧ RF Try.prog ctx 56 [(.agg [(.int .i64 x29), (.int .i64 x30), (.int .i64 x31), (.int .i64 x32), (.bool b33), (.bool b34)]), (.int .i64 a1)] h9 (fun v35 h36 => ∃ (v37 : V), v35 = v37 ∧ Q (.tuple [v37, (.int .i64 (0 : Int))]) h36)))))))) ∧ (¬(x10 = (0 : Int)) → ((x10 ≠ (0 : Int) → Q (.tuple [.nilslice, (.int .i64 x10)]) h9) ∧ (¬(x10 ≠ (0 : Int)) → ∃ (x38 : Int) (x39 : Int) (x40 : Int) (x41 : Int) (b42 : Bool) (b43 : Bool), ald ctx 24 h9 (.ptr p0 0) = some (.agg [(.int .i64 x38), (.int .i64 x39), (.int .i64 x40), (.int .i64 x41), (.bool b42), (.bool b43)]) ∧ RF Try.prog ctx 56 [(.agg [(.int .i64 x38), (.int .i64 x39), (.int .i64 x40), (.int .i64 x41), (.bool b42), (.bool b43)]), (.int .i64 a1)] h9 (fun v44 h45 => ∃ (v46 : V), v44 = v46 ∧ Q (.tuple [v46, (.int .i64 (0 : Int))]) h45)))))))) := by kernel_rfl

/- cheesepress/cutter.checked -/
def b48 : Code :=
 (.seq
  (.region 0 ⟨[O1 (some 2) 0 (.box 24 (t 0)),
    O1 (some 4) 28 (.assign (ci 0))]⟩ false)
  (.seq
   (.seq
    (.region 1 ⟨[O1 (some 6) 24 (.load 24 (t 2)),
      O1 (some 7) 28 (.call ⟨(.value (.func 23)), #[(t 6)], #[24]⟩),
      O1 (some 5) 28 (.assign (t 7))]⟩ false)
    (.seq
     (.region 2 ⟨[O1 (some 8) 28 (.move (t 5)),
       O1 (some 9) 4 (.binOp .neq 28 (t 8) (ci 0) 28)]⟩ false)
     (.cond (t 9)
      (.seq
       (.region 3 ⟨[O1 (some 10) 28 (.move (t 5)),
         O1 (some 4) 28 (.assign (t 10))]⟩ false)
       .ret)
      .skip)))
   (.seq
    (.seq
     (.region 4 ⟨[O1 (some 11) 9 (.move (t 1)),
       O1 (some 12) 3 (.call ⟨(.builtin .len), #[(t 11)], #[9]⟩),
       O1 (some 13) 4 (.binOp .gtr 3 (t 12) (ci 1048576) 3)]⟩ false)
     (.cond (t 13)
      (.seq
       (.region 5 ⟨[O1 (some 4) 28 (.assign (ci 4))]⟩ false)
       .ret)
      .skip))
    (.seq
     (.region 6 ⟨[O1 (some 4) 28 (.assign (ci 0))]⟩ false)
     .ret))))
theorem fn48 : (ctx.fn.get 48).map slimF = some ⟨14, [.tmp 4], b48⟩ := by kernel_rfl
theorem vb48 (a0_0 : Int) (a0_1 : Int) (a0_2 : Int) (a0_3 : Int) (a0_4 : Bool) (a0_5 : Bool) (a1 : List UInt8) (h : H) (Q : V → H → Prop) : wpC Try.prog ctx false b48 ⟨14, setArgs [(.agg [(.int .i64 a0_0), (.int .i64 a0_1), (.int .i64 a0_2), (.int .i64 a0_3), (.bool a0_4), (.bool a0_5)]), (.str a1)] 0 (Tb.leaf undefV), [], h⟩ (endW ctx ⟨14, [.tmp 4], b48⟩ Q) = ((h.next < T.top ∧ ∀ p0 h1, p0 = h.next → h1 = h.new (.cells (.ls [(.int .i64 a0_0), (.int .i64 a0_1), (.int .i64 a0_2), (.int .i64 a0_3), (.bool a0_4), (.bool a0_5)]) ⟨0, 25, 0⟩ true false) → ∃ (x2 : Int) (x3 : Int) (x4 : Int) (x5 : Int) (b6 : Bool) (b7 : Bool), ald ctx 24 h1 (.ptr p0 0) = some (.agg [(.int .i64 x2), (.int .i64 x3), (.int .i64 x4), (.int .i64 x5), (.bool b6), (.bool b7)]) ∧ RF Try.prog ctx 23 [(.agg [(.int .i64 x2), (.int .i64 x3), (.int .i64 x4), (.int .i64 x5), (.bool b6), (.bool b7)])] h1 (fun v8 h9 => ∃ (x10 : Int), v8 = (.int .i64 x10) ∧ ((x10 ≠ (0 : Int) → Q (.int .i64 x10) h9) ∧ (¬(x10 ≠ (0 : Int)) → (((1048576 : Int) < (Int.ofNat (List.length a1)) → Q (.int .i64 (4 : Int)) h9) ∧ (¬((1048576 : Int) < (Int.ofNat (List.length a1))) → Q (.int .i64 (0 : Int)) h9))))))) := by kernel_rfl

/- cheesepress/cutter.ends -/
def b49 : Code :=
 (.seq
  (.region 0 ⟨[O1 (some 2) 0 (.box 24 (t 0)),
    O1 (some 3) 0 (.box 9 (t 1)),
    O1 (some 4) 72 (.assign (.const .nilFunc))]⟩ false)
  (.seq
   (.region 1 ⟨[O1 (some 5) 71 (.makeFunc (.func 57) #[] #[(t 3), (t 2)]),
     O1 (some 4) 72 (.assign (t 5))]⟩ false)
   .ret))
theorem fn49 : (ctx.fn.get 49).map slimF = some ⟨6, [.tmp 4], b49⟩ := by kernel_rfl
theorem vb49 (a0_0 : Int) (a0_1 : Int) (a0_2 : Int) (a0_3 : Int) (a0_4 : Bool) (a0_5 : Bool) (a1 : List UInt8) (h : H) (Q : V → H → Prop) : wpC Try.prog ctx false b49 ⟨6, setArgs [(.agg [(.int .i64 a0_0), (.int .i64 a0_1), (.int .i64 a0_2), (.int .i64 a0_3), (.bool a0_4), (.bool a0_5)]), (.str a1)] 0 (Tb.leaf undefV), [], h⟩ (endW ctx ⟨6, [.tmp 4], b49⟩ Q) = ((h.next < T.top ∧ ∀ p0 h1, p0 = h.next → h1 = h.new (.cells (.ls [(.int .i64 a0_0), (.int .i64 a0_1), (.int .i64 a0_2), (.int .i64 a0_3), (.bool a0_4), (.bool a0_5)]) ⟨0, 25, 0⟩ true false) → (V.one (.str a1) = true ∧ h1.next < T.top ∧ ∀ p2 h3, p2 = h1.next → h3 = h1.new (.cells (.ls [(.str a1)]) ⟨0, 10, 0⟩ true false) → Q (.func (.func 57) [] [(.ptr p2 0), (.ptr p0 0)]) h3))) := by kernel_rfl

/- cmp.Less[int] -/
def b50 : Code :=
 (.seq
  (.region 0 ⟨[O1 (some 4) 4 (.assign (.const (.bool false)))]⟩ false)
  (.seq
   (.region 1 ⟨[O1 (some 5) 3 (.move (t 0)),
     O1 (some 6) 4 (.call ⟨(.value (.func 59)), #[(t 5)], #[3]⟩),
     O1 (some 7) 4 (.move (t 6)),
     O2 (some 8) 3 (.move (t 1)) (2, true),
     O2 (some 9) 4 (.call ⟨(.value (.func 59)), #[(t 8)], #[3]⟩) (2, true),
     O2 (some 10) 4 (.unOp .not 4 (t 9)) (2, true),
     O1 (some 11) 4 (.pick (t 7) (t 10) (.const (.bool false))),
     O1 (some 12) 4 (.move (t 11)),
     O2 (some 13) 3 (.move (t 0)) (7, false),
     O2 (some 14) 3 (.move (t 1)) (7, false),
     O2 (some 15) 4 (.binOp .lss 3 (t 13) (t 14) 3) (7, false),
     O1 (some 16) 4 (.pick (t 12) (.const (.bool true)) (t 15)),
     O1 (some 4) 4 (.assign (t 16))]⟩ false)
   .ret))
theorem fn50 : (ctx.fn.get 50).map slimF = some ⟨17, [.tmp 4], b50⟩ := by kernel_rfl
theorem vb50 (a0 : Int) (a1 : Int) (h : H) (Q : V → H → Prop) : wpC Try.prog ctx false b50 ⟨17, setArgs [(.int .i64 a0), (.int .i64 a1)] 0 (Tb.leaf undefV), [], h⟩ (endW ctx ⟨17, [.tmp 4], b50⟩ Q) = (RF Try.prog ctx 59 [(.int .i64 a0)] h (fun v0 h1 => ∃ (b2 : Bool), v0 = (.bool b2) ∧ ((b2 = true → RF Try.prog ctx 59 [(.int .i64 a1)] h1 (fun v3 h4 => ∃ (b5 : Bool), v3 = (.bool b5) ∧ ((b5 = true → ((a0 < a1 → Q (.bool true) h4) ∧ (¬(a0 < a1) → Q (.bool false) h4))) ∧ (b5 = false → Q (.bool true) h4)))) ∧ (b2 = false → ((a0 < a1 → Q (.bool true) h1) ∧ (¬(a0 < a1) → Q (.bool false) h1)))))) := by kernel_rfl

/- cheesepress/jobs.all$1 -/
def l51_0 : Code :=
 (.seq
  (.region 4 ⟨[O1 (some 19) 0 (.binOp .lss 3 (t 18) (t 17) 3)]⟩ false)
  (.seq
   (.cond (t 19)
    .skip
    (.exit 0))
   (.seq
    (.block 1
     (.seq
      (.region 5 ⟨[O1 (some 20) 3 (.move (t 18)),
        O1 (some 21) 0 (.indexAddr 22 (t 16) (t 18)),
        O1 (some 22) 3 (.load 3 (t 21)),
        O1 (some 8) 3 (.assign (t 20)),
        O1 (some 9) 3 (.assign (t 22))]⟩ false)
      (.seq
       (.region 6 ⟨[O1 (some 23) 76 (.move (t 0)),
         O1 (some 24) 3 (.move (t 8)),
         O1 (some 25) 77 (.move (t 7)),
         O1 (some 26) 3 (.move (t 9)),
         O1 (some 27) 33 (.call ⟨(.value (t 25)), #[(t 26)], #[3]⟩),
         O1 (some 28) 4 (.call ⟨(.value (t 23)), #[(t 24), (t 27)], #[3, 33]⟩),
         O1 (some 29) 4 (.unOp .not 4 (t 28))]⟩ false)
       (.cond (t 29)
        .ret
        .skip))))
    (.region 7 ⟨[O1 (some 30) 3 (.binOp .add 3 (t 18) (ci 1) 3),
      O1 (some 18) 3 (.move (t 30))]⟩ false))))
def b51 : Code :=
 (.seq
  (.region 0 ⟨[O1 (some 11) 24 (.load 24 (t 1)),
    O1 (some 12) 46 (.call ⟨(.value (.func 52)), #[(t 11)], #[24]⟩),
    O1 (some 10) 46 (.move (t 12)),
    O1 (some 13) 3 (.extract (t 10) 0),
    O1 (some 14) 28 (.extract (t 10) 1),
    O1 (some 4) 0 (.alloc 3),
    O1 none 0 (.store 3 (t 4) (t 13)),
    O1 (some 5) 28 (.assign (t 14))]⟩ false)
  (.seq
   (.region 1 ⟨[O1 (some 6) 0 (.alloc 3),
     O1 none 0 (.store 3 (t 6) (ci 0))]⟩ false)
   (.seq
    (.region 2 ⟨[O1 (some 15) 77 (.makeFunc (.func 53) #[] #[(t 6), (t 4)]),
      O1 (some 7) 77 (.assign (t 15))]⟩ false)
    (.seq
     (.region 3 ⟨[O1 (some 16) 22 (.load 22 (t 2)),
       O1 (some 17) 3 (.call ⟨(.builtin .len), #[(t 16)], #[22]⟩),
       O1 (some 18) 3 (.move (ci 0))]⟩ false)
     (.block 0
      (.loop l51_0))))))
theorem fn51 : (ctx.fn.get 51).map slimF = some ⟨31, [], b51⟩ := by kernel_rfl
theorem vl51_0 (tm : Tm) (y18 : Int) (y17 : Int) (y16 : V) (y0 : V) (y7 : V) (d : List AD) (h : H) (Q : AX → St → Prop) : wpC Try.prog ctx false l51_0 ⟨31, (Tb.set (Tb.set (Tb.set (Tb.set (Tb.set tm 18 (.int .i64 y18)) 17 (.int .i64 y17)) 16 y16) 0 y0) 7 y7), d, h⟩ (sealQ [18, 17, 16, 0, 7] Q) = (((y18 < y17 → ∃ p0 o1, aidx ctx 22 y16 (.int .i64 y18) = some (.ptr p0 o1) ∧ ∃ (x2 : Int), ald ctx 3 h (.ptr p0 o1) = some (.int .i64 x2) ∧ wpCallV ctx Try.prog 33 h (fun v3 h4 => wpCallV ctx Try.prog 4 h4 (fun v5 h6 => wpUn .not v5 (fun v7 => wpPick v7 (fun t => match t with | true => (∀ tm', getV tm' 18 = (.int .i64 y18) → getV tm' 17 = (.int .i64 y17) → getV tm' 16 = y16 → getV tm' 0 = y0 → getV tm' 7 = y7 → Q .ret ⟨31, tm', d, h6⟩) | false => (∀ tm', getV tm' 18 = (.int .i64 (w64 (y18 + (1 : Int)))) → getV tm' 17 = (.int .i64 y17) → getV tm' 16 = y16 → getV tm' 0 = y0 → getV tm' 7 = y7 → Q .normal ⟨31, tm', d, h6⟩)))) [(.int .i64 y18), v3] y0) [(.int .i64 x2)] y7) ∧ (¬(y18 < y17) → (∀ tm', getV tm' 18 = (.int .i64 y18) → getV tm' 17 = (.int .i64 y17) → getV tm' 16 = y16 → getV tm' 0 = y0 → getV tm' 7 = y7 → Q (.exit 0) ⟨31, tm', d, h⟩)))) := by kernel_rfl
theorem vb51 (a0 : V) (a1 : V) (a2 : V) (h : H) (Q : V → H → Prop) : wpC Try.prog ctx false b51 ⟨31, setArgs [a0, a1, a2] 0 (Tb.leaf undefV), [], h⟩ (endW ctx ⟨31, [], b51⟩ Q) = (∃ (x0 : Int) (x1 : Int) (x2 : Int) (x3 : Int) (b4 : Bool) (b5 : Bool), ald ctx 24 h a1 = some (.agg [(.int .i64 x0), (.int .i64 x1), (.int .i64 x2), (.int .i64 x3), (.bool b4), (.bool b5)]) ∧ RF Try.prog ctx 52 [(.agg [(.int .i64 x0), (.int .i64 x1), (.int .i64 x2), (.int .i64 x3), (.bool b4), (.bool b5)])] h (fun v6 h7 => ∃ (x8 : Int) (x9 : Int), v6 = (.tuple [(.int .i64 x8), (.int .i64 x9)]) ∧ (V.one (.int .i64 (0 : Int)) = true ∧ h7.next < T.top ∧ ∀ p10 h11, p10 = h7.next → h11 = h7.new (.cells (.ls [(.int .i64 (0 : Int))]) ⟨0, 4, 0⟩ true false) → ∃ h12, ast ctx 3 h11 (.ptr p10 0) (.int .i64 x8) = some h12 ∧ (V.one (.int .i64 (0 : Int)) = true ∧ h12.next < T.top ∧ ∀ p13 h14, p13 = h12.next → h14 = h12.new (.cells (.ls [(.int .i64 (0 : Int))]) ⟨0, 4, 0⟩ true false) → ∃ h15, ast ctx 3 h14 (.ptr p13 0) (.int .i64 (0 : Int)) = some h15 ∧ ∃ (v16 : V), ald ctx 22 h15 a2 = some v16 ∧ ∃ (x17 : Int), alen ctx 22 h15 v16 = some (.int .i64 x17) ∧ wpC Try.prog ctx false (.loop l51_0) ⟨31, (Tb.set (Tb.set (Tb.set (Tb.set (Tb.set (Tb.set (Tb.set (Tb.set (Tb.set (Tb.set (Tb.set (Tb.set (Tb.set (Tb.set (Tb.set (Tb.set (Tb.leaf undefV) 0 a0) 1 a1) 2 a2) 11 (.agg [(.int .i64 x0), (.int .i64 x1), (.int .i64 x2), (.int .i64 x3), (.bool b4), (.bool b5)])) 12 (.tuple [(.int .i64 x8), (.int .i64 x9)])) 10 (.tuple [(.int .i64 x8), (.int .i64 x9)])) 13 (.int .i64 x8)) 14 (.int .i64 x9)) 4 (.ptr p10 0)) 5 (.int .i64 x9)) 6 (.ptr p13 0)) 15 (.func (.func 53) [] [(.ptr p13 0), (.ptr p10 0)])) 7 (.func (.func 53) [] [(.ptr p13 0), (.ptr p10 0)])) 16 v16) 17 (.int .i64 x17)) 18 (.int .i64 (0 : Int))), [], h15⟩ (fun e s1 => (endW ctx ⟨31, [], b51⟩ Q) (exitB 0 e) s1))))) := by kernel_rfl

/- cheesepress/params.Prefix -/
def b52 : Code :=
 (.seq
  (.region 0 ⟨[O1 (some 1) 0 (.box 24 (t 0)),
    O1 (some 2) 3 (.assign (ci 0)),
    O1 (some 3) 28 (.assign (ci 0))]⟩ false)
  (.seq
   (.region 1 ⟨[O1 (some 4) 24 (.load 24 (t 1)),
     O1 (some 5) 85 (.makeFunc (.func 61) #[] #[(t 1)]),
     O1 (some 6) 46 (.call ⟨(.value (.func 60)), #[(t 4), (t 5)], #[24, 85]⟩),
     O1 (some 7) 3 (.extract (t 6) 0),
     O1 (some 8) 28 (.extract (t 6) 1),
     O1 (some 2) 3 (.assign (t 7)),
     O1 (some 3) 28 (.assign (t 8))]⟩ false)
   .ret))
theorem fn52 : (ctx.fn.get 52).map slimF = some ⟨9, [.tmp 2, .tmp 3], b52⟩ := by kernel_rfl
theorem vb52 (a0_0 : Int) (a0_1 : Int) (a0_2 : Int) (a0_3 : Int) (a0_4 : Bool) (a0_5 : Bool) (h : H) (Q : V → H → Prop) : wpC Try.prog ctx false b52 ⟨9, setArgs [(.agg [(.int .i64 a0_0), (.int .i64 a0_1), (.int .i64 a0_2), (.int .i64 a0_3), (.bool a0_4), (.bool a0_5)])] 0 (Tb.leaf undefV), [], h⟩ (endW ctx ⟨9, [.tmp 2, .tmp 3], b52⟩ Q) = ((h.next < T.top ∧ ∀ p0 h1, p0 = h.next → h1 = h.new (.cells (.ls [(.int .i64 a0_0), (.int .i64 a0_1), (.int .i64 a0_2), (.int .i64 a0_3), (.bool a0_4), (.bool a0_5)]) ⟨0, 25, 0⟩ true false) → ∃ (x2 : Int) (x3 : Int) (x4 : Int) (x5 : Int) (b6 : Bool) (b7 : Bool), ald ctx 24 h1 (.ptr p0 0) = some (.agg [(.int .i64 x2), (.int .i64 x3), (.int .i64 x4), (.int .i64 x5), (.bool b6), (.bool b7)]) ∧ RF Try.prog ctx 60 [(.agg [(.int .i64 x2), (.int .i64 x3), (.int .i64 x4), (.int .i64 x5), (.bool b6), (.bool b7)]), (.func (.func 61) [] [(.ptr p0 0)])] h1 (fun v8 h9 => ∃ (x10 : Int) (x11 : Int), v8 = (.tuple [(.int .i64 x10), (.int .i64 x11)]) ∧ Q (.tuple [(.int .i64 x10), (.int .i64 x11)]) h9))) := by kernel_rfl

/- cheesepress/jobs.all$1$1 -/
def b53 : Code :=
 (.seq
  (.region 0 ⟨[O1 (some 4) 0 (.alloc 33)]⟩ false)
  (.seq
   (.region 1 ⟨[O1 (some 6) 3 (.load 3 (t 1)),
     O1 (some 7) 3 (.move (t 0)),
     O1 (some 8) 3 (.load 3 (t 1)),
     O1 (some 9) 3 (.load 3 (t 2)),
     O1 (some 10) 3 (.binOp .sub 3 (t 8) (t 9) 3),
     O1 (some 11) 3 (.call ⟨(.builtin .max), #[(ci 0), (t 10)], #[3, 3]⟩),
     O1 (some 12) 33 (.build 33 #[(0, (t 6)), (1, (t 7)), (2, (t 11))]),
     O1 (some 5) 0 (.alloc 33),
     O1 none 0 (.store 33 (t 5) (t 12))]⟩ false)
   (.seq
    (.region 2 ⟨[O1 (some 13) 3 (.move (t 0)),
      O1 none 0 (.store 3 (t 1) (t 13))]⟩ false)
    (.seq
     (.region 3 ⟨[O1 (some 14) 33 (.load 33 (t 5)),
       O1 none 0 (.store 33 (t 4) (t 14))]⟩ false)
     .ret))))
theorem fn53 : (ctx.fn.get 53).map slimF = some ⟨15, [.cell 4 33], b53⟩ := by kernel_rfl
theorem vb53 (a0 : Int) (a1 : V) (a2 : V) (h : H) (Q : V → H → Prop) : wpC Try.prog ctx false b53 ⟨15, setArgs [(.int .i64 a0), a1, a2] 0 (Tb.leaf undefV), [], h⟩ (endW ctx ⟨15, [.cell 4 33], b53⟩ Q) = ((h.next < T.top ∧ ∀ p0 h1, p0 = h.next → h1 = h.new (.cells (.ls [(.int .i64 (0 : Int)), (.int .i64 (0 : Int)), (.int .i64 (0 : Int))]) ⟨0, 34, 0⟩ true false) → ∃ (x2 : Int), ald ctx 3 h1 a1 = some (.int .i64 x2) ∧ ∃ (x3 : Int), ald ctx 3 h1 a1 = some (.int .i64 x3) ∧ ∃ (x4 : Int), ald ctx 3 h1 a2 = some (.int .i64 x4) ∧ (h1.next < T.top ∧ ∀ p5 h6, p5 = h1.next → h6 = h1.new (.cells (.ls [(.int .i64 (0 : Int)), (.int .i64 (0 : Int)), (.int .i64 (0 : Int))]) ⟨0, 34, 0⟩ true false) → ∃ h7, ast ctx 33 h6 (.ptr p5 0) (.agg [(.int .i64 x2), (.int .i64 a0), (.int .i64 (max (0 : Int) (w64 (x3 - x4))))]) = some h7 ∧ ∃ h8, ast ctx 3 h7 a1 (.int .i64 a0) = some h8 ∧ ∃ (x9 : Int) (x10 : Int) (x11 : Int), ald ctx 33 h8 (.ptr p5 0) = some (.agg [(.int .i64 x9), (.int .i64 x10), (.int .i64 x11)]) ∧ ∃ h12, ast ctx 33 h8 (.ptr p0 0) (.agg [(.int .i64 x9), (.int .i64 x10), (.int .i64 x11)]) = some h12 ∧ (endW ctx ⟨15, [.cell 4 33], b53⟩ Q) .ret ⟨15, (Tb.set (Tb.set (Tb.set (Tb.set (Tb.set (Tb.set (Tb.set (Tb.set (Tb.set (Tb.set (Tb.set (Tb.set (Tb.set (Tb.set (Tb.leaf undefV) 0 (.int .i64 a0)) 1 a1) 2 a2) 4 (.ptr p0 0)) 6 (.int .i64 x2)) 7 (.int .i64 a0)) 8 (.int .i64 x3)) 9 (.int .i64 x4)) 10 (.int .i64 (w64 (x3 - x4)))) 11 (.int .i64 (max (0 : Int) (w64 (x3 - x4))))) 12 (.agg [(.int .i64 x2), (.int .i64 a0), (.int .i64 (max (0 : Int) (w64 (x3 - x4))))])) 5 (.ptr p5 0)) 13 (.int .i64 a0)) 14 (.agg [(.int .i64 x9), (.int .i64 x10), (.int .i64 x11)])), [], h12⟩))) := by kernel_rfl

/- cheesepress/pieces.asked -/
def b54 : Code :=
 (.seq
  (.region 0 ⟨[O1 (some 2) 0 (.box 24 (t 0)),
    O1 (some 4) 3 (.assign (ci 0)),
    O1 (some 5) 28 (.assign (ci 0))]⟩ false)
  (.seq
   (.region 1 ⟨[O1 (some 9) 24 (.load 24 (t 2)),
     O1 (some 10) 46 (.call ⟨(.value (.func 62)), #[(t 9)], #[24]⟩),
     O1 (some 8) 46 (.move (t 10)),
     O1 (some 11) 3 (.extract (t 8) 0),
     O1 (some 12) 28 (.extract (t 8) 1),
     O1 (some 6) 3 (.assign (t 11)),
     O1 (some 7) 28 (.assign (t 12))]⟩ false)
   (.seq
    (.seq
     (.region 2 ⟨[O1 (some 13) 28 (.move (t 7)),
       O1 (some 14) 4 (.binOp .eql 28 (t 13) (ci 0) 28),
       O1 (some 15) 4 (.move (t 14)),
       O2 (some 16) 3 (.move (t 1)) (2, true),
       O2 (some 17) 4 (.binOp .lss 3 (t 16) (ci 0) 3) (2, true),
       O2 (some 18) 4 (.move (t 17)) (2, true),
       O2 (some 19) 3 (.move (t 1)) (5, false),
       O2 (some 20) 4 (.binOp .gtr 3 (t 19) (ci 1048576) 3) (5, false),
       O2 (some 21) 4 (.pick (t 18) (.const (.bool true)) (t 20)) (2, true),
       O1 (some 22) 4 (.pick (t 15) (t 21) (.const (.bool false)))]⟩ false)
     (.cond (t 22)
      (.region 3 ⟨[O1 (some 7) 28 (.assign (ci 2))]⟩ false)
      .skip))
    (.seq
     (.region 4 ⟨[O1 (some 23) 3 (.move (t 6)),
       O1 (some 24) 28 (.move (t 7)),
       O1 (some 4) 3 (.assign (t 23)),
       O1 (some 5) 28 (.assign (t 24))]⟩ false)
     .ret))))
theorem fn54 : (ctx.fn.get 54).map slimF = some ⟨25, [.tmp 4, .tmp 5], b54⟩ := by kernel_rfl
theorem vb54 (a0_0 : Int) (a0_1 : Int) (a0_2 : Int) (a0_3 : Int) (a0_4 : Bool) (a0_5 : Bool) (a1 : Int) (h : H) (Q : V → H → Prop) : wpC Try.prog ctx false b54 ⟨25, setArgs [(.agg [(.int .i64 a0_0), (.int .i64 a0_1), (.int .i64 a0_2), (.int .i64 a0_3), (.bool a0_4), (.bool a0_5)]), (.int .i64 a1)] 0 (Tb.leaf undefV), [], h⟩ (endW ctx ⟨25, [.tmp 4, .tmp 5], b54⟩ Q) = ((h.next < T.top ∧ ∀ p0 h1, p0 = h.next → h1 = h.new (.cells (.ls [(.int .i64 a0_0), (.int .i64 a0_1), (.int .i64 a0_2), (.int .i64 a0_3), (.bool a0_4), (.bool a0_5)]) ⟨0, 25, 0⟩ true false) → ∃ (x2 : Int) (x3 : Int) (x4 : Int) (x5 : Int) (b6 : Bool) (b7 : Bool), ald ctx 24 h1 (.ptr p0 0) = some (.agg [(.int .i64 x2), (.int .i64 x3), (.int .i64 x4), (.int .i64 x5), (.bool b6), (.bool b7)]) ∧ RF Try.prog ctx 62 [(.agg [(.int .i64 x2), (.int .i64 x3), (.int .i64 x4), (.int .i64 x5), (.bool b6), (.bool b7)])] h1 (fun v8 h9 => ∃ (x10 : Int) (x11 : Int), v8 = (.tuple [(.int .i64 x10), (.int .i64 x11)]) ∧ ((x11 = (0 : Int) → ((a1 < (0 : Int) → Q (.tuple [(.int .i64 x10), (.int .i64 (2 : Int))]) h9) ∧ (¬(a1 < (0 : Int)) → (((1048576 : Int) < a1 → Q (.tuple [(.int .i64 x10), (.int .i64 (2 : Int))]) h9) ∧ (¬((1048576 : Int) < a1) → Q (.tuple [(.int .i64 x10), (.int .i64 x11)]) h9))))) ∧ (¬(x11 = (0 : Int)) → Q (.tuple [(.int .i64 x10), (.int .i64 x11)]) h9))))) := by kernel_rfl

/- cheesepress/pieces.pieces -/
def b55 : Code :=
 (.seq
  (.region 0 ⟨[O1 (some 2) 0 (.box 3 (t 0)),
    O1 (some 3) 0 (.box 3 (t 1)),
    O1 (some 4) 72 (.assign (.const .nilFunc))]⟩ false)
  (.seq
   (.region 1 ⟨[O1 (some 5) 71 (.makeFunc (.func 63) #[] #[(t 3), (t 2)]),
     O1 (some 4) 72 (.assign (t 5))]⟩ false)
   .ret))
theorem fn55 : (ctx.fn.get 55).map slimF = some ⟨6, [.tmp 4], b55⟩ := by kernel_rfl
theorem vb55 (a0 : Int) (a1 : Int) (h : H) (Q : V → H → Prop) : wpC Try.prog ctx false b55 ⟨6, setArgs [(.int .i64 a0), (.int .i64 a1)] 0 (Tb.leaf undefV), [], h⟩ (endW ctx ⟨6, [.tmp 4], b55⟩ Q) = ((V.one (.int .i64 a0) = true ∧ h.next < T.top ∧ ∀ p0 h1, p0 = h.next → h1 = h.new (.cells (.ls [(.int .i64 a0)]) ⟨0, 4, 0⟩ true false) → (V.one (.int .i64 a1) = true ∧ h1.next < T.top ∧ ∀ p2 h3, p2 = h1.next → h3 = h1.new (.cells (.ls [(.int .i64 a1)]) ⟨0, 4, 0⟩ true false) → Q (.func (.func 63) [] [(.ptr p2 0), (.ptr p0 0)]) h3))) := by kernel_rfl

/- cheesepress/cheesepressref30.ends -/
def l56_0 : Code :=
 (.seq
  (.seq
   (.region 4 ⟨[O1 (some 14) 3 (.move (t 8)),
     O1 (some 15) 3 (.move (t 1)),
     O1 (some 16) 4 (.binOp .lss 3 (t 14) (t 15) 3),
     O1 (some 17) 4 (.move (t 16)),
     O2 (some 18) 22 (.move (t 7)) (3, false),
     O2 (some 19) 3 (.call ⟨(.builtin .len), #[(t 18)], #[22]⟩) (3, false),
     O2 (some 20) 4 (.binOp .eql 3 (t 19) (ci 0) 3) (3, false),
     O1 (some 21) 4 (.pick (t 17) (.const (.bool true)) (t 20))]⟩ false)
   (.cond (t 21)
    .skip
    (.exit 0)))
  (.block 1
   (.seq
    (.region 5 ⟨[O1 (some 22) 3 (.move (t 1)),
      O1 (some 23) 3 (.move (t 8)),
      O1 (some 24) 3 (.move (t 5)),
      O1 (some 25) 3 (.binOp .add 3 (t 23) (t 24) 3),
      O1 (some 26) 3 (.call ⟨(.builtin .min), #[(t 22), (t 25)], #[3, 3]⟩),
      O1 (some 8) 3 (.assign (t 26))]⟩ false)
    (.region 6 ⟨[O1 (some 27) 22 (.move (t 7)),
      O1 (some 28) 3 (.move (t 8)),
      O1 (some 29) 22 (.buildSlice 22 1 #[(0, (t 28))]),
      O1 (some 30) 22 (.call ⟨(.builtin .append), #[(t 27), (t 29)], #[22, 22]⟩),
      O1 (some 7) 22 (.assign (t 30))]⟩ false))))
def r56_1 : Code :=
 (.seq
  (.region 7 ⟨[O1 (some 31) 22 (.move (t 7)),
    O1 (some 4) 22 (.assign (t 31))]⟩ false)
  .ret)
def b56 : Code :=
 (.seq
  (.region 0 ⟨[O1 (some 2) 0 (.box 24 (t 0)),
    O1 (some 4) 22 (.assign (.const (.slice none 0 0)))]⟩ false)
  (.seq
   (.region 1 ⟨[O1 (some 10) 24 (.load 24 (t 2)),
     O1 (some 11) 46 (.call ⟨(.value (.func 64)), #[(t 10)], #[24]⟩),
     O1 (some 9) 46 (.move (t 11)),
     O1 (some 12) 3 (.extract (t 9) 0),
     O1 (some 13) 28 (.extract (t 9) 1),
     O1 (some 5) 3 (.assign (t 12)),
     O1 (some 6) 28 (.assign (t 13))]⟩ false)
   (.seq
    (.region 2 ⟨[O1 (some 7) 22 (.assign (.const (.slice none 0 0)))]⟩ false)
    (.seq
     (.seq
      (.region 3 ⟨[O1 (some 8) 3 (.assign (ci 0))]⟩ false)
      (.block 0
       (.loop l56_0)))
     r56_1))))
theorem fn56 : (ctx.fn.get 56).map slimF = some ⟨32, [.tmp 4], b56⟩ := by kernel_rfl
theorem vl56_0 (tm : Tm) (y8 : Int) (y1 : Int) (y5 : Int) (y7 : V) (d : List AD) (h : H) (Q : AX → St → Prop) : wpC Try.prog ctx false l56_0 ⟨32, (Tb.set (Tb.set (Tb.set (Tb.set tm 8 (.int .i64 y8)) 1 (.int .i64 y1)) 5 (.int .i64 y5)) 7 y7), d, h⟩ (sealQ [4, 8, 1, 5, 7] Q) = (((y8 < y1 → ∃ v0 h1, abuildSlice ctx 22 1 [(0, (.int .i64 (min y1 (w64 (y8 + y5)))))] h = some (v0, h1) ∧ (True ∧ ∃ v2 h3, aappend ctx 22 h1 y7 v0 = some (v2, h3) ∧ (∀ tm', getV tm' 4 = getV tm 4 → getV tm' 8 = (.int .i64 (min y1 (w64 (y8 + y5)))) → getV tm' 1 = (.int .i64 y1) → getV tm' 5 = (.int .i64 y5) → getV tm' 7 = v2 → Q .normal ⟨32, tm', d, h3⟩))) ∧ (¬(y8 < y1) → ∃ (x4 : Int), alen ctx 22 h y7 = some (.int .i64 x4) ∧ ((x4 = (0 : Int) → ∃ v5 h6, abuildSlice ctx 22 1 [(0, (.int .i64 (min y1 (w64 (y8 + y5)))))] h = some (v5, h6) ∧ (True ∧ ∃ v7 h8, aappend ctx 22 h6 y7 v5 = some (v7, h8) ∧ (∀ tm', getV tm' 4 = getV tm 4 → getV tm' 8 = (.int .i64 (min y1 (w64 (y8 + y5)))) → getV tm' 1 = (.int .i64 y1) → getV tm' 5 = (.int .i64 y5) → getV tm' 7 = v7 → Q .normal ⟨32, tm', d, h8⟩))) ∧ (¬(x4 = (0 : Int)) → (∀ tm', getV tm' 4 = getV tm 4 → getV tm' 8 = (.int .i64 y8) → getV tm' 1 = (.int .i64 y1) → getV tm' 5 = (.int .i64 y5) → getV tm' 7 = y7 → Q (.exit 0) ⟨32, tm', d, h⟩)))))) := by kernel_rfl
theorem vr56_1 (tm : Tm) (y7 : V) (d : List AD) (h : H) (Q : AX → St → Prop) : wpC Try.prog ctx false r56_1 ⟨32, (Tb.set tm 7 y7), d, h⟩ (sealQ [4, 8, 1, 5, 7] Q) = ((∀ tm', getV tm' 4 = y7 → getV tm' 8 = getV tm 8 → getV tm' 1 = getV tm 1 → getV tm' 5 = getV tm 5 → getV tm' 7 = y7 → Q .ret ⟨32, tm', d, h⟩)) := by kernel_rfl
theorem vb56 (a0_0 : Int) (a0_1 : Int) (a0_2 : Int) (a0_3 : Int) (a0_4 : Bool) (a0_5 : Bool) (a1 : Int) (h : H) (Q : V → H → Prop) : wpC Try.prog ctx false b56 ⟨32, setArgs [(.agg [(.int .i64 a0_0), (.int .i64 a0_1), (.int .i64 a0_2), (.int .i64 a0_3), (.bool a0_4), (.bool a0_5)]), (.int .i64 a1)] 0 (Tb.leaf undefV), [], h⟩ (endW ctx ⟨32, [.tmp 4], b56⟩ Q) = ((h.next < T.top ∧ ∀ p0 h1, p0 = h.next → h1 = h.new (.cells (.ls [(.int .i64 a0_0), (.int .i64 a0_1), (.int .i64 a0_2), (.int .i64 a0_3), (.bool a0_4), (.bool a0_5)]) ⟨0, 25, 0⟩ true false) → ∃ (x2 : Int) (x3 : Int) (x4 : Int) (x5 : Int) (b6 : Bool) (b7 : Bool), ald ctx 24 h1 (.ptr p0 0) = some (.agg [(.int .i64 x2), (.int .i64 x3), (.int .i64 x4), (.int .i64 x5), (.bool b6), (.bool b7)]) ∧ RF Try.prog ctx 64 [(.agg [(.int .i64 x2), (.int .i64 x3), (.int .i64 x4), (.int .i64 x5), (.bool b6), (.bool b7)])] h1 (fun v8 h9 => ∃ (x10 : Int) (x11 : Int), v8 = (.tuple [(.int .i64 x10), (.int .i64 x11)]) ∧ wpC Try.prog ctx false (.loop l56_0) ⟨32, (Tb.set (Tb.set (Tb.set (Tb.set (Tb.set (Tb.set (Tb.set (Tb.set (Tb.set (Tb.set (Tb.set (Tb.set (Tb.set (Tb.leaf undefV) 0 (.agg [(.int .i64 a0_0), (.int .i64 a0_1), (.int .i64 a0_2), (.int .i64 a0_3), (.bool a0_4), (.bool a0_5)])) 1 (.int .i64 a1)) 2 (.ptr p0 0)) 4 .nilslice) 10 (.agg [(.int .i64 x2), (.int .i64 x3), (.int .i64 x4), (.int .i64 x5), (.bool b6), (.bool b7)])) 11 (.tuple [(.int .i64 x10), (.int .i64 x11)])) 9 (.tuple [(.int .i64 x10), (.int .i64 x11)])) 12 (.int .i64 x10)) 13 (.int .i64 x11)) 5 (.int .i64 x10)) 6 (.int .i64 x11)) 7 .nilslice) 8 (.int .i64 (0 : Int))), [], h9⟩ (fun e s1 => (thenC (fun s1 => wpC Try.prog ctx false r56_1 s1 (endW ctx ⟨32, [.tmp 4], b56⟩ Q)) (endW ctx ⟨32, [.tmp 4], b56⟩ Q)) (exitB 0 e) s1)))) := by kernel_rfl

/- cheesepress/cutter.ends$1 -/
def l57_0 : Code :=
 (.seq
  (.seq
   (.region 2 ⟨[O1 (some 6) 3 (.move (t 5)),
     O1 (some 7) 4 (.binOp .eql 3 (t 6) (ci 0) 3),
     O1 (some 8) 4 (.move (t 7)),
     O2 (some 9) 3 (.move (t 4)) (2, false),
     O2 (some 10) 9 (.load 9 (t 1)) (2, false),
     O2 (some 11) 3 (.call ⟨(.builtin .len), #[(t 10)], #[9]⟩) (2, false),
     O2 (some 12) 4 (.binOp .lss 3 (t 9) (t 11) 3) (2, false),
     O1 (some 13) 4 (.pick (t 8) (.const (.bool true)) (t 12))]⟩ false)
   (.cond (t 13)
    .skip
    (.exit 0)))
  (.seq
   (.block 1
    (.seq
     (.region 4 ⟨[O1 (some 17) 24 (.load 24 (t 2)),
       O1 (some 18) 9 (.load 9 (t 1)),
       O1 (some 19) 3 (.move (t 4)),
       O1 (some 20) 80 (.call ⟨(.value (.func 58)), #[(t 17), (t 18), (t 19)], #[24, 9, 3]⟩),
       O1 (some 16) 80 (.move (t 20)),
       O1 (some 21) 3 (.extract (t 16) 0),
       O1 (some 22) 4 (.extract (t 16) 1),
       O1 (some 4) 3 (.assign (t 21))]⟩ false)
     (.seq
      (.region 5 ⟨[O1 (some 23) 75 (.move (t 0)),
        O1 (some 24) 3 (.move (t 5)),
        O1 (some 25) 3 (.move (t 4)),
        O1 (some 26) 4 (.call ⟨(.value (t 23)), #[(t 24), (t 25)], #[3, 3]⟩),
        O1 (some 27) 4 (.unOp .not 4 (t 26))]⟩ false)
      (.cond (t 27)
       .ret
       .skip))))
   (.region 3 ⟨[O1 (some 14) 3 (.move (t 5)),
     O1 (some 15) 3 (.binOp .add 3 (t 14) (ci 1) 3),
     O1 (some 5) 3 (.assign (t 15))]⟩ false)))
def b57 : Code :=
 (.seq
  (.region 0 ⟨[O1 (some 4) 3 (.assign (ci 0))]⟩ false)
  (.seq
   (.region 1 ⟨[O1 (some 5) 3 (.assign (ci 0))]⟩ false)
   (.block 0
    (.loop l57_0))))
theorem fn57 : (ctx.fn.get 57).map slimF = some ⟨28, [], b57⟩ := by kernel_rfl
theorem vl57_0 (tm : Tm) (y5 : Int) (y2 : V) (y1 : V) (y4 : Int) (y0 : V) (d : List AD) (h : H) (Q : AX → St → Prop) : wpC Try.prog ctx false l57_0 ⟨28, (Tb.set (Tb.set (Tb.set (Tb.set (Tb.set tm 5 (.int .i64 y5)) 2 y2) 1 y1) 4 (.int .i64 y4)) 0 y0), d, h⟩ (sealQ [5, 2, 1, 4, 0] Q) = (((y5 = (0 : Int) → ∃ (x0 : Int) (x1 : Int) (x2 : Int) (x3 : Int) (b4 : Bool) (b5 : Bool), ald ctx 24 h y2 = some (.agg [(.int .i64 x0), (.int .i64 x1), (.int .i64 x2), (.int .i64 x3), (.bool b4), (.bool b5)]) ∧ ∃ (l6 : List UInt8), ald ctx 9 h y1 = some (.str l6) ∧ RF Try.prog ctx 58 [(.agg [(.int .i64 x0), (.int .i64 x1), (.int .i64 x2), (.int .i64 x3), (.bool b4), (.bool b5)]), (.str l6), (.int .i64 y4)] h (fun v7 h8 => ∃ (x9 : Int) (b10 : Bool), v7 = (.tuple [(.int .i64 x9), (.bool b10)]) ∧ ((b10 = true → wpCallV ctx Try.prog 4 h8 (fun v11 h12 => wpUn .not v11 (fun v13 => wpPick v13 (fun t => match t with | true => (∀ tm', getV tm' 5 = (.int .i64 y5) → getV tm' 2 = y2 → getV tm' 1 = y1 → getV tm' 4 = (.int .i64 x9) → getV tm' 0 = y0 → Q .ret ⟨28, tm', d, h12⟩) | false => (∀ tm', getV tm' 5 = (.int .i64 (w64 (y5 + (1 : Int)))) → getV tm' 2 = y2 → getV tm' 1 = y1 → getV tm' 4 = (.int .i64 x9) → getV tm' 0 = y0 → Q .normal ⟨28, tm', d, h12⟩)))) [(.int .i64 y5), (.int .i64 x9)] y0) ∧ (b10 = false → wpCallV ctx Try.prog 4 h8 (fun v14 h15 => wpUn .not v14 (fun v16 => wpPick v16 (fun t => match t with | true => (∀ tm', getV tm' 5 = (.int .i64 y5) → getV tm' 2 = y2 → getV tm' 1 = y1 → getV tm' 4 = (.int .i64 x9) → getV tm' 0 = y0 → Q .ret ⟨28, tm', d, h15⟩) | false => (∀ tm', getV tm' 5 = (.int .i64 (w64 (y5 + (1 : Int)))) → getV tm' 2 = y2 → getV tm' 1 = y1 → getV tm' 4 = (.int .i64 x9) → getV tm' 0 = y0 → Q .normal ⟨28, tm', d, h15⟩)))) [(.int .i64 y5), (.int .i64 x9)] y0)))) ∧ (¬(y5 = (0 : Int)) → ∃ (l17 : List UInt8), ald ctx 9 h y1 = some (.str l17) ∧ ((y4 < (Int.ofNat (List.length l17)) → ∃ (x18 : Int) (x19 : Int) (x20 : Int) (x21 : Int) (b22 : Bool) (b23 : Bool), ald ctx 24 h y2 = some (.agg [(.int .i64 x18), (.int .i64 x19), (.int .i64 x20), (.int .i64 x21), (.bool b22), (.bool b23)]) ∧ ∃ (l24 : List UInt8), ald ctx 9 h y1 = some (.str l24) ∧ RF Try.prog ctx 58 [(.agg [(.int .i64 x18), (.int .i64 x19), (.int .i64 x20), (.int .i64 x21), (.bool b22), (.bool b23)]), (.str l24), (.int .i64 y4)] h (fun v25 h26 => ∃ (x27 : Int) (b28 : Bool), v25 = (.tuple [(.int .i64 x27), (.bool b28)]) ∧ ((b28 = true → wpCallV ctx Try.prog 4 h26 (fun v29 h30 => wpUn .not v29 (fun v31 => wpPick v31 (fun t => match t with | true => (∀ tm', getV tm' 5 = (.int .i64 y5) → getV tm' 2 = y2 → getV tm' 1 = y1 → getV tm' 4 = (.int .i64 x27) → getV tm' 0 = y0 → Q .ret ⟨28, tm', d, h30⟩) | false => (∀ tm', getV tm' 5 = (.int .i64 (w64 (y5 + (1 : Int)))) → getV tm' 2 = y2 → getV tm' 1 = y1 → getV tm' 4 = (.int .i64 x27) → getV tm' 0 = y0 → Q .normal ⟨28, tm', d, h30⟩)))) [(.int .i64 y5), (.int .i64 x27)] y0) ∧ (b28 = false → wpCallV ctx Try.prog 4 h26 (fun v32 h33 => wpUn .not v32 (fun v34 => wpPick v34 (fun t => match t with | true => (∀ tm', getV tm' 5 = (.int .i64 y5) → getV tm' 2 = y2 → getV tm' 1 = y1 → getV tm' 4 = (.int .i64 x27) → getV tm' 0 = y0 → Q .ret ⟨28, tm', d, h33⟩) | false => (∀ tm', getV tm' 5 = (.int .i64 (w64 (y5 + (1 : Int)))) → getV tm' 2 = y2 → getV tm' 1 = y1 → getV tm' 4 = (.int .i64 x27) → getV tm' 0 = y0 → Q .normal ⟨28, tm', d, h33⟩)))) [(.int .i64 y5), (.int .i64 x27)] y0)))) ∧ (¬(y4 < (Int.ofNat (List.length l17))) → (∀ tm', getV tm' 5 = (.int .i64 y5) → getV tm' 2 = y2 → getV tm' 1 = y1 → getV tm' 4 = (.int .i64 y4) → getV tm' 0 = y0 → Q (.exit 0) ⟨28, tm', d, h⟩)))))) := by kernel_rfl
theorem vb57 (a0 : V) (a1 : V) (a2 : V) (h : H) (Q : V → H → Prop) : wpC Try.prog ctx false b57 ⟨28, setArgs [a0, a1, a2] 0 (Tb.leaf undefV), [], h⟩ (endW ctx ⟨28, [], b57⟩ Q) = (wpC Try.prog ctx false (.loop l57_0) ⟨28, (Tb.set (Tb.set (Tb.set (Tb.set (Tb.set (Tb.leaf undefV) 0 a0) 1 a1) 2 a2) 4 (.int .i64 (0 : Int))) 5 (.int .i64 (0 : Int))), [], h⟩ (fun e s1 => (endW ctx ⟨28, [], b57⟩ Q) (exitB 0 e) s1)) := by kernel_rfl

/- cheesepress/cutter.next -/
def d58_0 : Array Oper := #[⟨(some 16), .move (t 9), 88, "cutter.go:66", #[], none⟩,
  ⟨(some 17), .load 87 (t 8), 87, "cutter.go:66", #[], none⟩,
  ⟨(some 18), .move (t 1), 9, "cutter.go:66", #[], none⟩,
  ⟨(some 19), .move (t 2), 3, "cutter.go:66", #[], none⟩,
  ⟨(some 20), .move (t 1), 9, "cutter.go:66", #[], none⟩,
  ⟨(some 21), .call ⟨(.builtin .len), #[(t 20)], #[9]⟩, 3, "cutter.go:66", #[⟨4, .data⟩], none⟩,
  ⟨(some 22), .move (t 2), 3, "cutter.go:66", #[], none⟩,
  ⟨(some 23), .fieldAddr 87 (t 8) 1, 0, "cutter.go:66", #[], none⟩,
  ⟨(some 24), .load 3 (t 23), 3, "cutter.go:66", #[⟨7, .data⟩], none⟩,
  ⟨(some 25), .binOp .add 3 (t 22) (t 24) 3, 3, "cutter.go:66", #[⟨6, .data⟩, ⟨8, .data⟩], none⟩,
  ⟨(some 26), .call ⟨(.builtin .min), #[(t 21), (t 25)], #[3, 3]⟩, 3, "cutter.go:66", #[⟨5, .data⟩, ⟨9, .data⟩], none⟩,
  ⟨(some 27), .slice 9 (t 18) (some (t 19)) (some (t 26)) none, 9, "cutter.go:66", #[⟨2, .data⟩, ⟨3, .data⟩, ⟨10, .data⟩], none⟩,
  ⟨(some 28), .call ⟨(.value (t 16)), #[(t 17), (t 27)], #[87, 9]⟩, 3, "cutter.go:66", #[⟨0, .data⟩, ⟨1, .data⟩, ⟨11, .data⟩], none⟩,
  ⟨(some 10), .assign (t 28), 3, "cutter.go:66", #[⟨12, .data⟩, ⟨12, .chain⟩, ⟨0, .phase⟩, ⟨1, .phase⟩, ⟨2, .phase⟩, ⟨3, .phase⟩, ⟨4, .phase⟩, ⟨5, .phase⟩, ⟨6, .phase⟩, ⟨7, .phase⟩, ⟨8, .phase⟩, ⟨9, .phase⟩, ⟨10, .phase⟩, ⟨11, .phase⟩, ⟨12, .phase⟩], none⟩]
def r58_1 : Code :=
 (.seq
  (.region 3 ⟨[O1 (some 29) 3 (.move (t 10)),
    O1 (some 30) 4 (.binOp .gtr 3 (t 29) (ci 0) 3)]⟩ false)
  (.cond (t 30)
   (.seq
    (.region 4 ⟨[O1 (some 31) 3 (.move (t 2)),
      O1 (some 32) 3 (.move (t 10)),
      O1 (some 33) 3 (.binOp .add 3 (t 31) (t 32) 3),
      O1 (some 6) 3 (.assign (t 33)),
      O1 (some 7) 4 (.assign (.const (.bool true)))]⟩ false)
    .ret)
   .skip))
def r58_2 : Code :=
 (.seq
  (.region 5 ⟨[O1 (some 34) 9 (.move (t 1)),
    O1 (some 35) 3 (.call ⟨(.builtin .len), #[(t 34)], #[9]⟩),
    O1 (some 6) 3 (.assign (t 35)),
    O1 (some 7) 4 (.assign (.const (.bool false)))]⟩ false)
  .ret)
def b58 : Code :=
 (.seq
  (.region 0 ⟨[O1 (some 3) 0 (.box 24 (t 0)),
    O1 (some 6) 3 (.assign (ci 0)),
    O1 (some 7) 4 (.assign (.const (.bool false)))]⟩ false)
  (.seq
   (.region 1 ⟨[O1 (some 12) 24 (.load 24 (t 3)),
     O1 (some 13) 89 (.call ⟨(.value (.func 65)), #[(t 12)], #[24]⟩),
     O1 (some 11) 89 (.move (t 13)),
     O1 (some 14) 87 (.extract (t 11) 0),
     O1 (some 15) 88 (.extract (t 11) 1),
     O1 (some 8) 0 (.alloc 87),
     O1 none 0 (.store 87 (t 8) (t 14)),
     O1 (some 9) 88 (.assign (t 15))]⟩ false)
   (.seq
    (.seq
     (.region 2 d58_0 true)
     r58_1)
    r58_2)))
theorem fn58 : (ctx.fn.get 58).map slimF = some ⟨36, [.tmp 6, .tmp 7], b58⟩ := by kernel_rfl
theorem vr58_1 (tm : Tm) (y10 : Int) (y2 : Int) (d : List AD) (h : H) (Q : AX → St → Prop) : wpC Try.prog ctx false r58_1 ⟨36, (Tb.set (Tb.set tm 10 (.int .i64 y10)) 2 (.int .i64 y2)), d, h⟩ (sealQ [6, 7, 10, 2, 1] Q) = ((((0 : Int) < y10 → (∀ tm', getV tm' 6 = (.int .i64 (w64 (y2 + y10))) → getV tm' 7 = (.bool true) → getV tm' 10 = (.int .i64 y10) → getV tm' 2 = (.int .i64 y2) → getV tm' 1 = getV tm 1 → Q .ret ⟨36, tm', d, h⟩)) ∧ (¬((0 : Int) < y10) → (∀ tm', getV tm' 6 = getV tm 6 → getV tm' 7 = getV tm 7 → getV tm' 10 = (.int .i64 y10) → getV tm' 2 = (.int .i64 y2) → getV tm' 1 = getV tm 1 → Q .normal ⟨36, tm', d, h⟩)))) := by kernel_rfl
theorem vr58_2 (tm : Tm) (y1 : List UInt8) (d : List AD) (h : H) (Q : AX → St → Prop) : wpC Try.prog ctx false r58_2 ⟨36, (Tb.set tm 1 (.str y1)), d, h⟩ (sealQ [6, 7, 10, 2, 1] Q) = ((∀ tm', getV tm' 6 = (.int .i64 (Int.ofNat (List.length y1))) → getV tm' 7 = (.bool false) → getV tm' 10 = getV tm 10 → getV tm' 2 = getV tm 2 → getV tm' 1 = (.str y1) → Q .ret ⟨36, tm', d, h⟩)) := by kernel_rfl
theorem vb58 (a0_0 : Int) (a0_1 : Int) (a0_2 : Int) (a0_3 : Int) (a0_4 : Bool) (a0_5 : Bool) (a1 : List UInt8) (a2 : Int) (h : H) (Q : V → H → Prop) : wpC Try.prog ctx false b58 ⟨36, setArgs [(.agg [(.int .i64 a0_0), (.int .i64 a0_1), (.int .i64 a0_2), (.int .i64 a0_3), (.bool a0_4), (.bool a0_5)]), (.str a1), (.int .i64 a2)] 0 (Tb.leaf undefV), [], h⟩ (endW ctx ⟨36, [.tmp 6, .tmp 7], b58⟩ Q) = ((h.next < T.top ∧ ∀ p0 h1, p0 = h.next → h1 = h.new (.cells (.ls [(.int .i64 a0_0), (.int .i64 a0_1), (.int .i64 a0_2), (.int .i64 a0_3), (.bool a0_4), (.bool a0_5)]) ⟨0, 25, 0⟩ true false) → ∃ (x2 : Int) (x3 : Int) (x4 : Int) (x5 : Int) (b6 : Bool) (b7 : Bool), ald ctx 24 h1 (.ptr p0 0) = some (.agg [(.int .i64 x2), (.int .i64 x3), (.int .i64 x4), (.int .i64 x5), (.bool b6), (.bool b7)]) ∧ RF Try.prog ctx 65 [(.agg [(.int .i64 x2), (.int .i64 x3), (.int .i64 x4), (.int .i64 x5), (.bool b6), (.bool b7)])] h1 (fun v8 h9 => ∃ (x10 : Int) (x11 : Int) (x12 : Int) (v13 : V), v8 = (.tuple [(.agg [(.int .i64 x10), (.int .i64 x11), (.int .i64 x12)]), v13]) ∧ (h9.next < T.top ∧ ∀ p14 h15, p14 = h9.next → h15 = h9.new (.cells (.ls [(.int .i64 (0 : Int)), (.int .i64 (0 : Int)), (.int .i64 (0 : Int))]) ⟨0, 88, 0⟩ true false) → ∃ h16, ast ctx 87 h15 (.ptr p14 0) (.agg [(.int .i64 x10), (.int .i64 x11), (.int .i64 x12)]) = some h16 ∧ wpDr Try.prog ctx false d58_0.toList ⟨36, (Tb.set (Tb.set (Tb.set (Tb.set (Tb.set (Tb.set (Tb.set (Tb.set (Tb.set (Tb.set (Tb.set (Tb.set (Tb.set (Tb.leaf undefV) 0 (.agg [(.int .i64 a0_0), (.int .i64 a0_1), (.int .i64 a0_2), (.int .i64 a0_3), (.bool a0_4), (.bool a0_5)])) 1 (.str a1)) 2 (.int .i64 a2)) 3 (.ptr p0 0)) 6 (.int .i64 (0 : Int))) 7 (.bool false)) 12 (.agg [(.int .i64 x2), (.int .i64 x3), (.int .i64 x4), (.int .i64 x5), (.bool b6), (.bool b7)])) 13 (.tuple [(.agg [(.int .i64 x10), (.int .i64 x11), (.int .i64 x12)]), v13])) 11 (.tuple [(.agg [(.int .i64 x10), (.int .i64 x11), (.int .i64 x12)]), v13])) 14 (.agg [(.int .i64 x10), (.int .i64 x11), (.int .i64 x12)])) 15 v13) 8 (.ptr p14 0)) 9 v13), [], h16⟩ (thenC (fun s1 => wpC Try.prog ctx false r58_1 s1 (thenC (fun s1 => wpC Try.prog ctx false r58_2 s1 (endW ctx ⟨36, [.tmp 6, .tmp 7], b58⟩ Q)) (endW ctx ⟨36, [.tmp 6, .tmp 7], b58⟩ Q))) (thenC (fun s1 => wpC Try.prog ctx false r58_2 s1 (endW ctx ⟨36, [.tmp 6, .tmp 7], b58⟩ Q)) (endW ctx ⟨36, [.tmp 6, .tmp 7], b58⟩ Q))))))) := by kernel_rfl

/- cmp.isNaN[int] -/
def b59 : Code :=
 (.seq
  (.region 0 ⟨[O1 (some 2) 4 (.assign (.const (.bool false)))]⟩ false)
  (.seq
   (.region 1 ⟨[O1 (some 3) 3 (.move (t 0)),
     O1 (some 4) 3 (.move (t 0)),
     O1 (some 5) 4 (.binOp .neq 3 (t 3) (t 4) 3),
     O1 (some 2) 4 (.assign (t 5))]⟩ false)
   .ret))
theorem fn59 : (ctx.fn.get 59).map slimF = some ⟨6, [.tmp 2], b59⟩ := by kernel_rfl
theorem vb59 (a0 : Int) (h : H) (Q : V → H → Prop) : wpC Try.prog ctx false b59 ⟨6, setArgs [(.int .i64 a0)] 0 (Tb.leaf undefV), [], h⟩ (endW ctx ⟨6, [.tmp 2], b59⟩ Q) = (((a0 ≠ a0 → Q (.bool true) h) ∧ (¬(a0 ≠ a0) → Q (.bool false) h))) := by kernel_rfl

/- cheesepress/params.asked -/
def b60 : Code :=
 (.seq
  (.region 0 ⟨[O1 (some 2) 0 (.box 24 (t 0)),
    O1 (some 4) 3 (.assign (ci 0)),
    O1 (some 5) 28 (.assign (ci 0))]⟩ false)
  (.seq
   (.seq
    (.region 1 ⟨[O1 (some 7) 24 (.load 24 (t 2)),
      O1 (some 8) 28 (.call ⟨(.value (.func 23)), #[(t 7)], #[24]⟩),
      O1 (some 6) 28 (.assign (t 8))]⟩ false)
    (.seq
     (.region 2 ⟨[O1 (some 9) 28 (.move (t 6)),
       O1 (some 10) 4 (.binOp .neq 28 (t 9) (ci 0) 28)]⟩ false)
     (.cond (t 10)
      (.seq
       (.region 3 ⟨[O1 (some 11) 28 (.move (t 6)),
         O1 (some 4) 3 (.assign (ci 0)),
         O1 (some 5) 28 (.assign (t 11))]⟩ false)
       .ret)
      .skip)))
   (.seq
    (.region 4 ⟨[O1 (some 12) 85 (.move (t 1)),
      O1 (some 13) 3 (.call ⟨(.value (t 12)), #[], #[]⟩),
      O1 (some 4) 3 (.assign (t 13)),
      O1 (some 5) 28 (.assign (ci 0))]⟩ false)
    .ret)))
theorem fn60 : (ctx.fn.get 60).map slimF = some ⟨14, [.tmp 4, .tmp 5], b60⟩ := by kernel_rfl
theorem vb60 (a0_0 : Int) (a0_1 : Int) (a0_2 : Int) (a0_3 : Int) (a0_4 : Bool) (a0_5 : Bool) (a1 : V) (h : H) (Q : V → H → Prop) : wpC Try.prog ctx false b60 ⟨14, setArgs [(.agg [(.int .i64 a0_0), (.int .i64 a0_1), (.int .i64 a0_2), (.int .i64 a0_3), (.bool a0_4), (.bool a0_5)]), a1] 0 (Tb.leaf undefV), [], h⟩ (endW ctx ⟨14, [.tmp 4, .tmp 5], b60⟩ Q) = ((h.next < T.top ∧ ∀ p0 h1, p0 = h.next → h1 = h.new (.cells (.ls [(.int .i64 a0_0), (.int .i64 a0_1), (.int .i64 a0_2), (.int .i64 a0_3), (.bool a0_4), (.bool a0_5)]) ⟨0, 25, 0⟩ true false) → ∃ (x2 : Int) (x3 : Int) (x4 : Int) (x5 : Int) (b6 : Bool) (b7 : Bool), ald ctx 24 h1 (.ptr p0 0) = some (.agg [(.int .i64 x2), (.int .i64 x3), (.int .i64 x4), (.int .i64 x5), (.bool b6), (.bool b7)]) ∧ RF Try.prog ctx 23 [(.agg [(.int .i64 x2), (.int .i64 x3), (.int .i64 x4), (.int .i64 x5), (.bool b6), (.bool b7)])] h1 (fun v8 h9 => ∃ (x10 : Int), v8 = (.int .i64 x10) ∧ ((x10 ≠ (0 : Int) → Q (.tuple [(.int .i64 (0 : Int)), (.int .i64 x10)]) h9) ∧ (¬(x10 ≠ (0 : Int)) → wpCallV ctx Try.prog 3 h9 (fun v11 h12 => Q (.tuple [v11, (.int .i64 (0 : Int))]) h12) [] a1))))) := by kernel_rfl

/- cheesepress/params.Prefix$1 -/
def b61 : Code :=
 (.seq
  (.region 0 ⟨[O1 (some 1) 3 (.assign (ci 0))]⟩ false)
  (.seq
   (.seq
    (.region 1 ⟨[O1 (some 2) 0 (.fieldAddr 24 (t 0) 3),
      O1 (some 3) 3 (.load 3 (t 2)),
      O1 (some 4) 4 (.binOp .eql 3 (t 3) (ci 0) 3)]⟩ false)
    (.cond (t 4)
     (.seq
      (.region 2 ⟨[O1 (some 1) 3 (.assign (ci 0))]⟩ false)
      .ret)
     .skip))
   (.seq
    (.region 3 #[⟨(some 5), .fieldAddr 24 (t 0) 1, 0, "params.go:83", #[], none⟩,
      ⟨(some 6), .load 3 (t 5), 3, "params.go:83", #[⟨0, .data⟩], none⟩,
      ⟨(some 7), .binOp .shl 84 (.const (.int .u64 (.ofNat 1))) (t 6) 3, 84, "params.go:83", #[⟨1, .data⟩], none⟩,
      ⟨(some 8), .fieldAddr 24 (t 0) 3, 0, "params.go:83", #[], none⟩,
      ⟨(some 9), .load 3 (t 8), 3, "params.go:83", #[⟨3, .data⟩], none⟩,
      ⟨(some 10), .binOp .sub 3 (ci 9) (t 9) 3, 3, "params.go:83", #[⟨4, .data⟩], none⟩,
      ⟨(some 11), .convert 3 74 (t 10), 74, "params.go:83", #[⟨5, .data⟩], none⟩,
      ⟨(some 12), .binOp .shr 84 (t 7) (t 11) 74, 84, "params.go:83", #[⟨2, .data⟩, ⟨6, .data⟩], none⟩,
      ⟨(some 13), .convert 84 3 (t 12), 3, "params.go:83", #[⟨7, .data⟩], none⟩,
      ⟨(some 1), .assign (t 13), 3, "params.go:83", #[⟨8, .data⟩, ⟨0, .phase⟩, ⟨1, .phase⟩, ⟨2, .phase⟩, ⟨3, .phase⟩, ⟨4, .phase⟩, ⟨5, .phase⟩, ⟨6, .phase⟩, ⟨7, .phase⟩, ⟨8, .phase⟩], none⟩] true)
    .ret)))
theorem fn61 : (ctx.fn.get 61).map slimF = some ⟨14, [.tmp 1], b61⟩ := by kernel_rfl
theorem vb61 (a0 : V) (h : H) (Q : V → H → Prop) : wpC Try.prog ctx false b61 ⟨14, setArgs [a0] 0 (Tb.leaf undefV), [], h⟩ (endW ctx ⟨14, [.tmp 1], b61⟩ Q) = (wpFA ctx 24 3 h a0 (fun v0 h1 => ∃ (x2 : Int), ald ctx 3 h1 v0 = some (.int .i64 x2) ∧ ((x2 = (0 : Int) → Q (.int .i64 (0 : Int)) h1) ∧ (¬(x2 = (0 : Int)) → ((h1.next ≤ T.top ∧ h1.low ≤ T.top) ∧ wpFA ctx 24 1 h1 a0 (fun v3 h4 => ∃ (x5 : Int), ald ctx 3 h4 v3 = some (.int .i64 x5) ∧ ∃ (x6 : Int), intB .shl .u64 (1 : Int) x5 = some (.int .u64 x6) ∧ wpFA ctx 24 3 h4 a0 (fun v7 h8 => ∃ (x9 : Int), ald ctx 3 h8 v7 = some (.int .i64 x9) ∧ ∃ (x10 : Int), intB .shr .u64 x6 (wrapF .u64 ((w64 ((9 : Int) - x9)))) = some (.int .u64 x10) ∧ Q (.int .i64 (w64 (x10))) h8))))))) := by kernel_rfl

/- cheesepress/params.Block -/
def b62 : Code :=
 (.seq
  (.region 0 ⟨[O1 (some 1) 0 (.box 24 (t 0)),
    O1 (some 2) 3 (.assign (ci 0)),
    O1 (some 3) 28 (.assign (ci 0))]⟩ false)
  (.seq
   (.region 1 ⟨[O1 (some 4) 24 (.load 24 (t 1)),
     O1 (some 5) 85 (.makeFunc (.func 66) #[] #[(t 1)]),
     O1 (some 6) 46 (.call ⟨(.value (.func 60)), #[(t 4), (t 5)], #[24, 85]⟩),
     O1 (some 7) 3 (.extract (t 6) 0),
     O1 (some 8) 28 (.extract (t 6) 1),
     O1 (some 2) 3 (.assign (t 7)),
     O1 (some 3) 28 (.assign (t 8))]⟩ false)
   .ret))
theorem fn62 : (ctx.fn.get 62).map slimF = some ⟨9, [.tmp 2, .tmp 3], b62⟩ := by kernel_rfl
theorem vb62 (a0_0 : Int) (a0_1 : Int) (a0_2 : Int) (a0_3 : Int) (a0_4 : Bool) (a0_5 : Bool) (h : H) (Q : V → H → Prop) : wpC Try.prog ctx false b62 ⟨9, setArgs [(.agg [(.int .i64 a0_0), (.int .i64 a0_1), (.int .i64 a0_2), (.int .i64 a0_3), (.bool a0_4), (.bool a0_5)])] 0 (Tb.leaf undefV), [], h⟩ (endW ctx ⟨9, [.tmp 2, .tmp 3], b62⟩ Q) = ((h.next < T.top ∧ ∀ p0 h1, p0 = h.next → h1 = h.new (.cells (.ls [(.int .i64 a0_0), (.int .i64 a0_1), (.int .i64 a0_2), (.int .i64 a0_3), (.bool a0_4), (.bool a0_5)]) ⟨0, 25, 0⟩ true false) → ∃ (x2 : Int) (x3 : Int) (x4 : Int) (x5 : Int) (b6 : Bool) (b7 : Bool), ald ctx 24 h1 (.ptr p0 0) = some (.agg [(.int .i64 x2), (.int .i64 x3), (.int .i64 x4), (.int .i64 x5), (.bool b6), (.bool b7)]) ∧ RF Try.prog ctx 60 [(.agg [(.int .i64 x2), (.int .i64 x3), (.int .i64 x4), (.int .i64 x5), (.bool b6), (.bool b7)]), (.func (.func 66) [] [(.ptr p0 0)])] h1 (fun v8 h9 => ∃ (x10 : Int) (x11 : Int), v8 = (.tuple [(.int .i64 x10), (.int .i64 x11)]) ∧ Q (.tuple [(.int .i64 x10), (.int .i64 x11)]) h9))) := by kernel_rfl

/- cheesepress/pieces.pieces$1 -/
def l63_0 : Code :=
 (.seq
  (.seq
   (.region 1 ⟨[O1 (some 5) 3 (.move (t 4)),
     O1 (some 6) 4 (.binOp .eql 3 (t 5) (ci 0) 3),
     O1 (some 7) 4 (.move (t 6)),
     O2 (some 8) 3 (.move (t 4)) (2, false),
     O2 (some 9) 3 (.load 3 (t 1)) (2, false),
     O2 (some 10) 4 (.binOp .lss 3 (t 8) (t 9) 3) (2, false),
     O1 (some 11) 4 (.pick (t 7) (.const (.bool true)) (t 10))]⟩ false)
   (.cond (t 11)
    .skip
    (.exit 0)))
  (.seq
   (.block 1
    (.seq
     (.region 3 ⟨[O1 (some 15) 75 (.move (t 0)),
       O1 (some 16) 3 (.move (t 4)),
       O1 (some 17) 3 (.move (t 4)),
       O1 (some 18) 3 (.load 3 (t 2)),
       O1 (some 19) 3 (.binOp .add 3 (t 17) (t 18) 3),
       O1 (some 20) 3 (.load 3 (t 1)),
       O1 (some 21) 3 (.call ⟨(.builtin .min), #[(t 19), (t 20)], #[3, 3]⟩),
       O1 (some 22) 4 (.call ⟨(.value (t 15)), #[(t 16), (t 21)], #[3, 3]⟩),
       O1 (some 23) 4 (.unOp .not 4 (t 22))]⟩ false)
     (.cond (t 23)
      .ret
      .skip)))
   (.region 2 ⟨[O1 (some 12) 3 (.move (t 4)),
     O1 (some 13) 3 (.load 3 (t 2)),
     O1 (some 14) 3 (.binOp .add 3 (t 12) (t 13) 3),
     O1 (some 4) 3 (.assign (t 14))]⟩ false)))
def b63 : Code :=
 (.seq
  (.region 0 ⟨[O1 (some 4) 3 (.assign (ci 0))]⟩ false)
  (.block 0
   (.loop l63_0)))
theorem fn63 : (ctx.fn.get 63).map slimF = some ⟨24, [], b63⟩ := by kernel_rfl
theorem vl63_0 (tm : Tm) (y4 : Int) (y0 : V) (y2 : V) (y1 : V) (d : List AD) (h : H) (Q : AX → St → Prop) : wpC Try.prog ctx false l63_0 ⟨24, (Tb.set (Tb.set (Tb.set (Tb.set tm 4 (.int .i64 y4)) 0 y0) 2 y2) 1 y1), d, h⟩ (sealQ [4, 0, 2, 1] Q) = (((y4 = (0 : Int) → ∃ (x0 : Int), ald ctx 3 h y2 = some (.int .i64 x0) ∧ ∃ (x1 : Int), ald ctx 3 h y1 = some (.int .i64 x1) ∧ wpCallV ctx Try.prog 4 h (fun v2 h3 => wpUn .not v2 (fun v4 => wpPick v4 (fun t => match t with | true => (∀ tm', getV tm' 4 = (.int .i64 y4) → getV tm' 0 = y0 → getV tm' 2 = y2 → getV tm' 1 = y1 → Q .ret ⟨24, tm', d, h3⟩) | false => ∃ (x5 : Int), ald ctx 3 h3 y2 = some (.int .i64 x5) ∧ (∀ tm', getV tm' 4 = (.int .i64 (w64 (y4 + x5))) → getV tm' 0 = y0 → getV tm' 2 = y2 → getV tm' 1 = y1 → Q .normal ⟨24, tm', d, h3⟩)))) [(.int .i64 y4), (.int .i64 (min (w64 (y4 + x0)) x1))] y0) ∧ (¬(y4 = (0 : Int)) → ∃ (x6 : Int), ald ctx 3 h y1 = some (.int .i64 x6) ∧ ((y4 < x6 → ∃ (x7 : Int), ald ctx 3 h y2 = some (.int .i64 x7) ∧ ∃ (x8 : Int), ald ctx 3 h y1 = some (.int .i64 x8) ∧ wpCallV ctx Try.prog 4 h (fun v9 h10 => wpUn .not v9 (fun v11 => wpPick v11 (fun t => match t with | true => (∀ tm', getV tm' 4 = (.int .i64 y4) → getV tm' 0 = y0 → getV tm' 2 = y2 → getV tm' 1 = y1 → Q .ret ⟨24, tm', d, h10⟩) | false => ∃ (x12 : Int), ald ctx 3 h10 y2 = some (.int .i64 x12) ∧ (∀ tm', getV tm' 4 = (.int .i64 (w64 (y4 + x12))) → getV tm' 0 = y0 → getV tm' 2 = y2 → getV tm' 1 = y1 → Q .normal ⟨24, tm', d, h10⟩)))) [(.int .i64 y4), (.int .i64 (min (w64 (y4 + x7)) x8))] y0) ∧ (¬(y4 < x6) → (∀ tm', getV tm' 4 = (.int .i64 y4) → getV tm' 0 = y0 → getV tm' 2 = y2 → getV tm' 1 = y1 → Q (.exit 0) ⟨24, tm', d, h⟩)))))) := by kernel_rfl
theorem vb63 (a0 : V) (a1 : V) (a2 : V) (h : H) (Q : V → H → Prop) : wpC Try.prog ctx false b63 ⟨24, setArgs [a0, a1, a2] 0 (Tb.leaf undefV), [], h⟩ (endW ctx ⟨24, [], b63⟩ Q) = (wpC Try.prog ctx false (.loop l63_0) ⟨24, (Tb.set (Tb.set (Tb.set (Tb.set (Tb.leaf undefV) 0 a0) 1 a1) 2 a2) 4 (.int .i64 (0 : Int))), [], h⟩ (fun e s1 => (endW ctx ⟨24, [], b63⟩ Q) (exitB 0 e) s1)) := by kernel_rfl

/- cheesepress/cheesepressref21.Block -/
def b64 : Code :=
 (.seq
  (.region 0 ⟨[O1 (some 1) 0 (.box 24 (t 0)),
    O1 (some 2) 3 (.assign (ci 0)),
    O1 (some 3) 28 (.assign (ci 0))]⟩ false)
  (.seq
   (.region 1 ⟨[O1 (some 7) 24 (.load 24 (t 1)),
     O1 (some 8) 46 (.call ⟨(.value (.func 39)), #[(t 7)], #[24]⟩),
     O1 (some 6) 46 (.move (t 8)),
     O1 (some 9) 3 (.extract (t 6) 0),
     O1 (some 10) 28 (.extract (t 6) 1),
     O1 (some 4) 3 (.assign (t 9)),
     O1 (some 5) 28 (.assign (t 10))]⟩ false)
   (.seq
    (.seq
     (.region 2 ⟨[O1 (some 11) 28 (.move (t 5)),
       O1 (some 12) 4 (.binOp .neq 28 (t 11) (ci 0) 28)]⟩ false)
     (.cond (t 12)
      (.seq
       (.region 3 ⟨[O1 (some 13) 28 (.move (t 5)),
         O1 (some 2) 3 (.assign (ci 0)),
         O1 (some 3) 28 (.assign (t 13))]⟩ false)
       .ret)
      .skip))
    (.seq
     (.region 4 ⟨[O1 (some 14) 3 (.move (t 4)),
       O1 (some 15) 3 (.call ⟨(.builtin .min), #[(t 14), (ci 131072)], #[3, 3]⟩),
       O1 (some 2) 3 (.assign (t 15)),
       O1 (some 3) 28 (.assign (ci 0))]⟩ false)
     .ret))))
theorem fn64 : (ctx.fn.get 64).map slimF = some ⟨16, [.tmp 2, .tmp 3], b64⟩ := by kernel_rfl
theorem vb64 (a0_0 : Int) (a0_1 : Int) (a0_2 : Int) (a0_3 : Int) (a0_4 : Bool) (a0_5 : Bool) (h : H) (Q : V → H → Prop) : wpC Try.prog ctx false b64 ⟨16, setArgs [(.agg [(.int .i64 a0_0), (.int .i64 a0_1), (.int .i64 a0_2), (.int .i64 a0_3), (.bool a0_4), (.bool a0_5)])] 0 (Tb.leaf undefV), [], h⟩ (endW ctx ⟨16, [.tmp 2, .tmp 3], b64⟩ Q) = ((h.next < T.top ∧ ∀ p0 h1, p0 = h.next → h1 = h.new (.cells (.ls [(.int .i64 a0_0), (.int .i64 a0_1), (.int .i64 a0_2), (.int .i64 a0_3), (.bool a0_4), (.bool a0_5)]) ⟨0, 25, 0⟩ true false) → ∃ (x2 : Int) (x3 : Int) (x4 : Int) (x5 : Int) (b6 : Bool) (b7 : Bool), ald ctx 24 h1 (.ptr p0 0) = some (.agg [(.int .i64 x2), (.int .i64 x3), (.int .i64 x4), (.int .i64 x5), (.bool b6), (.bool b7)]) ∧ RF Try.prog ctx 39 [(.agg [(.int .i64 x2), (.int .i64 x3), (.int .i64 x4), (.int .i64 x5), (.bool b6), (.bool b7)])] h1 (fun v8 h9 => ∃ (x10 : Int) (x11 : Int), v8 = (.tuple [(.int .i64 x10), (.int .i64 x11)]) ∧ ((x11 ≠ (0 : Int) → Q (.tuple [(.int .i64 (0 : Int)), (.int .i64 x11)]) h9) ∧ (¬(x11 ≠ (0 : Int)) → Q (.tuple [(.int .i64 (min x10 (131072 : Int))), (.int .i64 (0 : Int))]) h9))))) := by kernel_rfl

/- cheesepress/cutter.found -/
def b65 : Code :=
 (.seq
  (.region 0 ⟨[O1 (some 1) 0 (.box 24 (t 0)),
    O1 (some 2) 0 (.alloc 87),
    O1 (some 3) 88 (.assign (.const .nilFunc))]⟩ false)
  (.seq
   (.region 1 ⟨[O1 (some 6) 92 (.build 92 #[(0, (.func 67)), (1, (.func 68))]),
     O1 (some 4) 0 (.alloc 92),
     O1 none 0 (.store 92 (t 4) (t 6))]⟩ false)
   (.seq
    (.region 2 ⟨[O1 (some 7) 0 (.fieldAddr 24 (t 1) 2),
      O1 (some 8) 3 (.load 3 (t 7)),
      O1 (some 9) 3 (.call ⟨(.value (.func 69)), #[(t 8)], #[3]⟩),
      O1 (some 10) 3 (.binOp .sub 3 (t 9) (ci 2) 3),
      O1 (some 11) 3 (.call ⟨(.builtin .max), #[(ci 1), (t 10)], #[3, 3]⟩),
      O1 (some 5) 3 (.assign (t 11))]⟩ false)
    (.seq
     (.seq
      (.region 3 ⟨[O1 (some 12) 0 (.fieldAddr 24 (t 1) 4),
        O1 (some 13) 4 (.load 4 (t 12))]⟩ false)
      (.cond (t 13)
       (.seq
        (.region 4 #[⟨(some 14), .fieldAddr 24 (t 1) 2, 0, "cutter.go:58", #[], none⟩,
          ⟨(some 15), .load 3 (t 14), 3, "cutter.go:58", #[⟨0, .data⟩], none⟩,
          ⟨(some 16), .convert 3 74 (t 15), 74, "cutter.go:58", #[⟨1, .data⟩], none⟩,
          ⟨(some 17), .binOp .shr 74 (t 16) (.const (.int .u64 (.ofNat 2))) 74, 74, "cutter.go:58", #[⟨2, .data⟩], none⟩,
          ⟨(some 18), .convert 74 3 (t 17), 3, "cutter.go:58", #[⟨3, .data⟩], none⟩,
          ⟨(some 19), .call ⟨(.builtin .max), #[(ci 16), (t 18)], #[3, 3]⟩, 3, "cutter.go:58", #[⟨4, .data⟩], none⟩,
          ⟨(some 20), .fieldAddr 24 (t 1) 2, 0, "cutter.go:58", #[], none⟩,
          ⟨(some 21), .load 3 (t 20), 3, "cutter.go:58", #[⟨6, .data⟩], none⟩,
          ⟨(some 22), .convert 3 74 (t 21), 74, "cutter.go:58", #[⟨7, .data⟩], none⟩,
          ⟨(some 23), .binOp .shl 74 (t 22) (.const (.int .u64 (.ofNat 2))) 74, 74, "cutter.go:58", #[⟨8, .data⟩], none⟩,
          ⟨(some 24), .convert 74 3 (t 23), 3, "cutter.go:58", #[⟨9, .data⟩], none⟩,
          ⟨(some 25), .move (t 5), 3, "cutter.go:58", #[], none⟩,
          ⟨(some 26), .build 87 #[(0, (t 19)), (1, (t 24)), (2, (t 25))], 87, "cutter.go:58", #[⟨5, .data⟩, ⟨10, .data⟩, ⟨11, .data⟩], none⟩,
          ⟨(some 27), .indexAddr 92 (t 4) (ci 1), 0, "cutter.go:58", #[⟨15, .gcOnly .lateStores⟩], none⟩,
          ⟨(some 28), .load 88 (t 27), 88, "cutter.go:58", #[⟨13, .data⟩, ⟨15, .gcOnly .lateStores⟩], none⟩,
          ⟨none, .store 87 (t 2) (t 26), 0, "cutter.go:58", #[⟨12, .data⟩, ⟨0, .phase⟩, ⟨1, .phase⟩, ⟨2, .phase⟩, ⟨3, .phase⟩, ⟨4, .phase⟩, ⟨5, .phase⟩, ⟨6, .phase⟩, ⟨7, .phase⟩, ⟨8, .phase⟩, ⟨9, .phase⟩, ⟨10, .phase⟩, ⟨11, .phase⟩, ⟨12, .phase⟩, ⟨13, .textOnly .lateStores⟩, ⟨14, .textOnly .lateStores⟩], none⟩,
          ⟨(some 3), .assign (t 28), 88, "cutter.go:58", #[⟨14, .data⟩, ⟨15, .chain⟩, ⟨0, .phase⟩, ⟨1, .phase⟩, ⟨2, .phase⟩, ⟨3, .phase⟩, ⟨4, .phase⟩, ⟨5, .phase⟩, ⟨6, .phase⟩, ⟨7, .phase⟩, ⟨8, .phase⟩, ⟨9, .phase⟩, ⟨10, .phase⟩, ⟨11, .phase⟩, ⟨12, .phase⟩, ⟨13, .phase⟩, ⟨14, .phase⟩, ⟨15, .phase⟩], none⟩] true)
        .ret)
       .skip))
     (.seq
      (.region 5 #[⟨(some 29), .fieldAddr 24 (t 1) 2, 0, "cutter.go:60", #[], none⟩,
        ⟨(some 30), .load 3 (t 29), 3, "cutter.go:60", #[⟨0, .data⟩], none⟩,
        ⟨(some 31), .fieldAddr 24 (t 1) 2, 0, "cutter.go:60", #[], none⟩,
        ⟨(some 32), .load 3 (t 31), 3, "cutter.go:60", #[⟨2, .data⟩], none⟩,
        ⟨(some 33), .move (t 5), 3, "cutter.go:60", #[], none⟩,
        ⟨(some 34), .build 87 #[(0, (t 30)), (1, (t 32)), (2, (t 33))], 87, "cutter.go:60", #[⟨1, .data⟩, ⟨3, .data⟩, ⟨4, .data⟩], none⟩,
        ⟨(some 35), .indexAddr 92 (t 4) (ci 0), 0, "cutter.go:60", #[⟨8, .gcOnly .lateStores⟩], none⟩,
        ⟨(some 36), .load 88 (t 35), 88, "cutter.go:60", #[⟨6, .data⟩, ⟨8, .gcOnly .lateStores⟩], none⟩,
        ⟨none, .store 87 (t 2) (t 34), 0, "cutter.go:60", #[⟨5, .data⟩, ⟨0, .phase⟩, ⟨1, .phase⟩, ⟨2, .phase⟩, ⟨3, .phase⟩, ⟨4, .phase⟩, ⟨5, .phase⟩, ⟨6, .textOnly .lateStores⟩, ⟨7, .textOnly .lateStores⟩], none⟩,
        ⟨(some 3), .assign (t 36), 88, "cutter.go:60", #[⟨7, .data⟩, ⟨8, .chain⟩, ⟨0, .phase⟩, ⟨1, .phase⟩, ⟨2, .phase⟩, ⟨3, .phase⟩, ⟨4, .phase⟩, ⟨5, .phase⟩, ⟨6, .phase⟩, ⟨7, .phase⟩, ⟨8, .phase⟩], none⟩] true)
      .ret)))))
theorem fn65 : (ctx.fn.get 65).map slimF = some ⟨37, [.cell 2 87, .tmp 3], b65⟩ := by kernel_rfl
theorem vb65 (a0_0 : Int) (a0_1 : Int) (a0_2 : Int) (a0_3 : Int) (a0_4 : Bool) (a0_5 : Bool) (h : H) (Q : V → H → Prop) : wpC Try.prog ctx false b65 ⟨37, setArgs [(.agg [(.int .i64 a0_0), (.int .i64 a0_1), (.int .i64 a0_2), (.int .i64 a0_3), (.bool a0_4), (.bool a0_5)])] 0 (Tb.leaf undefV), [], h⟩ (endW ctx ⟨37, [.cell 2 87, .tmp 3], b65⟩ Q) = ((h.next < T.top ∧ ∀ p0 h1, p0 = h.next → h1 = h.new (.cells (.ls [(.int .i64 a0_0), (.int .i64 a0_1), (.int .i64 a0_2), (.int .i64 a0_3), (.bool a0_4), (.bool a0_5)]) ⟨0, 25, 0⟩ true false) → (h1.next < T.top ∧ ∀ p2 h3, p2 = h1.next → h3 = h1.new (.cells (.ls [(.int .i64 (0 : Int)), (.int .i64 (0 : Int)), (.int .i64 (0 : Int))]) ⟨0, 88, 0⟩ true false) → wpCs (cond (allOne (V.cells (.agg [.nilFunc, .nilFunc]))) (Cs.ofL (V.cells (.agg [.nilFunc, .nilFunc]))) none) (fun cs6 => h3.next < T.top ∧ ∀ p4 h5, p4 = h3.next → h5 = h3.new (.cells cs6 ⟨0, 93, 0⟩ true false) → ∃ h7, ast ctx 92 h5 (.ptr p4 0) (.agg [(.func (.func 67) [] []), (.func (.func 68) [] [])]) = some h7 ∧ ∃ (x8 : Int), ald ctx 3 h7 (.ptr p0 (0 + 2)) = some (.int .i64 x8) ∧ RF Try.prog ctx 69 [(.int .i64 x8)] h7 (fun v9 h10 => ∃ (x11 : Int), v9 = (.int .i64 x11) ∧ ∃ (b12 : Bool), ald ctx 4 h10 (.ptr p0 (0 + 4)) = some (.bool b12) ∧ ((b12 = true → ((h10.next ≤ T.top ∧ h10.low ≤ T.top) ∧ ∃ (x13 : Int), ald ctx 3 h10 (.ptr p0 (0 + 2)) = some (.int .i64 x13) ∧ ∃ (x14 : Int), intB .shr .u64 (wrapF .u64 (x13)) (2 : Int) = some (.int .u64 x14) ∧ ∃ (x15 : Int), ald ctx 3 h10 (.ptr p0 (0 + 2)) = some (.int .i64 x15) ∧ ∃ (x16 : Int), intB .shl .u64 (wrapF .u64 (x15)) (2 : Int) = some (.int .u64 x16) ∧ ∃ p17 o18, aidx ctx 92 (.ptr p4 0) (.int .i64 (1 : Int)) = some (.ptr p17 o18) ∧ ∃ (v19 : V), ald ctx 88 h10 (.ptr p17 o18) = some v19 ∧ ∃ h20, ast ctx 87 (topH h10) (.ptr p2 0) (.agg [(.int .i64 (max (16 : Int) (w64 (x14)))), (.int .i64 (w64 (x16))), (.int .i64 (max (1 : Int) (w64 (x11 - (2 : Int)))))]) = some h20 ∧ ((h10.next ≤ h20.low ∧ h20.next ≤ T.top) ∧ ∀ h21, h21 = lowM h10 h20 → (endW ctx ⟨37, [.cell 2 87, .tmp 3], b65⟩ Q) .ret ⟨37, (Tb.set (Tb.set (Tb.set (Tb.set (Tb.set (Tb.set (Tb.set (Tb.set (Tb.set (Tb.set (Tb.set (Tb.set (Tb.set (Tb.set (Tb.set (Tb.set (Tb.set (Tb.set (Tb.set (Tb.set (Tb.set (Tb.set (Tb.set (Tb.set (Tb.set (Tb.set (Tb.set (Tb.set (Tb.set (Tb.set (Tb.leaf undefV) 0 (.agg [(.int .i64 a0_0), (.int .i64 a0_1), (.int .i64 a0_2), (.int .i64 a0_3), (.bool a0_4), (.bool a0_5)])) 1 (.ptr p0 0)) 2 (.ptr p2 0)) 3 .nilFunc) 6 (.agg [(.func (.func 67) [] []), (.func (.func 68) [] [])])) 4 (.ptr p4 0)) 7 (.ptr p0 (0 + 2))) 8 (.int .i64 x8)) 9 (.int .i64 x11)) 10 (.int .i64 (w64 (x11 - (2 : Int))))) 11 (.int .i64 (max (1 : Int) (w64 (x11 - (2 : Int)))))) 5 (.int .i64 (max (1 : Int) (w64 (x11 - (2 : Int)))))) 12 (.ptr p0 (0 + 4))) 13 (.bool true)) 14 (.ptr p0 (0 + 2))) 15 (.int .i64 x13)) 16 (.int .u64 (wrapF .u64 (x13)))) 17 (.int .u64 x14)) 18 (.int .i64 (w64 (x14)))) 19 (.int .i64 (max (16 : Int) (w64 (x14))))) 20 (.ptr p0 (0 + 2))) 21 (.int .i64 x15)) 22 (.int .u64 (wrapF .u64 (x15)))) 23 (.int .u64 x16)) 24 (.int .i64 (w64 (x16)))) 25 (.int .i64 (max (1 : Int) (w64 (x11 - (2 : Int)))))) 26 (.agg [(.int .i64 (max (16 : Int) (w64 (x14)))), (.int .i64 (w64 (x16))), (.int .i64 (max (1 : Int) (w64 (x11 - (2 : Int)))))])) 27 (.ptr p17 o18)) 28 v19) 3 v19), [], h21⟩))) ∧ (b12 = false → ((h10.next ≤ T.top ∧ h10.low ≤ T.top) ∧ ∃ (x22 : Int), ald ctx 3 h10 (.ptr p0 (0 + 2)) = some (.int .i64 x22) ∧ ∃ (x23 : Int), ald ctx 3 h10 (.ptr p0 (0 + 2)) = some (.int .i64 x23) ∧ ∃ p24 o25, aidx ctx 92 (.ptr p4 0) (.int .i64 (0 : Int)) = some (.ptr p24 o25) ∧ ∃ (v26 : V), ald ctx 88 h10 (.ptr p24 o25) = some v26 ∧ ∃ h27, ast ctx 87 (topH h10) (.ptr p2 0) (.agg [(.int .i64 x22), (.int .i64 x23), (.int .i64 (max (1 : Int) (w64 (x11 - (2 : Int)))))]) = some h27 ∧ ((h10.next ≤ h27.low ∧ h27.next ≤ T.top) ∧ ∀ h28, h28 = lowM h10 h27 → (endW ctx ⟨37, [.cell 2 87, .tmp 3], b65⟩ Q) .ret ⟨37, (Tb.set (Tb.set (Tb.set (Tb.set (Tb.set (Tb.set (Tb.set (Tb.set (Tb.set (Tb.set (Tb.set (Tb.set (Tb.set (Tb.set (Tb.set (Tb.set (Tb.set (Tb.set (Tb.set (Tb.set (Tb.set (Tb.set (Tb.set (Tb.leaf undefV) 0 (.agg [(.int .i64 a0_0), (.int .i64 a0_1), (.int .i64 a0_2), (.int .i64 a0_3), (.bool a0_4), (.bool a0_5)])) 1 (.ptr p0 0)) 2 (.ptr p2 0)) 3 .nilFunc) 6 (.agg [(.func (.func 67) [] []), (.func (.func 68) [] [])])) 4 (.ptr p4 0)) 7 (.ptr p0 (0 + 2))) 8 (.int .i64 x8)) 9 (.int .i64 x11)) 10 (.int .i64 (w64 (x11 - (2 : Int))))) 11 (.int .i64 (max (1 : Int) (w64 (x11 - (2 : Int)))))) 5 (.int .i64 (max (1 : Int) (w64 (x11 - (2 : Int)))))) 12 (.ptr p0 (0 + 4))) 13 (.bool false)) 29 (.ptr p0 (0 + 2))) 30 (.int .i64 x22)) 31 (.ptr p0 (0 + 2))) 32 (.int .i64 x23)) 33 (.int .i64 (max (1 : Int) (w64 (x11 - (2 : Int)))))) 34 (.agg [(.int .i64 x22), (.int .i64 x23), (.int .i64 (max (1 : Int) (w64 (x11 - (2 : Int)))))])) 35 (.ptr p24 o25)) 36 v26) 3 v26), [], h28⟩))))))))) := by kernel_rfl

/- cheesepress/params.Block$1 -/
def b66 : Code :=
 (.seq
  (.region 0 ⟨[O1 (some 1) 3 (.assign (ci 0))]⟩ false)
  (.seq
   (.region 1 ⟨[O1 (some 2) 0 (.fieldAddr 24 (t 0) 1),
     O1 (some 3) 3 (.load 3 (t 2)),
     O1 (some 4) 3 (.binOp .shl 3 (ci 1) (t 3) 3),
     O1 (some 5) 3 (.call ⟨(.builtin .min), #[(t 4), (ci 131072)], #[3, 3]⟩),
     O1 (some 1) 3 (.assign (t 5))]⟩ false)
   .ret))
theorem fn66 : (ctx.fn.get 66).map slimF = some ⟨6, [.tmp 1], b66⟩ := by kernel_rfl
theorem vb66 (a0 : V) (h : H) (Q : V → H → Prop) : wpC Try.prog ctx false b66 ⟨6, setArgs [a0] 0 (Tb.leaf undefV), [], h⟩ (endW ctx ⟨6, [.tmp 1], b66⟩ Q) = (wpFA ctx 24 1 h a0 (fun v0 h1 => ∃ (x2 : Int), ald ctx 3 h1 v0 = some (.int .i64 x2) ∧ ∃ (x3 : Int), intB .shl .i64 (1 : Int) x2 = some (.int .i64 x3) ∧ Q (.int .i64 (min x3 (131072 : Int))) h1)) := by kernel_rfl

/- (cheesepress/cutter.sizes).plain -/
def b67 : Code :=
 (.seq
  (.region 0 ⟨[O1 (some 2) 0 (.box 87 (t 0)),
    O1 (some 4) 3 (.assign (ci 0))]⟩ false)
  (.seq
   (.seq
    (.region 1 ⟨[O1 (some 5) 9 (.move (t 1)),
      O1 (some 6) 3 (.call ⟨(.builtin .len), #[(t 5)], #[9]⟩),
      O1 (some 7) 0 (.fieldAddr 87 (t 2) 1),
      O1 (some 8) 3 (.load 3 (t 7)),
      O1 (some 9) 4 (.binOp .geq 3 (t 6) (t 8) 3)]⟩ false)
    (.cond (t 9)
     (.seq
      (.region 2 ⟨[O1 (some 10) 0 (.fieldAddr 87 (t 2) 1),
        O1 (some 11) 3 (.load 3 (t 10)),
        O1 (some 4) 3 (.assign (t 11))]⟩ false)
      .ret)
     .skip))
   (.seq
    (.region 3 ⟨[O1 (some 4) 3 (.assign (ci 0))]⟩ false)
    .ret)))
theorem fn67 : (ctx.fn.get 67).map slimF = some ⟨12, [.tmp 4], b67⟩ := by kernel_rfl
theorem vb67 (a0_0 : Int) (a0_1 : Int) (a0_2 : Int) (a1 : List UInt8) (h : H) (Q : V → H → Prop) : wpC Try.prog ctx false b67 ⟨12, setArgs [(.agg [(.int .i64 a0_0), (.int .i64 a0_1), (.int .i64 a0_2)]), (.str a1)] 0 (Tb.leaf undefV), [], h⟩ (endW ctx ⟨12, [.tmp 4], b67⟩ Q) = ((h.next < T.top ∧ ∀ p0 h1, p0 = h.next → h1 = h.new (.cells (.ls [(.int .i64 a0_0), (.int .i64 a0_1), (.int .i64 a0_2)]) ⟨0, 88, 0⟩ true false) → ∃ (x2 : Int), ald ctx 3 h1 (.ptr p0 (0 + 1)) = some (.int .i64 x2) ∧ ((x2 ≤ (Int.ofNat (List.length a1)) → ∃ (x3 : Int), ald ctx 3 h1 (.ptr p0 (0 + 1)) = some (.int .i64 x3) ∧ Q (.int .i64 x3) h1) ∧ (¬(x2 ≤ (Int.ofNat (List.length a1))) → Q (.int .i64 (0 : Int)) h1)))) := by kernel_rfl

/- (cheesepress/cutter.sizes).content -/
def l68_0 : Code :=
 (.seq
  (.seq
   (.region 2 ⟨[O1 (some 9) 3 (.move (t 6)),
     O1 (some 10) 9 (.move (t 1)),
     O1 (some 11) 3 (.call ⟨(.builtin .len), #[(t 10)], #[9]⟩),
     O1 (some 12) 4 (.binOp .lss 3 (t 9) (t 11) 3)]⟩ false)
   (.cond (t 12)
    .skip
    (.exit 0)))
  (.block 1
   (.seq
    (.region 3 ⟨[O1 (some 13) 3 (.move (t 6)),
      O1 (some 14) 3 (.binOp .add 3 (t 13) (ci 1) 3),
      O1 (some 6) 3 (.assign (t 14))]⟩ false)
    (.seq
     (.block 2
      (.seq
       (.region 5 ⟨[O1 (some 27) 3 (.move (t 6)),
         O1 (some 28) 4 (.binOp .lss 3 (t 27) (ci 16) 3),
         O1 (some 26) 4 (.assign (t 28))]⟩ false)
       (.cond (t 26)
        (.exit 1)
        (.seq
         (.region 6 ⟨[O1 (some 30) 3 (.move (t 6)),
           O1 (some 31) 4 (.binOp .eql 3 (t 30) (ci 16) 3),
           O1 (some 29) 4 (.assign (t 31))]⟩ false)
         (.cond (t 29)
          (.region 7 ⟨[O1 (some 33) 9 (.move (t 1)),
            O1 (some 34) 3 (.move (t 6)),
            O1 (some 35) 9 (.slice 9 (t 33) none (some (t 34)) none),
            O1 (some 36) 94 (.call ⟨(.value (.func 70)), #[(t 35)], #[9]⟩),
            O1 (some 32) 94 (.move (t 36)),
            O1 (some 37) 84 (.extract (t 32) 0),
            O1 (some 38) 28 (.extract (t 32) 1),
            O1 (some 5) 84 (.assign (t 37))]⟩ false)
          (.region 4 #[⟨(some 15), .move (t 5), 84, "cutter.go:41", #[], none⟩,
            ⟨(some 16), .move (t 1), 9, "cutter.go:41", #[], none⟩,
            ⟨(some 17), .move (t 6), 3, "cutter.go:41", #[], none⟩,
            ⟨(some 18), .binOp .sub 3 (t 17) (ci 16) 3, 3, "cutter.go:41", #[⟨2, .data⟩], none⟩,
            ⟨(some 19), .binOp .sub 3 (t 18) (ci 1) 3, 3, "cutter.go:41", #[⟨3, .data⟩], none⟩,
            ⟨(some 20), .index 9 (t 16) (t 19), 5, "cutter.go:41", #[⟨1, .data⟩, ⟨4, .data⟩], none⟩,
            ⟨(some 21), .move (t 1), 9, "cutter.go:41", #[], none⟩,
            ⟨(some 22), .move (t 6), 3, "cutter.go:41", #[], none⟩,
            ⟨(some 23), .binOp .sub 3 (t 22) (ci 1) 3, 3, "cutter.go:41", #[⟨7, .data⟩], none⟩,
            ⟨(some 24), .index 9 (t 21) (t 23), 5, "cutter.go:41", #[⟨6, .data⟩, ⟨8, .data⟩], none⟩,
            ⟨(some 25), .call ⟨(.value (.func 71)), #[(t 15), (t 20), (t 24)], #[84, 5, 5]⟩, 84, "cutter.go:41", #[⟨0, .data⟩, ⟨5, .data⟩, ⟨9, .data⟩], none⟩,
            ⟨(some 5), .assign (t 25), 84, "cutter.go:41", #[⟨10, .data⟩, ⟨10, .chain⟩, ⟨0, .phase⟩, ⟨1, .phase⟩, ⟨2, .phase⟩, ⟨3, .phase⟩, ⟨4, .phase⟩, ⟨5, .phase⟩, ⟨6, .phase⟩, ⟨7, .phase⟩, ⟨8, .phase⟩, ⟨9, .phase⟩, ⟨10, .phase⟩], none⟩] true))))))
     (.seq
      (.seq
       (.region 8 ⟨[O1 (some 39) 3 (.move (t 6)),
         O1 (some 40) 0 (.fieldAddr 87 (t 2) 0),
         O1 (some 41) 3 (.load 3 (t 40)),
         O1 (some 42) 4 (.binOp .lss 3 (t 39) (t 41) 3)]⟩ false)
       (.cond (t 42)
        (.exit 1)
        .skip))
      (.seq
       (.region 9 ⟨[O1 (some 44) 84 (.move (t 5)),
         O1 (some 45) 0 (.fieldAddr 87 (t 2) 2),
         O1 (some 46) 3 (.load 3 (t 45)),
         O1 (some 47) 97 (.call ⟨(.value (.func 72)), #[(t 44), (t 46)], #[84, 3]⟩),
         O1 (some 43) 97 (.move (t 47)),
         O1 (some 48) 4 (.extract (t 43) 0),
         O1 (some 49) 28 (.extract (t 43) 1),
         O1 (some 7) 4 (.assign (t 48)),
         O1 (some 8) 28 (.assign (t 49))]⟩ false)
       (.seq
        (.region 10 ⟨[O1 (some 50) 4 (.move (t 7)),
          O1 (some 51) 4 (.move (t 50)),
          O2 (some 52) 3 (.move (t 6)) (1, false),
          O2 (some 53) 0 (.fieldAddr 87 (t 2) 1) (1, false),
          O2 (some 54) 3 (.load 3 (t 53)) (1, false),
          O2 (some 55) 4 (.binOp .eql 3 (t 52) (t 54) 3) (1, false),
          O1 (some 56) 4 (.pick (t 51) (.const (.bool true)) (t 55))]⟩ false)
        (.cond (t 56)
         (.seq
          (.region 11 ⟨[O1 (some 57) 3 (.move (t 6)),
            O1 (some 4) 3 (.assign (t 57))]⟩ false)
          .ret)
         .skip))))))))
def r68_1 : Code :=
 (.seq
  (.region 12 ⟨[O1 (some 4) 3 (.assign (ci 0))]⟩ false)
  .ret)
def b68 : Code :=
 (.seq
  (.region 0 ⟨[O1 (some 2) 0 (.box 87 (t 0)),
    O1 (some 4) 3 (.assign (ci 0))]⟩ false)
  (.scope
   (.seq
    (.region 1 ⟨[O1 (some 5) 84 (.assign (.const (.int .u64 (.ofNat 0)))),
      O1 (some 6) 3 (.assign (ci 0))]⟩ false)
    (.seq
     (.label 0)
     (.seq
      (.block 0
       (.loop l68_0))
      r68_1)))))
theorem fn68 : (ctx.fn.get 68).map slimF = some ⟨58, [.tmp 4], b68⟩ := by kernel_rfl
theorem vl68_0 (tm : Tm) (y6 : Int) (y1 : List UInt8) (y2 : V) (y5 : Int) (d : List AD) (h : H) (Q : AX → St → Prop) : wpC Try.prog ctx false l68_0 ⟨58, (Tb.set (Tb.set (Tb.set (Tb.set tm 6 (.int .i64 y6)) 1 (.str y1)) 2 y2) 5 (.int .u64 y5)), d, h⟩ (sealQ [4, 6, 1, 2, 5] Q) = (((y6 < (Int.ofNat (List.length y1)) → (((w64 (y6 + (1 : Int))) < (16 : Int) → (∀ tm', getV tm' 4 = getV tm 4 → getV tm' 6 = (.int .i64 (w64 (y6 + (1 : Int)))) → getV tm' 1 = (.str y1) → getV tm' 2 = y2 → getV tm' 5 = (.int .u64 y5) → Q .normal ⟨58, tm', d, h⟩)) ∧ (¬((w64 (y6 + (1 : Int))) < (16 : Int)) → (((w64 (y6 + (1 : Int))) = (16 : Int) → ∃ (l0 : List UInt8), aslice ctx 9 h (.str y1) none (some (.int .i64 (w64 (y6 + (1 : Int))))) none = some (.str l0) ∧ RF Try.prog ctx 70 [(.str l0)] h (fun v1 h2 => ∃ (x3 : Int) (x4 : Int), v1 = (.tuple [(.int .u64 x3), (.int .i64 x4)]) ∧ wpFA ctx 87 0 h2 y2 (fun v5 h6 => ∃ (x7 : Int), ald ctx 3 h6 v5 = some (.int .i64 x7) ∧ (((w64 (y6 + (1 : Int))) < x7 → (∀ tm', getV tm' 4 = getV tm 4 → getV tm' 6 = (.int .i64 (w64 (y6 + (1 : Int)))) → getV tm' 1 = (.str y1) → getV tm' 2 = y2 → getV tm' 5 = (.int .u64 x3) → Q .normal ⟨58, tm', d, h6⟩)) ∧ (¬((w64 (y6 + (1 : Int))) < x7) → wpFA ctx 87 2 h6 y2 (fun v8 h9 => ∃ (x10 : Int), ald ctx 3 h9 v8 = some (.int .i64 x10) ∧ RF Try.prog ctx 72 [(.int .u64 x3), (.int .i64 x10)] h9 (fun v11 h12 => ∃ (b13 : Bool) (x14 : Int), v11 = (.tuple [(.bool b13), (.int .i64 x14)]) ∧ ((b13 = true → (∀ tm', getV tm' 4 = (.int .i64 (w64 (y6 + (1 : Int)))) → getV tm' 6 = (.int .i64 (w64 (y6 + (1 : Int)))) → getV tm' 1 = (.str y1) → getV tm' 2 = y2 → getV tm' 5 = (.int .u64 x3) → Q .ret ⟨58, tm', d, h12⟩)) ∧ (b13 = false → wpFA ctx 87 1 h12 y2 (fun v15 h16 => ∃ (x17 : Int), ald ctx 3 h16 v15 = some (.int .i64 x17) ∧ (((w64 (y6 + (1 : Int))) = x17 → (∀ tm', getV tm' 4 = (.int .i64 (w64 (y6 + (1 : Int)))) → getV tm' 6 = (.int .i64 (w64 (y6 + (1 : Int)))) → getV tm' 1 = (.str y1) → getV tm' 2 = y2 → getV tm' 5 = (.int .u64 x3) → Q .ret ⟨58, tm', d, h16⟩)) ∧ (¬((w64 (y6 + (1 : Int))) = x17) → (∀ tm', getV tm' 4 = getV tm 4 → getV tm' 6 = (.int .i64 (w64 (y6 + (1 : Int)))) → getV tm' 1 = (.str y1) → getV tm' 2 = y2 → getV tm' 5 = (.int .u64 x3) → Q .normal ⟨58, tm', d, h16⟩))))))))))))) ∧ (¬((w64 (y6 + (1 : Int))) = (16 : Int)) → ((h.next ≤ T.top ∧ h.low ≤ T.top) ∧ ∃ (x18 : Int), aindex ctx 9 (.str y1) (.int .i64 (w64 ((w64 ((w64 (y6 + (1 : Int))) - (16 : Int))) - (1 : Int)))) = some (.int .u8 x18) ∧ ∃ (x19 : Int), aindex ctx 9 (.str y1) (.int .i64 (w64 ((w64 (y6 + (1 : Int))) - (1 : Int)))) = some (.int .u8 x19) ∧ RF Try.prog ctx 71 [(.int .u64 y5), (.int .u8 x18), (.int .u8 x19)] h (fun v20 h21 => ∃ (x22 : Int), v20 = (.int .u64 x22) ∧ wpFA ctx 87 0 h21 y2 (fun v23 h24 => ∃ (x25 : Int), ald ctx 3 h24 v23 = some (.int .i64 x25) ∧ (((w64 (y6 + (1 : Int))) < x25 → (∀ tm', getV tm' 4 = getV tm 4 → getV tm' 6 = (.int .i64 (w64 (y6 + (1 : Int)))) → getV tm' 1 = (.str y1) → getV tm' 2 = y2 → getV tm' 5 = (.int .u64 x22) → Q .normal ⟨58, tm', d, h24⟩)) ∧ (¬((w64 (y6 + (1 : Int))) < x25) → wpFA ctx 87 2 h24 y2 (fun v26 h27 => ∃ (x28 : Int), ald ctx 3 h27 v26 = some (.int .i64 x28) ∧ RF Try.prog ctx 72 [(.int .u64 x22), (.int .i64 x28)] h27 (fun v29 h30 => ∃ (b31 : Bool) (x32 : Int), v29 = (.tuple [(.bool b31), (.int .i64 x32)]) ∧ ((b31 = true → (∀ tm', getV tm' 4 = (.int .i64 (w64 (y6 + (1 : Int)))) → getV tm' 6 = (.int .i64 (w64 (y6 + (1 : Int)))) → getV tm' 1 = (.str y1) → getV tm' 2 = y2 → getV tm' 5 = (.int .u64 x22) → Q .ret ⟨58, tm', d, h30⟩)) ∧ (b31 = false → wpFA ctx 87 1 h30 y2 (fun v33 h34 => ∃ (x35 : Int), ald ctx 3 h34 v33 = some (.int .i64 x35) ∧ (((w64 (y6 + (1 : Int))) = x35 → (∀ tm', getV tm' 4 = (.int .i64 (w64 (y6 + (1 : Int)))) → getV tm' 6 = (.int .i64 (w64 (y6 + (1 : Int)))) → getV tm' 1 = (.str y1) → getV tm' 2 = y2 → getV tm' 5 = (.int .u64 x22) → Q .ret ⟨58, tm', d, h34⟩)) ∧ (¬((w64 (y6 + (1 : Int))) = x35) → (∀ tm', getV tm' 4 = getV tm 4 → getV tm' 6 = (.int .i64 (w64 (y6 + (1 : Int)))) → getV tm' 1 = (.str y1) → getV tm' 2 = y2 → getV tm' 5 = (.int .u64 x22) → Q .normal ⟨58, tm', d, h34⟩)))))))))))))))))) ∧ (¬(y6 < (Int.ofNat (List.length y1))) → (∀ tm', getV tm' 4 = getV tm 4 → getV tm' 6 = (.int .i64 y6) → getV tm' 1 = (.str y1) → getV tm' 2 = y2 → getV tm' 5 = (.int .u64 y5) → Q (.exit 0) ⟨58, tm', d, h⟩)))) := by kernel_rfl
theorem vr68_1 (tm : Tm)  (d : List AD) (h : H) (Q : AX → St → Prop) : wpC Try.prog ctx false r68_1 ⟨58, tm, d, h⟩ (sealQ [4, 6, 1, 2, 5] Q) = ((∀ tm', getV tm' 4 = (.int .i64 (0 : Int)) → getV tm' 6 = getV tm 6 → getV tm' 1 = getV tm 1 → getV tm' 2 = getV tm 2 → getV tm' 5 = getV tm 5 → Q .ret ⟨58, tm', d, h⟩)) := by kernel_rfl
theorem vb68 (a0_0 : Int) (a0_1 : Int) (a0_2 : Int) (a1 : List UInt8) (h : H) (Q : V → H → Prop) : wpC Try.prog ctx false b68 ⟨58, setArgs [(.agg [(.int .i64 a0_0), (.int .i64 a0_1), (.int .i64 a0_2)]), (.str a1)] 0 (Tb.leaf undefV), [], h⟩ (endW ctx ⟨58, [.tmp 4], b68⟩ Q) = ((h.next < T.top ∧ ∀ p0 h1, p0 = h.next → h1 = h.new (.cells (.ls [(.int .i64 a0_0), (.int .i64 a0_1), (.int .i64 a0_2)]) ⟨0, 88, 0⟩ true false) → wpC Try.prog ctx false (.loop l68_0) ⟨58, (Tb.set (Tb.set (Tb.set (Tb.set (Tb.set (Tb.set (Tb.leaf undefV) 0 (.agg [(.int .i64 a0_0), (.int .i64 a0_1), (.int .i64 a0_2)])) 1 (.str a1)) 2 (.ptr p0 0)) 4 (.int .i64 (0 : Int))) 5 (.int .u64 (0 : Int))) 6 (.int .i64 (0 : Int))), [], h1⟩ (fun e s1 => (thenC (fun s1 => wpC Try.prog ctx false r68_1 s1 (endW ctx ⟨58, [.tmp 4], b68⟩ Q)) (endW ctx ⟨58, [.tmp 4], b68⟩ Q)) (exitB 0 e) s1))) := by kernel_rfl

/- cheesepress/ints.High -/
def l69_0 : Code :=
 (.seq
  (.region 3 ⟨[O1 (some 6) 4 (.binOp .lss 3 (t 5) (ci 63) 3)]⟩ false)
  (.seq
   (.cond (t 6)
    .skip
    (.exit 0))
   (.seq
    (.block 1
     (.seq
      (.region 4 ⟨[O1 (some 7) 3 (.move (t 5)),
        O1 (some 4) 3 (.assign (t 7))]⟩ false)
      (.seq
       (.region 5 ⟨[O1 (some 8) 3 (.move (t 0)),
         O1 (some 9) 3 (.move (t 4)),
         O1 (some 10) 3 (.binOp .shr 3 (t 8) (t 9) 3),
         O1 (some 11) 4 (.binOp .gtr 3 (t 10) (ci 0) 3)]⟩ false)
       (.cond (t 11)
        (.region 6 ⟨[O1 (some 12) 3 (.move (t 4)),
          O1 (some 3) 3 (.assign (t 12))]⟩ false)
        .skip))))
    (.region 7 ⟨[O1 (some 13) 3 (.binOp .add 3 (t 5) (ci 1) 3),
      O1 (some 5) 3 (.move (t 13))]⟩ false))))
def r69_1 : Code :=
 (.seq
  (.region 8 ⟨[O1 (some 14) 3 (.move (t 3)),
    O1 (some 2) 3 (.assign (t 14))]⟩ false)
  .ret)
def b69 : Code :=
 (.seq
  (.region 0 ⟨[O1 (some 2) 3 (.assign (ci 0))]⟩ false)
  (.seq
   (.region 1 ⟨[O1 (some 3) 3 (.assign (.const (.int .i64 (.negSucc 0))))]⟩ false)
   (.seq
    (.seq
     (.region 2 ⟨[O1 (some 5) 3 (.move (ci 0))]⟩ false)
     (.block 0
      (.loop l69_0)))
    r69_1)))
theorem fn69 : (ctx.fn.get 69).map slimF = some ⟨15, [.tmp 2], b69⟩ := by kernel_rfl
theorem vl69_0 (tm : Tm) (y5 : Int) (y0 : Int) (d : List AD) (h : H) (Q : AX → St → Prop) : wpC Try.prog ctx false l69_0 ⟨15, (Tb.set (Tb.set tm 5 (.int .i64 y5)) 0 (.int .i64 y0)), d, h⟩ (sealQ [2, 5, 0, 3] Q) = (((y5 < (63 : Int) → ∃ (x0 : Int), intB .shr .i64 y0 y5 = some (.int .i64 x0) ∧ (((0 : Int) < x0 → (∀ tm', getV tm' 2 = getV tm 2 → getV tm' 5 = (.int .i64 (w64 (y5 + (1 : Int)))) → getV tm' 0 = (.int .i64 y0) → getV tm' 3 = (.int .i64 y5) → Q .normal ⟨15, tm', d, h⟩)) ∧ (¬((0 : Int) < x0) → (∀ tm', getV tm' 2 = getV tm 2 → getV tm' 5 = (.int .i64 (w64 (y5 + (1 : Int)))) → getV tm' 0 = (.int .i64 y0) → getV tm' 3 = getV tm 3 → Q .normal ⟨15, tm', d, h⟩)))) ∧ (¬(y5 < (63 : Int)) → (∀ tm', getV tm' 2 = getV tm 2 → getV tm' 5 = (.int .i64 y5) → getV tm' 0 = (.int .i64 y0) → getV tm' 3 = getV tm 3 → Q (.exit 0) ⟨15, tm', d, h⟩)))) := by kernel_rfl
theorem vr69_1 (tm : Tm) (y3 : Int) (d : List AD) (h : H) (Q : AX → St → Prop) : wpC Try.prog ctx false r69_1 ⟨15, (Tb.set tm 3 (.int .i64 y3)), d, h⟩ (sealQ [2, 5, 0, 3] Q) = ((∀ tm', getV tm' 2 = (.int .i64 y3) → getV tm' 5 = getV tm 5 → getV tm' 0 = getV tm 0 → getV tm' 3 = (.int .i64 y3) → Q .ret ⟨15, tm', d, h⟩)) := by kernel_rfl
theorem vb69 (a0 : Int) (h : H) (Q : V → H → Prop) : wpC Try.prog ctx false b69 ⟨15, setArgs [(.int .i64 a0)] 0 (Tb.leaf undefV), [], h⟩ (endW ctx ⟨15, [.tmp 2], b69⟩ Q) = (wpC Try.prog ctx false (.loop l69_0) ⟨15, (Tb.set (Tb.set (Tb.set (Tb.set (Tb.leaf undefV) 0 (.int .i64 a0)) 2 (.int .i64 (0 : Int))) 3 (.int .i64 (-1 : Int))) 5 (.int .i64 (0 : Int))), [], h⟩ (fun e s1 => (thenC (fun s1 => wpC Try.prog ctx false r69_1 s1 (endW ctx ⟨15, [.tmp 2], b69⟩ Q)) (endW ctx ⟨15, [.tmp 2], b69⟩ Q)) (exitB 0 e) s1)) := by kernel_rfl

/- cheesepress/roll.Of -/
def b70 : Code :=
 (.seq
  (.region 0 ⟨[O1 (some 2) 84 (.assign (.const (.int .u64 (.ofNat 0)))),
    O1 (some 3) 28 (.assign (ci 0))]⟩ false)
  (.seq
   (.block 0
    (.seq
     (.region 1 ⟨[O1 (some 5) 9 (.move (t 0)),
       O1 (some 6) 3 (.call ⟨(.builtin .len), #[(t 5)], #[9]⟩),
       O1 (some 7) 4 (.binOp .lss 3 (t 6) (ci 16) 3),
       O1 (some 4) 4 (.assign (t 7))]⟩ false)
     (.cond (t 4)
      (.seq
       (.region 2 ⟨[O1 (some 2) 84 (.assign (.const (.int .u64 (.ofNat 0)))),
         O1 (some 3) 28 (.assign (ci 5))]⟩ false)
       .ret)
      (.seq
       (.region 3 ⟨[O1 (some 9) 9 (.move (t 0)),
         O1 (some 10) 3 (.call ⟨(.builtin .len), #[(t 9)], #[9]⟩),
         O1 (some 11) 4 (.binOp .gtr 3 (t 10) (ci 16) 3),
         O1 (some 8) 4 (.assign (t 11))]⟩ false)
       (.cond (t 8)
        (.seq
         (.region 4 ⟨[O1 (some 2) 84 (.assign (.const (.int .u64 (.ofNat 0)))),
           O1 (some 3) 28 (.assign (ci 4))]⟩ false)
         .ret)
        .skip)))))
   (.seq
    (.region 5 ⟨[O1 (some 12) 9 (.move (t 0)),
      O1 (some 13) 69 (.convert 9 69 (t 12)),
      O1 (some 14) 0 (.sliceToArrayPointer 101 (t 13)),
      O1 (some 15) 101 (.load 101 (t 14)),
      O1 (some 16) 84 (.call ⟨(.value (.func 73)), #[(t 15)], #[101]⟩),
      O1 (some 2) 84 (.assign (t 16)),
      O1 (some 3) 28 (.assign (ci 0))]⟩ false)
    .ret)))
theorem fn70 : (ctx.fn.get 70).map slimF = some ⟨17, [.tmp 2, .tmp 3], b70⟩ := by kernel_rfl
-- [op ?]
/-theorem vb70 (a0 : List UInt8) (h : H) (Q : V → H → Prop) : wpC Try.prog ctx false b70 ⟨17, setArgs [(.str a0)] 0 (Tb.leaf undefV), [], h⟩ (endW ctx ⟨17, [.tmp 2, .tmp 3], b70⟩ Q) = ((((Int.ofNat (List.length a0)) < (16 : Int) → Q (.tuple [(.int .u64 (0 : Int)), (.int .i64 (5 : Int))]) h) ∧ (¬((Int.ofNat (List.length a0)) < (16 : Int)) → (((16 : Int) < (Int.ofNat (List.length a0)) → Q (.tuple [(.int .u64 (0 : Int)), (.int .i64 (4 : Int))]) h) ∧ (¬((16 : Int) < (Int.ofNat (List.length a0))) → ∃ v1 h0, aconv ctx 9 69 h (.str a0) = some (v1, h0) ∧ BAD op ?))))) := by kernel_rfl -/

/- cheesepress/roll.Roll -/
def b71 : Code :=
 (.seq
  (.region 0 ⟨[O1 (some 6) 84 (.assign (.const (.int .u64 (.ofNat 0))))]⟩ false)
  (.seq
   (.region 1 ⟨[O1 (some 7) 84 (.move (t 0)),
     O1 (some 8) 5 (.move (t 1)),
     O1 (some 9) 84 (.convert 5 84 (t 8)),
     O1 (some 10) 84 (.binOp .add 84 (t 9) (.const (.int .u64 (.ofNat 1))) 84),
     O1 (some 11) 84 (.call ⟨(.value (.func 74)), #[], #[]⟩),
     O1 (some 12) 84 (.binOp .mul 84 (t 10) (t 11) 84),
     O1 (some 13) 84 (.binOp .sub 84 (t 7) (t 12) 84),
     O1 (some 14) 84 (.binOp .mul 84 (t 13) (.const (.int .u64 (.ofNat 11400714819323198485))) 84),
     O1 (some 15) 5 (.move (t 2)),
     O1 (some 16) 84 (.convert 5 84 (t 15)),
     O1 (some 17) 84 (.binOp .add 84 (t 14) (t 16) 84),
     O1 (some 18) 84 (.binOp .add 84 (t 17) (.const (.int .u64 (.ofNat 1))) 84),
     O1 (some 6) 84 (.assign (t 18))]⟩ false)
   .ret))
theorem fn71 : (ctx.fn.get 71).map slimF = some ⟨19, [.tmp 6], b71⟩ := by kernel_rfl
theorem vb71 (a0 : Int) (a1 : Int) (a2 : Int) (h : H) (Q : V → H → Prop) : wpC Try.prog ctx false b71 ⟨19, setArgs [(.int .u64 a0), (.int .u8 a1), (.int .u8 a2)] 0 (Tb.leaf undefV), [], h⟩ (endW ctx ⟨19, [.tmp 6], b71⟩ Q) = (RF Try.prog ctx 74 [] h (fun v0 h1 => ∃ (x2 : Int), v0 = (.int .u64 x2) ∧ Q (.int .u64 (wrapF .u64 ((wrapF .u64 ((wrapF .u64 ((wrapF .u64 (a0 - (wrapF .u64 ((wrapF .u64 ((wrapF .u64 (a1)) + (1 : Int))) * x2)))) * (11400714819323198485 : Int))) + (wrapF .u64 (a2)))) + (1 : Int)))) h1)) := by kernel_rfl

/- cheesepress/roll.Hits -/
def b72 : Code :=
 (.seq
  (.region 0 ⟨[O1 (some 4) 4 (.assign (.const (.bool false))),
    O1 (some 5) 28 (.assign (ci 0))]⟩ false)
  (.seq
   (.seq
    (.region 1 ⟨[O1 (some 6) 3 (.move (t 1)),
      O1 (some 7) 4 (.binOp .lss 3 (t 6) (ci 1) 3),
      O1 (some 8) 4 (.move (t 7)),
      O2 (some 9) 3 (.move (t 1)) (2, false),
      O2 (some 10) 4 (.binOp .gtr 3 (t 9) (ci 32) 3) (2, false),
      O1 (some 11) 4 (.pick (t 8) (.const (.bool true)) (t 10))]⟩ false)
    (.cond (t 11)
     (.seq
      (.region 2 ⟨[O1 (some 4) 4 (.assign (.const (.bool false))),
        O1 (some 5) 28 (.assign (ci 2))]⟩ false)
      .ret)
     .skip))
   (.seq
    (.region 3 ⟨[O1 (some 12) 84 (.move (t 0)),
      O1 (some 13) 3 (.move (t 1)),
      O1 (some 14) 4 (.call ⟨(.value (.func 75)), #[(t 12), (t 13)], #[84, 3]⟩),
      O1 (some 4) 4 (.assign (t 14)),
      O1 (some 5) 28 (.assign (ci 0))]⟩ false)
    .ret)))
theorem fn72 : (ctx.fn.get 72).map slimF = some ⟨15, [.tmp 4, .tmp 5], b72⟩ := by kernel_rfl
theorem vb72 (a0 : Int) (a1 : Int) (h : H) (Q : V → H → Prop) : wpC Try.prog ctx false b72 ⟨15, setArgs [(.int .u64 a0), (.int .i64 a1)] 0 (Tb.leaf undefV), [], h⟩ (endW ctx ⟨15, [.tmp 4, .tmp 5], b72⟩ Q) = (((a1 < (1 : Int) → Q (.tuple [(.bool false), (.int .i64 (2 : Int))]) h) ∧ (¬(a1 < (1 : Int)) → (((32 : Int) < a1 → Q (.tuple [(.bool false), (.int .i64 (2 : Int))]) h) ∧ (¬((32 : Int) < a1) → RF Try.prog ctx 75 [(.int .u64 a0), (.int .i64 a1)] h (fun v0 h1 => ∃ (b2 : Bool), v0 = (.bool b2) ∧ ((b2 = true → Q (.tuple [(.bool true), (.int .i64 (0 : Int))]) h1) ∧ (b2 = false → Q (.tuple [(.bool false), (.int .i64 (0 : Int))]) h1)))))))) := by kernel_rfl

/- cheesepress/roll.hash -/
def l73_0 : Code :=
 (.seq
  (.region 2 ⟨[O1 (some 7) 0 (.binOp .lss 3 (t 6) (ci 16) 3)]⟩ false)
  (.seq
   (.cond (t 7)
    .skip
    (.exit 0))
   (.seq
    (.block 1
     (.seq
      (.region 3 ⟨[O1 (some 8) 5 (.index 101 (t 5) (t 6)),
        O1 (some 4) 5 (.assign (t 8))]⟩ false)
      (.region 4 ⟨[O1 (some 9) 84 (.move (t 2)),
        O1 (some 10) 84 (.binOp .mul 84 (t 9) (.const (.int .u64 (.ofNat 11400714819323198485))) 84),
        O1 (some 11) 5 (.move (t 4)),
        O1 (some 12) 84 (.convert 5 84 (t 11)),
        O1 (some 13) 84 (.binOp .add 84 (t 10) (t 12) 84),
        O1 (some 14) 84 (.binOp .add 84 (t 13) (.const (.int .u64 (.ofNat 1))) 84),
        O1 (some 2) 84 (.assign (t 14))]⟩ false)))
    (.region 5 ⟨[O1 (some 15) 3 (.binOp .add 3 (t 6) (ci 1) 3),
      O1 (some 6) 3 (.move (t 15))]⟩ false))))
def r73_1 : Code :=
 (.seq
  (.region 6 ⟨[O1 (some 16) 84 (.move (t 2)),
    O1 (some 2) 84 (.assign (t 16))]⟩ false)
  .ret)
def b73 : Code :=
 (.seq
  (.region 0 ⟨[O1 (some 1) 0 (.box 101 (t 0)),
    O1 (some 2) 84 (.assign (.const (.int .u64 (.ofNat 0))))]⟩ false)
  (.seq
   (.seq
    (.region 1 ⟨[O1 (some 5) 101 (.load 101 (t 1)),
      O1 (some 6) 3 (.move (ci 0))]⟩ false)
    (.block 0
     (.loop l73_0)))
   r73_1))
theorem fn73 : (ctx.fn.get 73).map slimF = some ⟨17, [.tmp 2], b73⟩ := by kernel_rfl
theorem vl73_0 (tm : Tm) (y6 : Int) (y5_0 : Int) (y5_1 : Int) (y5_2 : Int) (y5_3 : Int) (y5_4 : Int) (y5_5 : Int) (y5_6 : Int) (y5_7 : Int) (y5_8 : Int) (y5_9 : Int) (y5_10 : Int) (y5_11 : Int) (y5_12 : Int) (y5_13 : Int) (y5_14 : Int) (y5_15 : Int) (y2 : Int) (d : List AD) (h : H) (Q : AX → St → Prop) : wpC Try.prog ctx false l73_0 ⟨17, (Tb.set (Tb.set (Tb.set tm 6 (.int .i64 y6)) 5 (.agg [(.int .u8 y5_0), (.int .u8 y5_1), (.int .u8 y5_2), (.int .u8 y5_3), (.int .u8 y5_4), (.int .u8 y5_5), (.int .u8 y5_6), (.int .u8 y5_7), (.int .u8 y5_8), (.int .u8 y5_9), (.int .u8 y5_10), (.int .u8 y5_11), (.int .u8 y5_12), (.int .u8 y5_13), (.int .u8 y5_14), (.int .u8 y5_15)])) 2 (.int .u64 y2)), d, h⟩ (sealQ [2, 6, 5] Q) = (((y6 < (16 : Int) → ∃ (x0 : Int), aindex ctx 101 (.agg [(.int .u8 y5_0), (.int .u8 y5_1), (.int .u8 y5_2), (.int .u8 y5_3), (.int .u8 y5_4), (.int .u8 y5_5), (.int .u8 y5_6), (.int .u8 y5_7), (.int .u8 y5_8), (.int .u8 y5_9), (.int .u8 y5_10), (.int .u8 y5_11), (.int .u8 y5_12), (.int .u8 y5_13), (.int .u8 y5_14), (.int .u8 y5_15)]) (.int .i64 y6) = some (.int .u8 x0) ∧ (∀ tm', getV tm' 2 = (.int .u64 (wrapF .u64 ((wrapF .u64 ((wrapF .u64 (y2 * (11400714819323198485 : Int))) + (wrapF .u64 (x0)))) + (1 : Int)))) → getV tm' 6 = (.int .i64 (w64 (y6 + (1 : Int)))) → getV tm' 5 = (.agg [(.int .u8 y5_0), (.int .u8 y5_1), (.int .u8 y5_2), (.int .u8 y5_3), (.int .u8 y5_4), (.int .u8 y5_5), (.int .u8 y5_6), (.int .u8 y5_7), (.int .u8 y5_8), (.int .u8 y5_9), (.int .u8 y5_10), (.int .u8 y5_11), (.int .u8 y5_12), (.int .u8 y5_13), (.int .u8 y5_14), (.int .u8 y5_15)]) → Q .normal ⟨17, tm', d, h⟩)) ∧ (¬(y6 < (16 : Int)) → (∀ tm', getV tm' 2 = (.int .u64 y2) → getV tm' 6 = (.int .i64 y6) → getV tm' 5 = (.agg [(.int .u8 y5_0), (.int .u8 y5_1), (.int .u8 y5_2), (.int .u8 y5_3), (.int .u8 y5_4), (.int .u8 y5_5), (.int .u8 y5_6), (.int .u8 y5_7), (.int .u8 y5_8), (.int .u8 y5_9), (.int .u8 y5_10), (.int .u8 y5_11), (.int .u8 y5_12), (.int .u8 y5_13), (.int .u8 y5_14), (.int .u8 y5_15)]) → Q (.exit 0) ⟨17, tm', d, h⟩)))) := by kernel_rfl
theorem vr73_1 (tm : Tm) (y2 : Int) (d : List AD) (h : H) (Q : AX → St → Prop) : wpC Try.prog ctx false r73_1 ⟨17, (Tb.set tm 2 (.int .u64 y2)), d, h⟩ (sealQ [2, 6, 5] Q) = ((∀ tm', getV tm' 2 = (.int .u64 y2) → getV tm' 6 = getV tm 6 → getV tm' 5 = getV tm 5 → Q .ret ⟨17, tm', d, h⟩)) := by kernel_rfl
theorem vb73 (a0_0 : Int) (a0_1 : Int) (a0_2 : Int) (a0_3 : Int) (a0_4 : Int) (a0_5 : Int) (a0_6 : Int) (a0_7 : Int) (a0_8 : Int) (a0_9 : Int) (a0_10 : Int) (a0_11 : Int) (a0_12 : Int) (a0_13 : Int) (a0_14 : Int) (a0_15 : Int) (h : H) (Q : V → H → Prop) : wpC Try.prog ctx false b73 ⟨17, setArgs [(.agg [(.int .u8 a0_0), (.int .u8 a0_1), (.int .u8 a0_2), (.int .u8 a0_3), (.int .u8 a0_4), (.int .u8 a0_5), (.int .u8 a0_6), (.int .u8 a0_7), (.int .u8 a0_8), (.int .u8 a0_9), (.int .u8 a0_10), (.int .u8 a0_11), (.int .u8 a0_12), (.int .u8 a0_13), (.int .u8 a0_14), (.int .u8 a0_15)])] 0 (Tb.leaf undefV), [], h⟩ (endW ctx ⟨17, [.tmp 2], b73⟩ Q) = ((h.next < T.top ∧ ∀ p0 h1, p0 = h.next → h1 = h.new (.cells (.ls [(.int .u8 a0_0), (.int .u8 a0_1), (.int .u8 a0_2), (.int .u8 a0_3), (.int .u8 a0_4), (.int .u8 a0_5), (.int .u8 a0_6), (.int .u8 a0_7), (.int .u8 a0_8), (.int .u8 a0_9), (.int .u8 a0_10), (.int .u8 a0_11), (.int .u8 a0_12), (.int .u8 a0_13), (.int .u8 a0_14), (.int .u8 a0_15)]) ⟨0, 102, 0⟩ true false) → ∃ (x2 : Int) (x3 : Int) (x4 : Int) (x5 : Int) (x6 : Int) (x7 : Int) (x8 : Int) (x9 : Int) (x10 : Int) (x11 : Int) (x12 : Int) (x13 : Int) (x14 : Int) (x15 : Int) (x16 : Int) (x17 : Int), ald ctx 101 h1 (.ptr p0 0) = some (.agg [(.int .u8 x2), (.int .u8 x3), (.int .u8 x4), (.int .u8 x5), (.int .u8 x6), (.int .u8 x7), (.int .u8 x8), (.int .u8 x9), (.int .u8 x10), (.int .u8 x11), (.int .u8 x12), (.int .u8 x13), (.int .u8 x14), (.int .u8 x15), (.int .u8 x16), (.int .u8 x17)]) ∧ wpC Try.prog ctx false (.loop l73_0) ⟨17, (Tb.set (Tb.set (Tb.set (Tb.set (Tb.set (Tb.leaf undefV) 0 (.agg [(.int .u8 a0_0), (.int .u8 a0_1), (.int .u8 a0_2), (.int .u8 a0_3), (.int .u8 a0_4), (.int .u8 a0_5), (.int .u8 a0_6), (.int .u8 a0_7), (.int .u8 a0_8), (.int .u8 a0_9), (.int .u8 a0_10), (.int .u8 a0_11), (.int .u8 a0_12), (.int .u8 a0_13), (.int .u8 a0_14), (.int .u8 a0_15)])) 1 (.ptr p0 0)) 2 (.int .u64 (0 : Int))) 5 (.agg [(.int .u8 x2), (.int .u8 x3), (.int .u8 x4), (.int .u8 x5), (.int .u8 x6), (.int .u8 x7), (.int .u8 x8), (.int .u8 x9), (.int .u8 x10), (.int .u8 x11), (.int .u8 x12), (.int .u8 x13), (.int .u8 x14), (.int .u8 x15), (.int .u8 x16), (.int .u8 x17)])) 6 (.int .i64 (0 : Int))), [], h1⟩ (fun e s1 => (thenC (fun s1 => wpC Try.prog ctx false r73_1 s1 (endW ctx ⟨17, [.tmp 2], b73⟩ Q)) (endW ctx ⟨17, [.tmp 2], b73⟩ Q)) (exitB 0 e) s1))) := by kernel_rfl

/- cheesepress/roll.power -/
def l74_0 : Code :=
 (.seq
  (.region 3 ⟨[O1 (some 3) 4 (.binOp .lss 3 (t 2) (ci 15) 3)]⟩ false)
  (.seq
   (.cond (t 3)
    .skip
    (.exit 0))
   (.seq
    (.block 1
     (.region 4 ⟨[O1 (some 4) 84 (.move (t 1)),
       O1 (some 5) 84 (.binOp .mul 84 (t 4) (.const (.int .u64 (.ofNat 11400714819323198485))) 84),
       O1 (some 1) 84 (.assign (t 5))]⟩ false))
    (.region 5 ⟨[O1 (some 6) 3 (.binOp .add 3 (t 2) (ci 1) 3),
      O1 (some 2) 3 (.move (t 6))]⟩ false))))
def r74_1 : Code :=
 (.seq
  (.region 6 ⟨[O1 (some 7) 84 (.move (t 1)),
    O1 (some 0) 84 (.assign (t 7))]⟩ false)
  .ret)
def b74 : Code :=
 (.seq
  (.region 0 ⟨[O1 (some 0) 84 (.assign (.const (.int .u64 (.ofNat 0))))]⟩ false)
  (.seq
   (.region 1 ⟨[O1 (some 1) 84 (.assign (.const (.int .u64 (.ofNat 1))))]⟩ false)
   (.seq
    (.seq
     (.region 2 ⟨[O1 (some 2) 3 (.move (ci 0))]⟩ false)
     (.block 0
      (.loop l74_0)))
    r74_1)))
theorem fn74 : (ctx.fn.get 74).map slimF = some ⟨8, [.tmp 0], b74⟩ := by kernel_rfl
theorem vl74_0 (tm : Tm) (y2 : Int) (y1 : Int) (d : List AD) (h : H) (Q : AX → St → Prop) : wpC Try.prog ctx false l74_0 ⟨8, (Tb.set (Tb.set tm 2 (.int .i64 y2)) 1 (.int .u64 y1)), d, h⟩ (sealQ [0, 2, 1] Q) = (((y2 < (15 : Int) → (∀ tm', getV tm' 0 = getV tm 0 → getV tm' 2 = (.int .i64 (w64 (y2 + (1 : Int)))) → getV tm' 1 = (.int .u64 (wrapF .u64 (y1 * (11400714819323198485 : Int)))) → Q .normal ⟨8, tm', d, h⟩)) ∧ (¬(y2 < (15 : Int)) → (∀ tm', getV tm' 0 = getV tm 0 → getV tm' 2 = (.int .i64 y2) → getV tm' 1 = (.int .u64 y1) → Q (.exit 0) ⟨8, tm', d, h⟩)))) := by kernel_rfl
theorem vr74_1 (tm : Tm) (y1 : Int) (d : List AD) (h : H) (Q : AX → St → Prop) : wpC Try.prog ctx false r74_1 ⟨8, (Tb.set tm 1 (.int .u64 y1)), d, h⟩ (sealQ [0, 2, 1] Q) = ((∀ tm', getV tm' 0 = (.int .u64 y1) → getV tm' 2 = getV tm 2 → getV tm' 1 = (.int .u64 y1) → Q .ret ⟨8, tm', d, h⟩)) := by kernel_rfl
theorem vb74  (h : H) (Q : V → H → Prop) : wpC Try.prog ctx false b74 ⟨8, setArgs [] 0 (Tb.leaf undefV), [], h⟩ (endW ctx ⟨8, [.tmp 0], b74⟩ Q) = (wpC Try.prog ctx false (.loop l74_0) ⟨8, (Tb.set (Tb.set (Tb.set (Tb.leaf undefV) 0 (.int .u64 (0 : Int))) 1 (.int .u64 (1 : Int))) 2 (.int .i64 (0 : Int))), [], h⟩ (fun e s1 => (thenC (fun s1 => wpC Try.prog ctx false r74_1 s1 (endW ctx ⟨8, [.tmp 0], b74⟩ Q)) (endW ctx ⟨8, [.tmp 0], b74⟩ Q)) (exitB 0 e) s1)) := by kernel_rfl

/- cheesepress/roll.hits -/
def b75 : Code :=
 (.seq
  (.region 0 ⟨[O1 (some 4) 4 (.assign (.const (.bool false)))]⟩ false)
  (.seq
   (.region 1 ⟨[O1 (some 5) 84 (.move (t 0)),
     O1 (some 6) 84 (.unOp .xor 84 (t 5)),
     O1 (some 7) 3 (.move (t 1)),
     O1 (some 8) 3 (.binOp .sub 3 (ci 64) (t 7) 3),
     O1 (some 9) 74 (.convert 3 74 (t 8)),
     O1 (some 10) 84 (.binOp .shr 84 (t 6) (t 9) 74),
     O1 (some 11) 4 (.binOp .eql 84 (t 10) (.const (.int .u64 (.ofNat 0))) 84),
     O1 (some 4) 4 (.assign (t 11))]⟩ false)
   .ret))
theorem fn75 : (ctx.fn.get 75).map slimF = some ⟨12, [.tmp 4], b75⟩ := by kernel_rfl
theorem vb75 (a0 : Int) (a1 : Int) (h : H) (Q : V → H → Prop) : wpC Try.prog ctx false b75 ⟨12, setArgs [(.int .u64 a0), (.int .i64 a1)] 0 (Tb.leaf undefV), [], h⟩ (endW ctx ⟨12, [.tmp 4], b75⟩ Q) = (∃ (x0 : Int), aun .xor (.int .u64 a0) = some (.int .u64 x0) ∧ ∃ (x1 : Int), intB .shr .u64 x0 (wrapF .u64 ((w64 ((64 : Int) - a1)))) = some (.int .u64 x1) ∧ ((x1 = (0 : Int) → Q (.bool true) h) ∧ (¬(x1 = (0 : Int)) → Q (.bool false) h))) := by kernel_rfl


end Go.Proofs.Ytbkafllejpbimaa
