/- A law that reads a slice of integers, and more that holds no references: from the world to an abstract heap of one block that nobody writes. -/
import Derived.Test.YtamddelaigcnkaaGreatSimLib
import Derived.Test.YtamddelaigcnkaaGreatSimEnd
import Derived.ProofKit
import Derived.Test.YtamddelaigcnkaaGreatSimFast
namespace Go.Sim
open Go.RowKit Go.ChangeShapes Go.WideShapes Go.ChangeAt

/-- One block that is read alone. -/
def hRO (l : List V) : H := H0.new (.cells (.ls l) ⟨0, 0, 0⟩ false false)
def envRO (b off : Nat) : Env := { blk := fun _ => b, off := fun _ => off, cap := fun _ => 0 }

theorem hRO_next (l : List V) : (hRO l).next = 1 := new_next _ _
theorem hRO_get (l : List V) : (hRO l).get 0 = some (.cells (.ls l) ⟨0, 0, 0⟩ false false) := get_new_self (h := H0) _ (by decide)

theorem HR_RO {l : List V} {b off : Nat} {c : Array Value} {e : TypeId} {fz : Nat × Nat} {W : World} (hb : W.heap[b]? = some (.cells c e fz)) (hc : ∀ i v, l[i]? = some v → c[off + i]? = some (v.conc env0)) (hv : ∀ v ∈ l, v.conc (envRO b off) = v.conc env0) (hin2 : ∀ v ∈ l, v.In (fun i => i = 0)) :
    HR (envRO b off) (fun i => i = 0) (hRO l) W := by
  refine ⟨by rw [hRO_next]; decide, fun i hi => by rw [hRO_next]; omega, fun i o hi hg => ?_, fun i j oi oj hi hj hgi _ hw => ?_⟩
  · subst hi
    rw [hRO_get] at hg
    cases hg
    refine ⟨c, e, fz, hb, fun i v h => ?_, fun i v h => hin2 v (List.mem_of_getElem? ((Cs.getL_eq l i).symm.trans h)), fun h => by cases h⟩
    have h' : l[i]? = some v := (Cs.getL_eq l i).symm.trans h
    rw [hv v (List.mem_of_getElem? h')]; exact hc i v h'
  · subst hi
    rw [hRO_get] at hgi
    cases hgi; cases hw

theorem SimF.callsRO {P : Program} {f : Nat} {args : List V} {h : H} {l : List V} {b off : Nat} {W : World} (s : SimF P f args (hRO l) (.ret (.bool true) h)) (hr : HR (envRO b off) (fun i => i = 0) (hRO l) W) (hin : ∀ v ∈ args, v.In fun i => i = 0) :
    Calls P f (args.map (V.conc (envRO b off))).toArray W fun e W' => e = .returned (.bool true) ∧ Below W.heap.size W W' := by
  have h1 := s _ _ W hr hin
  refine CallsIn.calls (F := Fx none) (CallsIn.mono h1 ?_) (Fx_room none)
  rintro e W' ⟨ρ, rfl, m, _, _⟩
  refine ⟨rfl, m.os, m.tape, m.output, m.size, fun k hk => m.frame k hk fun j o hj hg hw => ?_⟩
  subst hj
  rw [hRO_get] at hg
  cases hg; cases hw

end Go.Sim
