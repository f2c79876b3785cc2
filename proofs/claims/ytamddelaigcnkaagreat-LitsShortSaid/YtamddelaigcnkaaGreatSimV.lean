/- Abstract values and an abstract heap, and what it means that a world holds them: every block of the abstract heap lies somewhere in the world, wherever that is; the size of a grown slice's spare room is left open. -/
import Derived.Test.YtamddelaigcnkaaGreatSimTrie
import Derived.RangeFuncLeaves
import Derived.RangeFuncRecord
import Derived.Laws.World
import Derived.Laws.Sem
namespace Go.Sim

/-- A slice's capacity: known, or its row's whole capacity less so many elements. -/
inductive Cap where
  | exact (n : Nat)
  | skip (n : Nat)

inductive V where
  | bool (b : Bool)
  | int (k : IntKind) (n : Int)
  | str (l : List UInt8)
  | ptr (b off : Nat)
  | nilptr
  | slice (b off len : Nat) (cap : Cap)
  | nilslice
  | map (r : Nat)
  | nilmap
  | func (fn : Fn) (first captured : List V)
  | yield (l : Nat)
  | nilFunc
  | iface (t : TypeId) (v : V)
  | nilIface
  | agg (l : List V)
  | tuple (l : List V)

/-- Where the abstract blocks lie. -/
structure Env where
  blk : Nat → Nat
  off : Nat → Nat
  cap : Nat → Nat

def Cap.val (ρ : Env) (b : Nat) : Cap → Nat
  | .exact n => n
  | .skip n => ρ.cap b - n

mutual
def V.conc (ρ : Env) : V → Value
  | .bool b => .bool b
  | .int k n => .int k n
  | .str l => .string ⟨l.toArray⟩
  | .ptr b o => .pointer (some ⟨ρ.blk b, ρ.off b + o, none⟩)
  | .nilptr => .pointer none
  | .slice b o len c => .slice (some ⟨ρ.blk b, ρ.off b + o, none⟩) len (c.val ρ b)
  | .nilslice => .slice none 0 0
  | .map r => .map (some (ρ.blk r))
  | .nilmap => .map none
  | .func f x y => .func f (V.concL ρ x).toArray (V.concL ρ y).toArray
  | .yield l => .func (.yield (ρ.blk l)) #[] #[]
  | .nilFunc => .nilFunc
  | .iface t v => .iface t (v.conc ρ)
  | .nilIface => .nilIface
  | .agg l => .agg (V.concL ρ l).toArray
  | .tuple l => .tuple (V.concL ρ l).toArray
def V.concL (ρ : Env) : List V → List Value
  | [] => []
  | v :: l => v.conc ρ :: V.concL ρ l
end

mutual
def V.In (D : Nat → Prop) : V → Prop
  | .ptr b _ => D b
  | .slice b _ _ _ => D b
  | .map r => D r
  | .func f x y => (∀ l, f ≠ .yield l) ∧ V.InL D x ∧ V.InL D y
  | .yield l => D l
  | .iface _ v => v.In D
  | .agg l => V.InL D l
  | .tuple l => V.InL D l
  | _ => True
def V.InL (D : Nat → Prop) : List V → Prop
  | [] => True
  | v :: l => v.In D ∧ V.InL D l
end

theorem V.concL_eq (ρ : Env) (l : List V) : V.concL ρ l = l.map (V.conc ρ) := by
  induction l with
  | nil => simp [V.concL]
  | cons v l ih => simp [V.concL, ih]
theorem V.InL_iff {D : Nat → Prop} {l : List V} : V.InL D l ↔ ∀ v ∈ l, v.In D := by
  induction l with
  | nil => simp [V.InL]
  | cons v l ih => simp [V.InL, ih]

def Agree (D : Nat → Prop) (ρ ρ' : Env) : Prop := ∀ id, D id → ρ'.blk id = ρ.blk id ∧ ρ'.off id = ρ.off id ∧ ρ'.cap id = ρ.cap id
theorem Agree.refl (D : Nat → Prop) (ρ : Env) : Agree D ρ ρ := fun _ _ => ⟨rfl, rfl, rfl⟩

mutual
theorem V.conc_agree {D : Nat → Prop} {ρ ρ' : Env} (h : Agree D ρ ρ') : ∀ v : V, v.In D → v.conc ρ' = v.conc ρ
  | .bool _, _ | .int _ _, _ | .str _, _ | .nilptr, _ | .nilslice, _ | .nilmap, _ | .nilFunc, _ | .nilIface, _ => by simp [V.conc]
  | .ptr b o, hv => by simp only [V.In] at hv; obtain ⟨h1, h2, _⟩ := h b hv; simp [V.conc, h1, h2]
  | .slice b o n c, hv => by
    simp only [V.In] at hv
    obtain ⟨h1, h2, h3⟩ := h b hv
    cases c <;> simp [V.conc, Cap.val, h1, h2, h3]
  | .map r, hv => by simp only [V.In] at hv; obtain ⟨h1, _, _⟩ := h r hv; simp [V.conc, h1]
  | .yield l, hv => by simp only [V.In] at hv; obtain ⟨h1, _, _⟩ := h l hv; simp [V.conc, h1]
  | .func f x y, hv => by
    simp only [V.In] at hv
    simp [V.conc, V.concL_agree h x hv.2.1, V.concL_agree h y hv.2.2]
  | .iface t v, hv => by simp only [V.In] at hv; simp [V.conc, V.conc_agree h v hv]
  | .agg l, hv => by simp only [V.In] at hv; simp [V.conc, V.concL_agree h l hv]
  | .tuple l, hv => by simp only [V.In] at hv; simp [V.conc, V.concL_agree h l hv]
theorem V.concL_agree {D : Nat → Prop} {ρ ρ' : Env} (h : Agree D ρ ρ') : ∀ l : List V, V.InL D l → V.concL ρ' l = V.concL ρ l
  | [], _ => by simp [V.concL]
  | v :: l, hv => by simp only [V.InL] at hv; simp [V.concL, V.conc_agree h v hv.1, V.concL_agree h l hv.2]
end

mutual
theorem V.In_mono {D E : Nat → Prop} (h : ∀ id, D id → E id) : ∀ v : V, v.In D → v.In E
  | .bool _, _ | .int _ _, _ | .str _, _ | .nilptr, _ | .nilslice, _ | .nilmap, _ | .nilFunc, _ | .nilIface, _ => by simp [V.In]
  | .ptr b o, hv => by simp only [V.In] at *; exact h _ hv
  | .slice b o n c, hv => by simp only [V.In] at *; exact h _ hv
  | .map r, hv => by simp only [V.In] at *; exact h _ hv
  | .yield l, hv => by simp only [V.In] at *; exact h _ hv
  | .func f x y, hv => by
    simp only [V.In] at *
    exact ⟨hv.1, V.InL_mono h x hv.2.1, V.InL_mono h y hv.2.2⟩
  | .iface t v, hv => by simp only [V.In] at *; exact V.In_mono h v hv
  | .agg l, hv => by simp only [V.In] at *; exact V.InL_mono h l hv
  | .tuple l, hv => by simp only [V.In] at *; exact V.InL_mono h l hv
theorem V.InL_mono {D E : Nat → Prop} (h : ∀ id, D id → E id) : ∀ l : List V, V.InL D l → V.InL E l
  | [], _ => by simp [V.InL]
  | v :: l, hv => by simp only [V.InL] at *; exact ⟨V.In_mono h v hv.1, V.InL_mono h l hv.2⟩
end

mutual
theorem V.In_and {D E : Nat → Prop} : ∀ v : V, v.In D → v.In E → v.In (fun id => D id ∧ E id)
  | .bool _, _, _ | .int _ _, _, _ | .str _, _, _ | .nilptr, _, _ | .nilslice, _, _ | .nilmap, _, _ | .nilFunc, _, _ | .nilIface, _, _ => by simp [V.In]
  | .ptr b o, h1, h2 => by simp only [V.In] at *; exact ⟨h1, h2⟩
  | .slice b o n c, h1, h2 => by simp only [V.In] at *; exact ⟨h1, h2⟩
  | .map r, h1, h2 => by simp only [V.In] at *; exact ⟨h1, h2⟩
  | .yield l, h1, h2 => by simp only [V.In] at *; exact ⟨h1, h2⟩
  | .func f x y, h1, h2 => by
    simp only [V.In] at *
    exact ⟨h1.1, V.InL_and x h1.2.1 h2.2.1, V.InL_and y h1.2.2 h2.2.2⟩
  | .iface t v, h1, h2 => by simp only [V.In] at *; exact V.In_and v h1 h2
  | .agg l, h1, h2 => by simp only [V.In] at *; exact V.InL_and l h1 h2
  | .tuple l, h1, h2 => by simp only [V.In] at *; exact V.InL_and l h1 h2
theorem V.InL_and {D E : Nat → Prop} : ∀ l : List V, V.InL D l → V.InL E l → V.InL (fun id => D id ∧ E id) l
  | [], _, _ => by simp [V.InL]
  | v :: l, h1, h2 => by simp only [V.InL] at *; exact ⟨V.In_and v h1.1 h2.1, V.InL_and l h1.2 h2.2⟩
end

end Go.Sim
