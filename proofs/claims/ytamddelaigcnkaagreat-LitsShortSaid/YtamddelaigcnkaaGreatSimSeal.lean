/- Ways that meet: what lies behind is said for any temporaries that agree on those that are looked at later; so are loops, and ranges over functions. -/
import Derived.Test.YtamddelaigcnkaaGreatSimDfr
namespace Go.Sim
open Go (Code Oper Op)

def nEx (i : Nat) : Code → Nat
  | .seq a b => nEx i a + nEx i b
  | .cond _ a b => nEx i a + nEx i b
  | .block _ b => nEx i b
  | .scope b => nEx i b
  | .exit j => cond (Nat.beq i j) 1 0
  | _ => 0
def pickN : List Oper → Nat
  | [] => 1
  | o :: l => match o.op with
    | .pick .. => 2 * pickN l
    | _ => pickN l
/-- In how many ways a piece may end. -/
def nEnds : Code → Nat
  | .region _ ops _ => pickN ops.toList
  | .seq a b => nEnds a * nEnds b
  | .cond _ a b => nEnds a + nEnds b
  | .block i b => nEnds b + nEx i b
  | .scope b => nEnds b
  | .exit _ => 0
  | .ret => 0
  | _ => 1
def lenN {α : Type} : List α → Nat
  | [] => 0
  | _ :: l => lenN l + 1
def nOps : Code → Nat
  | .region _ ops _ => lenN ops.toList
  | .seq a b => nOps a + nOps b
  | .cond _ a b => nOps a + nOps b
  | .block _ b => nOps b
  | .scope b => nOps b
  | .loop b => nOps b
  | _ => 0
/-- Do several ways meet before the second piece, and is it long? -/
def meets (jn : Nat) (a b : Code) : Bool := cond (Nat.ble 2 (nEnds a)) (Nat.ble jn (nOps b)) false

/-- A temporary holds what it held. -/
def kp (a b : Tm) (t : Nat) : Prop := getV a t = getV b t

def sealK (live : List Nat) (k : St → Prop) : St → Prop := fun s => ∀ tm', sealL s.tm tm' live (k ⟨s.n, tm', s.dfr, s.heap⟩)
theorem sealK_out {live : List Nat} {k : St → Prop} {s : St} (h : sealK live k s) : k s := sealL_out (h s.tm)

theorem sealL_mono {tm tm' : Tm} {q q' : Prop} (hq : q → q') : ∀ {l : List Nat}, sealL tm tm' l q → sealL tm tm' l q' := by
  intro l
  induction l with
  | nil => exact hq
  | cons t l ih => exact fun h e => ih (h e)
theorem sealK_mono {live : List Nat} {k k' : St → Prop} (hk : ∀ s, k s → k' s) {s : St} (h : sealK live k s) : sealK live k' s := fun tm' => sealL_mono (hk _) (h tm')

variable (P : Program) (c : Ctx)

def wpS (live : List Nat) (jn : Nat) (b : Bool) : Code → St → (AX → St → Prop) → Prop
  | .seq x y, s, Q => wpS live jn b x s (thenC (cond (meets jn x y) (sealK live fun s1 => wpS live jn b y s1 Q) (fun s1 => wpS live jn b y s1 Q)) Q)
  | .cond o x y, s, Q => match evx s.tm o with
    | some v => wpPick v fun t => match t with | true => wpS live jn b x s Q | false => wpS live jn b y s Q
    | none => False
  | .block id x, s, Q => wpS live jn b x s (fun e s1 => Q (exitB id e) s1)
  | .scope x, s, Q => wpS live jn b x s Q
  | .loop x, s, Q => sealK live (fun s1 => wpC P c b (.loop x) s1 Q) s
  | .rangeFunc f ps asg body, s, Q => sealK live (fun s1 => RC P b (.rangeFunc f ps asg body) s1 Q) s
  | x, s, Q => wpC P c b x s Q

variable {P c}

theorem thenC_mono {k k' : St → Prop} {Q Q' : AX → St → Prop} (h1 : ∀ s, k s → k' s) (h2 : ∀ x s, Q x s → Q' x s) : ∀ x s, thenC k Q x s → thenC k' Q' x s := by
  intro x s h
  cases x <;> first | exact h1 _ h | exact h2 _ _ h

theorem wpS_mono {live : List Nat} {jn : Nat} {b : Bool} : ∀ (code : Code) {s : St} {Q Q' : AX → St → Prop}, (∀ x s', Q x s' → Q' x s') → wpS P c live jn b code s Q → wpS P c live jn b code s Q' := by
  intro code
  induction code with
  | seq x y ihx ihy =>
    intro s Q Q' hq h
    refine ihx (thenC_mono (fun s1 h1 => ?_) hq) h
    revert h1
    cases meets jn x y with
    | true => exact fun h1 => sealK_mono (k := fun s1 => wpS P c live jn b y s1 Q) (fun _ h => ihy hq h) h1
    | false => exact fun h1 => ihy hq h1
  | cond o x y ihx ihy =>
    intro s Q Q' hq h
    simp only [wpS] at h ⊢
    cases ho : evx s.tm o with
    | none => rw [ho] at h; exact h
    | some v =>
      rw [ho] at h
      refine wpPick_mono (fun t ht => ?_) h
      cases t with
      | true => exact ihx hq ht
      | false => exact ihy hq ht
  | block id x ih => intro s Q Q' hq h; exact ih (fun e s1 => hq _ _) h
  | scope x ih => intro s Q Q' hq h; exact ih hq h
  | loop x ih => intro s Q Q' hq h; exact sealK_mono (fun _ h => wpC_mono _ hq h) h
  | rangeFunc f ps asg body => intro s Q Q' hq h; exact sealK_mono (fun _ h => RC.mono h hq) h
  | _ => intro s Q Q' hq h; exact wpC_mono _ hq h

theorem wpS_out {live : List Nat} {jn : Nat} {b : Bool} : ∀ (code : Code) {s : St} {Q : AX → St → Prop}, wpS P c live jn b code s Q → wpC P c b code s Q := by
  intro code
  induction code with
  | seq x y ihx ihy =>
    intro s Q h
    refine wpC_mono x (thenC_mono (fun s1 h1 => ?_) fun _ _ h => h) (ihx h)
    revert h1
    cases meets jn x y with
    | true => exact fun h1 => ihy (sealK_out (k := fun s1 => wpS P c live jn b y s1 Q) h1)
    | false => exact fun h1 => ihy h1
  | cond o x y ihx ihy =>
    intro s Q h
    simp only [wpS, wpC] at h ⊢
    cases ho : evx s.tm o with
    | none => rw [ho] at h; exact h
    | some v =>
      rw [ho] at h
      refine wpPick_mono (fun t ht => ?_) h
      cases t with
      | true => exact ihx ht
      | false => exact ihy ht
  | block id x ih => intro s Q h; exact ih h
  | scope x ih => intro s Q h; exact ih h
  | loop x ih => intro s Q h; exact sealK_out h
  | rangeFunc f ps asg body => intro s Q h; exact sealK_out h
  | _ => intro s Q h; exact h

theorem wpS.seal {live : List Nat} {jn : Nat} {b : Bool} {code : Code} {s : St} {Q : AX → St → Prop} {w : Prop} (e : wpS P c live jn b code s (sealQ live Q) = w) (h : w) : wpS P c live jn b code s Q := wpS_mono _ (fun _ _ => sealQ_out) (e ▸ h)
theorem wpC.sealS {live : List Nat} {jn : Nat} {b : Bool} {code : Code} {s : St} {Q : AX → St → Prop} {w : Prop} (e : wpS P c live jn b code s (sealQ live Q) = w) (h : w) : wpC P c b code s Q := wpS_out _ (wpS.seal e h)

theorem RF.enterS (ok : CtxOK P c) {live : List Nat} {jn : Nat} {f : Nat} {fi : FI} {args : List V} {h : H} {Q : V → H → Prop} {w : Prop} (hf : (c.fn.get f).map slimF = some fi) (ha : args.length ≤ fi.n) (hn : fi.n ≤ 511)
    (e : wpS P c live jn false fi.body ⟨fi.n, setArgs args 0 (Tb.leaf undefV), [], h⟩ (endW c fi Q) = w) (hw : w) : RF P c f args h Q := RF.enter ok hf ha hn (wpS_out _ (e ▸ hw))
theorem RF.enterDS (ok : CtxOK P c) {live : List Nat} {jn : Nat} {f : Nat} {fi : FI} {args : List V} {h : H} {Q : V → H → Prop} {w : Prop} (hf : (c.fn.get f).map slimF = some fi) (ha : args.length ≤ fi.n) (hn : fi.n ≤ 511)
    (e : wpS P c live jn false fi.body ⟨fi.n, setArgs args 0 (Tb.leaf undefV), [], h⟩ (endW1 P c fi Q) = w) (hw : w) : RF P c f args h Q := RF.enterD ok hf ha hn (wpS_out _ (e ▸ hw))

end Go.Sim
