/- package unsafe's String and SliceData over a row of bytes. -/
import Derived.Test.YtamddelaigcnkaaGreatSimOps8
import Derived.Lib.UnsafeStr
namespace Go.Sim

section
variable {P : Program} {c : Ctx} {ρ : Env} {D : Nat → Prop} {h : H} {w : World}

theorem asliceData_sound {x v : V} (e : asliceData h x = some v) (r : HR ρ D h w) (hx : x.In D) (ts : Array TypeId) (ty : TypeId) :
    (Builtin.unsafeSliceData_ ts ty #[x.conc ρ]).run P w = .ok (v.conc ρ) w ∧ v.In D := by
  unfold asliceData at e
  split at e
  · simp only [Option.some.injEq] at e; subst e
    exact ⟨rfl, by simp [V.In]⟩
  · rename_i b o n k
    simp only [Option.some.injEq] at e; subst e
    refine ⟨?_, by simpa [V.In] using hx⟩
    simp only [V.conc, Cap.val]
    exact Go.Lib.run_unsafeSliceData_row w ts ty _ _ _ (by omega)
  · rename_i b o n
    simp only [V.In] at hx
    split at e
    · rename_i l esz hg
      cases hb : Nat.blt 0 l.len with
      | false => simp [hb] at e
      | true =>
      have hpos := (blt_iff _ _).1 hb
      simp only [hb, cond_true, Option.some.injEq] at e; subst e
      refine ⟨?_, by simpa [V.In] using hx⟩
      simp only [V.conc, Cap.val]
      obtain ⟨c0, ee, fz, _, _, _, hw⟩ := r.rel b _ hx hg
      obtain ⟨_, _, hle, hsz, _⟩ := hw rfl
      refine Go.Lib.run_unsafeSliceData_row w ts ty _ _ _ ?_
      intro h0
      simp only [if_true] at hsz
      have hc0 : ρ.cap b = 0 := by omega
      rw [hc0, Nat.zero_mul] at hsz
      omega
    · cases e
  · cases e

theorem run_bytes : ∀ (l : List V) (y : List UInt8) (a : Addr) (acc : ByteArray), bytesOf l = some y → (∀ j v, l[j]? = some v → w.cell? (a.add j) = some (v.conc ρ)) →
    (loadBytes a acc l.length).run P w = .ok ⟨acc.data ++ y.toArray⟩ w := by
  intro l
  induction l with
  | nil => intro y a acc e _; simp only [bytesOf, Option.some.injEq] at e; subst e; simp [loadBytes]
  | cons v l ih =>
    intro y a acc e hc
    cases v with
    | int k n =>
      cases k <;> simp only [bytesOf] at e <;> try (cases e; done)
      cases hb : bytesOf l with
      | none => simp [hb] at e
      | some q =>
        simp only [hb, Option.some.injEq] at e
        subst e
        have h0 : w.cell? a = some (.int .u8 n) := by
          have := hc 0 _ rfl
          simpa [Addr.add, V.conc] using this
        have h1 := ih q (a.add 1) (acc.push (UInt8.ofNat n.toNat)) hb (fun j y hy => by
          have := hc (j + 1) y (by simpa using hy)
          have e : (a.add 1).add j = a.add (j + 1) := by
            unfold Addr.add
            by_cases hj : j = 0
            · subst hj; simp
            · simp [hj]; omega
          rw [e]; exact this)
        have hx : n.toNat.toUInt8 = UInt8.ofNat n.toNat := rfl
        simp only [List.length_cons, loadBytes, Sem.run_bind, run_load, h0, Result.andThen, hx]
        rw [h1]
        congr 1
        apply ByteArray.ext
        simp [ByteArray.push]
    | _ => simp [bytesOf] at e

theorem freeze_row {b n : Nat} {c : Array Value} {e : TypeId} {fz : Nat × Nat} (hn : n ≠ 0) (h : w.heap[b]? = some (.cells c e fz)) :
    w.freeze ⟨b, 0, none⟩ n = w.putObj b (.cells c e (if fz.1 == fz.2 then (0, n) else (0, max fz.2 n))) := by
  have hb : b < w.heap.size := by
    rcases Nat.lt_or_ge b w.heap.size with g | g
    · exact g
    · rw [Array.getElem?_eq_none g] at h; cases h
  unfold World.freeze World.putObj
  rw [if_neg hn]
  congr 1
  apply Array.ext_getElem?
  intro i
  obtain ⟨lo, hi⟩ := fz
  rw [Array.getElem?_modify]
  by_cases hi2 : b = i
  · subst hi2
    have hv : w.heap[b] = .cells c e (lo, hi) := by simpa [Array.getElem?_eq_getElem hb] using h
    simp [hb, hv]
  · simp [hi2]

theorem aunsafeStr_sound (ok : CtxOK P c) {pt : TypeId} {p n v : V} {h' : H} (e : aunsafeStr c pt h p n = some (v, h')) (r : HR ρ D h w) (hp : p.In D) (ts : Array TypeId) (ty : TypeId) (hts : ts[0]? = some pt) :
    Post ρ D h w ((Builtin.unsafeString_ ts ty #[p.conc ρ, n.conc ρ]).run P w) v h' := by
  have hmax : IntKind.i64.max = 9223372036854775807 := rfl
  have hdef : ∀ (p : Option Addr) (n : Value), Builtin.unsafeString_ ts ty #[.pointer p, n] =
      (do
        let n ← asInt n
        let some pt := ts[0]? | stuck "unsafe.String: no argument types"
        if n < 0 then runtimePanic (.error "unsafe.String: len out of range")
        if n > IntKind.i64.max then unsupported (.unsafePointer "String: a length above the largest int")
        match p with
        | none =>
          if n = 0 then pure (.string .empty)
          else runtimePanic (.error "unsafe.String: ptr is nil and len is not zero")
        | some a =>
          if n = 0 then pure (.string .empty)
          else if ← variablesAt a (← elemOf pt) n.toNat then do
            let s ← loadBytes a .empty n.toNat
            freeze a n.toNat
            pure (.string s)
          else unsupported (.unsafePointer "String: not so many bytes at ptr")) := fun _ _ => rfl
  have hemp : (⟨([] : List UInt8).toArray⟩ : ByteArray) = .empty := rfl
  unfold aunsafeStr at e
  split at e
  · simp only [Option.some.injEq, Prod.mk.injEq] at e; obtain ⟨rfl, rfl⟩ := e
    refine Post.of_eq ?_ (Post.pure r (v := .str []) (by simp [V.In]))
    simp only [V.conc, hdef, hts]
    simp [asInt, asIntOf, hmax, hemp]
  · simp only [Option.some.injEq, Prod.mk.injEq] at e; obtain ⟨rfl, rfl⟩ := e
    refine Post.of_eq ?_ (Post.pure r (v := .str []) (by simp [V.In]))
    simp only [V.conc, hdef, hts]
    simp [asInt, asIntOf, hmax, hemp]
  · rename_i b k m hne
    simp only [V.In] at hp
    split at e
    · rename_i tp l esz op htp hg
      obtain ⟨i1, k1⟩ := ok.ty pt tp htp
      split at e
      · rename_i u hd
        split at e
        · rename_i tu htu
          obtain ⟨i2, k2⟩ := ok.ty u tu htu
          cases hc : (Nat.beq tu.size 1 && Nat.beq esz.ty (u + 1) && Nat.ble m 4611686018427387904) with
          | false => simp [hc] at e
          | true =>
            simp only [hc, cond_true] at e
            simp only [Bool.and_eq_true] at hc
            obtain ⟨⟨c1, c2⟩, c3⟩ := hc
            have c1' := Nat.eq_of_beq_eq_true c1
            have c2' := Nat.eq_of_beq_eq_true c2
            have c3' := Nat.le_of_ble_eq_true c3
            split at e
            · rename_i x hx
              split at e
              · rename_i y hy
                simp only [Option.some.injEq, Prod.mk.injEq] at e; obtain ⟨rfl, rfl⟩ := e
                have hm0 : m ≠ 0 := hne
                obtain ⟨hxl, t1, t2⟩ := Cs.range_eq hx
                obtain ⟨c0, ee, fz, hxx, hcell, hcin, hw⟩ := r.rel b _ hp hg
                obtain ⟨hoff, hfz, hle, hsz, hty⟩ := hw rfl
                obtain ⟨rfl, hfz2⟩ := hty u c2'
                have hcells : P.cellsOf ee = 1 := by simp [Program.cellsOf, k2.info, k2.size, c1']
                have hsh : w.shape? (ρ.blk b) = some (ee, c0.size) := by unfold World.shape?; rw [hxx]
                have hlies := Go.Lib.liesAt_bytes (P := P) hcells (c0.size / P.cellsOf ee) m (by rw [hcells, Nat.div_one]; omega)
                have hload := run_bytes (P := P) (ρ := ρ) (w := w) x y ⟨ρ.blk b, 0, none⟩ .empty hy (fun j u hu => by
                  rw [add_zero_spot, cell_of_row hxx, Nat.zero_add]
                  have hjm : j < m := by rw [← hxl]; exact (List.getElem?_eq_some_iff.1 hu).1
                  have : l.get? j = some u := by
                    rw [t2 j hjm, Nat.zero_add] at hu
                    exact hu
                  have := hcell _ _ this
                  rwa [hoff, Nat.zero_add] at this)
                rw [hxl] at hload
                have hfr := freeze_row (w := w) (n := m) hm0 hxx
                have hO : ORel ρ D b (.cells l ⟨esz.n, esz.ty, cond (Nat.ble esz.fz m) m esz.fz⟩ true op) (some (.cells c0 ee (if fz.1 == fz.2 then (0, m) else (0, max fz.2 m)))) := by
                  refine ⟨c0, ee, _, rfl, hcell, hcin, fun _ => ⟨hoff, ?_, hle, hsz, ?_⟩⟩
                  · intro i hi hk
                    have hmx : esz.fz ≤ i ∧ m ≤ i := by
                      cases hb : Nat.ble esz.fz m with
                      | true => simp only [hb, cond_true] at hk; have := Nat.le_of_ble_eq_true hb; omega
                      | false => simp only [hb, cond_false] at hk; have := (ble_false _ _).1 hb; omega
                    split
                    · simp; omega
                    · rename_i hne2
                      rcases hfz2 with g | g
                      · exact absurd (by simpa using g) hne2
                      · simp; omega
                  · intro t ht
                    have ht' : esz.ty = t + 1 := ht
                    refine ⟨(hty t ht').1, ?_⟩
                    have hmx : m ≤ (cond (Nat.ble esz.fz m) m esz.fz) ∧ esz.fz ≤ (cond (Nat.ble esz.fz m) m esz.fz) := by
                      cases hb : Nat.ble esz.fz m with
                      | true => simp only [cond_true]; have := Nat.le_of_ble_eq_true hb; omega
                      | false => simp only [cond_false]; have := (ble_false _ _).1 hb; omega
                    right
                    split
                    · exact ⟨rfl, hmx.1⟩
                    · rename_i hne2
                      rcases hfz2 with g | g
                      · exact absurd (by simpa using g) hne2
                      · exact ⟨rfl, by simp only; omega⟩
                refine ⟨ρ, w.putObj (ρ.blk b) (.cells c0 ee (if fz.1 == fz.2 then (0, m) else (0, max fz.2 m))), ?_, Mv.upd r hp hg rfl rfl, by rw [Dx_next (upd_next _ _ _)]; exact HR.upd r hp hg rfl rfl hO, by simp [V.In]⟩
                · rw [← hfr]
                  simp only [V.conc, hdef, hts, hoff]
                  have h1 : ¬ (9223372036854775807 : Int) < (m : Int) := by omega
                  have h2 : ¬ ((m : Int) < 0) := by omega
                  have h3 : ¬ ((m : Int) = 0) := by omega
                  simp [asInt, asIntOf, hmax, h1, h2, hm0, variablesAt, hsh, elemOf, run_und k1, hd, hlies, hload]
              · cases e
            · cases e
        · cases e
      · cases e
    · cases e
  · cases e
end
end Go.Sim
