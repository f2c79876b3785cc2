/- Operations that read the heap or leave it alone. -/
import Derived.Test.YtamddelaigcnkaaGreatSimCtx
namespace Go.Sim

section
variable {P : Program} {c : Ctx} {ρ : Env} {D : Nat → Prop} {h : H} {w : World}

theorem run_und {t : Nat} {ti : TI} {i : TypeInfo} (k : TyOK P t ti i) (w : World) : (underlying t).run P w = .ok ti.desc w := by
  simp [underlying, k.und]
theorem run_info {t : Nat} {ti : TI} {i : TypeInfo} (k : TyOK P t ti i) (w : World) : (typeInfo t).run P w = .ok i w := by
  simp [typeInfo, k.info]
theorem run_size {t : Nat} {ti : TI} {i : TypeInfo} (k : TyOK P t ti i) (w : World) : (sizeOf t).run P w = .ok ti.size w := by
  simp [sizeOf, run_info k, k.size]
theorem run_isAgg {t : Nat} {ti : TI} {i : TypeInfo} (k : TyOK P t ti i) (w : World) : (isAgg t).run P w = .ok (isAggD ti.desc) w := by
  simp only [isAgg, Sem.run_bind, run_und k, Result.andThen_ok]
  cases ti.desc <;> rfl
theorem run_zero {t : Nat} {ti : TI} {i : TypeInfo} {z : V} (k : TyOK P t ti i) (hz : ti.zero = some z) (ρ : Env) (w : World) : (zeroValue t).run P w = .ok (z.conc ρ) w ∧ ∀ D, z.In D := by
  obtain ⟨v, h1, h2⟩ := k.zero z hz
  obtain ⟨a, b⟩ := ofV_sound h2
  exact ⟨by simp [zeroValue, run_info k, h1, a], b⟩

theorem conc_agg (l : List V) : (V.agg l).conc ρ = .agg (l.map (V.conc ρ)).toArray := by simp [V.conc, V.concL_eq]
theorem conc_tuple (l : List V) : (V.tuple l).conc ρ = .tuple (l.map (V.conc ρ)).toArray := by simp [V.conc, V.concL_eq]

/-- A variable read. -/
theorem ald_sound (ok : CtxOK P c) {t : TypeId} {a v : V} (e : ald c t h a = some v) (r : HR ρ D h w) (ha : a.In D) :
    (Instr.loadAt t (a.conc ρ)).run P w = .ok (v.conc ρ) w ∧ v.In D := by
  unfold ald at e
  split at e
  · rename_i b o
    simp only [V.In] at ha
    split at e
    · rename_i l esz wr op hg
      split at e
      · rename_i ti hti
        obtain ⟨i, k⟩ := ok.ty t ti hti
        cases hag : isAggD ti.desc with
        | true =>
          simp only [hag, cond_true] at e
          split at e
          · rename_i x hx
            simp only [Option.some.injEq] at e; subst e
            obtain ⟨h1, h2, _⟩ := load_cells (P := P) r ha hg hx
            refine ⟨?_, by simp only [V.In, V.InL_iff]; exact h2⟩
            simp [Instr.loadAt, Instr.sureAddr, loadVar, V.conc, run_isAgg k, hag, run_size k, h1, V.concL_eq]
          · cases e
        | false =>
          simp only [hag, cond_false] at e
          obtain ⟨h1, h2⟩ := load_one r ha hg e
          refine ⟨?_, h2⟩
          simp [Instr.loadAt, Instr.sureAddr, loadVar, V.conc, run_isAgg k, hag, h1]
      · cases e
    · cases e
  · cases e

theorem ast_sound (ok : CtxOK P c) {t : TypeId} {a v : V} {h' : H} (e : ast c t h a v = some h') (r : HR ρ D h w) (ha : a.In D) (hv : v.In D) :
    ∃ w', (Instr.storeAt t (a.conc ρ) (v.conc ρ)).run P w = .ok () w' ∧ HR ρ D h' w' ∧ Mv ρ D h w ρ h' w' ∧ h'.next = h.next := by
  unfold ast at e
  split at e
  · rename_i b o
    simp only [V.In] at ha
    split at e
    · rename_i l esz op hg
      split at e
      · rename_i ti hti
        obtain ⟨i, k⟩ := ok.ty t ti hti
        cases h1 : lenIs v.cells ti.size with
        | false => simp [h1] at e
        | true =>
          cases h2' : cond (Nat.ble esz.fz o) (allOne v.cells) false with
          | false => rw [h1, cond_true, h2'] at e; cases e
          | true =>
            rw [h1, cond_true, h2', cond_true] at e
            obtain ⟨hfk, h2⟩ := cond_and h2'
            split at e
            · rename_i l' hl'
              simp only [Option.some.injEq] at e; subst e
              obtain ⟨s1, s2, s3, _⟩ := store_cells (P := P) r ha hg (V.cells_In hv) h2 hl' (Nat.le_of_ble_eq_true hfk)
              refine ⟨_, ?_, s2, s3, rfl⟩
              have hlen := lenIs_iff.1 h1
              simp only [Instr.storeAt, Instr.sureAddr, V.conc, storeVar, Sem.run_bind, Sem.run_pure, Result.andThen_ok, run_size k, V.cells_conc]
              simp [hlen, s1]
            · cases e
      · cases e
    · cases e
  · cases e

theorem apart_sound (ok : CtxOK P c) {t : TypeId} {ti : TI} {l : List V} {off : Nat} {v : V} (hti : c.ty.get t = some ti) (e : apart ti l off = some v) (hl : ∀ x ∈ l, x.In D) (w : World) :
    (part t (l.map (V.conc ρ)).toArray off).run P w = .ok (v.conc ρ) w ∧ v.In D := by
  obtain ⟨i, k⟩ := ok.ty t ti hti
  unfold apart at e
  split at e
  · cases e
  · rename_i q hq
    obtain ⟨a1, rfl⟩ := dropN_eq hq
    cases hag : isAggD ti.desc with
    | true =>
      simp only [hag, cond_true] at e
      split at e
      · rename_i x hx
        simp only [Option.some.injEq] at e; subst e
        obtain ⟨a2, rfl⟩ := takeN_eq hx
        refine ⟨?_, by simp only [V.In, V.InL_iff]; exact fun x hx => hl x (List.mem_of_mem_drop (List.mem_of_mem_take hx))⟩
        simp only [part, Sem.run_bind, run_isAgg k, hag, Result.andThen_ok, if_true, run_size k, Sem.run_pure, conc_agg]
        congr 2
        apply Array.ext'
        rw [Array.toList_extract]
        simp [List.map_take, List.map_drop]
      · cases e
    | false =>
      simp only [hag, cond_false] at e
      split at e
      · rename_i x y hxy
        simp only [Option.some.injEq] at e; subst e
        have hv : l[off]? = some x := by
          have : (l.drop off)[0]? = some x := by rw [hxy]; rfl
          simpa using this
        refine ⟨?_, hl x (List.mem_of_getElem? hv)⟩
        simp [part, run_isAgg k, hag, hv]
      · cases e

theorem afld_sound (ok : CtxOK P c) {t : TypeId} {x v : V} {f : Nat} (e : afld c t x f = some v) (hx : x.In D) : (Instr.field t (x.conc ρ) f).run P w = .ok (v.conc ρ) w ∧ v.In D := by
  unfold afld at e
  split at e
  · rename_i ti hti
    obtain ⟨i, k⟩ := ok.ty t ti hti
    split at e
    · rename_i fs cs hd
      split at e
      · rename_i fd hfd
        split at e
        · rename_i tf htf
          simp only [V.In, V.InL_iff] at hx
          obtain ⟨p1, p2⟩ := apart_sound (ρ := ρ) ok htf e hx w
          refine ⟨?_, p2⟩
          simp [Instr.field, run_und k, hd, hfd, conc_agg, asAgg, p1]
        · cases e
      · cases e
    · cases e
  · cases e

theorem size_bytes (l : List UInt8) : (⟨l.toArray⟩ : ByteArray).size = l.length := by simp [ByteArray.size]

theorem asNatI_eq {n : Int} {i : Nat} (h : asNatI n = some i) : n = (i : Int) := by
  cases n <;> simp [asNatI] at h
  simp [h]

theorem aindex_sound (ok : CtxOK P c) {t : TypeId} {x ix v : V} (e : aindex c t x ix = some v) (hx : x.In D) : (Instr.index t (x.conc ρ) (ix.conc ρ)).run P w = .ok (v.conc ρ) w ∧ v.In D := by
  unfold aindex at e
  split at e
  · rename_i kk n
    split at e
    · rename_i i ti hi hti
      obtain ⟨inf, k⟩ := ok.ty t ti hti
      obtain rfl := asNatI_eq hi
      split at e
      · rename_i len el cs hd
        cases hb : Nat.blt i len with
        | false => simp [hb] at e
        | true =>
          simp only [hb, cond_true] at e
          have hlt := (blt_iff _ _).1 hb
          split at e
          · rename_i te hte
            obtain ⟨inf2, k2⟩ := ok.ty el te hte
            simp only [V.In, V.InL_iff] at hx
            obtain ⟨p1, p2⟩ := apart_sound (ρ := ρ) ok hte e hx w
            refine ⟨?_, p2⟩
            have hlt' : (i : Int) < (len : Int) := by omega
            simp [Instr.index, V.conc, asIntOf, run_und k, hd, V.concL_eq, hlt, run_size k2, p1]
          · cases e
      · rename_i bl hd
        split at e
        · rename_i b hb
          simp only [Option.some.injEq] at e; subst e
          have hat : ∀ (l : List UInt8) (i : Nat) (b : UInt8), byteAt l i = some b → l[i]? = some b := by
            intro l
            induction l with
            | nil => intro i b h; simp [byteAt] at h
            | cons y l ih => intro i b h; cases i <;> simp_all [byteAt]
          have hb' := hat bl i b hb
          have hs : (⟨bl.toArray⟩ : ByteArray)[i]? = some b := by
            obtain ⟨hl, hv⟩ := List.getElem?_eq_some_iff.1 hb'
            have hsz : i < (⟨bl.toArray⟩ : ByteArray).size := by rw [size_bytes]; exact hl
            rw [getElem?_pos (⟨bl.toArray⟩ : ByteArray) i hsz]
            congr 1
          refine ⟨?_, by simp [V.In]⟩
          have h0 : (0 : Int) ≤ (i : Int) := by omega
          simp [Instr.index, V.conc, asIntOf, run_und k, hd, hs]
        · cases e
      · cases e
    · cases e
  · cases e

theorem aidx_sound (ok : CtxOK P c) {t : TypeId} {x ix v : V} (e : aidx c t x ix = some v) (hx : x.In D) : (Instr.indexAt t (x.conc ρ) (ix.conc ρ)).run P w = .ok (v.conc ρ) w ∧ v.In D := by
  unfold aidx at e
  split at e
  · rename_i kk n
    split at e
    · rename_i i ti hi hti
      obtain ⟨inf, k⟩ := ok.ty t ti hti
      obtain rfl := asNatI_eq hi
      split at e
      · rename_i len el b o hd
        cases hb : Nat.blt i len with
        | false => simp [hb] at e
        | true =>
          simp only [hb, cond_true] at e
          have hlt := (blt_iff _ _).1 hb
          split at e
          · rename_i te hte
            obtain ⟨inf2, k2⟩ := ok.ty el te hte
            simp only [Option.some.injEq] at e; subst e
            refine ⟨?_, by simpa [V.In] using hx⟩
            have hlt' : (i : Int) < (len : Int) := by omega
            simp [Instr.indexAt, V.conc, asIntOf, run_und k, hd, Instr.sureAddr, hlt, run_size k2, add_zero_spot, Nat.add_assoc]
          · cases e
      · rename_i el b o len cp hd
        cases hb : Nat.blt i len with
        | false => simp [hb] at e
        | true =>
          simp only [hb, cond_true] at e
          have hlt := (blt_iff _ _).1 hb
          split at e
          · rename_i te hte
            obtain ⟨inf2, k2⟩ := ok.ty el te hte
            simp only [Option.some.injEq] at e; subst e
            refine ⟨?_, by simpa [V.In] using hx⟩
            have hlt' : (i : Int) < (len : Int) := by omega
            simp [Instr.indexAt, V.conc, asIntOf, run_und k, hd, hlt, run_size k2, add_zero_spot, Nat.add_assoc]
          · cases e
      · cases e
    · cases e
  · cases e

theorem alen_sound (ok : CtxOK P c) {t : TypeId} {x v : V} (e : alen c t h x = some v) (r : HR ρ D h w) (hx : x.In D) (ts : Array TypeId) (hts : ts.getD 0 0 = t) (ty : TypeId) (hne : 0 < ts.size) :
    (Builtin.len_ ts ty #[x.conc ρ]).run P w = .ok (v.conc ρ) w ∧ v.In D := by
  have ht : ts[0]? = some t := by
    rw [Array.getElem?_eq_getElem hne]
    simp only [Array.getD, hne, dif_pos] at hts
    rw [← hts]; rfl
  unfold alen at e
  split at e
  · cases e
  · rename_i ti hti
    obtain ⟨i, k⟩ := ok.ty t ti hti
    split at e
    · rename_i l hd
      simp only [Option.some.injEq] at e; subst e
      exact ⟨by simp [Builtin.len_, ht, run_und k, hd, V.conc, goInt, lenB_eq, size_bytes], by simp [V.In]⟩
    · rename_i n el hd
      simp only [Option.some.injEq] at e; subst e
      exact ⟨by simp [Builtin.len_, ht, run_und k, hd, V.conc, goInt], by simp [V.In]⟩
    · rename_i el b o n cp hd
      simp only [Option.some.injEq] at e; subst e
      exact ⟨by simp [Builtin.len_, ht, run_und k, hd, V.conc, goInt], by simp [V.In]⟩
    · rename_i el hd
      simp only [Option.some.injEq] at e; subst e
      exact ⟨by simp [Builtin.len_, ht, run_und k, hd, V.conc, goInt], by simp [V.In]⟩
    · rename_i a b hd
      simp only [Option.some.injEq] at e; subst e
      exact ⟨by simp [Builtin.len_, ht, run_und k, hd, V.conc, goInt], by simp [V.In]⟩
    · rename_i a b rr hd
      simp only [V.In] at hx
      split at e
      · rename_i es clock hg
        simp only [Option.some.injEq] at e; subst e
        have hr := (r.rel rr _ hx hg).1
        exact ⟨by simp [Builtin.len_, ht, run_und k, hd, V.conc, goInt, getObj, Sem.run, hr], by simp [V.In]⟩
      · cases e
    · cases e

theorem acap_sound (ok : CtxOK P c) {t : TypeId} {x v : V} (e : acap c t x = some v) (ts : Array TypeId) (hts : ts.getD 0 0 = t) (ty : TypeId) (hne : 0 < ts.size) :
    (Builtin.cap_ ts ty #[x.conc ρ]).run P w = .ok (v.conc ρ) w ∧ v.In D := by
  have ht : ts[0]? = some t := by
    rw [Array.getElem?_eq_getElem hne]
    simp only [Array.getD, hne, dif_pos] at hts
    rw [← hts]; rfl
  unfold acap at e
  split at e
  · cases e
  · rename_i ti hti
    obtain ⟨i, k⟩ := ok.ty t ti hti
    split at e
    · rename_i n el hd
      simp only [Option.some.injEq] at e; subst e
      exact ⟨by simp [Builtin.cap_, ht, run_und k, hd, V.conc, goInt], by simp [V.In]⟩
    · rename_i el b o n cp hd
      simp only [Option.some.injEq] at e; subst e
      exact ⟨by simp [Builtin.cap_, ht, run_und k, hd, V.conc, goInt, Cap.val], by simp [V.In]⟩
    · rename_i el hd
      simp only [Option.some.injEq] at e; subst e
      exact ⟨by simp [Builtin.cap_, ht, run_und k, hd, V.conc, goInt], by simp [V.In]⟩
    · cases e
end
end Go.Sim
