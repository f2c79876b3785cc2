/- I. No condition. -/
import Derived.Test.YtnpeieeomokomaaGreatZH
namespace Go.Sim
section
variable {P:Program}{c:Ctx}{ρ:Env}{D:Nat->Prop}{h:H}{w:World}
theorem wg {v:V}{d top m:Nat}(e:bnd (some v) d top=some m):m<=top/\∃k,v = .int k (m:Int):=by
 cases v<;>simp only[bnd]at e<;>try (cases e;done)
 rename_i k n;cases hn:xB n with
 | none=>simp[hn]at e
 | some q =>
  simp only[hn]at e;cases hb:Nat.ble q top with
  | false=>simp[hb]at e
  | true =>
   simp only[hb,oK,oA]at e;subst e;exact⟨oE hb,k,by rw[kl hn]⟩
theorem yT {v:V}{top m:Nat}(hm:m<=top) {k:IntKind}(hv:v = .int k (m:Int)) (code:BoundsCode) (w:World):(Instr.sliceBound (v.conc ρ) top code).run P w = .ok m w:=by
 subst hv;have h2:(m:Int)<=(top:Int):=by omega
 simp[Instr.sliceBound,V.conc,asIntOf,hm]
theorem ye {isS:Bool}{len cp m hh ll:Nat}{lo hi mx:Option V}(e1:bnd mx cp cp=some m) (e2:bnd hi len m=some hh) (e3:bnd lo 0 hh=some ll) (hmh:(mx.isSome && hi.isNone)=false) (w:World) :
  (Instr.sliceBounds isS len cp (lo.map (V.conc ρ)) (hi.map (V.conc ρ)) (mx.map (V.conc ρ))).run P w = .ok (ll,hh,m) w:=by
 cases mx with
 | none =>
  simp only[bnd,oA]at e1;subst e1;cases hi with
  | none =>
   simp only[bnd,oA]at e2;subst e2;cases lo with
   | none=>simp only[bnd,oA]at e3;subst e3;simp[Instr.sliceBounds]
   | some v=>obtain⟨g1,k,g2⟩:=wg e3;simp[Instr.sliceBounds,yT g1 g2]
  | some u =>
   obtain⟨f1,k',f2⟩:=wg e2;cases lo with
   | none=>simp only[bnd,oA]at e3;subst e3;cases isS<;>simp[Instr.sliceBounds,yT f1 f2]
   | some v=>obtain⟨g1,k,g2⟩:=wg e3;cases isS<;>simp[Instr.sliceBounds,yT g1 g2,yT f1 f2]
 | some x =>
  obtain⟨a1,k0,a2⟩:=wg e1;cases hi with
  | none=>simp at hmh
  | some u =>
   obtain⟨f1,k',f2⟩:=wg e2;cases lo with
   | none=>simp only[bnd,oA]at e3;subst e3;cases isS<;>simp[Instr.sliceBounds,yT f1 f2,yT a1 a2]
   | some v=>obtain⟨g1,k,g2⟩:=wg e3;cases isS<;>simp[Instr.sliceBounds,yT g1 g2,yT f1 f2,yT a1 a2]
theorem Xl {v:Option V}{d top m:Nat}(e:bnd v d top=some m) (hd:d<=top):m<=top:=by
 cases v with
 | none=>simp only[bnd,oA]at e;omega
 | some v=>exact(wg e).1
theorem zBc (ok : CtxOK P c) {t : TypeId}{x v : V}{lo hi mx : Option V}(e : yP c t h x lo hi mx = some v) (r : HR ρ D h w) (hx : x.In D) :
    (Instr.sliceAt t (x.conc ρ) (lo.map (V.conc ρ)) (hi.map (V.conc ρ)) (mx.map (V.conc ρ))).run P w = .ok (v.conc ρ) w /\ v.In D := by
  unfold yP at e;split at e
  · cases e
  · rename_i ti hti
    obtain⟨i, k⟩ := ok.ty t ti hti;split at e
    · rename_i l hd
      split at e
      · cases e
      · simp only at e
        split at e
        · cases e
        · rename_i hh hhi
          split at e
          · cases e
          · rename_i ll hlo
            simp only[oA]at e;subst e;refine⟨?_, by simp[V.In]⟩;rw[yu, Nat.add_zero]at hhi;have hb := ye (P := P) (ρ := ρ) (isS := false) (mx := none) (m := l.length) (cp := l.length) (len := l.length) rfl hhi hlo (by simp) w;have hhl : hh <= l.length := Xl hhi (oO _);simp only[Instr.sliceAt, Sem.run_bind, z7 k, hd, Result.andThen_ok, Instr.slice, V.conc, jO, Option.map_none, Option.isSome_none, Bool.false_eq_true, if_false];simp only[Option.map_none]at hb;simp only[Sem.run_pure, Result.andThen_ok, hb]
            congr 2
            apply ByteArray.ext;rw[ByteArray.data_extract];apply Array.ext';simp[zO1, List.extract_eq_take_drop]
    · rename_i n el b o hd
      split at e
      · cases e
      · rename_i te hte
        obtain⟨i2, k2⟩ := ok.ty el te hte;split at e
        · cases e
        · rename_i m hm
          split at e
          · cases e
          · rename_i hh hhi
            cases hc : (mx.isSome && hi.isNone)with
            | true => simp[hc]at e
            | false =>
              simp only[hc, oL]at e;split at e
              · cases e
              · rename_i ll hlo
                simp only[oA]at e;subst e;have hb := ye (P := P) (ρ := ρ) (isS := false) hm hhi hlo hc w;refine⟨?_, by simpa [V.In]using hx⟩;simp only[Instr.sliceAt, Sem.run_bind, z7 k, hd, Result.andThen_ok, V.conc, Instr.sureAddr, Sem.run_pure, hb, yI k2, Cap.val, yL];cases hq : Nat.beq m ll with
                | true => have := oF hq;simp[this]
                | false =>
                  have : m ≠ ll := λhe => by subst he;rw[Nat.beq_refl]at hq;cases hq
                  simp[this, Nat.add_assoc]
    · rename_i el hd
      split at e
      · cases e
      · rename_i te hte
        obtain⟨i2, k2⟩ := ok.ty el te hte;split at e
        · cases e
        · rename_i m hm
          split at e
          · cases e
          · rename_i hh hhi
            cases hc : (mx.isSome && hi.isNone)with
            | true => simp[hc]at e
            | false =>
              simp only[hc, oL]at e;split at e
              · cases e
              · rename_i ll hlo
                simp only[oA]at e;subst e;have hb := ye (P := P) (ρ := ρ) (isS := true) hm hhi hlo hc w;have m0 : m = 0 := by have := Xl hm (oO _);omega
                have h0 : hh = 0 := by have := Xl hhi (by omega);omega
                have l0 : ll = 0 := by have := Xl hlo (by omega);omega
                subst m0 h0 l0;refine⟨?_, by simp[V.In]⟩;simp only[Instr.sliceAt, Sem.run_bind, z7 k, hd, Result.andThen_ok, V.conc, Instr.slice, Sem.run_pure, hb, yI k2];simp
    · rename_i el b o len cp hd
      split at e
      · cases e
      · rename_i te hte
        obtain⟨i2, k2⟩ := ok.ty el te hte;split at e
        · cases e
        · rename_i m hm
          split at e
          · cases e
          · rename_i hh hhi
            cases hc : (mx.isSome && hi.isNone)with
            | true => simp[hc]at e
            | false =>
              simp only[hc, oL]at e;split at e
              · cases e
              · rename_i ll hlo
                simp only[oA]at e;subst e;have hb := ye (P := P) (ρ := ρ) (isS := true) hm hhi hlo hc w;refine⟨?_, by simpa [V.In]using hx⟩;simp only[Instr.sliceAt, Sem.run_bind, z7 k, hd, Result.andThen_ok, V.conc, Instr.slice, Sem.run_pure, Cap.val, hb, yI k2];cases hq : Nat.beq m ll with
                | true => have := oF hq;simp[this]
                | false =>
                  have : m ≠ ll := λhe => by subst he;rw[Nat.beq_refl]at hq;cases hq
                  simp[this, Nat.add_assoc, yL]
    · rename_i el b o len ks hd
      simp only[V.In]at hx;split at e
      · rename_i te l esz hte hg
        obtain⟨i2, k2⟩ := ok.ty el te hte;cases hcnd : (Nat.beq esz.n te.size && Nat.blt 0 esz.n && Nat.beq o (ks * esz.n))with
        | false => simp[hcnd]at e
        | true =>
          simp only[hcnd, oK]at e;simp only[oG]at hcnd;obtain⟨⟨c1, c2⟩, c3⟩ := hcnd;have c1' := oF c1;have c2' := (z8 _ _).1 c2;have c3' := oF c3;cases hq : Nat.ble (o + len * esz.n) l.len with
          | false =>
            rw[hq, oL]at e;unfold zHY at e;split at e
            · rename_i kk
              simp only[oA]at e;subst e;refine⟨?_, by simpa [V.In]using hx⟩;have hb := ye (P := P) (ρ := ρ) (isS := true) (mx := none) (m := ρ.cap b - ks) (cp := ρ.cap b - ks) (hi := some (V.int kk (Int.ofNat 0))) (lo := none) (hh := 0) (ll := 0) (len := len) rfl (by have h0 : Nat.ble 0 (ρ.cap b - ks) = true := oC (oJ _);simp[bnd, xB, h0]) (by simp[bnd]) (by simp) w;simp only[Option.map_none]at hb;simp only[Instr.sliceAt, Sem.run_bind, z7 k, hd, Result.andThen_ok, V.conc, Instr.slice, Sem.run_pure, Cap.val, hb, yI k2, Option.map_none];by_cases hz : ρ.cap b - ks = 0
              · simp[hz]
              · simp[hz, yL]
            · cases e
          | true =>
            rw[hq, oK]at e;have hroom := oE hq;obtain⟨cc, ee, fz, hxx, _, _, hw⟩ := r.rel b _ hx hg;obtain⟨_, _, hle, hsz, _⟩ := hw rfl;have hcap : ks + len <= ρ.cap b := by
              have h1 : ks * esz.n + len * esz.n <= ρ.cap b * esz.n := by
                have : cc.size = ρ.cap b * esz.n := by rw[hsz];simp
                omega
              have h2 : (ks + len) * esz.n <= ρ.cap b * esz.n := by rw[Nat.add_mul];exact h1
              exact Nat.le_of_mul_le_mul_right h2 c2'
            split at e
            · rename_i mv
              cases hc : hi.isNone with
              | true => simp[hc]at e
              | false =>
                simp only[hc, oL]at e;split at e
                · cases e
                · rename_i m hm
                  split at e
                  · cases e
                  · rename_i hh hhi
                    split at e
                    · cases e
                    · rename_i ll hlo
                      simp only[oA]at e;subst e;obtain⟨g1, kk, g2⟩ := wg hm;have hm' : bnd (some mv) (ρ.cap b - ks) (ρ.cap b - ks) = some m := by
                        subst g2;have : Nat.ble m (ρ.cap b - ks) = true := oC (by omega);simp[bnd, xB, this]
                      have hb := ye (P := P) (ρ := ρ) (isS := true) hm' hhi hlo (by simp[hc]) w;refine⟨?_, by simpa [V.In]using hx⟩;simp only[Instr.sliceAt, Sem.run_bind, z7 k, hd, Result.andThen_ok, V.conc, Instr.slice, Sem.run_pure, Cap.val, hb, yI k2];cases hq2 : Nat.beq m ll with
                      | true => have := oF hq2;simp[this]
                      | false =>
                        have : m ≠ ll := λhe => by subst he;rw[Nat.beq_refl]at hq2;cases hq2
                        simp[this, Nat.add_assoc, yL]
            · split at e
              · cases e
              · rename_i hh hhi
                split at e
                · cases e
                · rename_i ll hlo
                  have hhl : hh <= len := Xl hhi (oO _);have hhi' : bnd hi len (ρ.cap b - ks) = some hh := by
                    cases hi with
                    | none => simpa [bnd]using hhi
                    | some u =>
                      obtain⟨g1, kk, g2⟩ := wg hhi;subst g2;have : Nat.ble hh (ρ.cap b - ks) = true := oC (by omega);simp[bnd, xB, this]
                  have hb := ye (P := P) (ρ := ρ) (isS := true) (mx := none) (m := ρ.cap b - ks) (cp := ρ.cap b - ks) rfl hhi' hlo (by simp) w;simp only[Option.map_none]at hb;have hll : ll <= hh := Xl hlo (by omega);cases h0 : Nat.beq ll 0 with
                  | true =>
                    have l0 := oF h0;simp only[h0, oK, oA]at e;subst e;refine⟨?_, by simpa [V.In]using hx⟩;subst l0;simp only[Instr.sliceAt, Sem.run_bind, z7 k, hd, Result.andThen_ok, V.conc, Instr.slice, Sem.run_pure, Cap.val, hb, yI k2, Option.map_none];by_cases hz : ρ.cap b - ks = 0
                    · simp[hz]
                    · simp[hz, yL]
                  | false =>
                    simp only[h0, oL]at e;cases h1 : Nat.blt ll len with
                    | false => simp[h1]at e
                    | true =>
                      have hlt := (z8 _ _).1 h1;simp only[h1, oK, oA]at e;subst e;refine⟨?_, by simpa [V.In]using hx⟩;have hne : ¬(ρ.cap b - ks = ll) := by omega
                      simp only[Instr.sliceAt, Sem.run_bind, z7 k, hd, Result.andThen_ok, V.conc, Instr.slice, Sem.run_pure, Cap.val, hb, yI k2, Option.map_none, hne, if_false, oX, yL];rw[Nat.sub_sub, Nat.add_assoc]
      · cases e
    · cases e
end
end Go.Sim
