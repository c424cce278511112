/- The document's BuildGre by all cases. -/
import Derived.Test.YtogbncpchmnbdaaGre3
import Derived.Test.YtogbncpchmnbdaaGre4
namespace Go.Proofs.Ytogbncpchmnbdaa
open Go.RowKit
set_option linter.unusedVariables false
set_option linter.unusedSimpArgs false
set_option maxHeartbeats 4000000
set_option maxRecDepth 100000

theorem rbg_any (p : Pkt) (A1 : Option Addr) (n1 c1 : Nat) (A2 : Option Addr) (n2 c2 : Nat) (f : Frm) (hf : f.Ok) (B1 : Option Addr) (m1 d1 : Nat) (w : World) (k1 : Bs w A1 n1 c1 p.opt) (j1 : Bs w B1 m1 d1 f.dat) :
    Calls Try.prog 17 #[(.agg #[.int .u8 (p).tos, .int .u16 (p).id, .bool (p).keep, .int .u8 (p).ttl, .int .u8 (p).proto, .int .u32 (p).src, .int .u32 (p).dst, .slice A1 n1 c1, .slice A2 n2 c2]), (.agg #[.int .u16 (f).call, .bool (f).hs, .bool (f).ha, .int .u32 (f).seq, .int .u32 (f).ack, .slice B1 m1 d1])] w (WiPost w (bgP p f) (bgE p f)) := by
  cases hb : gBad f with
  | true =>
    unfold bgP bgE
    rw [hb, if_pos rfl, if_pos rfl]
    exact rbg_bad' p A1 n1 c1 A2 n2 c2 f.call f.hs f.ha f.seq f.ack f.dat B1 m1 d1 w k1 j1 (gBad_iff hb)
  | false =>
    have l1 := k1.len
    have jl := j1.len
    have hE : bgE p f = wiE p (gN f) := by unfold bgE; rw [hb, if_neg (by decide)]
    have hP : bgP p f = withP p 47 (gL f) := by unfold bgP; rw [hb, if_neg (by decide)]
    have hN := gL_len f
    have hw : ∀ W A n c, Bs W A1 n1 c1 p.opt → Bs W A n c (gL f) → Calls Try.prog 41 #[(.agg #[.int .u8 (p).tos, .int .u16 (p).id, .bool (p).keep, .int .u8 (p).ttl, .int .u8 (p).proto, .int .u32 (p).src, .int .u32 (p).dst, .slice A1 n1 c1, .slice A2 n2 c2]), .int .u8 47, .slice A n c] W (WiPost W (bgP p f) (bgE p f)) := fun W A n c kk ks => by
      have hh := rwith_any p A1 n1 c1 A2 n2 c2 47 A n c (gL f) W kk ks
      rw [hE, hP, ← hN]
      exact hh
    by_cases h1 : (n1 : Int) ≤ 40
    · by_cases h2 : n1 % 4 = 0
      · have hlong : ∀ N : Nat, gN f = N → 65535 < 20 + (n1 : Int) + N → bgP p f = zP ∧ bgE p f = 8 := fun N hN' h => by
          have e8 : wiE p (gN f) = 8 := wiE_8 l1 h1 h2 (by omega)
          refine ⟨?_, by rw [hE, e8]⟩
          rw [hP]; unfold withP; rw [hN, e8, if_neg (by decide)]
        have hNe : gN f = 8 + (if f.hs then 4 else 0) + (if f.ha then 4 else 0) + m1 := by unfold gN; rw [jl]
        clear hE hP hN
        revert hlong hNe hw
        generalize bgP p f = Q
        generalize bgE p f = E
        intro hw hlong hNe
        obtain ⟨call, hs, ha, seq, ack, dat⟩ := f
        simp only at jl
        subst jl
        obtain ⟨c0, s0, a0⟩ := hf
        cases hs <;> cases ha
        · have h5 : (seq != 0) = false ∧ (ack != 0) = false := by
            revert hb; unfold gBad; cases (seq != 0) <;> cases (ack != 0) <;> simp
          by_cases h3 : 20 + (n1 : Int) + 8 + dat.length ≤ 65535
          · exact rbg_ok00 p A1 n1 c1 A2 n2 c2 call seq ack h5.1 h5.2 dat B1 _ d1 w k1 j1 c0 s0 a0 h1 h2 Q E h3 (fun W A n c kk ks => hw W A n c kk (by simpa [gL, gH] using ks))
          · obtain ⟨hQ, hE⟩ := hlong _ hNe (by simp; omega)
            exact rbg_long00 p A1 n1 c1 A2 n2 c2 call seq ack h5.1 h5.2 dat B1 _ d1 w k1 j1 c0 s0 a0 h1 h2 Q E (by omega) hQ hE
        · have h5 : (seq != 0) = false := by
            revert hb; unfold gBad; cases (seq != 0) <;> simp
          by_cases h3 : 20 + (n1 : Int) + 12 + dat.length ≤ 65535
          · exact rbg_ok01 p A1 n1 c1 A2 n2 c2 call seq ack h5 dat B1 _ d1 w k1 j1 c0 s0 a0 h1 h2 Q E h3 (fun W A n c kk ks => hw W A n c kk (by simpa [gL, gH] using ks))
          · obtain ⟨hQ, hE⟩ := hlong _ hNe (by simp; omega)
            exact rbg_long01 p A1 n1 c1 A2 n2 c2 call seq ack h5 dat B1 _ d1 w k1 j1 c0 s0 a0 h1 h2 Q E (by omega) hQ hE
        · have h5 : (ack != 0) = false := by
            revert hb; unfold gBad; cases (ack != 0) <;> simp
          by_cases h3 : 20 + (n1 : Int) + 12 + dat.length ≤ 65535
          · exact rbg_ok10 p A1 n1 c1 A2 n2 c2 call seq ack h5 dat B1 _ d1 w k1 j1 c0 s0 a0 h1 h2 Q E h3 (fun W A n c kk ks => hw W A n c kk (by simpa [gL, gH] using ks))
          · obtain ⟨hQ, hE⟩ := hlong _ hNe (by simp; omega)
            exact rbg_long10 p A1 n1 c1 A2 n2 c2 call seq ack h5 dat B1 _ d1 w k1 j1 c0 s0 a0 h1 h2 Q E (by omega) hQ hE
        · by_cases h3 : 20 + (n1 : Int) + 16 + dat.length ≤ 65535
          · exact rbg_ok11 p A1 n1 c1 A2 n2 c2 call seq ack dat B1 _ d1 w k1 j1 c0 s0 a0 h1 h2 Q E h3 (fun W A n c kk ks => hw W A n c kk (by simpa [gL, gH] using ks))
          · obtain ⟨hQ, hE⟩ := hlong _ hNe (by simp; omega)
            exact rbg_long11 p A1 n1 c1 A2 n2 c2 call seq ack dat B1 _ d1 w k1 j1 c0 s0 a0 h1 h2 Q E (by omega) hQ hE
      · have e4 : wiE p (gN f) = 4 := wiE_4 l1 (.inr h2)
        rw [hE, e4, show bgP p f = zP from by rw [hP]; unfold withP; rw [hN, e4, if_neg (by decide)]]
        clear hw hE hP hN e4
        obtain ⟨call, hs, ha, seq, ack, dat⟩ := f
        cases hs <;> cases ha
        · have h5 : (seq != 0) = false ∧ (ack != 0) = false := by
            revert hb; unfold gBad; cases (seq != 0) <;> cases (ack != 0) <;> simp
          exact rbg_400 p A1 n1 c1 A2 n2 c2 call seq ack h5.1 h5.2 dat B1 m1 d1 w k1 j1 (.inr h2)
        · have h5 : (seq != 0) = false := by
            revert hb; unfold gBad; cases (seq != 0) <;> simp
          exact rbg_401 p A1 n1 c1 A2 n2 c2 call seq ack h5 dat B1 m1 d1 w k1 j1 (.inr h2)
        · have h5 : (ack != 0) = false := by
            revert hb; unfold gBad; cases (ack != 0) <;> simp
          exact rbg_410 p A1 n1 c1 A2 n2 c2 call seq ack h5 dat B1 m1 d1 w k1 j1 (.inr h2)
        · exact rbg_411 p A1 n1 c1 A2 n2 c2 call seq ack dat B1 m1 d1 w k1 j1 (.inr h2)
    · have e4 : wiE p (gN f) = 4 := wiE_4 l1 (.inl (by omega))
      rw [hE, e4, show bgP p f = zP from by rw [hP]; unfold withP; rw [hN, e4, if_neg (by decide)]]
      clear hw hE hP hN e4
      obtain ⟨call, hs, ha, seq, ack, dat⟩ := f
      cases hs <;> cases ha
      · have h5 : (seq != 0) = false ∧ (ack != 0) = false := by
          revert hb; unfold gBad; cases (seq != 0) <;> cases (ack != 0) <;> simp
        exact rbg_400 p A1 n1 c1 A2 n2 c2 call seq ack h5.1 h5.2 dat B1 m1 d1 w k1 j1 (.inl (by omega))
      · have h5 : (seq != 0) = false := by
          revert hb; unfold gBad; cases (seq != 0) <;> simp
        exact rbg_401 p A1 n1 c1 A2 n2 c2 call seq ack h5 dat B1 m1 d1 w k1 j1 (.inl (by omega))
      · have h5 : (ack != 0) = false := by
          revert hb; unfold gBad; cases (ack != 0) <;> simp
        exact rbg_410 p A1 n1 c1 A2 n2 c2 call seq ack h5 dat B1 m1 d1 w k1 j1 (.inl (by omega))
      · exact rbg_411 p A1 n1 c1 A2 n2 c2 call seq ack dat B1 m1 d1 w k1 j1 (.inl (by omega))
end Go.Proofs.Ytogbncpchmnbdaa
