/- Build, the program's and the document's, by all cases. -/
import Derived.Test.YtogbncpchmnbdaaIpMath
namespace Go.Proofs.Ytogbncpchmnbdaa
open Go.RowKit
set_option linter.unusedVariables false

theorem hdE_eq (p : Pkt) : hdE p (20 + (p.opt.length : Int) + (p.dat.length : Int)) = hdL p := by
  have e0 : ub 0 = 0 := by decide
  have e1 : (69 + (p.opt.length : Int) / 4) = 64 + (20 + (p.opt.length : Int)) / 4 := by omega
  have e2 : ub (if p.keep = true then 64 else 0) = if p.keep = true then 64 else 0 := by cases p.keep <;> decide
  unfold hdE hdL
  rw [e1, e2, e0]
  simp [two, four]
theorem bdE_ok {p : Pkt} {n1 n2 : Nat} (l1 : p.opt.length = n1) (l2 : p.dat.length = n2) (h1 : (n1 : Int) ≤ 40) (h2 : n1 % 4 = 0) (h3 : 20 + (n1 : Int) + n2 ≤ 65535) : bdE p = 0 := by
  unfold bdE; rw [l1, l2, if_neg (by omega), if_neg (by omega)]
theorem bdE_bad {p : Pkt} {n1 : Nat} (l1 : p.opt.length = n1) (h : 40 < (n1 : Int) ∨ n1 % 4 ≠ 0) : bdE p = 4 := by
  unfold bdE; rw [l1, if_pos (by omega)]
theorem bdE_big {p : Pkt} {n1 n2 : Nat} (l1 : p.opt.length = n1) (l2 : p.dat.length = n2) (h1 : (n1 : Int) ≤ 40) (h2 : n1 % 4 = 0) (h3 : 65535 < 20 + (n1 : Int) + n2) : bdE p = 8 := by
  unfold bdE; rw [l1, l2, if_neg (by omega), if_pos (by omega)]
theorem mod4_no {n : Nat} (h : n % 4 = 0) : ((n : Int) % 4 != 0) = false := by simp; omega
theorem mod4_yes {n : Nat} (h : n % 4 ≠ 0) : ((n : Int) % 4 != 0) = true := by simp; omega
theorem bd_any (p : Pkt) (hp : p.Ok) (A1 : Option Addr) (n1 c1 : Nat) (A2 : Option Addr) (n2 c2 : Nat) (w : World) (k1 : Bs w A1 n1 c1 p.opt) (k2 : Bs w A2 n2 c2 p.dat) :
    Calls Try.prog 35 #[(.agg #[.int .u8 (p).tos, .int .u16 (p).id, .bool (p).keep, .int .u8 (p).ttl, .int .u8 (p).proto, .int .u32 (p).src, .int .u32 (p).dst, .slice A1 n1 c1, .slice A2 n2 c2])] w fun e w' => ∃ A n c, e = .returned (.tuple #[.slice A n c, .int .i64 (bdE p)]) ∧ Own w' w.heap.size 5 A n c (bdL p) ∧ Below w.heap.size w w' := by
  have l1 := k1.len
  have l2 := k2.len
  by_cases h1 : (n1 : Int) ≤ 40
  · by_cases h2 : n1 % 4 = 0
    · by_cases h3 : 20 + (n1 : Int) + n2 ≤ 65535
      · have hE := bdE_ok l1 l2 h1 h2 h3
        refine (build_any p hp A1 n1 c1 A2 n2 c2 w k1 k2 h1 (mod4_no h2) h3).mono ?_
        rintro e w' ⟨A, n, c, rfl, ho, hB⟩
        exact ⟨A, n, c, by rw [hE], by unfold bdL; rw [if_pos hE, ← hdR_eq]; exact ho, hB⟩
      · have hE := bdE_big l1 l2 h1 h2 (by omega)
        refine (build_long p A1 n1 c1 A2 n2 c2 w k1 k2 h1 (mod4_no h2) (by omega)).mono ?_
        rintro e w' ⟨rfl, hB⟩
        exact ⟨none, 0, 0, by rw [hE], by rw [bdL_bad (by rw [hE]; decide)]; exact own_nil _ _ _, hB⟩
    · have hE := bdE_bad l1 (Or.inr h2)
      refine (build_form p A1 n1 c1 A2 n2 c2 w k1 k2 h1 (mod4_yes h2)).mono ?_
      rintro e w' ⟨rfl, hB⟩
      exact ⟨none, 0, 0, by rw [hE], by rw [bdL_bad (by rw [hE]; decide)]; exact own_nil _ _ _, hB⟩
  · have hE := bdE_bad l1 (Or.inl (by omega))
    refine (build_opt p A1 n1 c1 A2 n2 c2 w k1 k2 (by omega)).mono ?_
    rintro e w' ⟨rfl, hB⟩
    exact ⟨none, 0, 0, by rw [hE], by rw [bdL_bad (by rw [hE]; decide)]; exact own_nil _ _ _, hB⟩
end Go.Proofs.Ytogbncpchmnbdaa
