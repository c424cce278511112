/- A packet, a tuple that came in, opened where the statement bounds the input. -/
import Derived.Test.YtogbncpchmnbdaaOpenPkt
import Derived.Test.YtogbncpchmnbdaaBulk
namespace Go.Proofs.Ytogbncpchmnbdaa
open Go.ChangeShapes Go.WideShapes Go.ChangeAt Go.RowKit Go.Deep
set_option linter.unusedVariables false

section
variable {H : Type} {enc : TypeId × Value → H} {P : Program} {w : World} {base : Nat} {held : Bool} {spare : Nat → Bool}
theorem trod_bytesU {t e : TypeId} {n N : Nat} {v : Value} {y : DataW H × List MemPlace} (ht : P.underlying t = some (.slice e)) (he : P.underlying e = some (.int .u8)) (hc : P.cellsOf e = 1) (hN : N ≤ 1048576)
    (hb : Rows.uptoBulk y.1 ≤ N) (h : DataW.trod enc P w base spare held n t [v] = some y) : ∃ A n c l, v = .slice A n c ∧ Bs w A n c l ∧ n ≤ N := by
  obtain ⟨A, n, c, l, hv, hbs, hd⟩ := open_bs ht he hc h
  have hn : n ≤ N := by
    rcases hd with ⟨_, h⟩ | ⟨es, sp, hx, hl⟩
    · omega
    · rw [hx] at hb
      have := bulks.slice_le es sp
      omega
  exact ⟨A, n, c, l, hv, hbs (by omega), hn⟩
end
section
variable {H : Type} {enc : TypeId × Value → H} {w : World} {base : Nat} {held : Bool} {spare : Nat → Bool}
theorem open_pktU {r : Reach} {b0 : Nat} {v : Value} {d : DataW H} {ps : List MemPlace} (hval : Value.okWide Try.prog w r b0 26 v) (hd : DataW.Trod enc Try.prog w base spare held 26 v d ps)
    (hb : Rows.uptoBulk d ≤ 1048576) :
    ∃ (p : Pkt) (A1 : Option Addr) (n1 c1 : Nat) (A2 : Option Addr) (n2 c2 : Nat), v = (.agg #[.int .u8 (p).tos, .int .u16 (p).id, .bool (p).keep, .int .u8 (p).ttl, .int .u8 (p).proto, .int .u32 (p).src, .int .u32 (p).dst, .slice A1 n1 c1, .slice A2 n2 c2]) ∧ p.Ok ∧ Bs w A1 n1 c1 p.opt ∧ Bs w A2 n2 c2 p.dat ∧ n1 ≤ 1048576 ∧ n2 ≤ 1048576 := by
  have hu := Try.underlying26
  obtain ⟨cs, xs, n, rfl, hcl, rfl, hxl, hi⟩ := open_struct hu (by kernel_rfl) hval hd
  rw [show (Try.prog.cellsOf 26) = 9 from by kernel_rfl] at hcl
  obtain ⟨v0, v1, v2, v3, v4, v5, v6, v7, v8, rfl⟩ := list9 hcl
  obtain ⟨y0, y1, y2, y3, y4, y5, y6, y7, y8, rfl⟩ := list9 (by simpa using hxl)
  obtain ⟨a0, rfl, b0l, b0h⟩ := trod_byte (t := 5) Try.underlying5 (by simpa using hi 0 _ rfl)
  obtain ⟨a1, rfl, b1l, b1h⟩ := trod_u16 (t := 22) Try.underlying22 (by simpa using hi 1 _ rfl)
  obtain ⟨a2, rfl⟩ := trod_yes (t := 4) Try.underlying4 (by simpa using hi 2 _ rfl)
  obtain ⟨a3, rfl, b3l, b3h⟩ := trod_byte (t := 5) Try.underlying5 (by simpa using hi 3 _ rfl)
  obtain ⟨a4, rfl, b4l, b4h⟩ := trod_byte (t := 5) Try.underlying5 (by simpa using hi 4 _ rfl)
  obtain ⟨a5, rfl, b5l, b5h⟩ := trod_u32 (t := 23) Try.underlying23 (by simpa using hi 5 _ rfl)
  obtain ⟨a6, rfl, b6l, b6h⟩ := trod_u32 (t := 23) Try.underlying23 (by simpa using hi 6 _ rfl)
  simp only [Rows.uptoBulk] at hb
  have m7 := bulks.part_le (l := [y0, y1, y2, y3, y4, y5, y6, y7, y8].map (·.1)) (d := y7.1) (by simp)
  have m8 := bulks.part_le (l := [y0, y1, y2, y3, y4, y5, y6, y7, y8].map (·.1)) (d := y8.1) (by simp)
  obtain ⟨A1, n1, c1, l1, rfl, k1, z1⟩ := trod_bytesU (t := 24) Try.underlying24 Try.underlying5 (by kernel_rfl) (Nat.le_refl _) (y := y7) (by omega) (by simpa using hi 7 _ rfl)
  obtain ⟨A2, n2, c2, l2, rfl, k2, z2⟩ := trod_bytesU (t := 24) Try.underlying24 Try.underlying5 (by kernel_rfl) (Nat.le_refl _) (y := y8) (by omega) (by simpa using hi 8 _ rfl)
  exact ⟨⟨a0, a1, a2, a3, a4, a5, a6, l1, l2⟩, A1, n1, c1, A2, n2, c2, rfl, ⟨⟨b0l, b0h⟩, ⟨b1l, b1h⟩, ⟨b3l, b3h⟩, ⟨b4l, b4h⟩, ⟨b5l, b5h⟩, ⟨b6l, b6h⟩⟩, k1, k2, z1, z2⟩
end
end Go.Proofs.Ytogbncpchmnbdaa
