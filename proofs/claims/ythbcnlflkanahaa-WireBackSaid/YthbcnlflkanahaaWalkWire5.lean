import Derived.Test.YthbcnlflkanahaaLive1
import Derived.Test.YthbcnlflkanahaaMath2
import Derived.Test.YthbcnlflkanahaaReg
import Derived.Test.YthbcnlflkanahaaWire
import Derived.BigQuiet
namespace Go.Proofs.Ythbcnlflkanahaa
open Go.RowKit
set_option linter.unusedVariables false

theorem wireBack_walk (w : World) (A : Option Addr) (n c : Nat) (l : List UInt8) (hb : Bs w A n c l) (a : Int) (a0 : 0 ≤ a) (a1 : a ≤ 65535) (v : Int) (v0 : 0 ≤ v) (v1 : v ≤ 4294967295) :
    Calls Try.prog 10 #[.slice A n c, .int .u16 a, .int .u32 v] w fun e w' => e = .returned (.bool true) ∧ Below w.heap.size w w' := by
  go_enter Try.func10, Try.ntmps10
  go_wp2_with fail
  refine (few_any A n c l w hb).mono ?_
  rintro e w1 ⟨A1, n1, c1, lt, rfl, hb1, u1, rfl⟩
  by_cases p1 : (n1 : Int) < 4
  · go_wp2_with (first
      | (go_at_call 15; ((with_reducible refine (live1_any w).mono ?_); rintro e w2 ⟨rfl, hB2⟩); have b2 := hb1.below hB2)
      | (go_at_call 25; ((with_reducible refine (put32_any A1 n1 c1 lt a v v0 v1 w2 b2).mono ?_); rintro e w5 ⟨A5, c5, rfl, ho5, hB5⟩); have hT := below_then hB2 hB5))
    go_ret
    exact ⟨rfl, hT⟩
  · have m0 : 0 ≤ a % ((n1 : Int) - 3) := Int.emod_nonneg _ (by omega)
    have m1 : a % ((n1 : Int) - 3) < (n1 : Int) - 3 := Int.emod_lt_of_pos _ (by omega)
    have hz : ((n1 : Int) - 3 == 0) = false := by simp; omega
    obtain ⟨k, hk⟩ := Int.eq_ofNat_of_zero_le m0
    rw [hk] at m1
    have hl := hb1.len
    have hkl : k + 4 ≤ lt.length := by omega
    have HG := Lib.hid (get32_put32 (l := lt) v0 v1 hkl)
    have HH := Lib.hid (get16_put32_hi (l := lt) v0 v1 hkl)
    have HL := Lib.hid (get16_put32_lo (l := lt) (v := v) hkl)
    have HB := Lib.hid (bt_put32 (l := lt) (v := v) hkl)
    have HLen := Lib.hid hl
    clear hl hkl
    go_wp2_with (go_at_call 25; ((with_reducible refine (put32_any A1 n1 c1 lt (k : Int) v v0 v1 w hb1).mono ?_); rintro e w5 ⟨A5, c5, rfl, ho5, hB5⟩); have b5 := hb1.below hB5; have x5 := ho5.bs)
    go_loopw [9] (fun i wr => ∃ j : Nat, j ≤ n1 ∧ i = .int .i64 j ∧ Bs wr A1 n1 c1 lt ∧ Bs wr A5 n1 c5 (put32 lt k v) ∧ Below w.heap.size w wr) (fun i _ => n1 - (intOf i).toNat)
    case atStart => exact ⟨0, by omega, rfl, b5, x5, hB5⟩
    case round =>
      obtain ⟨j, hj, rfl, b6, x6, hB6⟩ := hrel
      by_cases hlt : j < n1
      · obtain ⟨g, o, rfl, hc⟩ := b6.rd (by omega)
        obtain ⟨g', o', rfl, hc'⟩ := x6.rd (by omega)
        have i0 : (0 : Int) ≤ j := by omega
        have i1 : (j : Int) < n1 := by omega
        have cb := hc j hlt
        have cx := hc' j hlt
        clear hc hc'
        by_cases q1 : (j : Int) < k
        · rw [HB.out j (by omega)] at cx
          go_wp2_with (go_quiet (fail))
          exact ⟨⟨j + 1, by omega, by go_num, b6.drewN nq, x6.drewN nq, below_drewN hB6 nq⟩, by simp [intOf]; omega⟩
        · by_cases q2 : (k : Int) + 4 ≤ j
          · rw [HB.out j (by omega)] at cx
            go_wp2_with (go_quiet (fail))
            exact ⟨⟨j + 1, by omega, by go_num, b6.drewN nq, x6.drewN nq, below_drewN hB6 nq⟩, by simp [intOf]; omega⟩
          · go_wp2_with (go_quiet (fail))
            exact ⟨⟨j + 1, by omega, by go_num, b6.drewN nq, x6.drewN nq, below_drewN hB6 nq⟩, by simp [intOf]; omega⟩
      · obtain rfl : j = n1 := by omega
        clear hb hb1 b5 x5 ho5 hB5
        have kw : (k : Int) + 2 ≤ 6000 := by omega
        obtain ⟨y, hy, y0, y1⟩ : ∃ y, v / 65536 = y ∧ 0 ≤ y ∧ y ≤ 65535 := ⟨_, rfl, by omega, by omega⟩
        obtain ⟨z, hz, z0, z1⟩ : ∃ z, IntKind.u16.wrap v = z ∧ 0 ≤ z ∧ z ≤ 65535 := ⟨v % 65536, by simp [IntKind.wrap, IntKind.signed, IntKind.bits], by omega, by omega⟩
        have yw : IntKind.u16.wrap y = y := by
          have : IntKind.u16.wrap y = y % 65536 := by simp [IntKind.wrap, IntKind.signed, IntKind.bits]
          omega
        obtain ⟨X, hX⟩ : ∃ X, put32 lt k v = X := ⟨_, rfl⟩
        rw [hX] at x6
        have q1 : (get32 X k == v) = true := by rw [← hX, HG.out]; exact beq_self_eq_true _
        have q2 : (get16 X k == y) = true := by rw [← hX, HH.out, hy]; exact beq_self_eq_true _
        obtain ⟨m, hm⟩ : ∃ m, (k : Int) + 2 = m := ⟨_, rfl⟩
        have q3 : (get16 X m == z) = true := by
          have h3 := HL.out
          have : IntKind.u16.wrap v = v % 65536 := by simp [IntKind.wrap, IntKind.signed, IntKind.bits]
          rw [hX, show ((k + 2 : Nat) : Int) = m from by omega] at h3
          rw [h3, ← hz, this]; exact beq_self_eq_true _
        have mw : wrap64 m = m := by unfold wrap64; omega
        obtain ⟨kk, hkk⟩ : ∃ kk : Int, (k : Int) = kk := ⟨_, rfl⟩
        rw [hkk] at q1 q2 hm hk m1
        clear HG HH HL HB hX
        go_wp2_with (first
          | (go_at_call 15; ((with_reducible refine (live1_any wr).mono ?_); rintro e w7 ⟨rfl, hB7⟩); have x7 := x6.below hB7; have hT7 := below_then hB6 hB7)
          | (go_at_call 26; ((with_reducible refine (get32_any A5 j c5 _ kk w7 x7).mono ?_); rintro e w8 ⟨rfl, hD8⟩); replace x7 := x7.below hD8.bel; replace hT7 := below_then hT7 hD8.bel)
          | (go_at_call 24; ((with_reducible refine (get16_any A5 j c5 X kk w8 x7).mono ?_); rintro e w9 ⟨rfl, hD9⟩); have x9 := x7.below hD9.bel; have hT9 := below_then hT7 hD9.bel)
          | (go_at_call 24; ((with_reducible refine (get16_any A5 j c5 X m w9 x9).mono ?_); rintro e w10 ⟨rfl, hD10⟩); have hT10 := below_then hT9 hD10.bel))
        go_ret
        exact ⟨rfl, hT10⟩
end Go.Proofs.Ythbcnlflkanahaa
