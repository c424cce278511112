import Derived.Test.YtkiiaaadcfaojaaWire
namespace Go.Proofs.Ytkiiaaadcfaojaa
open Go.RowKit
set_option linter.unusedVariables false

theorem rget16_any (A : Option Addr) (n c : Nat) (l : List UInt8) (a : Int) (w : World) (hb : Bs w A n c l) :
    Calls Try.prog 24 #[.slice A n c, .int .i64 a] w fun e w' => e = .returned (.int .u16 (get16 l a)) ∧ Drawn w w' := by
  have hmax := hb.max
  by_cases ha : a < 0
  · rw [get16_out (by rw [hb.len]; omega)]
    go_enter Try.func24, Try.ntmps24
    go_wp2
    go_ret
    exact ⟨rfl, Drawn.refl _⟩
  · by_cases hn : (n : Int) < 2
    · rw [get16_out (by rw [hb.len]; omega)]
      go_enter Try.func24, Try.ntmps24
      go_wp2
      go_ret
      exact ⟨rfl, Drawn.refl _⟩
    · by_cases h3 : a > (n : Int) - 2
      · rw [get16_out (by rw [hb.len]; omega)]
        go_enter Try.func24, Try.ntmps24
        go_wp2
        go_ret
        exact ⟨rfl, Drawn.refl _⟩
      · have hq : get16 l a = _ := get16_in (by omega) (by rw [hb.len]; omega)
        rw [hq]; clear hq
        obtain ⟨b, off, rfl, hc⟩ := hb.rd (by omega)
        obtain ⟨i, rfl⟩ := Int.eq_ofNat_of_zero_le (show 0 ≤ a by omega)
        have c0 := hc i (by omega)
        have c1 := hc (i + 1) (by omega)
        clear hc
        have b0 := bt_lo l i
        have b0' := bt_hi l i
        have b1 := bt_lo l (i+1)
        have b1' := bt_hi l (i+1)
        have hor := or_u16 b0 b0' b1 b1'
        have j0 : (i : Int) < (n : Int) := by omega
        have j1 : (i : Int) + 1 < (n : Int) := by omega
        have j2 : 0 ≤ (i : Int) + 1 := by omega
        have j3 : ((i : Int) + 1).toNat = i + 1 := by omega
        have j4 : IntKind.i64.wrap ((i : Int) + 1) = (i : Int) + 1 := IntWalk.i64_in _ (by omega)
        go_enter Try.func24, Try.ntmps24
        go_wp2
        go_quiet (fail)
        go_wp2
        go_ret
        exact ⟨rfl, (Drawn.refl _).step _⟩

theorem rget32_any (A : Option Addr) (n c : Nat) (l : List UInt8) (a : Int) (w : World) (hb : Bs w A n c l) :
    Calls Try.prog 25 #[.slice A n c, .int .i64 a] w fun e w' => e = .returned (.int .u32 (get32 l a)) ∧ Drawn w w' := by
  have hmax := hb.max
  by_cases ha : a < 0
  · rw [get32_out (by rw [hb.len]; omega)]
    go_enter Try.func25, Try.ntmps25
    go_wp2_with fail
    go_ret
    exact ⟨rfl, Drawn.refl _⟩
  · by_cases hn : (n : Int) < 4
    · rw [get32_out (by rw [hb.len]; omega)]
      go_enter Try.func25, Try.ntmps25
      go_wp2_with fail
      go_ret
      exact ⟨rfl, Drawn.refl _⟩
    · by_cases h3 : a > (n : Int) - 4
      · rw [get32_out (by rw [hb.len]; omega)]
        go_enter Try.func25, Try.ntmps25
        go_wp2_with fail
        go_ret
        exact ⟨rfl, Drawn.refl _⟩
      · have hq : get32 l a = _ := get32_in (by omega) (by rw [hb.len]; omega)
        rw [hq]; clear hq
        have b0 := get16_lo l a
        have b0' := get16_hi l a
        have b1 := get16_lo l (a+2)
        have b1' := get16_hi l (a+2)
        have hor := or_u32 b0 b0' b1 b1'
        have j4 : IntKind.i64.wrap (a + 2) = a + 2 := IntWalk.i64_in _ (by omega)
        go_enter Try.func25, Try.ntmps25
        go_wp2_with (go_at_call 24; refine (rget16_any _ _ _ l _ _ (by first | exact hb | exact hb.drewN _)).mono ?_; rintro e w' ⟨rfl, ⟨nq, rfl⟩⟩)
        go_ret
        exact ⟨rfl, by repeat (first | exact Drawn.refl _ | apply Drawn.step | apply Drawn.drew)⟩

/-- 'words' of the reference: a row of ints. -/
theorem info_int : (Try.prog.info? 3).map (fun i => (i.zero, i.size, i.bytes)) = some (some (.int .i64 0), 1, 8) := by kernel_rfl
theorem ints_cell {w : World} {base : Nat} {e : TypeId} {A : Option Addr} {m c : Nat} {f : Nat → Int} (h : w.ownsRow base e 1 (.slice A m c) m (ints f m)) {i : Nat} (hi : i < m) :
    ∃ g, A = some ⟨g, 0, none⟩ ∧ w.cell? ⟨g, i, none⟩ = some (.int .i64 (f i)) := by
  obtain ⟨g, cap, hv, _, _⟩ := h.form (by omega)
  injection hv with h3 h4 h5
  subst h3 h5
  exact ⟨g, rfl, by rw [h.cellAt i (by omega), ints_at f hi]⟩
theorem rput16_any (A : Option Addr) (n c : Nat) (l : List UInt8) (a v : Int) (v0 : 0 ≤ v) (v1 : v ≤ 65535) (w : World) (hb : Bs w A n c l) :
    Calls Try.prog 28 #[.slice A n c, .int .i64 a, .int .u16 v] w fun e w' => ∃ A' c', e = .returned (.slice A' n c') ∧ Own w' w.heap.size 5 A' n c' (put16 l a v) ∧ Below w.heap.size w w' := by
  have hmax := hb.max
  have hlen := Lib.hid hb.len
  by_cases ha : a < 0
  · have hq : put16 l a v = l := if_neg (by omega)
    rw [hq]; clear hq
    go_enter Try.func28, Try.ntmps28
    go_wp2_with (at_builtin; refine wpList_append_bs (w0 := w) _ rfl _ _ _ rfl w.heap.size 5 Try.underlying22 info_u8 none 0 0 [] rfl (own_nil _ _ _) A n c l rfl hb (Below.refl _ _) (by omega) (Nat.le_refl _) ?_; intro A1 m c1 w1 ho hB hg _)
    obtain rfl : m = n := by have := ho.len; have := hlen.out; simp at *; omega
    go_ret
    exact ⟨_, _, rfl, ho, hB⟩
  · by_cases hn : (n : Int) < 2
    · have hq : put16 l a v = l := if_neg (by rw [hlen.out]; omega)
      rw [hq]; clear hq
      go_enter Try.func28, Try.ntmps28
      go_wp2_with (at_builtin; refine wpList_append_bs (w0 := w) _ rfl _ _ _ rfl w.heap.size 5 Try.underlying22 info_u8 none 0 0 [] rfl (own_nil _ _ _) A n c l rfl hb (Below.refl _ _) (by omega) (Nat.le_refl _) ?_; intro A1 m c1 w1 ho hB hg _)
      obtain rfl : m = n := by have := ho.len; have := hlen.out; simp at *; omega
      go_ret
      exact ⟨_, _, rfl, ho, hB⟩
    · by_cases h3 : a > (n : Int) - 2
      · have hq : put16 l a v = l := if_neg (by rw [hlen.out]; omega)
        rw [hq]; clear hq
        go_enter Try.func28, Try.ntmps28
        go_wp2_with (at_builtin; refine wpList_append_bs (w0 := w) _ rfl _ _ _ rfl w.heap.size 5 Try.underlying22 info_u8 none 0 0 [] rfl (own_nil _ _ _) A n c l rfl hb (Below.refl _ _) (by omega) (Nat.le_refl _) ?_; intro A1 m c1 w1 ho hB hg _)
        obtain rfl : m = n := by have := ho.len; have := hlen.out; simp at *; omega
        go_ret
        exact ⟨_, _, rfl, ho, hB⟩
      · obtain ⟨i, rfl⟩ := Int.eq_ofNat_of_zero_le (show 0 ≤ a by omega)
        have hq : put16 l i v = (l.set i (ub (v / 256))).set (i + 1) (ub v) := by
          rw [put16, if_pos (by rw [hlen.out]; omega)]
          simp only [putK, Int.toNat_natCast]
          rw [List.set_comm _ _ (by omega)]
          simp
        rw [hq]; clear hq
        go_enter Try.func28, Try.ntmps28
        go_wp2_with (at_builtin; refine wpList_append_bs (w0 := w) _ rfl _ _ _ rfl w.heap.size 5 Try.underlying22 info_u8 none 0 0 [] rfl (own_nil _ _ _) A n c l rfl hb (Below.refl _ _) (by omega) (Nat.le_refl _) ?_; intro A1 m c1 w1 ho hB hg _; obtain rfl : m = n := (by have := ho.len; have := hlen.out; simp at *; omega); obtain ⟨g, rfl, hg1, hg2⟩ := ho.ptr (by omega); obtain ⟨d1, d2⟩ := ho.at_ (i := i) (by omega); obtain ⟨d3, d4⟩ := ho.at_ (i := i + 1) (by omega))
        have hB2 := (hB.setCell (p := ⟨g, i, none⟩) hg1 (.int .u8 (v / 256))).setCell (p := ⟨g, i + 1, none⟩) hg1 (.int .u8 (v % 256))
        have ho3 := (ho.set_ (i := i) (by omega) (v / 256) (y := v / 256) (by omega)).set_ (i := i + 1) (by omega) v rfl
        go_ret
        exact ⟨_, _, rfl, ho3, hB2⟩

end Go.Proofs.Ytkiiaaadcfaojaa
