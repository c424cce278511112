import Derived.Test.YtogbncpchmnbdaaWire
namespace Go.Proofs.Ytogbncpchmnbdaa
open Go.RowKit
set_option linter.unusedVariables false
set_option maxRecDepth 100000

theorem rfold_any (n : Int) (h0 : 0 ≤ n) (h1 : n < 9223372036854775808) (w : World) :
    Calls Try.prog 65 #[.int .i64 n] w fun e w' => e = .returned (.int .i64 (fd n)) ∧ w = w' := by
  have hlo := fd_lo n
  have hhi := fd_hi n
  go_enter Try.func65, Try.ntmps65
  go_wp2
  go_loop [0] (fun v => ∃ m : Int, 0 ≤ m ∧ m < 9223372036854775808 ∧ Hid (fd m = fd n) ∧ v = .int .i64 m) (fun v => (intOf v).toNat)
  case atStart => exact ⟨n, h0, h1, rfl, rfl⟩
  case round =>
    obtain ⟨m, hm0, hm1, hm2, rfl⟩ := hrel
    by_cases hs : m ≤ 65535
    · have HQ : Hid (fd n = m) := by rw [← hm2.out]; exact fd_small hm0 hs
      go_wp2
      go_ret
      exact ⟨by rw [HQ.out]; rfl, rfl⟩
    · go_wp2
      go_round
      case rel => exact ⟨_, by omega, by omega, by rw [Int.add_comm, fd_step hm0]; exact hm2, rfl⟩
      case measure => simp [intOf]; omega

theorem rget16_any (A : Option Addr) (n c : Nat) (l : List UInt8) (a : Int) (w : World) (hb : Bs w A n c l) :
    Calls Try.prog 57 #[.slice A n c, .int .i64 a] w fun e w' => e = .returned (.int .u16 (get16 l a)) ∧ Drawn w w' := by
  have hmax := hb.max
  by_cases ha : a < 0
  · rw [get16_out (by rw [hb.len]; omega)]
    go_enter Try.func57, Try.ntmps57
    go_wp2
    go_ret
    exact ⟨rfl, Drawn.refl _⟩
  · by_cases hn : (n : Int) < 2
    · rw [get16_out (by rw [hb.len]; omega)]
      go_enter Try.func57, Try.ntmps57
      go_wp2
      go_ret
      exact ⟨rfl, Drawn.refl _⟩
    · by_cases h3 : a > (n : Int) - 2
      · rw [get16_out (by rw [hb.len]; omega)]
        go_enter Try.func57, Try.ntmps57
        go_wp2
        go_ret
        exact ⟨rfl, Drawn.refl _⟩
      · have hq : get16 l a = _ := get16_in (by omega) (by rw [hb.len]; omega)
        rw [hq]; clear hq
        obtain ⟨b, off, rfl, hc⟩ := hb.rd (by omega)
        obtain ⟨i, rfl⟩ := Int.eq_ofNat_of_zero_le (show 0 ≤ a by omega)
        have c0 := hc i (by omega)
        have c1 := hc (i + 1) (by omega)
        clear hc
        have b0 := bt_lo l i
        have b0' := bt_hi l i
        have b1 := bt_lo l (i+1)
        have b1' := bt_hi l (i+1)
        have hor := or_u16 b0 b0' b1 b1'
        have j0 : (i : Int) < (n : Int) := by omega
        have j1 : (i : Int) + 1 < (n : Int) := by omega
        have j2 : 0 ≤ (i : Int) + 1 := by omega
        have j3 : ((i : Int) + 1).toNat = i + 1 := by omega
        have j4 : IntKind.i64.wrap ((i : Int) + 1) = (i : Int) + 1 := IntWalk.i64_in _ (by omega)
        go_enter Try.func57, Try.ntmps57
        go_wp2
        go_quiet (fail)
        go_wp2
        go_ret
        exact ⟨rfl, (Drawn.refl _).step _⟩

theorem rget32_any (A : Option Addr) (n c : Nat) (l : List UInt8) (a : Int) (w : World) (hb : Bs w A n c l) :
    Calls Try.prog 53 #[.slice A n c, .int .i64 a] w fun e w' => e = .returned (.int .u32 (get32 l a)) ∧ Drawn w w' := by
  have hmax := hb.max
  by_cases ha : a < 0
  · rw [get32_out (by rw [hb.len]; omega)]
    go_enter Try.func53, Try.ntmps53
    go_wp2_with fail
    go_ret
    exact ⟨rfl, Drawn.refl _⟩
  · by_cases hn : (n : Int) < 4
    · rw [get32_out (by rw [hb.len]; omega)]
      go_enter Try.func53, Try.ntmps53
      go_wp2_with fail
      go_ret
      exact ⟨rfl, Drawn.refl _⟩
    · by_cases h3 : a > (n : Int) - 4
      · rw [get32_out (by rw [hb.len]; omega)]
        go_enter Try.func53, Try.ntmps53
        go_wp2_with fail
        go_ret
        exact ⟨rfl, Drawn.refl _⟩
      · have hq : get32 l a = _ := get32_in (by omega) (by rw [hb.len]; omega)
        rw [hq]; clear hq
        have b0 := get16_lo l a
        have b0' := get16_hi l a
        have b1 := get16_lo l (a+2)
        have b1' := get16_hi l (a+2)
        have hor := or_u32 b0 b0' b1 b1'
        have j4 : IntKind.i64.wrap (a + 2) = a + 2 := IntWalk.i64_in _ (by omega)
        go_enter Try.func53, Try.ntmps53
        go_wp2_with (go_at_call 57; refine (rget16_any _ _ _ l _ _ (by first | exact hb | exact hb.drewN _)).mono ?_; rintro e w' ⟨rfl, ⟨nq, rfl⟩⟩)
        go_ret
        exact ⟨rfl, by repeat (first | exact Drawn.refl _ | apply Drawn.step | apply Drawn.drew)⟩

theorem two_any (v : Int) (v0 : 0 ≤ v) (v1 : v ≤ 65535) (w : World) :
    Calls Try.prog 46 #[.int .u16 v] w fun e w' => ∃ A' c', e = .returned (.slice A' 2 c') ∧ Own w' w.heap.size 5 A' 2 c' (two v) ∧ Below w.heap.size w w' := by
  have ho := own_lit w w.heap.size 5 (two v) 2 rfl (by omega) (Nat.le_refl _)
  have hl : (cu (two v)).toArray = #[.int .u8 (v / 256), .int .u8 (v % 256)] := by simp [two, cu, ub_val]; omega
  rw [hl] at ho
  clear hl
  go_enter Try.func46, Try.ntmps46
  go_wp2
  go_ret
  exact ⟨_, _, rfl, ho, (Below.refl _ _).alloc (Nat.le_refl _) _⟩
theorem four_any (v : Int) (v0 : 0 ≤ v) (v1 : v ≤ 4294967295) (w : World) :
    Calls Try.prog 42 #[.int .u32 v] w fun e w' => ∃ A' c', e = .returned (.slice A' 4 c') ∧ Own w' w.heap.size 5 A' 4 c' (four v) ∧ Below w.heap.size w w' := by
  have ho := own_lit w w.heap.size 5 (four v) 4 rfl (by omega) (Nat.le_refl _)
  have hl : (cu (four v)).toArray = #[.int .u8 (v / 16777216), .int .u8 (v / 65536 % 256), .int .u8 (v / 256 % 256), .int .u8 (v % 256)] := by simp [four, cu, ub_val]; omega
  rw [hl] at ho
  clear hl
  go_enter Try.func42, Try.ntmps42
  go_wp2
  go_ret
  exact ⟨_, _, rfl, ho, (Below.refl _ _).alloc (Nat.le_refl _) _⟩

/-- 'words' of the reference: a row of ints. -/
theorem info_int : (Try.prog.info? 3).map (fun i => (i.zero, i.size, i.bytes)) = some (some (.int .i64 0), 1, 8) := by kernel_rfl
set_option maxHeartbeats 800000 in
theorem rwords_any (A : Option Addr) (n c : Nat) (l : List UInt8) (hn : n ≤ 17592186044416) (w : World) (hb : Bs w A n c l) :
    Calls Try.prog 64 #[.slice A n c] w fun e w' => ∃ A' c', e = .returned (.slice A' ((n + 1) / 2) c') ∧ w'.ownsRow w.heap.size 3 1 (.slice A' ((n + 1) / 2) c') ((n + 1) / 2) (ints (wd l) ((n + 1) / 2)) ∧ Below w.heap.size w w' := by
  obtain ⟨i0, hi0, hz0, hz1, hz2⟩ := info_parts info_int
  have hlen := hb.len
  have hl1 : n ≤ l.length := by omega
  have hl2 : l.length ≤ n := by omega
  clear hlen
  go_enter Try.func64, Try.ntmps64
  go_wp2
  go_loopw [3, 4, 5] (fun v i _ wr => ∃ (k : Nat) (A' : Option Addr) (c' : Nat), 2 * k ≤ n + 1 ∧ i = .int .i64 (2 * (k : Int)) ∧ v = .slice A' k c' ∧ wr.ownsRow w.heap.size 3 1 (.slice A' k c') k (ints (wd l) k) ∧ Below w.heap.size w wr) (fun _ i _ _ => n + 1 - (intOf i).toNat)
  case atStart => exact ⟨0, none, 0, by omega, rfl, rfl, World.ownsRow_nil _ _ _ _, Below.refl _ _⟩
  case round =>
    obtain ⟨k, A1, c1, hk, rfl, rfl, ho, hB⟩ := hrel
    by_cases hlt : 2 * k < n
    · have hbr := hb.below hB
      obtain ⟨b, off, rfl, hc⟩ := hbr.rd (by omega)
      have c0 := hc (2 * k) hlt
      have e0 : (2 * (k : Int)).toNat = 2 * k := by omega
      have e1 : (2 * (k : Int) + 1).toNat = 2 * k + 1 := by omega
      have b0 := bt_lo l (2 * k)
      have b0' := bt_hi l (2 * k)
      have b1 := bt_lo l (2 * k + 1)
      have b1' := bt_hi l (2 * k + 1)
      by_cases hlt1 : 2 * k + 1 < n
      · have c2 := hc (2 * k + 1) hlt1
        clear hc
        go_wp2_with (at_builtin; refine wpList_append_int (w0 := w) rfl _ _ _ rfl w.heap.size 3 Try.underlying81 info_int (wd l) A1 k c1 (bt l (2 * k) * 256 + bt l (2 * k + 1)) rfl rfl ho rfl hB (by omega) hB.size ?_; intro A2 c2' w1 hown' hB')
        go_roundw
        case rel => exact ⟨k + 1, A2, c2', by omega, by go_num, rfl, hown', hB'⟩
        case measure => simp [intOf]; omega
      · clear hc
        have ho1 := wd_odd (l := l) (i := k) (by omega)
        have HO := Lib.hid ho1
        clear ho1
        go_wp2_with (at_builtin; refine wpList_append_int (w0 := w) rfl _ _ _ rfl w.heap.size 3 Try.underlying81 info_int (wd l) A1 k c1 (bt l (2 * k) * 256) HO.out rfl ho rfl hB (by omega) hB.size ?_; intro A2 c2' w1 hown' hB')
        go_roundw
        case rel => exact ⟨k + 1, A2, c2', by omega, by go_num, rfl, hown', hB'⟩
        case measure => simp [intOf]; omega
    · have hkk : (n + 1) / 2 = k := by omega
      have HK := Lib.hid hkk
      clear hkk
      go_wp2
      go_ret
      rw [HK.out]
      exact ⟨_, _, rfl, ho, hB⟩

theorem ints_cell {w : World} {base : Nat} {e : TypeId} {A : Option Addr} {m c : Nat} {f : Nat → Int} (h : w.ownsRow base e 1 (.slice A m c) m (ints f m)) {i : Nat} (hi : i < m) :
    ∃ g, A = some ⟨g, 0, none⟩ ∧ w.cell? ⟨g, i, none⟩ = some (.int .i64 (f i)) := by
  obtain ⟨g, cap, hv, _, _⟩ := h.form (by omega)
  injection hv with h3 h4 h5
  subst h3 h5
  exact ⟨g, rfl, by rw [h.cellAt i (by omega), ints_at f hi]⟩
set_option maxHeartbeats 800000 in
theorem rsum_any (A : Option Addr) (n c : Nat) (l : List UInt8) (hn : n ≤ 17592186044416) (w : World) (hb : Bs w A n c l) :
    Calls Try.prog 44 #[.slice A n c] w fun e w' => e = .returned (.int .u16 (csum l)) ∧ Below w.heap.size w w' := by
  have HW : Hid (ws l = wsK l ((n + 1) / 2)) := by unfold Hid ws; rw [hb.len]
  obtain ⟨m, hm⟩ : ∃ m, (n + 1) / 2 = m := ⟨_, rfl⟩
  have hm1 : m ≤ 17592186044416 := by omega
  go_enter Try.func44, Try.ntmps44
  go_wp2_with fail
  refine (rwords_any _ _ _ l hn _ hb).mono ?_
  rw [hm] at HW ⊢
  clear hm
  rintro e w1 ⟨A1, c1, rfl, ho, hB⟩
  go_wp2_with fail
  go_loop [3, 5] (fun s i => ∃ k : Nat, k ≤ m ∧ i = .int .i64 k ∧ s = .int .i64 (fd (wsK l k))) (fun _ i => m - (intOf i).toNat)
  case atStart => exact ⟨0, by omega, rfl, rfl⟩
  case round =>
    obtain ⟨k, hk, rfl, rfl⟩ := hrel
    have x0 := fd_lo (wsK l k)
    have x1 := fd_hi (wsK l k)
    by_cases hlt : k < m
    · obtain ⟨g, rfl, hc⟩ := ints_cell ho hlt
      have y0 := wd_lo l k
      have y1 := wd_hi l k
      have HF : Hid (fd (fd (wsK l k) + wd l k) = fd (wsK l (k + 1))) := fd_add (wsK_lo l k) y0
      go_wp2_with (go_at_call 65; refine (rfold_any _ (by omega) (by omega) _).mono ?_; rintro e w' ⟨rfl, rfl⟩)
      go_round
      case rel => exact ⟨k + 1, by omega, by go_num, by rw [HF.out]⟩
      case measure => simp [intOf]; omega
    · obtain rfl : k = m := by omega
      go_wp2
      go_ret
      refine ⟨?_, hB⟩
      unfold csum
      rw [HW.out]
      rfl
theorem rgood_any (A : Option Addr) (n c : Nat) (l : List UInt8) (hn : n ≤ 17592186044416) (w : World) (hb : Bs w A n c l) :
    Calls Try.prog 52 #[.slice A n c] w fun e w' => e = .returned (.bool (csum l == 0)) ∧ Below w.heap.size w w' := by
  go_enter Try.func52, Try.ntmps52
  go_wp2_with (go_at_call 44; refine (rsum_any _ _ _ l hn _ hb).mono ?_; rintro e w1 ⟨rfl, hB⟩)
  go_ret
  exact ⟨rfl, hB⟩

theorem rput16_any (A : Option Addr) (n c : Nat) (l : List UInt8) (a v : Int) (v0 : 0 ≤ v) (v1 : v ≤ 65535) (w : World) (hb : Bs w A n c l) :
    Calls Try.prog 43 #[.slice A n c, .int .i64 a, .int .u16 v] w fun e w' => ∃ A' c', e = .returned (.slice A' n c') ∧ Own w' w.heap.size 5 A' n c' (put16 l a v) ∧ Below w.heap.size w w' := by
  have hmax := hb.max
  have hlen := Lib.hid hb.len
  by_cases ha : a < 0
  · have hq : put16 l a v = l := if_neg (by omega)
    rw [hq]; clear hq
    go_enter Try.func43, Try.ntmps43
    go_wp2_with (at_builtin; refine wpList_append_bs (w0 := w) _ rfl _ _ _ rfl w.heap.size 5 Try.underlying24 info_u8 none 0 0 [] rfl (own_nil _ _ _) A n c l rfl hb (Below.refl _ _) (by omega) (Nat.le_refl _) ?_; intro A1 m c1 w1 ho hB hg _)
    obtain rfl : m = n := by have := ho.len; have := hlen.out; simp at *; omega
    go_ret
    exact ⟨_, _, rfl, ho, hB⟩
  · by_cases hn : (n : Int) < 2
    · have hq : put16 l a v = l := if_neg (by rw [hlen.out]; omega)
      rw [hq]; clear hq
      go_enter Try.func43, Try.ntmps43
      go_wp2_with (at_builtin; refine wpList_append_bs (w0 := w) _ rfl _ _ _ rfl w.heap.size 5 Try.underlying24 info_u8 none 0 0 [] rfl (own_nil _ _ _) A n c l rfl hb (Below.refl _ _) (by omega) (Nat.le_refl _) ?_; intro A1 m c1 w1 ho hB hg _)
      obtain rfl : m = n := by have := ho.len; have := hlen.out; simp at *; omega
      go_ret
      exact ⟨_, _, rfl, ho, hB⟩
    · by_cases h3 : a > (n : Int) - 2
      · have hq : put16 l a v = l := if_neg (by rw [hlen.out]; omega)
        rw [hq]; clear hq
        go_enter Try.func43, Try.ntmps43
        go_wp2_with (at_builtin; refine wpList_append_bs (w0 := w) _ rfl _ _ _ rfl w.heap.size 5 Try.underlying24 info_u8 none 0 0 [] rfl (own_nil _ _ _) A n c l rfl hb (Below.refl _ _) (by omega) (Nat.le_refl _) ?_; intro A1 m c1 w1 ho hB hg _)
        obtain rfl : m = n := by have := ho.len; have := hlen.out; simp at *; omega
        go_ret
        exact ⟨_, _, rfl, ho, hB⟩
      · obtain ⟨i, rfl⟩ := Int.eq_ofNat_of_zero_le (show 0 ≤ a by omega)
        have hq : put16 l i v = (l.set i (ub (v / 256))).set (i + 1) (ub v) := by
          rw [put16, if_pos (by rw [hlen.out]; omega)]
          simp only [putK, Int.toNat_natCast]
          rw [List.set_comm _ _ (by omega)]
          simp
        rw [hq]; clear hq
        go_enter Try.func43, Try.ntmps43
        go_wp2_with (at_builtin; refine wpList_append_bs (w0 := w) _ rfl _ _ _ rfl w.heap.size 5 Try.underlying24 info_u8 none 0 0 [] rfl (own_nil _ _ _) A n c l rfl hb (Below.refl _ _) (by omega) (Nat.le_refl _) ?_; intro A1 m c1 w1 ho hB hg _; obtain rfl : m = n := (by have := ho.len; have := hlen.out; simp at *; omega); obtain ⟨g, rfl, hg1, hg2⟩ := ho.ptr (by omega); obtain ⟨d1, d2⟩ := ho.at_ (i := i) (by omega); obtain ⟨d3, d4⟩ := ho.at_ (i := i + 1) (by omega))
        have hB2 := (hB.setCell (p := ⟨g, i, none⟩) hg1 (.int .u8 (v / 256))).setCell (p := ⟨g, i + 1, none⟩) hg1 (.int .u8 (v % 256))
        have ho3 := (ho.set_ (i := i) (by omega) (v / 256) (y := v / 256) (by omega)).set_ (i := i + 1) (by omega) v rfl
        go_ret
        exact ⟨_, _, rfl, ho3, hB2⟩

end Go.Proofs.Ytogbncpchmnbdaa
