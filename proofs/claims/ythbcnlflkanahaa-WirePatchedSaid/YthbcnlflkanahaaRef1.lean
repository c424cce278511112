import Derived.Test.YthbcnlflkanahaaWire
namespace Go.Proofs.Ythbcnlflkanahaa
open Go.RowKit
set_option linter.unusedVariables false

theorem rfold_any (n : Int) (h0 : 0 ≤ n) (h1 : n < 9223372036854775808) (w : World) :
    Calls Try.prog 36 #[.int .i64 n] w fun e w' => e = .returned (.int .i64 (fd n)) ∧ w = w' := by
  have hlo := fd_lo n
  have hhi := fd_hi n
  go_enter Try.func36, Try.ntmps36
  go_wp2
  go_loop [0] (fun v => ∃ m : Int, 0 ≤ m ∧ m < 9223372036854775808 ∧ Hid (fd m = fd n) ∧ v = .int .i64 m) (fun v => (intOf v).toNat)
  case atStart => exact ⟨n, h0, h1, rfl, rfl⟩
  case round =>
    obtain ⟨m, hm0, hm1, hm2, rfl⟩ := hrel
    by_cases hs : m ≤ 65535
    · have HQ : Hid (fd n = m) := by rw [← hm2.out]; exact fd_small hm0 hs
      go_wp2
      go_ret
      exact ⟨by rw [HQ.out]; rfl, rfl⟩
    · go_wp2
      go_round
      case rel => exact ⟨_, by omega, by omega, by rw [Int.add_comm, fd_step hm0]; exact hm2, rfl⟩
      case measure => simp [intOf]; omega

theorem rpatch_any (s a b : Int) (s0 : 0 ≤ s) (s1 : s ≤ 65535) (a0 : 0 ≤ a) (a1 : a ≤ 65535) (b0 : 0 ≤ b) (b1 : b ≤ 65535) (w : World) :
    Calls Try.prog 22 #[.int .u16 s, .int .u16 a, .int .u16 b] w fun e w' => e = .returned (.int .u16 (patch s a b)) ∧ w = w' := by
  have x1 := fd_lo (65535 - s + 65535 - a + b)
  have x2 := fd_hi (65535 - s + 65535 - a + b)
  go_enter Try.func22, Try.ntmps22
  go_wp2_with (go_at_call 36; refine (rfold_any _ (by omega) (by omega) _).mono ?_; rintro e w' ⟨rfl, rfl⟩)
  go_ret
  refine ⟨?_, rfl⟩
  unfold patch
  rw [show (65535 - s) + (65535 - a) + b = 65535 - s + 65535 - a + b from by omega]
  rfl

theorem rahead_any (a b : Int) (a0 : 0 ≤ a) (a1 : a ≤ 4294967295) (b0 : 0 ≤ b) (b1 : b ≤ 4294967295) (w : World) :
    Calls Try.prog 14 #[.int .u32 a, .int .u32 b] w fun e w' => e = .returned (.int .i64 (ahead a b)) ∧ w = w' := by
  have d0 : 0 ≤ (a - b) % 4294967296 := by omega
  have d1 : (a - b) % 4294967296 ≤ 4294967295 := by omega
  by_cases h : 2147483648 ≤ (a - b) % 4294967296
  · have e : ahead a b = (a - b) % 4294967296 - 4294967296 := if_pos h
    rw [e]; clear e
    go_enter Try.func14, Try.ntmps14
    go_wp2
    go_ret
    exact ⟨rfl, rfl⟩
  · have e : ahead a b = (a - b) % 4294967296 := if_neg h
    rw [e]; clear e
    go_enter Try.func14, Try.ntmps14
    go_wp2
    go_ret
    exact ⟨rfl, rfl⟩

theorem rget16_any (A : Option Addr) (n c : Nat) (l : List UInt8) (a : Int) (w : World) (hb : Bs w A n c l) :
    Calls Try.prog 29 #[.slice A n c, .int .i64 a] w fun e w' => e = .returned (.int .u16 (get16 l a)) ∧ Drawn w w' := by
  have hmax := hb.max
  by_cases ha : a < 0
  · rw [get16_out (by rw [hb.len]; omega)]
    go_enter Try.func29, Try.ntmps29
    go_wp2
    go_ret
    exact ⟨rfl, Drawn.refl _⟩
  · by_cases hn : (n : Int) < 2
    · rw [get16_out (by rw [hb.len]; omega)]
      go_enter Try.func29, Try.ntmps29
      go_wp2
      go_ret
      exact ⟨rfl, Drawn.refl _⟩
    · by_cases h3 : a > (n : Int) - 2
      · rw [get16_out (by rw [hb.len]; omega)]
        go_enter Try.func29, Try.ntmps29
        go_wp2
        go_ret
        exact ⟨rfl, Drawn.refl _⟩
      · have hq : get16 l a = _ := get16_in (by omega) (by rw [hb.len]; omega)
        rw [hq]; clear hq
        obtain ⟨b, off, rfl, hc⟩ := hb.rd (by omega)
        obtain ⟨i, rfl⟩ := Int.eq_ofNat_of_zero_le (show 0 ≤ a by omega)
        have c0 := hc i (by omega)
        have c1 := hc (i + 1) (by omega)
        clear hc
        have b0 := bt_lo l i
        have b0' := bt_hi l i
        have b1 := bt_lo l (i+1)
        have b1' := bt_hi l (i+1)
        have hor := or_u16 b0 b0' b1 b1'
        have j0 : (i : Int) < (n : Int) := by omega
        have j1 : (i : Int) + 1 < (n : Int) := by omega
        have j2 : 0 ≤ (i : Int) + 1 := by omega
        have j3 : ((i : Int) + 1).toNat = i + 1 := by omega
        have j4 : IntKind.i64.wrap ((i : Int) + 1) = (i : Int) + 1 := IntWalk.i64_in _ (by omega)
        go_enter Try.func29, Try.ntmps29
        go_wp2
        go_quiet (fail)
        go_wp2
        go_ret
        exact ⟨rfl, (Drawn.refl _).step _⟩

theorem rget32_any (A : Option Addr) (n c : Nat) (l : List UInt8) (a : Int) (w : World) (hb : Bs w A n c l) :
    Calls Try.prog 30 #[.slice A n c, .int .i64 a] w fun e w' => e = .returned (.int .u32 (get32 l a)) ∧ Drawn w w' := by
  have hmax := hb.max
  by_cases ha : a < 0
  · rw [get32_out (by rw [hb.len]; omega)]
    go_enter Try.func30, Try.ntmps30
    go_wp2_with fail
    go_ret
    exact ⟨rfl, Drawn.refl _⟩
  · by_cases hn : (n : Int) < 4
    · rw [get32_out (by rw [hb.len]; omega)]
      go_enter Try.func30, Try.ntmps30
      go_wp2_with fail
      go_ret
      exact ⟨rfl, Drawn.refl _⟩
    · by_cases h3 : a > (n : Int) - 4
      · rw [get32_out (by rw [hb.len]; omega)]
        go_enter Try.func30, Try.ntmps30
        go_wp2_with fail
        go_ret
        exact ⟨rfl, Drawn.refl _⟩
      · have hq : get32 l a = _ := get32_in (by omega) (by rw [hb.len]; omega)
        rw [hq]; clear hq
        have b0 := get16_lo l a
        have b0' := get16_hi l a
        have b1 := get16_lo l (a+2)
        have b1' := get16_hi l (a+2)
        have hor := or_u32 b0 b0' b1 b1'
        have j4 : IntKind.i64.wrap (a + 2) = a + 2 := IntWalk.i64_in _ (by omega)
        go_enter Try.func30, Try.ntmps30
        go_wp2_with (go_at_call 29; refine (rget16_any _ _ _ l _ _ (by first | exact hb | exact hb.drewN _)).mono ?_; rintro e w' ⟨rfl, ⟨nq, rfl⟩⟩)
        go_ret
        exact ⟨rfl, by repeat (first | exact Drawn.refl _ | apply Drawn.step | apply Drawn.drew)⟩

theorem two_any (v : Int) (v0 : 0 ≤ v) (v1 : v ≤ 65535) (w : World) :
    Calls Try.prog 40 #[.int .u16 v] w fun e w' => ∃ A' c', e = .returned (.slice A' 2 c') ∧ Own w' w.heap.size 5 A' 2 c' (two v) ∧ Below w.heap.size w w' := by
  have ho := own_lit w w.heap.size 5 (two v) 2 rfl (by omega) (Nat.le_refl _)
  have hl : (cu (two v)).toArray = #[.int .u8 (v / 256), .int .u8 (v % 256)] := by simp [two, cu, ub_val]; omega
  rw [hl] at ho
  clear hl
  go_enter Try.func40, Try.ntmps40
  go_wp2
  go_ret
  exact ⟨_, _, rfl, ho, (Below.refl _ _).alloc (Nat.le_refl _) _⟩
theorem four_any (v : Int) (v0 : 0 ≤ v) (v1 : v ≤ 4294967295) (w : World) :
    Calls Try.prog 39 #[.int .u32 v] w fun e w' => ∃ A' c', e = .returned (.slice A' 4 c') ∧ Own w' w.heap.size 5 A' 4 c' (four v) ∧ Below w.heap.size w w' := by
  have ho := own_lit w w.heap.size 5 (four v) 4 rfl (by omega) (Nat.le_refl _)
  have hl : (cu (four v)).toArray = #[.int .u8 (v / 16777216), .int .u8 (v / 65536 % 256), .int .u8 (v / 256 % 256), .int .u8 (v % 256)] := by simp [four, cu, ub_val]; omega
  rw [hl] at ho
  clear hl
  go_enter Try.func39, Try.ntmps39
  go_wp2
  go_ret
  exact ⟨_, _, rfl, ho, (Below.refl _ _).alloc (Nat.le_refl _) _⟩

/-- 'words' of the reference: a row of ints. -/
theorem info_int : (Try.prog.info? 3).map (fun i => (i.zero, i.size, i.bytes)) = some (some (.int .i64 0), 1, 8) := by kernel_rfl
set_option maxHeartbeats 800000 in
theorem rwords_any (A : Option Addr) (n c : Nat) (l : List UInt8) (hn : n ≤ 17592186044416) (w : World) (hb : Bs w A n c l) :
    Calls Try.prog 35 #[.slice A n c] w fun e w' => ∃ A' c', e = .returned (.slice A' ((n + 1) / 2) c') ∧ w'.ownsRow w.heap.size 3 1 (.slice A' ((n + 1) / 2) c') ((n + 1) / 2) (ints (wd l) ((n + 1) / 2)) ∧ Below w.heap.size w w' := by
  obtain ⟨i0, hi0, hz0, hz1, hz2⟩ := info_parts info_int
  have hlen := hb.len
  have hl1 : n ≤ l.length := by omega
  have hl2 : l.length ≤ n := by omega
  clear hlen
  go_enter Try.func35, Try.ntmps35
  go_wp2
  go_loopw [3, 4, 5] (fun v i _ wr => ∃ (k : Nat) (A' : Option Addr) (c' : Nat), 2 * k ≤ n + 1 ∧ i = .int .i64 (2 * (k : Int)) ∧ v = .slice A' k c' ∧ wr.ownsRow w.heap.size 3 1 (.slice A' k c') k (ints (wd l) k) ∧ Below w.heap.size w wr) (fun _ i _ _ => n + 1 - (intOf i).toNat)
  case atStart => exact ⟨0, none, 0, by omega, rfl, rfl, World.ownsRow_nil _ _ _ _, Below.refl _ _⟩
  case round =>
    obtain ⟨k, A1, c1, hk, rfl, rfl, ho, hB⟩ := hrel
    by_cases hlt : 2 * k < n
    · have hbr := hb.below hB
      obtain ⟨b, off, rfl, hc⟩ := hbr.rd (by omega)
      have c0 := hc (2 * k) hlt
      have e0 : (2 * (k : Int)).toNat = 2 * k := by omega
      have e1 : (2 * (k : Int) + 1).toNat = 2 * k + 1 := by omega
      have b0 := bt_lo l (2 * k)
      have b0' := bt_hi l (2 * k)
      have b1 := bt_lo l (2 * k + 1)
      have b1' := bt_hi l (2 * k + 1)
      by_cases hlt1 : 2 * k + 1 < n
      · have c2 := hc (2 * k + 1) hlt1
        clear hc
        go_wp2_with (at_builtin; refine wpList_append_int (w0 := w) rfl _ _ _ rfl w.heap.size 3 Try.underlying52 info_int (wd l) A1 k c1 (bt l (2 * k) * 256 + bt l (2 * k + 1)) rfl rfl ho rfl hB (by omega) hB.size ?_; intro A2 c2' w1 hown' hB')
        go_roundw
        case rel => exact ⟨k + 1, A2, c2', by omega, by go_num, rfl, hown', hB'⟩
        case measure => simp [intOf]; omega
      · clear hc
        have ho1 := wd_odd (l := l) (i := k) (by omega)
        have HO := Lib.hid ho1
        clear ho1
        go_wp2_with (at_builtin; refine wpList_append_int (w0 := w) rfl _ _ _ rfl w.heap.size 3 Try.underlying52 info_int (wd l) A1 k c1 (bt l (2 * k) * 256) HO.out rfl ho rfl hB (by omega) hB.size ?_; intro A2 c2' w1 hown' hB')
        go_roundw
        case rel => exact ⟨k + 1, A2, c2', by omega, by go_num, rfl, hown', hB'⟩
        case measure => simp [intOf]; omega
    · have hkk : (n + 1) / 2 = k := by omega
      have HK := Lib.hid hkk
      clear hkk
      go_wp2
      go_ret
      rw [HK.out]
      exact ⟨_, _, rfl, ho, hB⟩

theorem ints_cell {w : World} {base : Nat} {e : TypeId} {A : Option Addr} {m c : Nat} {f : Nat → Int} (h : w.ownsRow base e 1 (.slice A m c) m (ints f m)) {i : Nat} (hi : i < m) :
    ∃ g, A = some ⟨g, 0, none⟩ ∧ w.cell? ⟨g, i, none⟩ = some (.int .i64 (f i)) := by
  obtain ⟨g, cap, hv, _, _⟩ := h.form (by omega)
  injection hv with h3 h4 h5
  subst h3 h5
  exact ⟨g, rfl, by rw [h.cellAt i (by omega), ints_at f hi]⟩
set_option maxHeartbeats 800000 in
theorem rsum_any (A : Option Addr) (n c : Nat) (l : List UInt8) (hn : n ≤ 17592186044416) (w : World) (hb : Bs w A n c l) :
    Calls Try.prog 18 #[.slice A n c] w fun e w' => e = .returned (.int .u16 (csum l)) ∧ Below w.heap.size w w' := by
  have HW : Hid (ws l = wsK l ((n + 1) / 2)) := by unfold Hid ws; rw [hb.len]
  obtain ⟨m, hm⟩ : ∃ m, (n + 1) / 2 = m := ⟨_, rfl⟩
  have hm1 : m ≤ 17592186044416 := by omega
  go_enter Try.func18, Try.ntmps18
  go_wp2_with fail
  refine (rwords_any _ _ _ l hn _ hb).mono ?_
  rw [hm] at HW ⊢
  clear hm
  rintro e w1 ⟨A1, c1, rfl, ho, hB⟩
  go_wp2_with fail
  go_loop [3, 5] (fun s i => ∃ k : Nat, k ≤ m ∧ i = .int .i64 k ∧ s = .int .i64 (fd (wsK l k))) (fun _ i => m - (intOf i).toNat)
  case atStart => exact ⟨0, by omega, rfl, rfl⟩
  case round =>
    obtain ⟨k, hk, rfl, rfl⟩ := hrel
    have x0 := fd_lo (wsK l k)
    have x1 := fd_hi (wsK l k)
    by_cases hlt : k < m
    · obtain ⟨g, rfl, hc⟩ := ints_cell ho hlt
      have y0 := wd_lo l k
      have y1 := wd_hi l k
      have HF : Hid (fd (fd (wsK l k) + wd l k) = fd (wsK l (k + 1))) := fd_add (wsK_lo l k) y0
      go_wp2_with (go_at_call 36; refine (rfold_any _ (by omega) (by omega) _).mono ?_; rintro e w' ⟨rfl, rfl⟩)
      go_round
      case rel => exact ⟨k + 1, by omega, by go_num, by rw [HF.out]⟩
      case measure => simp [intOf]; omega
    · obtain rfl : k = m := by omega
      go_wp2
      go_ret
      refine ⟨?_, hB⟩
      unfold csum
      rw [HW.out]
      rfl
theorem rgood_any (A : Option Addr) (n c : Nat) (l : List UInt8) (hn : n ≤ 17592186044416) (w : World) (hb : Bs w A n c l) :
    Calls Try.prog 20 #[.slice A n c] w fun e w' => e = .returned (.bool (csum l == 0)) ∧ Below w.heap.size w w' := by
  go_enter Try.func20, Try.ntmps20
  go_wp2_with (go_at_call 18; refine (rsum_any _ _ _ l hn _ hb).mono ?_; rintro e w1 ⟨rfl, hB⟩)
  go_ret
  exact ⟨rfl, hB⟩

theorem rput16_any (A : Option Addr) (n c : Nat) (l : List UInt8) (a v : Int) (v0 : 0 ≤ v) (v1 : v ≤ 65535) (w : World) (hb : Bs w A n c l) :
    Calls Try.prog 27 #[.slice A n c, .int .i64 a, .int .u16 v] w fun e w' => ∃ A' c', e = .returned (.slice A' n c') ∧ Own w' w.heap.size 5 A' n c' (put16 l a v) ∧ Below w.heap.size w w' := by
  have hmax := hb.max
  have hlen := Lib.hid hb.len
  by_cases ha : a < 0
  · have hq : put16 l a v = l := if_neg (by omega)
    rw [hq]; clear hq
    go_enter Try.func27, Try.ntmps27
    go_wp2_with (at_builtin; refine wpList_append_bs (w0 := w) _ rfl _ _ _ rfl w.heap.size 5 Try.underlying26 info_u8 none 0 0 [] rfl (own_nil _ _ _) A n c l rfl hb (Below.refl _ _) (by omega) (Nat.le_refl _) ?_; intro A1 m c1 w1 ho hB hg _)
    obtain rfl : m = n := by have := ho.len; have := hlen.out; simp at *; omega
    go_ret
    exact ⟨_, _, rfl, ho, hB⟩
  · by_cases hn : (n : Int) < 2
    · have hq : put16 l a v = l := if_neg (by rw [hlen.out]; omega)
      rw [hq]; clear hq
      go_enter Try.func27, Try.ntmps27
      go_wp2_with (at_builtin; refine wpList_append_bs (w0 := w) _ rfl _ _ _ rfl w.heap.size 5 Try.underlying26 info_u8 none 0 0 [] rfl (own_nil _ _ _) A n c l rfl hb (Below.refl _ _) (by omega) (Nat.le_refl _) ?_; intro A1 m c1 w1 ho hB hg _)
      obtain rfl : m = n := by have := ho.len; have := hlen.out; simp at *; omega
      go_ret
      exact ⟨_, _, rfl, ho, hB⟩
    · by_cases h3 : a > (n : Int) - 2
      · have hq : put16 l a v = l := if_neg (by rw [hlen.out]; omega)
        rw [hq]; clear hq
        go_enter Try.func27, Try.ntmps27
        go_wp2_with (at_builtin; refine wpList_append_bs (w0 := w) _ rfl _ _ _ rfl w.heap.size 5 Try.underlying26 info_u8 none 0 0 [] rfl (own_nil _ _ _) A n c l rfl hb (Below.refl _ _) (by omega) (Nat.le_refl _) ?_; intro A1 m c1 w1 ho hB hg _)
        obtain rfl : m = n := by have := ho.len; have := hlen.out; simp at *; omega
        go_ret
        exact ⟨_, _, rfl, ho, hB⟩
      · obtain ⟨i, rfl⟩ := Int.eq_ofNat_of_zero_le (show 0 ≤ a by omega)
        have hq : put16 l i v = (l.set i (ub (v / 256))).set (i + 1) (ub v) := by
          rw [put16, if_pos (by rw [hlen.out]; omega)]
          simp only [putK, Int.toNat_natCast]
          rw [List.set_comm _ _ (by omega)]
          simp
        rw [hq]; clear hq
        go_enter Try.func27, Try.ntmps27
        go_wp2_with (at_builtin; refine wpList_append_bs (w0 := w) _ rfl _ _ _ rfl w.heap.size 5 Try.underlying26 info_u8 none 0 0 [] rfl (own_nil _ _ _) A n c l rfl hb (Below.refl _ _) (by omega) (Nat.le_refl _) ?_; intro A1 m c1 w1 ho hB hg _; obtain rfl : m = n := (by have := ho.len; have := hlen.out; simp at *; omega); obtain ⟨g, rfl, hg1, hg2⟩ := ho.ptr (by omega); obtain ⟨d1, d2⟩ := ho.at_ (i := i) (by omega); obtain ⟨d3, d4⟩ := ho.at_ (i := i + 1) (by omega))
        have hB2 := (hB.setCell (p := ⟨g, i, none⟩) hg1 (.int .u8 (v / 256))).setCell (p := ⟨g, i + 1, none⟩) hg1 (.int .u8 (v % 256))
        have ho3 := (ho.set_ (i := i) (by omega) (v / 256) (y := v / 256) (by omega)).set_ (i := i + 1) (by omega) v rfl
        go_ret
        exact ⟨_, _, rfl, ho3, hB2⟩

theorem rput32_any (A : Option Addr) (n c : Nat) (l : List UInt8) (a v : Int) (v0 : 0 ≤ v) (v1 : v ≤ 4294967295) (w : World) (hb : Bs w A n c l) :
    Calls Try.prog 28 #[.slice A n c, .int .i64 a, .int .u32 v] w fun e w' => ∃ A' c', e = .returned (.slice A' n c') ∧ Own w' w.heap.size 5 A' n c' (put32 l a v) ∧ Below w.heap.size w w' := by
  have hmax := hb.max
  have hlen := Lib.hid hb.len
  by_cases h : a < 0 ∨ (n : Int) < 4 ∨ a > (n : Int) - 4
  · have hq : put32 l a v = l := if_neg (by rw [hlen.out]; omega)
    rw [hq]; clear hq
    have fin : Calls Try.prog 28 #[.slice A n c, .int .i64 a, .int .u32 v] w fun e w' => ∃ A' c', e = .returned (.slice A' n c') ∧ Own w' w.heap.size 5 A' n c' l ∧ Below w.heap.size w w' := by
      rcases h with h | h | h
      · go_enter Try.func28, Try.ntmps28
        go_wp2_with (at_builtin; refine wpList_append_bs (w0 := w) _ rfl _ _ _ rfl w.heap.size 5 Try.underlying26 info_u8 (some ⟨w.heap.size, 0, none⟩) 0 0 [] rfl (own_lit w _ _ [] 0 rfl (by omega) (Nat.le_refl _)) A n c l rfl (hb.alloc _) ((Below.refl _ _).alloc (Nat.le_refl _) _) (by omega) (by simp) ?_; intro A1 m c1 w1 ho hB hg _)
        obtain rfl : m = n := by have := ho.len; have := hlen.out; simp at *; omega
        go_ret
        exact ⟨_, _, rfl, ho, hB⟩
      · by_cases ha : a < 0
        · go_enter Try.func28, Try.ntmps28
          go_wp2_with (at_builtin; refine wpList_append_bs (w0 := w) _ rfl _ _ _ rfl w.heap.size 5 Try.underlying26 info_u8 (some ⟨w.heap.size, 0, none⟩) 0 0 [] rfl (own_lit w _ _ [] 0 rfl (by omega) (Nat.le_refl _)) A n c l rfl (hb.alloc _) ((Below.refl _ _).alloc (Nat.le_refl _) _) (by omega) (by simp) ?_; intro A1 m c1 w1 ho hB hg _)
          obtain rfl : m = n := by have := ho.len; have := hlen.out; simp at *; omega
          go_ret
          exact ⟨_, _, rfl, ho, hB⟩
        · go_enter Try.func28, Try.ntmps28
          go_wp2_with (at_builtin; refine wpList_append_bs (w0 := w) _ rfl _ _ _ rfl w.heap.size 5 Try.underlying26 info_u8 (some ⟨w.heap.size, 0, none⟩) 0 0 [] rfl (own_lit w _ _ [] 0 rfl (by omega) (Nat.le_refl _)) A n c l rfl (hb.alloc _) ((Below.refl _ _).alloc (Nat.le_refl _) _) (by omega) (by simp) ?_; intro A1 m c1 w1 ho hB hg _)
          obtain rfl : m = n := by have := ho.len; have := hlen.out; simp at *; omega
          go_ret
          exact ⟨_, _, rfl, ho, hB⟩
      · by_cases ha : a < 0
        · go_enter Try.func28, Try.ntmps28
          go_wp2_with (at_builtin; refine wpList_append_bs (w0 := w) _ rfl _ _ _ rfl w.heap.size 5 Try.underlying26 info_u8 (some ⟨w.heap.size, 0, none⟩) 0 0 [] rfl (own_lit w _ _ [] 0 rfl (by omega) (Nat.le_refl _)) A n c l rfl (hb.alloc _) ((Below.refl _ _).alloc (Nat.le_refl _) _) (by omega) (by simp) ?_; intro A1 m c1 w1 ho hB hg _)
          obtain rfl : m = n := by have := ho.len; have := hlen.out; simp at *; omega
          go_ret
          exact ⟨_, _, rfl, ho, hB⟩
        · by_cases hn : (n : Int) < 4
          · go_enter Try.func28, Try.ntmps28
            go_wp2_with (at_builtin; refine wpList_append_bs (w0 := w) _ rfl _ _ _ rfl w.heap.size 5 Try.underlying26 info_u8 (some ⟨w.heap.size, 0, none⟩) 0 0 [] rfl (own_lit w _ _ [] 0 rfl (by omega) (Nat.le_refl _)) A n c l rfl (hb.alloc _) ((Below.refl _ _).alloc (Nat.le_refl _) _) (by omega) (by simp) ?_; intro A1 m c1 w1 ho hB hg _)
            obtain rfl : m = n := by have := ho.len; have := hlen.out; simp at *; omega
            go_ret
            exact ⟨_, _, rfl, ho, hB⟩
          · go_enter Try.func28, Try.ntmps28
            go_wp2_with (at_builtin; refine wpList_append_bs (w0 := w) _ rfl _ _ _ rfl w.heap.size 5 Try.underlying26 info_u8 (some ⟨w.heap.size, 0, none⟩) 0 0 [] rfl (own_lit w _ _ [] 0 rfl (by omega) (Nat.le_refl _)) A n c l rfl (hb.alloc _) ((Below.refl _ _).alloc (Nat.le_refl _) _) (by omega) (by simp) ?_; intro A1 m c1 w1 ho hB hg _)
            obtain rfl : m = n := by have := ho.len; have := hlen.out; simp at *; omega
            go_ret
            exact ⟨_, _, rfl, ho, hB⟩
    exact fin
  · have hq : put32 l a v = put16 (put16 l a (v / 65536)) (a + 2) (v % 65536) := put32_halves (by omega) (by rw [hlen.out]; omega)
    rw [hq]; clear hq
    have h1 : ¬ a < 0 := by omega
    have h2 : ¬ (n : Int) < 4 := by omega
    have h3 : ¬ a > (n : Int) - 4 := by omega
    clear h
    go_enter Try.func28, Try.ntmps28
    go_wp2_with fail
    refine (rput16_any _ _ _ l a (v / 65536) (by omega) (by omega) _ hb).mono ?_
    rintro e w1 ⟨A1, c1, rfl, ho1, hB1⟩
    go_wp2_with fail
    refine (rput16_any _ _ _ _ (a + 2) (v % 65536) (by omega) (by omega) _ ho1.bs).mono ?_
    rintro e w2 ⟨A2, c2, rfl, ho2, hB2⟩
    go_wp2_with fail
    go_ret
    exact ⟨_, _, rfl, ho2.mono hB1.size, below_then hB1 hB2⟩

theorem rpseudo_any (s d p n : Int) (s0 : 0 ≤ s) (s1 : s ≤ 4294967295) (d0 : 0 ≤ d) (d1 : d ≤ 4294967295) (p0 : 0 ≤ p) (p1 : p ≤ 255) (n0 : -9223372036854775808 ≤ n) (n1 : n ≤ 9223372036854775807) (w : World) :
    Calls Try.prog 32 #[.int .u32 s, .int .u32 d, .int .u8 p, .int .i64 n] w fun e w' => ∃ A' c', e = .returned (.slice A' 12 c') ∧ Own w' w.heap.size 5 A' 12 c' (pseudo s d p n) ∧ Below w.heap.size w w' := by
  have hl : (cu [0, ub p]).toArray = #[.int .u8 0, .int .u8 p] := by simp [cu, ub_val]; omega
  have hlit : ∀ W : World, Bs (W.alloc (.cells #[.int .u8 0, .int .u8 p] 5)) (some ⟨W.heap.size, 0, none⟩) 2 2 [0, ub p] := fun W => by rw [← hl]; exact bs_lit _ 2 rfl (by omega)
  clear hl
  have HLIT := Lib.hid hlit
  clear hlit
  go_enter Try.func32, Try.ntmps32
  go_wp2_with (first
    | (go_at_call 39; ((with_reducible refine (four_any s s0 s1 w).mono ?_); rintro e w1 ⟨A1, c1, rfl, ho1, hB1⟩; have hz1 := hB1.size))
    | (at_builtin; refine wpList_append_bs (w0 := w) _ rfl _ _ _ rfl w.heap.size 5 Try.underlying26 info_u8 none 0 0 [] rfl (own_nil _ _ _) A1 4 c1 (four s) rfl ho1.bs hB1 (by omega) hz1 ?_; intro A2 m2 c2 w2 ho2 hB2 _ _; have hz2 := hB2.size; have hm2 : m2 = 4 := ho2.len.symm; subst hm2)
    | (go_at_call 39; ((with_reducible refine (four_any d d0 d1 w2).mono ?_); rintro e w3 ⟨A3, c3, rfl, ho3, hB3⟩; have hz3 := hB3.size; replace ho2 := ho2.below hB3; replace hB3 := below_then hB2 hB3))
    | (at_builtin; refine wpList_append_bs (w0 := w) _ rfl _ _ _ rfl w.heap.size 5 Try.underlying26 info_u8 A2 4 c2 (four s) rfl ho2 A3 4 c3 (four d) rfl ho3.bs hB3 (by omega) (by omega) ?_; intro A4 m4 c4 w4 ho4 hB4 _ _; have hz4 := hB4.size; have hm4 : m4 = 8 := ho4.len.symm; subst hm4)
    | (at_builtin; refine wpList_append_bs (w0 := w) _ rfl _ _ _ rfl w.heap.size 5 Try.underlying26 info_u8 A4 8 c4 (four s ++ four d) rfl (ho4.alloc _) (some ⟨w4.heap.size, 0, none⟩) 2 2 [0, ub p] rfl (HLIT.out w4) (below_alloc hB4 (Nat.le_refl _) _) (by omega) (by simp; omega) ?_; intro A5 m5 c5 w5 ho5 hB5 _ _; have hz5 := hB5.size; have hm5 : m5 = 10 := ho5.len.symm; subst hm5)
    | (go_at_call 40; refine (two_any (n % 65536) (by omega) (by omega) w5).mono ?_; rintro e w6 ⟨A6, c6, rfl, ho6, hB6⟩; have hz6 := hB6.size; replace ho5 := ho5.below hB6; replace hB6 := below_then hB5 hB6)
    | (at_builtin; refine wpList_append_bs (w0 := w) _ rfl _ _ _ rfl w.heap.size 5 Try.underlying26 info_u8 A5 10 c5 (four s ++ four d ++ [0, ub p]) rfl ho5 A6 2 c6 (two (n % 65536)) rfl ho6.bs hB6 (by omega) (by omega) ?_; intro A7 m7 c7 w7 ho7 hB7 _ _; have hm7 : m7 = 12 := ho7.len.symm; subst hm7))
  go_ret
  exact ⟨_, _, rfl, ho7, hB7⟩
end Go.Proofs.Ythbcnlflkanahaa
