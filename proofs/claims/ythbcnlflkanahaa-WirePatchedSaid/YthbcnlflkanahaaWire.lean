import Derived.Test.YthbcnlflkanahaaProg
import Derived.Test.YthbcnlflkanahaaBase
import Derived.KernelRfl
import Derived.WalkSpells
namespace Go.Proofs.Ythbcnlflkanahaa
open Go.RowKit
set_option linter.unusedVariables false

theorem there_yes (A : Option Addr) (n c : Nat) (a k : Int) (w : World) (h0 : 0 ≤ a) (h1 : a ≤ n) (h2 : k ≤ n - a) (hn : n ≤ 140737488355328) :
    Calls Try.prog 38 #[.slice A n c, .int .i64 a, .int .i64 k] w fun e w' => e = .returned (.bool true) ∧ w = w' := by
  go_enter Try.func38, Try.ntmps38
  go_wp2
  go_ret
  exact ⟨rfl, rfl⟩
theorem there_no (A : Option Addr) (n c : Nat) (a k : Int) (w : World) (h : ¬ (0 ≤ a ∧ a ≤ n ∧ k ≤ n - a)) (hn : n ≤ 140737488355328) :
    Calls Try.prog 38 #[.slice A n c, .int .i64 a, .int .i64 k] w fun e w' => e = .returned (.bool false) ∧ w = w' := by
  by_cases h0 : 0 ≤ a
  · by_cases h1 : a ≤ n
    · have h2 : ¬ k ≤ n - a := fun h2 => h ⟨h0, h1, h2⟩
      clear h
      go_enter Try.func38, Try.ntmps38
      go_wp2
      go_ret
      exact ⟨rfl, rfl⟩
    · clear h
      go_enter Try.func38, Try.ntmps38
      go_wp2
      go_ret
      exact ⟨rfl, rfl⟩
  · clear h
    go_enter Try.func38, Try.ntmps38
    go_wp2
    go_ret
    exact ⟨rfl, rfl⟩

theorem get16_any (A : Option Addr) (n c : Nat) (l : List UInt8) (a : Int) (w : World) (hb : Bs w A n c l) :
    Calls Try.prog 24 #[.slice A n c, .int .i64 a] w fun e w' => e = .returned (.int .u16 (get16 l a)) ∧ Drawn w w' := by
  have hmax := hb.max
  by_cases h : 0 ≤ a ∧ a ≤ n ∧ 2 ≤ (n : Int) - a
  · obtain ⟨h0, h1, h2⟩ := h
    have hq : get16 l a = _ := get16_in h0 (by rw [hb.len]; omega)
    rw [hq]; clear hq
    obtain ⟨b, off, rfl, hc⟩ := hb.rd (by omega)
    obtain ⟨i, rfl⟩ := Int.eq_ofNat_of_zero_le h0
    have c0 := hc i (by omega)
    have c1 := hc (i + 1) (by omega)
    clear hc
    have b0 := bt_lo l i
    have b0' := bt_hi l i
    have b1 := bt_lo l (i+1)
    have b1' := bt_hi l (i+1)
    have hor := or_u16 b0 b0' b1 b1'
    have j0 : (i : Int) < (n : Int) := by omega
    have j1 : (i : Int) + 1 < (n : Int) := by omega
    have j2 : 0 ≤ (i : Int) + 1 := by omega
    have j3 : ((i : Int) + 1).toNat = i + 1 := by omega
    have j4 : IntKind.i64.wrap ((i : Int) + 1) = (i : Int) + 1 := IntWalk.i64_in _ (by omega)
    clear h0 h1 h2
    go_enter Try.func24, Try.ntmps24
    go_wp2_with (go_at_call 38; refine (there_yes _ _ _ _ _ _ (by omega) (by omega) (by omega) hmax).mono ?_; rintro e w' ⟨rfl, rfl⟩)
    go_quiet (fail)
    go_wp2
    go_ret
    exact ⟨rfl, (Drawn.refl _).step _⟩
  · rw [get16_out (by rw [hb.len]; omega)]
    go_enter Try.func24, Try.ntmps24
    go_wp2_with (go_at_call 38; refine (there_no _ _ _ _ _ _ h hmax).mono ?_; rintro e w' ⟨rfl, rfl⟩)
    go_ret
    exact ⟨rfl, Drawn.refl _⟩

theorem get32_any (A : Option Addr) (n c : Nat) (l : List UInt8) (a : Int) (w : World) (hb : Bs w A n c l) :
    Calls Try.prog 26 #[.slice A n c, .int .i64 a] w fun e w' => e = .returned (.int .u32 (get32 l a)) ∧ Drawn w w' := by
  have hmax := hb.max
  by_cases h : 0 ≤ a ∧ a ≤ n ∧ 4 ≤ (n : Int) - a
  · obtain ⟨h0, h1, h2⟩ := h
    have hq : get32 l a = _ := get32_in h0 (by rw [hb.len]; omega)
    rw [hq]; clear hq
    have b0 := get16_lo l a
    have b0' := get16_hi l a
    have b1 := get16_lo l (a+2)
    have b1' := get16_hi l (a+2)
    have hor := or_u32 b0 b0' b1 b1'
    have j4 : IntKind.i64.wrap (a + 2) = a + 2 := IntWalk.i64_in _ (by omega)
    go_enter Try.func26, Try.ntmps26
    go_wp2_with (first | (go_at_call 38; refine (there_yes _ _ _ _ _ _ (by omega) (by omega) (by omega) hmax).mono ?_; rintro e w' ⟨rfl, rfl⟩) | (go_at_call 24; refine (get16_any _ _ _ l _ _ (by first | exact hb | exact hb.drewN _)).mono ?_; rintro e w' ⟨rfl, ⟨nq, rfl⟩⟩))
    go_ret
    exact ⟨rfl, by repeat (first | exact Drawn.refl _ | apply Drawn.step | apply Drawn.drew)⟩
  · rw [get32_out (by rw [hb.len]; omega)]
    go_enter Try.func26, Try.ntmps26
    go_wp2_with (go_at_call 38; refine (there_no _ _ _ _ _ _ h hmax).mono ?_; rintro e w' ⟨rfl, rfl⟩)
    go_ret
    exact ⟨rfl, Drawn.refl _⟩

theorem fold_any (n : Int) (h0 : 0 ≤ n) (h1 : n < 18446744073709551616) (w : World) :
    Calls Try.prog 34 #[.int .u64 n] w fun e w' => e = .returned (.int .u16 (fd n)) ∧ w = w' := by
  have hlo := fd_lo n
  have hhi := fd_hi n
  go_enter Try.func34, Try.ntmps34
  go_wp2
  go_loop [0] (fun v => ∃ m : Int, 0 ≤ m ∧ m < 18446744073709551616 ∧ Hid (fd m = fd n) ∧ v = .int .u64 m) (fun v => (intOf v).toNat)
  case atStart => exact ⟨n, h0, h1, rfl, rfl⟩
  case round =>
    obtain ⟨m, hm0, hm1, hm2, rfl⟩ := hrel
    by_cases hs : m / 65536 = 0
    · have hs1 : (m / 65536 != 0) = false := by simpa using hs
      have hs2 : fd m = m := fd_small hm0 (by omega)
      have HQ : Hid (fd n = m) := by rw [← hm2.out]; exact hs2
      have hm3 : m ≤ 65535 := by omega
      clear hs hs2
      go_wp2
      go_ret
      exact ⟨by rw [HQ.out]; rfl, rfl⟩
    · have hs1 : (m / 65536 != 0) = true := by simpa using hs
      have hand := and_u64_65535 hm0 hm1
      go_wp2
      go_round
      case rel => exact ⟨_, by omega, by omega, by rw [fd_step hm0]; exact hm2, rfl⟩
      case measure => simp [intOf]; omega

theorem patch_any (s a b : Int) (s0 : 0 ≤ s) (s1 : s ≤ 65535) (a0 : 0 ≤ a) (a1 : a ≤ 65535) (b0 : 0 ≤ b) (b1 : b ≤ 65535) (w : World) :
    Calls Try.prog 21 #[.int .u16 s, .int .u16 a, .int .u16 b] w fun e w' => e = .returned (.int .u16 (patch s a b)) ∧ w = w' := by
  have hsg : IntKind.u16.signed = false := rfl
  have x1 := not_u16 s0 s1
  have x2 := not_u16 a0 a1
  have x3 := not_u16 (fd_lo (65535 - s + (65535 - a) + b)) (fd_hi _)
  go_enter Try.func21, Try.ntmps21
  go_wp2_with (go_at_call 34; refine (fold_any _ (by omega) (by omega) _).mono ?_; rintro e w' ⟨rfl, rfl⟩)
  go_ret
  exact ⟨rfl, rfl⟩

theorem ahead_any (a b : Int) (a0 : 0 ≤ a) (a1 : a ≤ 4294967295) (b0 : 0 ≤ b) (b1 : b ≤ 4294967295) (w : World) :
    Calls Try.prog 13 #[.int .u32 a, .int .u32 b] w fun e w' => e = .returned (.int .i64 (ahead a b)) ∧ w = w' := by
  go_enter Try.func13, Try.ntmps13
  go_wp2
  go_ret
  exact ⟨congrArg (fun x => Ending.returned (.int .i64 x)) (ahead_eq a b), rfl⟩

theorem info_u8 : (Try.prog.info? 5).map (fun i => (i.zero, i.size, i.bytes)) = some (some (.int .u8 0), 1, 1) := by kernel_rfl
theorem cv {w : World} {A : Option Addr} {n c : Nat} {l : List UInt8} (h : Bs w A n c l) : (convert 26 9 (.slice A n c)).run Try.prog w = .ok (.string (str l)) w :=
  conv_bs Try.underlying26 Try.underlying5 Try.underlying9 h
theorem clone_any (A : Option Addr) (n c : Nat) (l : List UInt8) (w : World) (hb : Bs w A n c l) :
    Calls Try.prog 42 #[.slice A n c] w fun e w' => ∃ A' c', e = .returned (.slice A' n c') ∧ Own w' w.heap.size 5 A' n c' l ∧ Below w.heap.size w w' := by
  have hnil := fun W => Lib.run_eql_slice_nil (P := Try.prog) W 26 5 A n c 0 0 Try.underlying26
  cases A with
  | none =>
    have h0 := hb.nil rfl
    have h1 := hb.cap
    obtain rfl : c = 0 := h0
    obtain rfl : n = 0 := by omega
    obtain rfl : l = [] := List.eq_nil_of_length_eq_zero hb.len
    go_enter Try.func42, Try.ntmps42
    go_wp2
    go_ret
    exact ⟨none, 0, rfl, own_nil _ _ _, Below.refl _ _⟩
  | some ad =>
    go_enter Try.func42, Try.ntmps42
    go_wp2_with (at_builtin; refine wpList_append_bs (w0 := w) _ rfl _ _ _ rfl w.heap.size 5 Try.underlying26 info_u8 (some ⟨w.heap.size, 0, none⟩) 0 0 [] rfl (own_lit w _ _ [] 0 rfl (by omega) (Nat.le_refl _)) (some ad) n c l rfl (hb.alloc _) ((Below.refl _ _).alloc (Nat.le_refl _) _) (by have := hb.max; omega) (by simp) ?_; intro A' m c' w' ho hB hg _)
    obtain rfl : m = n := by have := ho.len; have := hb.len; simp at *; omega
    go_ret
    exact ⟨A', c', rfl, ho, hB⟩

theorem put_any (K : Nat) (hK : K ≤ 4) (A : Option Addr) (n c : Nat) (l : List UInt8) (a v : Int) (v0 : 0 ≤ v) (v1 : v ≤ 4294967295) (w : World) (hb : Bs w A n c l) :
    Calls Try.prog 37 #[.slice A n c, .int .i64 a, .int .i64 K, .int .u32 v] w fun e w' => ∃ A' c', e = .returned (.slice A' n c') ∧ Own w' w.heap.size 5 A' n c' (if 0 ≤ a ∧ a + K ≤ (l.length : Int) then putK l a.toNat K v K else l) ∧ Below w.heap.size w w' := by
  have hmax := hb.max
  have hcap := hb.cap
  have hcut : ∀ W, (Instr.slice 26 (.slice A n c) none (some (.int .i64 n)) (some (.int .i64 n))).run Try.prog W = .ok (.slice A n n) W := fun W => by
    obtain ⟨i, hi, _, hz, _⟩ := info_parts info_u8
    rw [cut_hm Try.underlying26 hi hz A n c .i64 .i64 n n (by omega) (by omega) (by omega) W]
    cases A <;> simp [Addr.add]
  have hb2 : Bs w A n n l := ⟨hb.len, Nat.le_refl _, hb.max, fun h => by have := hb.nil h; omega, hb.rd⟩
  by_cases h : 0 ≤ a ∧ a ≤ n ∧ (K : Int) ≤ (n : Int) - a
  · rw [if_pos (by rw [hb.len]; omega)]
    obtain ⟨h0, h1, h2⟩ := h
    go_enter Try.func37, Try.ntmps37
    go_wp2_with (first | (go_at_call 38; refine (there_yes _ _ _ _ _ _ h0 h1 h2 hmax).mono ?_; rintro e w' ⟨rfl, rfl⟩) | (go_at_call 42; refine (clone_any _ _ _ l _ hb2).mono ?_; rintro e w1 ⟨A1, c1, rfl, ho1, hB1⟩))
    obtain ⟨i0, rfl⟩ := Int.eq_ofNat_of_zero_le h0
    have hlen := hb.len
    go_loopw [10, 23] (fun _ k wr => ∃ j : Nat, j ≤ K ∧ k = .int .i64 j ∧ Own wr w.heap.size 5 A1 n c1 (putK l i0 K v j) ∧ Below w.heap.size w wr) (fun _ k _ => K - (intOf k).toNat)
    case atStart => exact ⟨0, by omega, rfl, ho1, hB1⟩
    case round =>
      obtain ⟨j, hj, rfl, ho, hB⟩ := hrel
      by_cases hlt : j < K
      · obtain ⟨g, rfl, hg1, hg2, hcell, hfr, hst⟩ := ho.put (i := i0 + K - 1 - j) (by omega)
        obtain ⟨ho2, hgr⟩ := hst (v / 2 ^ (8 * j))
        have e1 : ((i0 : Int) + K - 1 - j).toNat = i0 + K - 1 - j := by omega
        have e2 : 0 ≤ (i0 : Int) + K - 1 - j := by omega
        have e3 : (i0 : Int) + K - 1 - j < n := by omega
        go_wp2
        refine ⟨⟨j + 1, by omega, by go_num, ho2, hB.setCell (p := ⟨g, i0 + K - 1 - j, none⟩) hg1 _⟩, by simp [intOf]; omega⟩
      · go_wp2
        obtain rfl : j = K := by omega
        go_ret
        exact ⟨_, _, rfl, ho, hB⟩
  · rw [if_neg (by rw [hb.len]; omega)]
    go_enter Try.func37, Try.ntmps37
    go_wp2_with (first | (go_at_call 38; refine (there_no _ _ _ _ _ _ h hmax).mono ?_; rintro e w' ⟨rfl, rfl⟩) | (go_at_call 42; refine (clone_any _ _ _ l _ hb2).mono ?_; rintro e w1 ⟨A1, c1, rfl, ho1, hB1⟩))
    go_ret
    exact ⟨_, _, rfl, ho1, hB1⟩

theorem put16_any (A : Option Addr) (n c : Nat) (l : List UInt8) (a v : Int) (v0 : 0 ≤ v) (v1 : v ≤ 65535) (w : World) (hb : Bs w A n c l) :
    Calls Try.prog 23 #[.slice A n c, .int .i64 a, .int .u16 v] w fun e w' => ∃ A' c', e = .returned (.slice A' n c') ∧ Own w' w.heap.size 5 A' n c' (put16 l a v) ∧ Below w.heap.size w w' := by
  go_enter Try.func23, Try.ntmps23
  go_wp2_with (go_at_call 37; refine (put_any 2 (by omega) _ _ _ l a v v0 (by omega) _ hb).mono ?_; rintro e w1 ⟨A1, c1, rfl, ho1, hB1⟩)
  go_ret
  exact ⟨_, _, rfl, ho1, hB1⟩
theorem put32_any (A : Option Addr) (n c : Nat) (l : List UInt8) (a v : Int) (v0 : 0 ≤ v) (v1 : v ≤ 4294967295) (w : World) (hb : Bs w A n c l) :
    Calls Try.prog 25 #[.slice A n c, .int .i64 a, .int .u32 v] w fun e w' => ∃ A' c', e = .returned (.slice A' n c') ∧ Own w' w.heap.size 5 A' n c' (put32 l a v) ∧ Below w.heap.size w w' := by
  go_enter Try.func25, Try.ntmps25
  go_wp2_with (go_at_call 37; refine (put_any 4 (by omega) _ _ _ l a v v0 v1 _ hb).mono ?_; rintro e w1 ⟨A1, c1, rfl, ho1, hB1⟩)
  go_ret
  exact ⟨_, _, rfl, ho1, hB1⟩

theorem pseudo_any (s d p n : Int) (s0 : 0 ≤ s) (s1 : s ≤ 4294967295) (d0 : 0 ≤ d) (d1 : d ≤ 4294967295) (p0 : 0 ≤ p) (p1 : p ≤ 255) (n0 : -9223372036854775808 ≤ n) (n1 : n ≤ 9223372036854775807) (w : World) :
    Calls Try.prog 31 #[.int .u32 s, .int .u32 d, .int .u8 p, .int .i64 n] w fun e w' => ∃ A' c', e = .returned (.slice A' 12 c') ∧ Own w' w.heap.size 5 A' 12 c' (pseudo s d p n) ∧ Below w.heap.size w w' := by
  have hmk : ∀ W, (Instr.makeSlice 26 (.int .i64 12) (.int .i64 12)).run Try.prog W = .ok (.slice (some ⟨W.heap.size, 0, none⟩) 12 12) (W.alloc (.cells (cu (zs 12)).toArray 5)) :=
    run_make_zs (P := Try.prog) 26 5 Try.underlying26 info_u8 .i64 .i64 12 (by omega)
  go_enter Try.func31, Try.ntmps31
  go_wp2_with fail
  refine (put32_any _ _ _ (zs 12) 0 s s0 s1 _ (own_zs w w.heap.size 5 12 (by omega) (Nat.le_refl _)).bs).mono ?_
  rintro e w1 ⟨A1, c1, rfl, ho1, hB1⟩
  replace hB1 : Below w.heap.size w w1 := below_then ((Below.refl _ w).alloc (Nat.le_refl _) _) hB1
  go_wp2_with fail
  refine (put32_any _ _ _ _ 4 d d0 d1 _ ho1.bs).mono ?_
  rintro e w2 ⟨A2, c2, rfl, ho2, hB2⟩
  replace hB2 : Below w.heap.size w w2 := below_then hB1 hB2
  obtain ⟨g, rfl, hg1, hg2, hcell, hfr, hst⟩ := ho2.put (i := 9) (by omega)
  obtain ⟨ho3, hgr⟩ := hst p
  have hp : p % 256 = p := by omega
  rw [hp] at ho3 hgr
  have hB3 := hB2.setCell (p := ⟨g, 9, none⟩) (Nat.le_trans hB1.size hg1) (.int .u8 p)
  have hr := pseudo_eq s d p n
  clear hp
  go_wp2_with fail
  refine (put16_any _ _ _ _ 10 (n % 65536) (by omega) (by omega) _ ho3.bs).mono ?_
  rintro e w4 ⟨A4, c4, rfl, ho4, hB4⟩
  rw [hr] at ho4
  clear hr
  go_wp2_with fail
  go_ret
  exact ⟨_, _, rfl, ho4.mono hB3.size, below_then hB3 hB4⟩
end Go.Proofs.Ythbcnlflkanahaa
