import Derived.Test.YtogbncpchmnbdaaProg
import Derived.Test.YtogbncpchmnbdaaBase
import Derived.KernelRfl
import Derived.WalkSpells
namespace Go.Proofs.Ytogbncpchmnbdaa
open Go.RowKit
set_option linter.unusedVariables false

theorem there_yes (A : Option Addr) (n c : Nat) (a k : Int) (w : World) (h0 : 0 ≤ a) (h1 : a ≤ n) (h2 : k ≤ n - a) (hn : n ≤ 200000000000000) :
    Calls Try.prog 67 #[.slice A n c, .int .i64 a, .int .i64 k] w fun e w' => e = .returned (.bool true) ∧ w = w' := by
  go_enter Try.func67, Try.ntmps67
  go_wp2
  go_ret
  exact ⟨rfl, rfl⟩
theorem there_no (A : Option Addr) (n c : Nat) (a k : Int) (w : World) (h : ¬ (0 ≤ a ∧ a ≤ n ∧ k ≤ n - a)) (hn : n ≤ 200000000000000) :
    Calls Try.prog 67 #[.slice A n c, .int .i64 a, .int .i64 k] w fun e w' => e = .returned (.bool false) ∧ w = w' := by
  by_cases h0 : 0 ≤ a
  · by_cases h1 : a ≤ n
    · have h2 : ¬ k ≤ n - a := fun h2 => h ⟨h0, h1, h2⟩
      clear h
      go_enter Try.func67, Try.ntmps67
      go_wp2
      go_ret
      exact ⟨rfl, rfl⟩
    · clear h
      go_enter Try.func67, Try.ntmps67
      go_wp2
      go_ret
      exact ⟨rfl, rfl⟩
  · clear h
    go_enter Try.func67, Try.ntmps67
    go_wp2
    go_ret
    exact ⟨rfl, rfl⟩

theorem get16_any (A : Option Addr) (n c : Nat) (l : List UInt8) (a : Int) (w : World) (hb : Bs w A n c l) :
    Calls Try.prog 54 #[.slice A n c, .int .i64 a] w fun e w' => e = .returned (.int .u16 (get16 l a)) ∧ Drawn w w' := by
  have hmax := hb.max
  by_cases h : 0 ≤ a ∧ a ≤ n ∧ 2 ≤ (n : Int) - a
  · obtain ⟨h0, h1, h2⟩ := h
    have hq : get16 l a = _ := get16_in h0 (by rw [hb.len]; omega)
    rw [hq]; clear hq
    obtain ⟨b, off, rfl, hc⟩ := hb.rd (by omega)
    obtain ⟨i, rfl⟩ := Int.eq_ofNat_of_zero_le h0
    have c0 := hc i (by omega)
    have c1 := hc (i + 1) (by omega)
    clear hc
    have b0 := bt_lo l i
    have b0' := bt_hi l i
    have b1 := bt_lo l (i+1)
    have b1' := bt_hi l (i+1)
    have hor := or_u16 b0 b0' b1 b1'
    have j0 : (i : Int) < (n : Int) := by omega
    have j1 : (i : Int) + 1 < (n : Int) := by omega
    have j2 : 0 ≤ (i : Int) + 1 := by omega
    have j3 : ((i : Int) + 1).toNat = i + 1 := by omega
    have j4 : IntKind.i64.wrap ((i : Int) + 1) = (i : Int) + 1 := IntWalk.i64_in _ (by omega)
    clear h0 h1 h2
    go_enter Try.func54, Try.ntmps54
    go_wp2_with (go_at_call 67; refine (there_yes _ _ _ _ _ _ (by omega) (by omega) (by omega) hmax).mono ?_; rintro e w' ⟨rfl, rfl⟩)
    go_quiet (fail)
    go_wp2
    go_ret
    exact ⟨rfl, (Drawn.refl _).step _⟩
  · rw [get16_out (by rw [hb.len]; omega)]
    go_enter Try.func54, Try.ntmps54
    go_wp2_with (go_at_call 67; refine (there_no _ _ _ _ _ _ h hmax).mono ?_; rintro e w' ⟨rfl, rfl⟩)
    go_ret
    exact ⟨rfl, Drawn.refl _⟩

theorem get32_any (A : Option Addr) (n c : Nat) (l : List UInt8) (a : Int) (w : World) (hb : Bs w A n c l) :
    Calls Try.prog 50 #[.slice A n c, .int .i64 a] w fun e w' => e = .returned (.int .u32 (get32 l a)) ∧ Drawn w w' := by
  have hmax := hb.max
  by_cases h : 0 ≤ a ∧ a ≤ n ∧ 4 ≤ (n : Int) - a
  · obtain ⟨h0, h1, h2⟩ := h
    have hq : get32 l a = _ := get32_in h0 (by rw [hb.len]; omega)
    rw [hq]; clear hq
    have b0 := get16_lo l a
    have b0' := get16_hi l a
    have b1 := get16_lo l (a+2)
    have b1' := get16_hi l (a+2)
    have hor := or_u32 b0 b0' b1 b1'
    have j4 : IntKind.i64.wrap (a + 2) = a + 2 := IntWalk.i64_in _ (by omega)
    go_enter Try.func50, Try.ntmps50
    go_wp2_with (first | (go_at_call 67; refine (there_yes _ _ _ _ _ _ (by omega) (by omega) (by omega) hmax).mono ?_; rintro e w' ⟨rfl, rfl⟩) | (go_at_call 54; refine (get16_any _ _ _ l _ _ (by first | exact hb | exact hb.drewN _)).mono ?_; rintro e w' ⟨rfl, ⟨nq, rfl⟩⟩))
    go_ret
    exact ⟨rfl, by repeat (first | exact Drawn.refl _ | apply Drawn.step | apply Drawn.drew)⟩
  · rw [get32_out (by rw [hb.len]; omega)]
    go_enter Try.func50, Try.ntmps50
    go_wp2_with (go_at_call 67; refine (there_no _ _ _ _ _ _ h hmax).mono ?_; rintro e w' ⟨rfl, rfl⟩)
    go_ret
    exact ⟨rfl, Drawn.refl _⟩

theorem fold_any (n : Int) (h0 : 0 ≤ n) (h1 : n < 18446744073709551616) (w : World) :
    Calls Try.prog 63 #[.int .u64 n] w fun e w' => e = .returned (.int .u16 (fd n)) ∧ w = w' := by
  have hlo := fd_lo n
  have hhi := fd_hi n
  go_enter Try.func63, Try.ntmps63
  go_wp2
  go_loop [0] (fun v => ∃ m : Int, 0 ≤ m ∧ m < 18446744073709551616 ∧ Hid (fd m = fd n) ∧ v = .int .u64 m) (fun v => (intOf v).toNat)
  case atStart => exact ⟨n, h0, h1, rfl, rfl⟩
  case round =>
    obtain ⟨m, hm0, hm1, hm2, rfl⟩ := hrel
    by_cases hs : m / 65536 = 0
    · have hs1 : (m / 65536 != 0) = false := by simpa using hs
      have hs2 : fd m = m := fd_small hm0 (by omega)
      have HQ : Hid (fd n = m) := by rw [← hm2.out]; exact hs2
      have hm3 : m ≤ 65535 := by omega
      clear hs hs2
      go_wp2
      go_ret
      exact ⟨by rw [HQ.out]; rfl, rfl⟩
    · have hs1 : (m / 65536 != 0) = true := by simpa using hs
      have hand := and_u64_65535 hm0 hm1
      go_wp2
      go_round
      case rel => exact ⟨_, by omega, by omega, by rw [fd_step hm0]; exact hm2, rfl⟩
      case measure => simp [intOf]; omega

theorem info_u8 : (Try.prog.info? 5).map (fun i => (i.zero, i.size, i.bytes)) = some (some (.int .u8 0), 1, 1) := by kernel_rfl
theorem cv {w : World} {A : Option Addr} {n c : Nat} {l : List UInt8} (h : Bs w A n c l) : (convert 24 9 (.slice A n c)).run Try.prog w = .ok (.string (str l)) w :=
  conv_bs Try.underlying24 Try.underlying5 Try.underlying9 h
theorem clone_any (A : Option Addr) (n c : Nat) (l : List UInt8) (w : World) (hb : Bs w A n c l) :
    Calls Try.prog 51 #[.slice A n c] w fun e w' => ∃ A' c', e = .returned (.slice A' n c') ∧ Own w' w.heap.size 5 A' n c' l ∧ Below w.heap.size w w' := by
  have hnil := fun W => Lib.run_eql_slice_nil (P := Try.prog) W 24 5 A n c 0 0 Try.underlying24
  cases A with
  | none =>
    have h0 := hb.nil rfl
    have h1 := hb.cap
    obtain rfl : c = 0 := h0
    obtain rfl : n = 0 := by omega
    obtain rfl : l = [] := List.eq_nil_of_length_eq_zero hb.len
    go_enter Try.func51, Try.ntmps51
    go_wp2
    go_ret
    exact ⟨none, 0, rfl, own_nil _ _ _, Below.refl _ _⟩
  | some ad =>
    go_enter Try.func51, Try.ntmps51
    go_wp2_with (at_builtin; refine wpList_append_bs (w0 := w) _ rfl _ _ _ rfl w.heap.size 5 Try.underlying24 info_u8 (some ⟨w.heap.size, 0, none⟩) 0 0 [] rfl (own_lit w _ _ [] 0 rfl (by omega) (Nat.le_refl _)) (some ad) n c l rfl (hb.alloc _) ((Below.refl _ _).alloc (Nat.le_refl _) _) (by have := hb.max; omega) (by simp) ?_; intro A' m c' w' ho hB hg _)
    obtain rfl : m = n := by have := ho.len; have := hb.len; simp at *; omega
    go_ret
    exact ⟨A', c', rfl, ho, hB⟩

theorem put_any (K : Nat) (hK : K ≤ 4) (A : Option Addr) (n c : Nat) (l : List UInt8) (a v : Int) (v0 : 0 ≤ v) (v1 : v ≤ 4294967295) (w : World) (hb : Bs w A n c l) :
    Calls Try.prog 59 #[.slice A n c, .int .i64 a, .int .i64 K, .int .u32 v] w fun e w' => ∃ A' c', e = .returned (.slice A' n c') ∧ Own w' w.heap.size 5 A' n c' (if 0 ≤ a ∧ a + K ≤ (l.length : Int) then putK l a.toNat K v K else l) ∧ Below w.heap.size w w' := by
  have hmax := hb.max
  have hcap := hb.cap
  have hcut : ∀ W, (Instr.slice 24 (.slice A n c) none (some (.int .i64 n)) (some (.int .i64 n))).run Try.prog W = .ok (.slice A n n) W := fun W => by
    obtain ⟨i, hi, _, hz, _⟩ := info_parts info_u8
    rw [cut_hm Try.underlying24 hi hz A n c .i64 .i64 n n (by omega) (by omega) (by omega) W]
    cases A <;> simp [Addr.add]
  have hb2 : Bs w A n n l := ⟨hb.len, Nat.le_refl _, hb.max, fun h => by have := hb.nil h; omega, hb.rd⟩
  by_cases h : 0 ≤ a ∧ a ≤ n ∧ (K : Int) ≤ (n : Int) - a
  · rw [if_pos (by rw [hb.len]; omega)]
    obtain ⟨h0, h1, h2⟩ := h
    go_enter Try.func59, Try.ntmps59
    go_wp2_with (first | (go_at_call 67; refine (there_yes _ _ _ _ _ _ h0 h1 h2 hmax).mono ?_; rintro e w' ⟨rfl, rfl⟩) | (go_at_call 51; refine (clone_any _ _ _ l _ hb2).mono ?_; rintro e w1 ⟨A1, c1, rfl, ho1, hB1⟩))
    obtain ⟨i0, rfl⟩ := Int.eq_ofNat_of_zero_le h0
    have hlen := hb.len
    go_loopw [10, 23] (fun _ k wr => ∃ j : Nat, j ≤ K ∧ k = .int .i64 j ∧ Own wr w.heap.size 5 A1 n c1 (putK l i0 K v j) ∧ Below w.heap.size w wr) (fun _ k _ => K - (intOf k).toNat)
    case atStart => exact ⟨0, by omega, rfl, ho1, hB1⟩
    case round =>
      obtain ⟨j, hj, rfl, ho, hB⟩ := hrel
      by_cases hlt : j < K
      · obtain ⟨g, rfl, hg1, hg2, hcell, hfr, hst⟩ := ho.put (i := i0 + K - 1 - j) (by omega)
        obtain ⟨ho2, hgr⟩ := hst (v / 2 ^ (8 * j))
        have e1 : ((i0 : Int) + K - 1 - j).toNat = i0 + K - 1 - j := by omega
        have e2 : 0 ≤ (i0 : Int) + K - 1 - j := by omega
        have e3 : (i0 : Int) + K - 1 - j < n := by omega
        go_wp2
        refine ⟨⟨j + 1, by omega, by go_num, ho2, hB.setCell (p := ⟨g, i0 + K - 1 - j, none⟩) hg1 _⟩, by simp [intOf]; omega⟩
      · go_wp2
        obtain rfl : j = K := by omega
        go_ret
        exact ⟨_, _, rfl, ho, hB⟩
  · rw [if_neg (by rw [hb.len]; omega)]
    go_enter Try.func59, Try.ntmps59
    go_wp2_with (first | (go_at_call 67; refine (there_no _ _ _ _ _ _ h hmax).mono ?_; rintro e w' ⟨rfl, rfl⟩) | (go_at_call 51; refine (clone_any _ _ _ l _ hb2).mono ?_; rintro e w1 ⟨A1, c1, rfl, ho1, hB1⟩))
    go_ret
    exact ⟨_, _, rfl, ho1, hB1⟩

theorem put16_any (A : Option Addr) (n c : Nat) (l : List UInt8) (a v : Int) (v0 : 0 ≤ v) (v1 : v ≤ 65535) (w : World) (hb : Bs w A n c l) :
    Calls Try.prog 39 #[.slice A n c, .int .i64 a, .int .u16 v] w fun e w' => ∃ A' c', e = .returned (.slice A' n c') ∧ Own w' w.heap.size 5 A' n c' (put16 l a v) ∧ Below w.heap.size w w' := by
  go_enter Try.func39, Try.ntmps39
  go_wp2_with (go_at_call 59; refine (put_any 2 (by omega) _ _ _ l a v v0 (by omega) _ hb).mono ?_; rintro e w1 ⟨A1, c1, rfl, ho1, hB1⟩)
  go_ret
  exact ⟨_, _, rfl, ho1, hB1⟩
theorem put32_any (A : Option Addr) (n c : Nat) (l : List UInt8) (a v : Int) (v0 : 0 ≤ v) (v1 : v ≤ 4294967295) (w : World) (hb : Bs w A n c l) :
    Calls Try.prog 37 #[.slice A n c, .int .i64 a, .int .u32 v] w fun e w' => ∃ A' c', e = .returned (.slice A' n c') ∧ Own w' w.heap.size 5 A' n c' (put32 l a v) ∧ Below w.heap.size w w' := by
  go_enter Try.func37, Try.ntmps37
  go_wp2_with (go_at_call 59; refine (put_any 4 (by omega) _ _ _ l a v v0 v1 _ hb).mono ?_; rintro e w1 ⟨A1, c1, rfl, ho1, hB1⟩)
  go_ret
  exact ⟨_, _, rfl, ho1, hB1⟩

end Go.Proofs.Ytogbncpchmnbdaa
