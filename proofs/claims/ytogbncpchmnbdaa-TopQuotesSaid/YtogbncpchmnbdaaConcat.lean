/- slices.Grow of nil, slices.Concat of a few rows of bytes. -/
import Derived.Lib.AppendZeros
import Derived.Lib.AppendZerosOnto
import Derived.Test.YtogbncpchmnbdaaTight
namespace Go.Proofs.Ytogbncpchmnbdaa
open Go.RowKit
set_option linter.unusedVariables false
set_option maxRecDepth 100000
set_option linter.unusedSimpArgs false
set_option maxHeartbeats 1000000

theorem own_grown (w : World) (e : TypeId) (k : Nat) (h0 : 0 < k) (hk : k ≤ 200000000000000) :
    Own (w.drew.alloc (.cells (Builtin.zeroCells #[.int .u8 0] k ++ Builtin.zeroCells #[.int .u8 0] (grownCap w k 0 e - k)) e)) w.heap.size e (some ⟨w.heap.size, 0, none⟩) 0 (grownCap w k 0 e) [] := by
  have hge := grownCap_ge w k 0 e
  refine ⟨rfl, by omega, ⟨rfl, .inr ⟨w.heap.size, _, _, rfl, Nat.le_refl _, heap_alloc_new w.drew _, Nat.zero_le _, grownCap_le_maxLen w k 0 e (by simp only [maxLen]; omega), ?_, ?_⟩⟩⟩
  · simp [Array.size_append, size_zeroCells]; omega
  · simp [cu]
theorem grow_any (k : Nat) (hk : k ≤ 200000000000000) (w : World) :
    Calls Try.prog 70 #[.slice none 0 0, .int .i64 (k : Int)] w fun e w' => ∃ A c, e = .returned (.slice A 0 c) ∧ Own w' w.heap.size 5 A 0 c [] ∧ Below w.heap.size w w' := by
  obtain ⟨i8, hi8, hz8, hs8, hb8⟩ := info_parts info_u8
  by_cases h0 : k = 0
  · subst h0
    go_enter Try.func70, Try.ntmps70
    go_wp2_with fail
    go_ret
    exact ⟨none, 0, rfl, own_nil _ _ _, Below.refl _ _⟩
  · have hk0 : (0 : Int) < k := by omega
    have hrun := Lib.run_append_nil_zeros (P := Try.prog) w 24 3 24 5 i8 (.int .u8 0) .i64 .i64 Try.underlying24 Try.underlying3 hi8 hz8 k (by omega) (by omega) (by omega) (by rw [hb8]; omega)
    have hown := own_grown w 5 k (by omega) hk
    have hge := grownCap_ge w k 0 5
    have hB : Below w.heap.size w (w.drew.alloc (.cells (Builtin.zeroCells #[.int .u8 0] k ++ Builtin.zeroCells #[.int .u8 0] (grownCap w k 0 5 - k)) 5)) := (Below.drew (Below.refl _ w)).alloc (Nat.le_refl _) _
    simp only [Value.cells] at hrun
    generalize w.drew.alloc (.cells (Builtin.zeroCells #[.int .u8 0] k ++ Builtin.zeroCells #[.int .u8 0] (grownCap w k 0 5 - k)) 5) = w1 at hrun hown hB
    generalize grownCap w k 0 5 = cp at hrun hown hge
    have hcut : ∀ W, (Instr.slice 24 (.slice (some ⟨w.heap.size, 0, none⟩) k cp) none (some (.int .i64 0)) none).run Try.prog W = .ok (.slice (some ⟨w.heap.size, 0, none⟩) 0 cp) W := fun W => by
      rw [cut_h Try.underlying24 hi8 hs8 (some ⟨w.heap.size, 0, none⟩) k cp .i64 0 (by omega) (by omega) W]; simp [Addr.add]
    have hcut0 : ∀ W, (Instr.slice 24 (.slice none 0 0) none (some (.int .i64 0)) none).run Try.prog W = .ok (.slice none 0 0) W := fun W => by
      rw [cut_h Try.underlying24 hi8 hs8 none 0 0 .i64 0 (by omega) (by omega) W]; simp
    go_enter Try.func70, Try.ntmps70
    go_wp2_with (at_builtin; refine Lib.wpList_append_run _ rfl _ _ _ _ rfl _ _ rfl rfl _ _ hrun ?_)
    go_ret
    exact ⟨_, _, rfl, hown, hB⟩
/-- The first k of some rows one behind the other; their number. -/
def catL (L : Nat → List UInt8) : Nat → List UInt8
  | 0 => []
  | k + 1 => catL L k ++ L k
def catN (n : Nat → Nat) : Nat → Nat
  | 0 => 0
  | k + 1 => catN n k + n k
theorem catN_le {n : Nat → Nat} : ∀ {k m : Nat}, k ≤ m → catN n k ≤ catN n m
  | k, 0, h => by obtain rfl : k = 0 := by omega
                  exact Nat.le_refl _
  | k, m + 1, h => by
    by_cases e : k = m + 1
    · subst e; exact Nat.le_refl _
    · have := catN_le (n := n) (show k ≤ m by omega)
      simp only [catN]; omega
theorem concat_any (g m c : Nat) (f : Nat → Option Addr) (n : Nat → Nat) (d : Nat → Nat) (L : Nat → List UInt8) (hm : m ≤ 1000) (w : World) (hg : g < w.heap.size) (hc : ∀ j, j < m → w.cell? ⟨g, j, none⟩ = some (.slice (f j) (n j) (d j)))
    (hb : ∀ j, j < m → Bs w (f j) (n j) (d j) (L j)) (htot : catN n m ≤ 200000000000000) :
    Calls Try.prog 60 #[.slice (some ⟨g, 0, none⟩) m c] w fun e w' => ∃ A n c', e = .returned (.slice A n c') ∧ Own w' w.heap.size 5 A n c' (catL L m) ∧ Below w.heap.size w w' := by
  have hlen : ∀ k, k ≤ m → (catL L k).length = catN n k := by
    intro k
    induction k with
    | zero => intro _; rfl
    | succ k ih =>
      intro hk
      simp only [catL, catN, List.length_append]
      rw [ih (by omega), (hb k (by omega)).len]
  have HL := Lib.hid hlen
  have hmono : ∀ k, k ≤ m → catN n k ≤ catN n m := fun k hk => catN_le hk
  have HM := Lib.hid hmono
  have HN : Hid (∀ k, catN n (k + 1) = catN n k + n k) := fun _ => rfl
  have HA : Hid (∀ k, catL L (k + 1) = catL L k ++ L k) := fun _ => rfl
  clear hlen hmono
  go_enter Try.func60, Try.ntmps60
  go_wp2_with fail
  go_loop [3, 11] (fun s i => ∃ k : Nat, k ≤ m ∧ i = .int .i64 k ∧ s = .int .i64 (catN n k)) (fun _ i => m - (intOf i).toNat)
  case atStart => exact ⟨0, by omega, rfl, rfl⟩
  case round =>
    obtain ⟨k, hk, rfl, rfl⟩ := hrel
    by_cases hlt : k < m
    · have ck := hc k hlt
      have b1 := HM.out (k + 1) (by omega)
      have b2 := HN.out k
      have b3 := HM.out k (by omega)
      have hki : (k : Int) < m := by omega
      obtain ⟨s, hs⟩ : ∃ s : Nat, catN n k = s := ⟨_, rfl⟩
      obtain ⟨t, ht⟩ : ∃ t : Nat, n k = t := ⟨_, rfl⟩
      obtain ⟨u, hu⟩ : ∃ u : Nat, s + t = u := ⟨_, rfl⟩
      have hui : (s : Int) + t = u := by omega
      have hul : (u : Int) ≤ 200000000000000 := by omega
      have HU : Hid (catN n (k + 1) = u) := by unfold Hid; omega
      rw [ht] at ck
      rw [hs]
      clear b1 b2 b3 hs hu
      go_wp2_with fail
      exact ⟨⟨k + 1, by omega, by go_num, by rw [HU.out]⟩, by simp [intOf]; omega⟩
    · obtain rfl : k = m := by omega
      obtain ⟨s, hs⟩ : ∃ s : Nat, catN n k = s := ⟨_, rfl⟩
      rw [hs] at htot ⊢
      have HS := Lib.hid hs
      clear hs
      go_wp2_with (go_at_call 70; ((with_reducible refine (grow_any s (by omega) _).mono ?_); rintro e w1 ⟨A1, c1, rfl, ho1, hB1⟩))
      go_loopw [6, 27] (fun v i wr => ∃ (j : Nat) (A : Option Addr) (q cc : Nat), j ≤ k ∧ i = .int .i64 j ∧ v = .slice A q cc ∧ Own wr w.heap.size 5 A q cc (catL L j) ∧ Below w.heap.size w wr) (fun _ i _ => k - (intOf i).toNat)
      case atStart => exact ⟨0, A1, 0, c1, by omega, rfl, rfl, ho1, hB1⟩
      case round =>
        obtain ⟨j, A2, q, cc, hj, rfl, rfl, ho2, hB2⟩ := hrel
        by_cases hlt2 : j < k
        · have cj := (hB2.cell (p := ⟨g, j, none⟩) hg).trans (hc j hlt2)
          have hji : (j : Int) < k := by omega
          have q1 : q = catN n j := by rw [← ho2.len, HL.out j (by omega)]
          have q2 := HM.out (j + 1) (by omega)
          have q3 := HN.out j
          have q4 := HS.out
          have bj := (hb j hlt2).below hB2
          have hql : q + n j ≤ 200000000000000 := by omega
          clear q1 q2 q3 q4
          go_wp2_with (at_builtin; refine wpList_append_bs (w0 := w) _ rfl _ _ _ rfl w.heap.size 5 Try.underlying24 info_u8 A2 q cc _ rfl ho2 (f j) (n j) (d j) (L j) rfl bj hB2 (by omega) (by first | exact Nat.le_refl _ | exact Below.size hB2 | omega | (simp <;> omega)) ?_; intro A3 n3 c3 w3 ho3 hB3 _ hz3)
          go_roundw
          case rel => exact ⟨j + 1, A3, n3, c3, by omega, by go_num, rfl, by rw [HA.out]; exact ho3, hB3⟩
          case measure => simp [intOf]; omega
        · obtain rfl : j = k := by omega
          go_wp2
          go_ret
          exact ⟨_, _, _, rfl, ho2, hB2⟩
end Go.Proofs.Ytogbncpchmnbdaa
