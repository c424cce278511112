import Derived.Test.YtkiiaaadcfaojaaPptp8
import Derived.Test.YtkiiaaadcfaojaaPptp5
import Derived.Laws.StructEq
namespace Go.Proofs.Ytkiiaaadcfaojaa
open Go.RowKit Go.MapKept
set_option linter.unusedVariables false
set_option maxHeartbeats 1000000

theorem parse_v (A : Option Addr) (n c : Nat) (l : List UInt8) (w : World) (hb : Bs w A n c l) :
    Calls Try.prog 10 #[.slice A n c] w fun e w' => e = .returned (.tuple #[.agg #[.int .i64 (pT l), .int .u16 (pC l), .int .u16 (pP l), .int .u8 (pR l)], .int .i64 (pE l)]) ∧ Below w.heap.size w w' := parse_any A n c l w hb
theorem rparse_v (A : Option Addr) (n c : Nat) (l : List UInt8) (w : World) (hb : Bs w A n c l) :
    Calls Try.prog 11 #[.slice A n c] w fun e w' => e = .returned (.tuple #[.agg #[.int .i64 (pT l), .int .u16 (pC l), .int .u16 (pP l), .int .u8 (pR l)], .int .i64 (pE l)]) ∧ Below w.heap.size w w' := by
  by_cases h : n < 12
  · exact rparse_short A n c l w hb h
  · by_cases hh : headB l n = true ∧ n ≤ 65535
    · exact rparse_go A n c l w hb (by omega) hh
    · exact rparse_bad A n c l w hb (by omega) hh
theorem sz_call {t : Int} (h : szT t ≠ 0) (h15 : t ≠ 15) : caT t = 12 := by
  unfold szT at h
  unfold caT
  rw [if_neg h15] at h
  by_cases a8 : t = 8
  · rw [if_pos (.inr (.inl a8))]
  · by_cases a7 : t = 7
    · rw [if_pos (.inl a7)]
    · by_cases a12 : t = 12
      · rw [if_pos (.inr (.inr (.inl a12)))]
      · by_cases a13 : t = 13
        · rw [if_pos (.inr (.inr (.inr a13)))]
        · rw [if_neg a7, if_neg a8, if_neg a12, if_neg a13] at h; exact absurd rfl h
theorem pE_sz {l : List UInt8} (h : pE l = 0) : pT l = get16 l 8 ∧ szT (pT l) = l.length ∧ szT (pT l) ≠ 0 ∧ 12 ≤ l.length ∧ headB l l.length = true ∧ l.length ≤ 65535 := by
  have hT : pT l = get16 l 8 := by unfold pT; rw [if_pos h]
  rw [hT]
  unfold pE at h
  split at h
  · cases h
  · rename_i h12
    split at h
    · rename_i hh
      split at h
      · cases h
      · rename_i h1
        split at h
        · rename_i h2
          exact ⟨rfl, h2, h1, by omega, hh.1, hh.2⟩
        · cases h
    · cases h

theorem rwithCall_any (A : Option Addr) (n c : Nat) (l : List UInt8) (v : Int) (v0 : 0 ≤ v) (v1 : v ≤ 65535) (w : World) (hb : Bs w A n c l) :
    Calls Try.prog 16 #[.slice A n c, .int .u16 v] w fun e w' => ∃ A' c', e = .returned (.slice A' n c') ∧ Own w' w.heap.size 5 A' n c' (wAt caT l v) ∧ Below w.heap.size w w' := by
  obtain ⟨T, hT⟩ : ∃ T, pT l = T := ⟨_, rfl⟩
  obtain ⟨E, hE⟩ : ∃ E, pE l = E := ⟨_, rfl⟩
  have hmax := hb.max
  have hl : (cu []).toArray = #[] := rfl
  by_cases e1 : E = 0
  · have e2 : (E != 0) = false := by simp [e1]
    by_cases e3 : T = 15
    · have e4 : (T == 15) = true := by simp [e3]
      have HR : Hid (wAt caT l v = l) := by
        unfold Hid wAt
        rw [if_neg]
        intro h
        apply h.2
        rw [hT, e3]
        rfl
      clear e1 e3
      rw [HR.out]
      go_enter Try.func16, Try.ntmps16
      go_wp2_with (first
        | (go_at_call 11; ((with_reducible refine (rparse_v A n c l w hb).mono ?_); rintro e w1 ⟨rfl, hB1⟩); have b1 := hb.below hB1; have z1 : w.heap.size ≤ w1.heap.size := hB1.size)
        | (at_builtin; go_loud (refine wpList_append_bs (w0 := w) _ rfl _ _ _ rfl w.heap.size 5 Try.underlying22 info_u8 (some ⟨_, 0, none⟩) 0 0 [] rfl (own_litk _ _ (by simp) w.heap.size 5 [] 0 rfl (by omega) (by omega)) A n c l rfl ((b1.alloc _).alloc _) (by (repeat (first | with_reducible exact Below.refl _ _ | with_reducible refine below_drew ?_ | with_reducible refine below_drewN ?_ _ | with_reducible refine below_alloc ?_ (Nat.le_refl _) _ | with_reducible refine Below.setCell ?_ (by first | exact Nat.le_refl _ | (simp only []; omega)) _ | with_reducible assumption))) (by omega) (by first | exact Nat.le_refl _ | omega | (simp <;> omega)) ?_); intro A3 n3 c3 w3 ho3 hB3 _ hz3; have u3 : n3 = n := (by have := ho3.len; have := hb.len; simp at *; omega); subst u3))
      go_ret
      exact ⟨_, _, rfl, ho3, hB3⟩
    · have e4 : (T == 15) = false := by simpa using e3
      have HR : Hid (wAt caT l v = put16 l 12 v) := by
        unfold Hid wAt
        have h0 := pE_sz (hE.trans e1)
        rw [sz_call h0.2.2.1 (by rw [hT]; exact e3), if_pos ⟨hE.trans e1, by omega⟩]
      clear e1 e3
      rw [HR.out]
      go_enter Try.func16, Try.ntmps16
      go_wp2_with (first
        | (go_at_call 11; ((with_reducible refine (rparse_v A n c l w hb).mono ?_); rintro e w1 ⟨rfl, hB1⟩); have b1 := hb.below hB1; have z1 : w.heap.size ≤ w1.heap.size := hB1.size)
        | (go_at_call 28; ((with_reducible refine (rput16_any A n c l 12 v v0 v1 _ (b1.alloc _)).mono ?_); rintro e w3 ⟨A3, c3, rfl, ho3, hB3⟩)))
      go_ret
      exact ⟨_, _, rfl, ho3.mono (by have := hB1.size; simp; omega), below_then (below_alloc hB1 (Nat.le_refl _) _) hB3⟩
  · have e2 : (E != 0) = true := by simpa using e1
    have HR : Hid (wAt caT l v = l) := by
      unfold Hid wAt
      rw [if_neg]
      intro h
      exact e1 (hE.symm.trans h.1)
    clear e1
    rw [HR.out]
    go_enter Try.func16, Try.ntmps16
    go_wp2_with (first
      | (go_at_call 11; ((with_reducible refine (rparse_v A n c l w hb).mono ?_); rintro e w1 ⟨rfl, hB1⟩); have b1 := hb.below hB1; have z1 : w.heap.size ≤ w1.heap.size := hB1.size)
      | (at_builtin; go_loud (refine wpList_append_bs (w0 := w) _ rfl _ _ _ rfl w.heap.size 5 Try.underlying22 info_u8 (some ⟨_, 0, none⟩) 0 0 [] rfl (own_litk _ _ (by simp) w.heap.size 5 [] 0 rfl (by omega) (by omega)) A n c l rfl ((b1.alloc _).alloc _) (by (repeat (first | with_reducible exact Below.refl _ _ | with_reducible refine below_drew ?_ | with_reducible refine below_drewN ?_ _ | with_reducible refine below_alloc ?_ (Nat.le_refl _) _ | with_reducible refine Below.setCell ?_ (by first | exact Nat.le_refl _ | (simp only []; omega)) _ | with_reducible assumption))) (by omega) (by first | exact Nat.le_refl _ | omega | (simp <;> omega)) ?_); intro A3 n3 c3 w3 ho3 hB3 _ hz3; have u3 : n3 = n := (by have := ho3.len; have := hb.len; simp at *; omega); subst u3))
    go_ret
    exact ⟨_, _, rfl, ho3, hB3⟩

theorem rwithPeer_any (A : Option Addr) (n c : Nat) (l : List UInt8) (v : Int) (v0 : 0 ≤ v) (v1 : v ≤ 65535) (w : World) (hb : Bs w A n c l) :
    Calls Try.prog 18 #[.slice A n c, .int .u16 v] w fun e w' => ∃ A' c', e = .returned (.slice A' n c') ∧ Own w' w.heap.size 5 A' n c' (wAt peT l v) ∧ Below w.heap.size w w' := by
  obtain ⟨T, hT⟩ : ∃ T, pT l = T := ⟨_, rfl⟩
  obtain ⟨E, hE⟩ : ∃ E, pE l = E := ⟨_, rfl⟩
  have hmax := hb.max
  have hl : (cu []).toArray = #[] := rfl
  by_cases e1 : E = 0
  · have e2 : (E == 0) = true := by simp [e1]
    by_cases e8 : T = 8
    · have e4 : (T == 8) = true := by simp [e8]
      have HR : Hid (wAt peT l v = put16 l 14 v) := by
        unfold Hid wAt
        rw [hT, e8, if_pos ⟨hE.trans e1, by decide⟩]
        rfl
      clear e1 e8
      rw [HR.out]
      go_enter Try.func18, Try.ntmps18
      go_wp2_with (first
        | (go_at_call 11; ((with_reducible refine (rparse_v A n c l w hb).mono ?_); rintro e w1 ⟨rfl, hB1⟩); have b1 := hb.below hB1; have z1 : w.heap.size ≤ w1.heap.size := hB1.size)
        | (go_at_call 28; ((with_reducible refine (rput16_any A n c l 14 v v0 v1 _ (b1.alloc _)).mono ?_); rintro e w3 ⟨A3, c3, rfl, ho3, hB3⟩)))
      go_ret
      exact ⟨_, _, rfl, ho3.mono (by have := hB1.size; simp; omega), below_then (below_alloc hB1 (Nat.le_refl _) _) hB3⟩
    · have e5 : (T == 8) = false := by simpa using e8
      by_cases e15 : T = 15
      · have e4 : (T == 15) = true := by simp [e15]
        have HR : Hid (wAt peT l v = put16 l 12 v) := by
          unfold Hid wAt
          rw [hT, e15, if_pos ⟨hE.trans e1, by decide⟩]
          rfl
        clear e1 e8 e15
        rw [HR.out]
        go_enter Try.func18, Try.ntmps18
        go_wp2_with (first
          | (go_at_call 11; ((with_reducible refine (rparse_v A n c l w hb).mono ?_); rintro e w1 ⟨rfl, hB1⟩); have b1 := hb.below hB1; have z1 : w.heap.size ≤ w1.heap.size := hB1.size)
          | (go_at_call 28; ((with_reducible refine (rput16_any A n c l 12 v v0 v1 _ (b1.alloc _)).mono ?_); rintro e w3 ⟨A3, c3, rfl, ho3, hB3⟩)))
        go_ret
        exact ⟨_, _, rfl, ho3.mono (by have := hB1.size; simp; omega), below_then (below_alloc hB1 (Nat.le_refl _) _) hB3⟩
      · have e4 : (T == 15) = false := by simpa using e15
        have HR : Hid (wAt peT l v = l) := by
          unfold Hid wAt
          rw [if_neg]
          intro h
          apply h.2
          rw [hT]
          unfold peT
          rw [if_neg e8, if_neg e15]
        clear e1 e8 e15
        rw [HR.out]
        go_enter Try.func18, Try.ntmps18
        go_wp2_with (first
          | (go_at_call 11; ((with_reducible refine (rparse_v A n c l w hb).mono ?_); rintro e w1 ⟨rfl, hB1⟩); have b1 := hb.below hB1; have z1 : w.heap.size ≤ w1.heap.size := hB1.size)
          | (at_builtin; go_loud (refine wpList_append_bs (w0 := w) _ rfl _ _ _ rfl w.heap.size 5 Try.underlying22 info_u8 (some ⟨_, 0, none⟩) 0 0 [] rfl (own_litk _ _ (by simp) w.heap.size 5 [] 0 rfl (by omega) (by omega)) A n c l rfl ((b1.alloc _).alloc _) (by (repeat (first | with_reducible exact Below.refl _ _ | with_reducible refine below_drew ?_ | with_reducible refine below_drewN ?_ _ | with_reducible refine below_alloc ?_ (Nat.le_refl _) _ | with_reducible refine Below.setCell ?_ (by first | exact Nat.le_refl _ | (simp only []; omega)) _ | with_reducible assumption))) (by omega) (by first | exact Nat.le_refl _ | omega | (simp <;> omega)) ?_); intro A3 n3 c3 w3 ho3 hB3 _ hz3; have u3 : n3 = n := (by have := ho3.len; have := hb.len; simp at *; omega); subst u3))
        go_ret
        exact ⟨_, _, rfl, ho3, hB3⟩
  · have e2 : (E == 0) = false := by simpa using e1
    have HR : Hid (wAt peT l v = l) := by
      unfold Hid wAt
      rw [if_neg]
      intro h
      exact e1 (hE.symm.trans h.1)
    clear e1
    rw [HR.out]
    go_enter Try.func18, Try.ntmps18
    go_wp2_with (first
      | (go_at_call 11; ((with_reducible refine (rparse_v A n c l w hb).mono ?_); rintro e w1 ⟨rfl, hB1⟩); have b1 := hb.below hB1; have z1 : w.heap.size ≤ w1.heap.size := hB1.size)
      | (at_builtin; go_loud (refine wpList_append_bs (w0 := w) _ rfl _ _ _ rfl w.heap.size 5 Try.underlying22 info_u8 (some ⟨_, 0, none⟩) 0 0 [] rfl (own_litk _ _ (by simp) w.heap.size 5 [] 0 rfl (by omega) (by omega)) A n c l rfl ((b1.alloc _).alloc _) (by (repeat (first | with_reducible exact Below.refl _ _ | with_reducible refine below_drew ?_ | with_reducible refine below_drewN ?_ _ | with_reducible refine below_alloc ?_ (Nat.le_refl _) _ | with_reducible refine Below.setCell ?_ (by first | exact Nat.le_refl _ | (simp only []; omega)) _ | with_reducible assumption))) (by omega) (by first | exact Nat.le_refl _ | omega | (simp <;> omega)) ?_); intro A3 n3 c3 w3 ho3 hB3 _ hz3; have u3 : n3 = n := (by have := ho3.len; have := hb.len; simp at *; omega); subst u3))
    go_ret
    exact ⟨_, _, rfl, ho3, hB3⟩
def clearL (v : Int) : List UInt8 := [0, 16, 0, 1, 26, 43, 60, 77, 0, 12, 0, 0, ub (v / 256), ub v, 0, 0]
theorem clearOf_any (v : Int) (v0 : 0 ≤ v) (v1 : v ≤ 65535) (w : World) :
    Calls Try.prog 14 #[.int .u16 v] w fun e w' => ∃ A c, e = .returned (.slice A 16 c) ∧ Bs w' A 16 c (clearL v) ∧ Below w.heap.size w w' := by
  have h1 : Bs (w.alloc (.cells (cu (clearL v)).toArray 5)) (some ⟨w.heap.size, 0, none⟩) 16 16 (clearL v) := bs_lit (clearL v) 16 rfl (by omega)
  have hc : (cu (clearL v)).toArray = #[.int .u8 0, .int .u8 16, .int .u8 0, .int .u8 1, .int .u8 26, .int .u8 43, .int .u8 60, .int .u8 77, .int .u8 0, .int .u8 12, .int .u8 0, .int .u8 0, .int .u8 (v / 256 % 256), .int .u8 (v % 256), .int .u8 0, .int .u8 0] := by
    unfold clearL cu
    simp only [List.map_cons, List.map_nil, ub_val]
    rfl
  have e1 : v / 256 % 256 = v / 256 := by omega
  rw [hc, e1] at h1
  clear hc e1
  go_enter Try.func14, Try.ntmps14
  go_wp2_with fail
  go_ret
  exact ⟨_, _, rfl, h1, (Below.refl _ _).alloc (Nat.le_refl _) _⟩
theorem live15_any (w : World) : Calls Try.prog 12 #[] w fun e w' => e = .returned (.bool true) ∧ Below w.heap.size w w' := by
  have e1 : pE (clearL 7) = 0 := by decide
  have e2 : pT (clearL 7) = 12 := by decide
  have e3 : pC (clearL 7) = 7 := by decide
  have e4 : pP (clearL 7) = 0 := by decide
  have e5 : pR (clearL 7) = 0 := by decide
  have e6 : szT 8 = 32 := rfl
  go_enter Try.func12, Try.ntmps12
  go_wp2_with (first
    | (go_at_call 14; ((with_reducible refine (clearOf_any 7 (by omega) (by omega) _).mono ?_); rintro e w1 ⟨A1, c1, rfl, hb1, hB1⟩))
    | (go_at_call 10; ((with_reducible refine (parse_v A1 16 c1 (clearL 7) w1 hb1).mono ?_); rintro e w2 ⟨rfl, hB2⟩); have T2 := below_then hB1 hB2)
    | (go_at_call 13; ((with_reducible refine (size_any 8 _).mono ?_); rintro e w3 ⟨rfl, hB3⟩); have T3 := below_then (below_alloc T2 (Nat.le_refl _) _) hB3))
  go_ret
  exact ⟨rfl, T3⟩
end Go.Proofs.Ytkiiaaadcfaojaa
