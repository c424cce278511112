import Derived.Test.YtkjhickjgncheaaIp3
import Derived.Test.YtkjhickjgncheaaRef1
namespace Go.Proofs.Ytkjhickjgncheaa
open Go.RowKit
set_option linter.unusedVariables false
set_option linter.unusedSimpArgs false
set_option maxHeartbeats 8000000
set_option maxRecDepth 100000

theorem rdPost_no {w w' : World} {q : Bool} {l : List UInt8} (x : Int) (hE : rdE q l = x) (hx : x ≠ 0) (hB : Below w.heap.size w w') :
    RdPost w q l (.returned (.tuple #[.agg #[.int .u8 0, .int .u16 0, .bool false, .int .u8 0, .int .u8 0, .int .u32 0, .int .u32 0, .slice none 0 0, .slice none 0 0], .int .i64 x])) w' := by
  have hR : rdPk q l = zP := by unfold rdPk; rw [if_neg (by omega)]
  exact ⟨none, 0, 0, none, 0, 0, by rw [hR, hE]; rfl, by rw [hR]; exact Bs.none_ _, by rw [hR]; exact Bs.none_ _, fun x e => (by cases e), fun x e => (by cases e), hB⟩
/-- The reference gives up at the lengths. -/
theorem rread_len (A : Option Addr) (n c : Nat) (l : List UInt8) (q : Bool) (w : World) (hb : Bs w A n c l) (hE0 : lenE q l ≠ 0) :
    Calls Try.prog 36 #[.slice A n c, .bool q] w (RdPost w q l) := by
  have hlen := hb.len
  by_cases h20 : n < 20
  · have h1 : (n : Int) < 20 := by omega
    go_enter Try.func36, Try.ntmps36
    go_wp2_with fail
    have hE : lenE q l = 3 := by unfold lenE; rw [if_pos (by omega)]
    refine bodyPost_ret (v := .tuple #[.agg #[.int .u8 0, .int .u16 0, .bool false, .int .u8 0, .int .u8 0, .int .u32 0, .int .u32 0, .slice none 0 0, .slice none 0 0], .int .i64 3]) (by simp [results, Try.results36, go_sem]) rfl (rdPost_no 3 (by unfold rdE; rw [if_pos hE0, hE]) (by omega) (by (repeat (first | with_reducible exact Below.refl _ _ | with_reducible refine below_drew ?_ | with_reducible refine below_drewN ?_ _ | with_reducible refine below_alloc ?_ (Nat.le_refl _) _ | with_reducible refine Below.setCell ?_ (by first | exact Nat.le_refl _ | (simp only []; omega)) _ | with_reducible assumption))))
  · have h1 : ¬ (n : Int) < 20 := by omega
    obtain ⟨b, off, rfl⟩ := hb.some_ (by omega)
    have b0 := bt_lo l 0
    have b0' := bt_hi l 0
    obtain ⟨h, hh⟩ : ∃ h, hdOf l = h := ⟨_, rfl⟩
    have hh' : bt l 0 % 16 * 4 = h := by rw [← hh]; unfold hdOf; omega
    obtain ⟨g, hg⟩ : ∃ g, get16 l 2 = g := ⟨_, rfl⟩
    have g0 : 0 ≤ g := by rw [← hg]; exact get16_lo l 2
    have g1 : g ≤ 65535 := by rw [← hg]; exact get16_hi l 2
    have g2 : 0 ≤ h := by omega
    have g60 : h ≤ 60 := by omega
    have hb1 := hb.alloc (.cells #[.int .u8 0, .int .u16 0, .bool false, .int .u8 0, .int .u8 0, .int .u32 0, .int .u32 0, .slice none 0 0, .slice none 0 0] 26)
    have c0 := hb1.at_ (j := 0) (by omega)
    rw [Nat.add_zero] at c0
    have hn0 : (0 : Int) < n := by omega
    obtain ⟨x, hx⟩ : ∃ x, bt l 0 / 16 = x := ⟨_, rfl⟩
    have hR : rdE q l = lenE q l := by unfold rdE; rw [if_pos hE0]
    have HR := Lib.hid hR
    have H0 := Lib.hid hE0
    have HL := Lib.hid hlen
    clear hE0 hR
    by_cases hX : q = false ∧ (n : Int) < g
    · have HE : Hid (lenE q l = if x ≠ 4 then 6 else if h < 20 then 4 else if (n : Int) < h then 3 else if g < h then 4 else 3) := by
        unfold Hid lenE
        rw [hlen, if_neg h1, hx, hh, hg, if_pos hX]
      obtain ⟨rfl, hX⟩ := hX
      clear hlen hh
      go_enter Try.func36, Try.ntmps36
      go_wp2_with (go_at_call 47; ((with_reducible refine (rget16_any (some ⟨b, off, none⟩) n c l 2 _ hb1).mono ?_); rintro e w2 ⟨rfl, ⟨⟨d2, rfl⟩⟩⟩))
      all_goals have H1 := HE.out
      all_goals simp only [bne_iff_ne, ne_eq, bne_eq_false_iff_eq, Bool.not_eq_true', Bool.not_eq_false'] at *
      all_goals first
        | (refine bodyPost_ret (v := .tuple #[.agg #[.int .u8 0, .int .u16 0, .bool false, .int .u8 0, .int .u8 0, .int .u32 0, .int .u32 0, .slice none 0 0, .slice none 0 0], .int .i64 3]) ?_ rfl (rdPost_no 3 (HR.out.trans ?_) (by omega) ?_); (focus (simp [results, Try.results36, go_sem]; done)); (focus (rw [H1]; repeat' split; all_goals first | rfl | omega)); (repeat (first | with_reducible exact Below.refl _ _ | with_reducible refine below_drew ?_ | with_reducible refine below_drewN ?_ _ | with_reducible refine below_alloc ?_ (Nat.le_refl _) _ | with_reducible refine Below.setCell ?_ (by first | exact Nat.le_refl _ | (simp only []; omega)) _ | with_reducible assumption)))
        | (refine bodyPost_ret (v := .tuple #[.agg #[.int .u8 0, .int .u16 0, .bool false, .int .u8 0, .int .u8 0, .int .u32 0, .int .u32 0, .slice none 0 0, .slice none 0 0], .int .i64 4]) ?_ rfl (rdPost_no 4 (HR.out.trans ?_) (by omega) ?_); (focus (simp [results, Try.results36, go_sem]; done)); (focus (rw [H1]; repeat' split; all_goals first | rfl | omega)); (repeat (first | with_reducible exact Below.refl _ _ | with_reducible refine below_drew ?_ | with_reducible refine below_drewN ?_ _ | with_reducible refine below_alloc ?_ (Nat.le_refl _) _ | with_reducible refine Below.setCell ?_ (by first | exact Nat.le_refl _ | (simp only []; omega)) _ | with_reducible assumption)))
        | (refine bodyPost_ret (v := .tuple #[.agg #[.int .u8 0, .int .u16 0, .bool false, .int .u8 0, .int .u8 0, .int .u32 0, .int .u32 0, .slice none 0 0, .slice none 0 0], .int .i64 6]) ?_ rfl (rdPost_no 6 (HR.out.trans ?_) (by omega) ?_); (focus (simp [results, Try.results36, go_sem]; done)); (focus (rw [H1]; repeat' split; all_goals first | rfl | omega)); (repeat (first | with_reducible exact Below.refl _ _ | with_reducible refine below_drew ?_ | with_reducible refine below_drewN ?_ _ | with_reducible refine below_alloc ?_ (Nat.le_refl _) _ | with_reducible refine Below.setCell ?_ (by first | exact Nat.le_refl _ | (simp only []; omega)) _ | with_reducible assumption)))
        | (exfalso; apply H0.out; rw [H1]; repeat' split; all_goals first | rfl | omega)
    · have HE : Hid (lenE q l = if x ≠ 4 then 6 else if h < 20 then 4 else if (n : Int) < h then 3 else if g < h then 4 else 0) := by
        unfold Hid lenE
        rw [hlen, if_neg h1, hx, hh, hg, if_neg hX]
      clear hlen hh
      cases q with
      | true =>
        clear hX
        go_enter Try.func36, Try.ntmps36
        go_wp2_with (go_at_call 47; ((with_reducible refine (rget16_any (some ⟨b, off, none⟩) n c l 2 _ hb1).mono ?_); rintro e w2 ⟨rfl, ⟨⟨d2, rfl⟩⟩⟩))
        all_goals have H1 := HE.out
        all_goals simp only [bne_iff_ne, ne_eq, bne_eq_false_iff_eq, Bool.not_eq_true', Bool.not_eq_false'] at *
        all_goals first
          | (refine bodyPost_ret (v := .tuple #[.agg #[.int .u8 0, .int .u16 0, .bool false, .int .u8 0, .int .u8 0, .int .u32 0, .int .u32 0, .slice none 0 0, .slice none 0 0], .int .i64 3]) ?_ rfl (rdPost_no 3 (HR.out.trans ?_) (by omega) ?_); (focus (simp [results, Try.results36, go_sem]; done)); (focus (rw [H1]; repeat' split; all_goals first | rfl | omega)); (repeat (first | with_reducible exact Below.refl _ _ | with_reducible refine below_drew ?_ | with_reducible refine below_drewN ?_ _ | with_reducible refine below_alloc ?_ (Nat.le_refl _) _ | with_reducible refine Below.setCell ?_ (by first | exact Nat.le_refl _ | (simp only []; omega)) _ | with_reducible assumption)))
          | (refine bodyPost_ret (v := .tuple #[.agg #[.int .u8 0, .int .u16 0, .bool false, .int .u8 0, .int .u8 0, .int .u32 0, .int .u32 0, .slice none 0 0, .slice none 0 0], .int .i64 4]) ?_ rfl (rdPost_no 4 (HR.out.trans ?_) (by omega) ?_); (focus (simp [results, Try.results36, go_sem]; done)); (focus (rw [H1]; repeat' split; all_goals first | rfl | omega)); (repeat (first | with_reducible exact Below.refl _ _ | with_reducible refine below_drew ?_ | with_reducible refine below_drewN ?_ _ | with_reducible refine below_alloc ?_ (Nat.le_refl _) _ | with_reducible refine Below.setCell ?_ (by first | exact Nat.le_refl _ | (simp only []; omega)) _ | with_reducible assumption)))
          | (refine bodyPost_ret (v := .tuple #[.agg #[.int .u8 0, .int .u16 0, .bool false, .int .u8 0, .int .u8 0, .int .u32 0, .int .u32 0, .slice none 0 0, .slice none 0 0], .int .i64 6]) ?_ rfl (rdPost_no 6 (HR.out.trans ?_) (by omega) ?_); (focus (simp [results, Try.results36, go_sem]; done)); (focus (rw [H1]; repeat' split; all_goals first | rfl | omega)); (repeat (first | with_reducible exact Below.refl _ _ | with_reducible refine below_drew ?_ | with_reducible refine below_drewN ?_ _ | with_reducible refine below_alloc ?_ (Nat.le_refl _) _ | with_reducible refine Below.setCell ?_ (by first | exact Nat.le_refl _ | (simp only []; omega)) _ | with_reducible assumption)))
          | (exfalso; apply H0.out; rw [H1]; repeat' split; all_goals first | rfl | omega)
      | false =>
        have hX' : g ≤ (n : Int) := by
          rcases Int.lt_or_le (n : Int) g with hy | hy
          · exact absurd ⟨rfl, hy⟩ hX
          · exact hy
        clear hX
        go_enter Try.func36, Try.ntmps36
        go_wp2_with (go_at_call 47; ((with_reducible refine (rget16_any (some ⟨b, off, none⟩) n c l 2 _ hb1).mono ?_); rintro e w2 ⟨rfl, ⟨⟨d2, rfl⟩⟩⟩))
        all_goals have H1 := HE.out
        all_goals simp only [bne_iff_ne, ne_eq, bne_eq_false_iff_eq, Bool.not_eq_true', Bool.not_eq_false'] at *
        all_goals first
          | (refine bodyPost_ret (v := .tuple #[.agg #[.int .u8 0, .int .u16 0, .bool false, .int .u8 0, .int .u8 0, .int .u32 0, .int .u32 0, .slice none 0 0, .slice none 0 0], .int .i64 3]) ?_ rfl (rdPost_no 3 (HR.out.trans ?_) (by omega) ?_); (focus (simp [results, Try.results36, go_sem]; done)); (focus (rw [H1]; repeat' split; all_goals first | rfl | omega)); (repeat (first | with_reducible exact Below.refl _ _ | with_reducible refine below_drew ?_ | with_reducible refine below_drewN ?_ _ | with_reducible refine below_alloc ?_ (Nat.le_refl _) _ | with_reducible refine Below.setCell ?_ (by first | exact Nat.le_refl _ | (simp only []; omega)) _ | with_reducible assumption)))
          | (refine bodyPost_ret (v := .tuple #[.agg #[.int .u8 0, .int .u16 0, .bool false, .int .u8 0, .int .u8 0, .int .u32 0, .int .u32 0, .slice none 0 0, .slice none 0 0], .int .i64 4]) ?_ rfl (rdPost_no 4 (HR.out.trans ?_) (by omega) ?_); (focus (simp [results, Try.results36, go_sem]; done)); (focus (rw [H1]; repeat' split; all_goals first | rfl | omega)); (repeat (first | with_reducible exact Below.refl _ _ | with_reducible refine below_drew ?_ | with_reducible refine below_drewN ?_ _ | with_reducible refine below_alloc ?_ (Nat.le_refl _) _ | with_reducible refine Below.setCell ?_ (by first | exact Nat.le_refl _ | (simp only []; omega)) _ | with_reducible assumption)))
          | (refine bodyPost_ret (v := .tuple #[.agg #[.int .u8 0, .int .u16 0, .bool false, .int .u8 0, .int .u8 0, .int .u32 0, .int .u32 0, .slice none 0 0, .slice none 0 0], .int .i64 6]) ?_ rfl (rdPost_no 6 (HR.out.trans ?_) (by omega) ?_); (focus (simp [results, Try.results36, go_sem]; done)); (focus (rw [H1]; repeat' split; all_goals first | rfl | omega)); (repeat (first | with_reducible exact Below.refl _ _ | with_reducible refine below_drew ?_ | with_reducible refine below_drewN ?_ _ | with_reducible refine below_alloc ?_ (Nat.le_refl _) _ | with_reducible refine Below.setCell ?_ (by first | exact Nat.le_refl _ | (simp only []; omega)) _ | with_reducible assumption)))
          | (exfalso; apply H0.out; rw [H1]; repeat' split; all_goals first | rfl | omega)
end Go.Proofs.Ytkjhickjgncheaa
