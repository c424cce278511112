import Derived.Test.YtkiiaaadcfaojaaPptp4
namespace Go.Proofs.Ytkiiaaadcfaojaa
open Go.RowKit Go.MapKept
set_option linter.unusedVariables false
set_option linter.unusedSimpArgs false
set_option maxHeartbeats 1000000

theorem isM_out {v : Value} {w : World} (h : isM w v) : ∃ r, v = .map (some r) ∧ w.heap[r]? = some (.map (lays 5) 5) := h
theorem ret_isM {w : World} : ∃ v, Ending.returned (.map (some w.heap.size)) = .returned v ∧ (Kd.p isM).holds (w.alloc (.map (lays 5) 5)) v ∧ Below w.heap.size w (w.alloc (.map (lays 5) 5)) :=
  ⟨_, rfl, ⟨_, rfl, (heap_alloc w _).1⟩, (Below.refl _ _).alloc (Nat.le_refl _) _⟩
/-- Bytes with a call at a place of their type's. -/
def wAt (f : Int → Int) (l : List UInt8) (v : Int) : List UInt8 := if pE l = 0 ∧ f (pT l) ≠ 0 then put16 l (f (pT l)) v else l

theorem withC_any (A : Option Addr) (n c : Nat) (l : List UInt8) (v : Int) (v0 : 0 ≤ v) (v1 : v ≤ 65535) (w : World) (hb : Bs w A n c l) :
    Calls Try.prog 26 #[.slice A n c, .int .u16 v, .func (.func 27) #[] #[]] w fun e w' => ∃ A' c', e = .returned (.slice A' n c') ∧ Own w' w.heap.size 5 A' n c' (wAt caT l v) ∧ Below w.heap.size w w' := by
  obtain ⟨p, hp⟩ : ∃ p, caT (pT l) = p := ⟨_, rfl⟩
  obtain ⟨T, hT'⟩ : ∃ T, pT l = T := ⟨_, rfl⟩
  obtain ⟨E, hE⟩ : ∃ E, pE l = E := ⟨_, rfl⟩
  have hW : wAt caT l v = if E = 0 ∧ p ≠ 0 then put16 l p v else l := by unfold wAt; rw [hp, hE]
  rw [hW]
  obtain ⟨R, hR⟩ : ∃ R, (if E = 0 ∧ p ≠ 0 then put16 l p v else l) = R := ⟨_, rfl⟩
  rw [hR]
  have HR0 := Lib.hid hR
  clear hR
  rw [hT'] at hp
  have HT := Lib.hid hT'
  have hM : pM l = .agg #[.int .i64 T, .int .u16 (pC l), .int .u16 (pP l), .int .u8 (pR l)] := by unfold pM; rw [hT']
  clear hW hT'
  go_enter Try.func26, Try.ntmps26
  go_wp2_with (go_at_call 10; ((with_reducible refine (parse_any A n c l w hb).mono ?_); rintro e w1 ⟨rfl, hB1⟩))
  obtain ⟨w2, hw2⟩ : ∃ w2, w1.alloc (.cells #[.int .i64 T, .int .u16 (pC l), .int .u16 (pP l), .int .u8 (pR l)] 25) = w2 := ⟨_, rfl⟩
  have hc : w2.cell? ⟨w1.heap.size, 0, none⟩ = some (.int .i64 T) := by rw [← hw2]; simp [World.cell?_alloc_new]
  have hlt : w1.heap.size < w2.heap.size := by rw [← hw2]; simp
  have hB2 : Below w.heap.size w w2 := by rw [← hw2]; exact below_alloc hB1 (Nat.le_refl _) _
  rw [hw2]
  clear hw2 hM hE
  have HL := Lib.hid hlt
  have HC := Lib.hid hc
  clear hlt hc
  refine region_txt 7 (by kernel_rfl) (by kernel_rfl) ?_; (repeat (first | (apply ObsK.skip (by rfl)) | (apply ObsK.v (by rfl); (intro wo hT; (repeat (first | (intro v hv; (obtain ⟨r, rfl, hm⟩ := hv; have hlk := run_lay hm)) | (intro _ _ k; try have hcv := cv k))); (have c0 : wo.cell? ⟨w1.heap.size, 0, none⟩ = some (.int .i64 T) := (hT.cell (by exact HL.out)).trans HC.out); refine Goes.mk ?_; go_simp; first | exact goes_v | exact goes_b (by assumption) | (refine goes_enter ?_; first | (go_at_call 22; ((with_reducible refine (layouts_any wo).mono ?_); rintro e w8 ⟨rfl, rfl⟩); exact ret_isM) | (go_at_call 27; ((with_reducible refine (placeC_any _ _ _ _ wo).mono ?_); rintro e w8 ⟨rfl, hB8⟩); exact ret_v hB8)))) | (apply ObsK.b (by rfl); (intro wo hT; (repeat (first | (intro v hv; (obtain ⟨r, rfl, hm⟩ := hv; have hlk := run_lay hm)) | (intro _ _ k; try have hcv := cv k))); (have c0 : wo.cell? ⟨w1.heap.size, 0, none⟩ = some (.int .i64 T) := (hT.cell (by exact HL.out)).trans HC.out); refine Goes.mk ?_; go_simp; first | exact goes_v | exact goes_b (by assumption) | (refine goes_enter ?_; first | (go_at_call 22; ((with_reducible refine (layouts_any wo).mono ?_); rintro e w8 ⟨rfl, rfl⟩); exact ret_isM) | (go_at_call 27; ((with_reducible refine (placeC_any _ _ _ _ wo).mono ?_); rintro e w8 ⟨rfl, hB8⟩); exact ret_v hB8)))) | (apply ObsK.p (q := isM) (by rfl) st_isM; (intro wo hT; (repeat (first | (intro v hv; (obtain ⟨r, rfl, hm⟩ := hv; have hlk := run_lay hm)) | (intro _ _ k; try have hcv := cv k))); (have c0 : wo.cell? ⟨w1.heap.size, 0, none⟩ = some (.int .i64 T) := (hT.cell (by exact HL.out)).trans HC.out); refine Goes.mk ?_; go_simp; first | exact goes_v | exact goes_b (by assumption) | (refine goes_enter ?_; first | (go_at_call 22; ((with_reducible refine (layouts_any wo).mono ?_); rintro e w8 ⟨rfl, rfl⟩); exact ret_isM) | (go_at_call 27; ((with_reducible refine (placeC_any _ _ _ _ wo).mono ?_); rintro e w8 ⟨rfl, hB8⟩); exact ret_v hB8)))))); refine ObsK.nil ?_; intro wz hBz; simp only [finOn, List.drop_succ_cons, List.drop_zero, List.drop_nil]
  intro vz hvz
  have bz := (hb.below hB2).below hBz
  have hTz := below_then hB2 hBz
  by_cases e1 : E = 0
  · have e2 : (E != 0) = false := by simp [e1]
    by_cases e3 : p = 0
    · have e4 : (p == 0) = true := by simp [e3]
      have HR : Hid (R = l) := HR0.out.symm.trans (if_neg (fun h : E = 0 ∧ p ≠ 0 => h.2 e3))
      clear HR0
      clear e1 e3
      go_wp2_with (go_at_call 31; ((with_reducible refine (clone_any A n c l wz bz).mono ?_); rintro e w9 ⟨A9, c9, rfl, ho9, hB9⟩))
      go_ret
      rw [HR.out]
      exact ⟨_, _, rfl, ho9.mono hTz.size, below_then hTz hB9⟩
    · have e4 : (p == 0) = false := by simpa using e3
      have HR : Hid (R = put16 l p v) := HR0.out.symm.trans (if_pos ⟨e1, e3⟩)
      clear HR0
      clear e1 e3
      go_wp2_with (go_at_call 32; ((with_reducible refine (put16_any A n c l p v v0 v1 wz bz).mono ?_); rintro e w9 ⟨A9, c9, rfl, ho9, hB9⟩))
      go_ret
      rw [HR.out]
      exact ⟨_, _, rfl, ho9.mono hTz.size, below_then hTz hB9⟩
  · have e2 : (E != 0) = true := by simpa using e1
    have HR : Hid (R = l) := HR0.out.symm.trans (if_neg (fun h : E = 0 ∧ p ≠ 0 => e1 h.1))
    clear HR0
    clear e1
    go_wp2_with (go_at_call 31; ((with_reducible refine (clone_any A n c l wz bz).mono ?_); rintro e w9 ⟨A9, c9, rfl, ho9, hB9⟩))
    go_ret
    rw [HR.out]
    exact ⟨_, _, rfl, ho9.mono hTz.size, below_then hTz hB9⟩
theorem withP_any (A : Option Addr) (n c : Nat) (l : List UInt8) (v : Int) (v0 : 0 ≤ v) (v1 : v ≤ 65535) (w : World) (hb : Bs w A n c l) :
    Calls Try.prog 26 #[.slice A n c, .int .u16 v, .func (.func 29) #[] #[]] w fun e w' => ∃ A' c', e = .returned (.slice A' n c') ∧ Own w' w.heap.size 5 A' n c' (wAt peT l v) ∧ Below w.heap.size w w' := by
  obtain ⟨p, hp⟩ : ∃ p, peT (pT l) = p := ⟨_, rfl⟩
  obtain ⟨T, hT'⟩ : ∃ T, pT l = T := ⟨_, rfl⟩
  obtain ⟨E, hE⟩ : ∃ E, pE l = E := ⟨_, rfl⟩
  have hW : wAt peT l v = if E = 0 ∧ p ≠ 0 then put16 l p v else l := by unfold wAt; rw [hp, hE]
  rw [hW]
  obtain ⟨R, hR⟩ : ∃ R, (if E = 0 ∧ p ≠ 0 then put16 l p v else l) = R := ⟨_, rfl⟩
  rw [hR]
  have HR0 := Lib.hid hR
  clear hR
  rw [hT'] at hp
  have HT := Lib.hid hT'
  have hM : pM l = .agg #[.int .i64 T, .int .u16 (pC l), .int .u16 (pP l), .int .u8 (pR l)] := by unfold pM; rw [hT']
  clear hW hT'
  go_enter Try.func26, Try.ntmps26
  go_wp2_with (go_at_call 10; ((with_reducible refine (parse_any A n c l w hb).mono ?_); rintro e w1 ⟨rfl, hB1⟩))
  obtain ⟨w2, hw2⟩ : ∃ w2, w1.alloc (.cells #[.int .i64 T, .int .u16 (pC l), .int .u16 (pP l), .int .u8 (pR l)] 25) = w2 := ⟨_, rfl⟩
  have hc : w2.cell? ⟨w1.heap.size, 0, none⟩ = some (.int .i64 T) := by rw [← hw2]; simp [World.cell?_alloc_new]
  have hlt : w1.heap.size < w2.heap.size := by rw [← hw2]; simp
  have hB2 : Below w.heap.size w w2 := by rw [← hw2]; exact below_alloc hB1 (Nat.le_refl _) _
  rw [hw2]
  clear hw2 hM hE
  have HL := Lib.hid hlt
  have HC := Lib.hid hc
  clear hlt hc
  refine region_txt 7 (by kernel_rfl) (by kernel_rfl) ?_; (repeat (first | (apply ObsK.skip (by rfl)) | (apply ObsK.v (by rfl); (intro wo hT; (repeat (first | (intro v hv; (obtain ⟨r, rfl, hm⟩ := hv; have hlk := run_lay hm)) | (intro _ _ k; try have hcv := cv k))); (have c0 : wo.cell? ⟨w1.heap.size, 0, none⟩ = some (.int .i64 T) := (hT.cell (by exact HL.out)).trans HC.out); refine Goes.mk ?_; go_simp; first | exact goes_v | exact goes_b (by assumption) | (refine goes_enter ?_; first | (go_at_call 22; ((with_reducible refine (layouts_any wo).mono ?_); rintro e w8 ⟨rfl, rfl⟩); exact ret_isM) | (go_at_call 29; ((with_reducible refine (placeP_any _ _ _ _ wo).mono ?_); rintro e w8 ⟨rfl, hB8⟩); exact ret_v hB8)))) | (apply ObsK.b (by rfl); (intro wo hT; (repeat (first | (intro v hv; (obtain ⟨r, rfl, hm⟩ := hv; have hlk := run_lay hm)) | (intro _ _ k; try have hcv := cv k))); (have c0 : wo.cell? ⟨w1.heap.size, 0, none⟩ = some (.int .i64 T) := (hT.cell (by exact HL.out)).trans HC.out); refine Goes.mk ?_; go_simp; first | exact goes_v | exact goes_b (by assumption) | (refine goes_enter ?_; first | (go_at_call 22; ((with_reducible refine (layouts_any wo).mono ?_); rintro e w8 ⟨rfl, rfl⟩); exact ret_isM) | (go_at_call 29; ((with_reducible refine (placeP_any _ _ _ _ wo).mono ?_); rintro e w8 ⟨rfl, hB8⟩); exact ret_v hB8)))) | (apply ObsK.p (q := isM) (by rfl) st_isM; (intro wo hT; (repeat (first | (intro v hv; (obtain ⟨r, rfl, hm⟩ := hv; have hlk := run_lay hm)) | (intro _ _ k; try have hcv := cv k))); (have c0 : wo.cell? ⟨w1.heap.size, 0, none⟩ = some (.int .i64 T) := (hT.cell (by exact HL.out)).trans HC.out); refine Goes.mk ?_; go_simp; first | exact goes_v | exact goes_b (by assumption) | (refine goes_enter ?_; first | (go_at_call 22; ((with_reducible refine (layouts_any wo).mono ?_); rintro e w8 ⟨rfl, rfl⟩); exact ret_isM) | (go_at_call 29; ((with_reducible refine (placeP_any _ _ _ _ wo).mono ?_); rintro e w8 ⟨rfl, hB8⟩); exact ret_v hB8)))))); refine ObsK.nil ?_; intro wz hBz; simp only [finOn, List.drop_succ_cons, List.drop_zero, List.drop_nil]
  intro vz hvz
  have bz := (hb.below hB2).below hBz
  have hTz := below_then hB2 hBz
  by_cases e1 : E = 0
  · have e2 : (E != 0) = false := by simp [e1]
    by_cases e3 : p = 0
    · have e4 : (p == 0) = true := by simp [e3]
      have HR : Hid (R = l) := HR0.out.symm.trans (if_neg (fun h : E = 0 ∧ p ≠ 0 => h.2 e3))
      clear HR0
      clear e1 e3
      go_wp2_with (go_at_call 31; ((with_reducible refine (clone_any A n c l wz bz).mono ?_); rintro e w9 ⟨A9, c9, rfl, ho9, hB9⟩))
      go_ret
      rw [HR.out]
      exact ⟨_, _, rfl, ho9.mono hTz.size, below_then hTz hB9⟩
    · have e4 : (p == 0) = false := by simpa using e3
      have HR : Hid (R = put16 l p v) := HR0.out.symm.trans (if_pos ⟨e1, e3⟩)
      clear HR0
      clear e1 e3
      go_wp2_with (go_at_call 32; ((with_reducible refine (put16_any A n c l p v v0 v1 wz bz).mono ?_); rintro e w9 ⟨A9, c9, rfl, ho9, hB9⟩))
      go_ret
      rw [HR.out]
      exact ⟨_, _, rfl, ho9.mono hTz.size, below_then hTz hB9⟩
  · have e2 : (E != 0) = true := by simpa using e1
    have HR : Hid (R = l) := HR0.out.symm.trans (if_neg (fun h : E = 0 ∧ p ≠ 0 => e1 h.1))
    clear HR0
    clear e1
    go_wp2_with (go_at_call 31; ((with_reducible refine (clone_any A n c l wz bz).mono ?_); rintro e w9 ⟨A9, c9, rfl, ho9, hB9⟩))
    go_ret
    rw [HR.out]
    exact ⟨_, _, rfl, ho9.mono hTz.size, below_then hTz hB9⟩

theorem withCall_any (A : Option Addr) (n c : Nat) (l : List UInt8) (v : Int) (v0 : 0 ≤ v) (v1 : v ≤ 65535) (w : World) (hb : Bs w A n c l) :
    Calls Try.prog 15 #[.slice A n c, .int .u16 v] w fun e w' => ∃ A' c', e = .returned (.slice A' n c') ∧ Own w' w.heap.size 5 A' n c' (wAt caT l v) ∧ Below w.heap.size w w' := by
  go_enter Try.func15, Try.ntmps15
  go_wp2_with (go_at_call 26; ((with_reducible refine (withC_any A n c l v v0 v1 w hb).mono ?_); rintro e w9 ⟨A9, c9, rfl, ho9, hB9⟩))
  go_ret
  exact ⟨_, _, rfl, ho9, hB9⟩

theorem withPeer_any (A : Option Addr) (n c : Nat) (l : List UInt8) (v : Int) (v0 : 0 ≤ v) (v1 : v ≤ 65535) (w : World) (hb : Bs w A n c l) :
    Calls Try.prog 17 #[.slice A n c, .int .u16 v] w fun e w' => ∃ A' c', e = .returned (.slice A' n c') ∧ Own w' w.heap.size 5 A' n c' (wAt peT l v) ∧ Below w.heap.size w w' := by
  go_enter Try.func17, Try.ntmps17
  go_wp2_with (go_at_call 26; ((with_reducible refine (withP_any A n c l v v0 v1 w hb).mono ?_); rintro e w9 ⟨A9, c9, rfl, ho9, hB9⟩))
  go_ret
  exact ⟨_, _, rfl, ho9, hB9⟩
end Go.Proofs.Ytkiiaaadcfaojaa
