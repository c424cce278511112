/- A packet's message. -/
import Derived.Test.YtogbncpchmnbdaaMsg
import Derived.Test.YtogbncpchmnbdaaTight
import Derived.Test.YtogbncpchmnbdaaSum
import Derived.Test.YtogbncpchmnbdaaRef1
import Derived.Test.YtogbncpchmnbdaaPkt
namespace Go.Proofs.Ytogbncpchmnbdaa
open Go.RowKit
set_option linter.unusedVariables false
set_option linter.unusedSimpArgs false
set_option linter.unusedSimpArgs false
set_option maxHeartbeats 4000000
set_option maxRecDepth 100000

def icE (p : Pkt) : Int := if p.proto ≠ 1 then 12 else if (p.dat.length : Int) < 8 then 3 else if csum p.dat ≠ 0 then 5 else 0
def icM (p : Pkt) : Msg := if icE p = 0 then ⟨bt p.dat 0, bt p.dat 1, get32 p.dat 4, p.dat.drop 8⟩ else zM
theorem icM_ok (p : Pkt) : (icM p).Ok := by
  unfold icM; split
  · exact ⟨⟨bt_lo _ _, bt_hi _ _⟩, ⟨bt_lo _ _, bt_hi _ _⟩, ⟨get32_lo _ _, get32_hi _ _⟩⟩
  · exact ⟨⟨by decide, by decide⟩, ⟨by decide, by decide⟩, ⟨by decide, by decide⟩⟩
structure MsPost (w : World) (M : Msg) (E : Int) (e : Ending) (w' : World) : Prop where
  out : ∃ B m d, e = .returned (.tuple #[(.agg #[.int .u8 (M).ty, .int .u8 (M).code, .int .u32 (M).rest, .slice B m d]), .int .i64 E]) ∧ Own w' w.heap.size 5 B m d M.dat ∧ Below w.heap.size w w'
theorem msPost_no {w w' : World} {E : Int} (hB : Below w.heap.size w w') : MsPost w zM E (.returned (.tuple #[.agg #[.int .u8 0, .int .u8 0, .int .u32 0, .slice none 0 0], .int .i64 E])) w' :=
  ⟨none, 0, 0, rfl, own_nil _ _ _, hB⟩
theorem icmp_no (p : Pkt) (A1 : Option Addr) (n1 c1 : Nat) (A2 : Option Addr) (n2 c2 : Nat) (w : World) (k2 : Bs w A2 n2 c2 p.dat) (E : Int)
    (h : (E = 12 ∧ (p.proto != 1) = true) ∨ (E = 3 ∧ (p.proto != 1) = false ∧ (n2 : Int) < 8) ∨ (E = 5 ∧ (p.proto != 1) = false ∧ 8 ≤ (n2 : Int) ∧ (csum p.dat == 0) = false)) :
    Calls Try.prog 30 #[(.agg #[.int .u8 (p).tos, .int .u16 (p).id, .bool (p).keep, .int .u8 (p).ttl, .int .u8 (p).proto, .int .u32 (p).src, .int .u32 (p).dst, .slice A1 n1 c1, .slice A2 n2 c2])] w (MsPost w zM E) := by
  have b2 := k2.max
  obtain ⟨k, hk⟩ : ∃ k : Nat, w.heap.size = k := ⟨_, rfl⟩
  obtain ⟨w1, hw1⟩ : ∃ w1, (w.alloc (.cells #[.int .u8 (p).tos, .int .u16 (p).id, .bool (p).keep, .int .u8 (p).ttl, .int .u8 (p).proto, .int .u32 (p).src, .int .u32 (p).dst, .slice A1 n1 c1, .slice A2 n2 c2] 26)).alloc (.cells #[.int .u8 0, .int .u8 0, .int .u32 0, .slice none 0 0] 28) = w1 := ⟨_, rfl⟩
  have P1 : Blk w1 k #[.int .u8 (p).tos, .int .u16 (p).id, .bool (p).keep, .int .u8 (p).ttl, .int .u8 (p).proto, .int .u32 (p).src, .int .u32 (p).dst, .slice A1 n1 c1, .slice A2 n2 c2] 26 := by rw [← hw1]; exact (blk_new w _ _ k hk).alloc _
  have Z1 : Blk w1 (k + 1) #[.int .u8 0, .int .u8 0, .int .u32 0, .slice none 0 0] 28 := by rw [← hw1]; exact blk_new _ _ _ (k + 1) (by simp [hk])
  have R1 : Below w.heap.size w w1 := by rw [← hw1]; (repeat (first | with_reducible exact Below.refl _ _ | with_reducible refine below_drew ?_ | with_reducible refine below_drewN ?_ _ | with_reducible refine below_alloc ?_ (Nat.le_refl _) _ | with_reducible refine Below.setCell ?_ (by first | exact Nat.le_refl _ | (simp only []; omega)) _ | with_reducible assumption))
  have x2 := k2.below R1
  have pc := P1.cell
  have zc := Z1.cell
  obtain ⟨wf, hwf, Sf⟩ := store4 Z1 (.int .u8 0) (.int .u8 0) (.int .u32 0) (.slice none 0 0)
  have pf := Sf.blk.cell
  have Tf := Sf.bel R1 (by omega)
  rcases h with ⟨rfl, h1⟩ | ⟨rfl, h1, h2⟩ | ⟨rfl, h1, h2, h3⟩
  · go_enter Try.func30, Try.ntmps30
    go_wp2_with fail
    exact bodyPost_ret (by simp [results, Try.results30, go_sem, pf]) rfl (msPost_no Tf)
  · go_enter Try.func30, Try.ntmps30
    go_wp2_with fail
    exact bodyPost_ret (by simp [results, Try.results30, go_sem, pf]) rfl (msPost_no Tf)
  · go_enter Try.func30, Try.ntmps30
    clear hwf Sf pf Tf
    go_wp2_with (go_at_call 49; ((with_reducible refine (good_any A2 n2 c2 p.dat _ x2).mono ?_); rintro e w2 ⟨he2, hB2⟩); (try rw [h3] at he2); subst he2; have Z2 := Z1.below hB2; have zc2 := Z2.cell)
    obtain ⟨wf, hwf, Sf⟩ := store4 Z2 (.int .u8 0) (.int .u8 0) (.int .u32 0) (.slice none 0 0)
    rw [hwf]
    have pf := Sf.blk.cell
    exact bodyPost_ret (by simp [results, Try.results30, go_sem, pf]) rfl (msPost_no (Sf.bel (below_then R1 hB2) (by omega)))
theorem ricmp_no (p : Pkt) (A1 : Option Addr) (n1 c1 : Nat) (A2 : Option Addr) (n2 c2 : Nat) (w : World) (k2 : Bs w A2 n2 c2 p.dat) (hn2 : n2 ≤ 17592186044416) (E : Int)
    (h : (E = 12 ∧ (p.proto != 1) = true) ∨ (E = 3 ∧ (p.proto != 1) = false ∧ (n2 : Int) < 8) ∨ (E = 5 ∧ (p.proto != 1) = false ∧ 8 ≤ (n2 : Int) ∧ (csum p.dat == 0) = false)) :
    Calls Try.prog 31 #[(.agg #[.int .u8 (p).tos, .int .u16 (p).id, .bool (p).keep, .int .u8 (p).ttl, .int .u8 (p).proto, .int .u32 (p).src, .int .u32 (p).dst, .slice A1 n1 c1, .slice A2 n2 c2])] w (MsPost w zM E) := by
  have b2 := k2.max
  obtain ⟨k, hk⟩ : ∃ k : Nat, w.heap.size = k := ⟨_, rfl⟩
  obtain ⟨w1, hw1⟩ : ∃ w1, (w.alloc (.cells #[.int .u8 (p).tos, .int .u16 (p).id, .bool (p).keep, .int .u8 (p).ttl, .int .u8 (p).proto, .int .u32 (p).src, .int .u32 (p).dst, .slice A1 n1 c1, .slice A2 n2 c2] 26)).alloc (.cells #[.int .u8 0, .int .u8 0, .int .u32 0, .slice none 0 0] 28) = w1 := ⟨_, rfl⟩
  have P1 : Blk w1 k #[.int .u8 (p).tos, .int .u16 (p).id, .bool (p).keep, .int .u8 (p).ttl, .int .u8 (p).proto, .int .u32 (p).src, .int .u32 (p).dst, .slice A1 n1 c1, .slice A2 n2 c2] 26 := by rw [← hw1]; exact (blk_new w _ _ k hk).alloc _
  have Z1 : Blk w1 (k + 1) #[.int .u8 0, .int .u8 0, .int .u32 0, .slice none 0 0] 28 := by rw [← hw1]; exact blk_new _ _ _ (k + 1) (by simp [hk])
  have R1 : Below w.heap.size w w1 := by rw [← hw1]; (repeat (first | with_reducible exact Below.refl _ _ | with_reducible refine below_drew ?_ | with_reducible refine below_drewN ?_ _ | with_reducible refine below_alloc ?_ (Nat.le_refl _) _ | with_reducible refine Below.setCell ?_ (by first | exact Nat.le_refl _ | (simp only []; omega)) _ | with_reducible assumption))
  have x2 := k2.below R1
  have pc := P1.cell
  have zc := Z1.cell
  obtain ⟨wf, hwf, Sf⟩ := store4 Z1 (.int .u8 0) (.int .u8 0) (.int .u32 0) (.slice none 0 0)
  have pf := Sf.blk.cell
  have Tf := Sf.bel R1 (by omega)
  rcases h with ⟨rfl, h1⟩ | ⟨rfl, h1, h2⟩ | ⟨rfl, h1, h2, h3⟩
  · go_enter Try.func31, Try.ntmps31
    go_wp2_with fail
    exact bodyPost_ret (by simp [results, Try.results31, go_sem, pf]) rfl (msPost_no Tf)
  · go_enter Try.func31, Try.ntmps31
    go_wp2_with fail
    exact bodyPost_ret (by simp [results, Try.results31, go_sem, pf]) rfl (msPost_no Tf)
  · go_enter Try.func31, Try.ntmps31
    clear hwf Sf pf Tf
    go_wp2_with (go_at_call 52; ((with_reducible refine (rgood_any A2 n2 c2 p.dat hn2 _ x2).mono ?_); rintro e w2 ⟨he2, hB2⟩); (try rw [h3] at he2); subst he2; have Z2 := Z1.below hB2; have zc2 := Z2.cell)
    obtain ⟨wf, hwf, Sf⟩ := store4 Z2 (.int .u8 0) (.int .u8 0) (.int .u32 0) (.slice none 0 0)
    rw [hwf]
    have pf := Sf.blk.cell
    exact bodyPost_ret (by simp [results, Try.results31, go_sem, pf]) rfl (msPost_no (Sf.bel (below_then R1 hB2) (by omega)))
theorem icmp_ok (p : Pkt) (A1 : Option Addr) (n1 c1 : Nat) (A2 : Option Addr) (n2 c2 : Nat) (w : World) (k2 : Bs w A2 n2 c2 p.dat) 
    (h1 : (p.proto != 1) = false) (h2 : 8 ≤ (n2 : Int)) (h3 : (csum p.dat == 0) = true) :
    Calls Try.prog 30 #[(.agg #[.int .u8 (p).tos, .int .u16 (p).id, .bool (p).keep, .int .u8 (p).ttl, .int .u8 (p).proto, .int .u32 (p).src, .int .u32 (p).dst, .slice A1 n1 c1, .slice A2 n2 c2])] w (MsPost w ⟨bt p.dat 0, bt p.dat 1, get32 p.dat 4, p.dat.drop 8⟩ 0) := by
  have hlL : p.dat.take n2 = p.dat := List.take_of_length_le (by rw [k2.len]; exact Nat.le_refl _)
  obtain ⟨i8, hi8, -, hs8, -⟩ := info_parts info_u8
  have b2 := k2.max
  have hcap := k2.cap
  obtain ⟨b, off, rfl⟩ := k2.some_ (by omega)
  have hcut : ∀ W, (Instr.slice 24 (.slice (some ⟨b, off, none⟩) n2 c2) (some (.int .i64 8)) none none).run Try.prog W = _ := fun W => cut_l Try.underlying24 hi8 hs8 (some ⟨b, off, none⟩) n2 c2 .i64 8 (by omega) (by omega) W
  obtain ⟨A', n', c', eA, en, ec, hbD⟩ := k2.cutE (lo := 8) (hi := n2) (by omega) (Nat.le_refl _)
  simp only [show (8 : Int).toNat = 8 from rfl, eA, en, ec] at hcut
  rw [hlL] at hbD
  have hn' : n' ≤ n2 := by omega
  clear eA en ec hlL
  obtain ⟨k, hk⟩ : ∃ k : Nat, w.heap.size = k := ⟨_, rfl⟩
  obtain ⟨w1, hw1⟩ : ∃ w1, (w.alloc (.cells #[.int .u8 (p).tos, .int .u16 (p).id, .bool (p).keep, .int .u8 (p).ttl, .int .u8 (p).proto, .int .u32 (p).src, .int .u32 (p).dst, .slice A1 n1 c1, .slice (some ⟨b, off, none⟩) n2 c2] 26)).alloc (.cells #[.int .u8 0, .int .u8 0, .int .u32 0, .slice none 0 0] 28) = w1 := ⟨_, rfl⟩
  have P1 : Blk w1 k #[.int .u8 (p).tos, .int .u16 (p).id, .bool (p).keep, .int .u8 (p).ttl, .int .u8 (p).proto, .int .u32 (p).src, .int .u32 (p).dst, .slice A1 n1 c1, .slice (some ⟨b, off, none⟩) n2 c2] 26 := by rw [← hw1]; exact (blk_new w _ _ k hk).alloc _
  have Z1 : Blk w1 (k + 1) #[.int .u8 0, .int .u8 0, .int .u32 0, .slice none 0 0] 28 := by rw [← hw1]; exact blk_new _ _ _ (k + 1) (by simp [hk])
  have R1 : Below w.heap.size w w1 := by rw [← hw1]; (repeat (first | with_reducible exact Below.refl _ _ | with_reducible refine below_drew ?_ | with_reducible refine below_drewN ?_ _ | with_reducible refine below_alloc ?_ (Nat.le_refl _) _ | with_reducible refine Below.setCell ?_ (by first | exact Nat.le_refl _ | (simp only []; omega)) _ | with_reducible assumption))
  have x2 := k2.below R1
  have pc := P1.cell
  have zc := Z1.cell
  go_enter Try.func30, Try.ntmps30
  go_wp2_with (go_at_call 49; ((with_reducible refine (good_any (some ⟨b, off, none⟩) n2 c2 p.dat _ x2).mono ?_); rintro e w2 ⟨he2, hB2⟩); (try rw [h3] at he2); subst he2; have Z2 := Z1.below hB2; have zc2 := Z2.cell)
  have x3 := x2.below hB2
  have T2 := below_then R1 hB2
  have hD := hbD.below T2
  have s2 := T2.size
  have q0 : 0 < n2 := by omega
  have q0' : (0 : Int) < n2 := by omega
  have q1 : (1 : Int) < n2 := by omega
  refine region_txt 11 (by kernel_rfl) (by kernel_rfl) ?_; (iterate 11 (first | (apply ObsK.skip (by rfl)) | (apply ObsK.v (by rfl); (intro wo hT; (repeat (first | (intro v hv; (skip)) | (intro _ _ k; try have hcv := cv k))); (have bo := x3.below hT; have c0 := bo.at_ (j := 0) (by omega); rw [Nat.add_zero] at c0; have c1 := bo.at_ (j := 1) (by omega); have hsz : w2.heap.size ≤ wo.heap.size := hT.size); refine Goes.mk ?_; go_simp; first | exact goes_v | exact goes_b (by assumption) | (refine goes_enter ?_; first | (go_at_call 50; ((with_reducible refine (get32_any (some ⟨b, off, none⟩) n2 c2 p.dat 4 wo bo).mono ?_); rintro e w5 ⟨rfl, hD5⟩); exact ret_v hD5.bel) | (go_at_call 51; ((with_reducible refine (clone_any A' n' c' _ wo (hD.below hT)).mono ?_); rintro e w5 ⟨A9, c9, rfl, ho9, hB9⟩); exact ret_p (own_isW ho9 hsz) hB9)))) | (apply ObsK.b (by rfl); (intro wo hT; (repeat (first | (intro v hv; (skip)) | (intro _ _ k; try have hcv := cv k))); (have bo := x3.below hT; have c0 := bo.at_ (j := 0) (by omega); rw [Nat.add_zero] at c0; have c1 := bo.at_ (j := 1) (by omega); have hsz : w2.heap.size ≤ wo.heap.size := hT.size); refine Goes.mk ?_; go_simp; first | exact goes_v | exact goes_b (by assumption) | (refine goes_enter ?_; first | (go_at_call 50; ((with_reducible refine (get32_any (some ⟨b, off, none⟩) n2 c2 p.dat 4 wo bo).mono ?_); rintro e w5 ⟨rfl, hD5⟩); exact ret_v hD5.bel) | (go_at_call 51; ((with_reducible refine (clone_any A' n' c' _ wo (hD.below hT)).mono ?_); rintro e w5 ⟨A9, c9, rfl, ho9, hB9⟩); exact ret_p (own_isW ho9 hsz) hB9)))) | (apply ObsK.p (q := isW w2.heap.size _) (by rfl) st_isW; (intro wo hT; (repeat (first | (intro v hv; (skip)) | (intro _ _ k; try have hcv := cv k))); (have bo := x3.below hT; have c0 := bo.at_ (j := 0) (by omega); rw [Nat.add_zero] at c0; have c1 := bo.at_ (j := 1) (by omega); have hsz : w2.heap.size ≤ wo.heap.size := hT.size); refine Goes.mk ?_; go_simp; first | exact goes_v | exact goes_b (by assumption) | (refine goes_enter ?_; first | (go_at_call 50; ((with_reducible refine (get32_any (some ⟨b, off, none⟩) n2 c2 p.dat 4 wo bo).mono ?_); rintro e w5 ⟨rfl, hD5⟩); exact ret_v hD5.bel) | (go_at_call 51; ((with_reducible refine (clone_any A' n' c' _ wo (hD.below hT)).mono ?_); rintro e w5 ⟨A9, c9, rfl, ho9, hB9⟩); exact ret_p (own_isW ho9 hsz) hB9)))))); refine ObsK.nil ?_; intro wz hBz; simp only [finOn, List.drop_succ_cons, List.drop_zero, List.drop_nil]
  rintro v9 ⟨A9, n9, c9, rfl, O9⟩
  go_simp
  have Z3 := Z2.below hBz
  have zc3 := Z3.cell
  obtain ⟨wf, hwf, Sf⟩ := store4 Z3 (.int .u8 (bt p.dat 0)) (.int .u8 (bt p.dat 1)) (.int .u32 (get32 p.dat 4)) (.slice A9 n9 c9)
  have pf := Sf.blk.cell
  have Tf := Sf.bel (below_then T2 hBz) (by omega)
  have zl := Z2.lt
  have Of := Sf.own O9 (fun a e => by have := O9.ge a e; omega)
  go_wp2_with fail
  refine bodyPost_ret (v := .tuple #[.agg #[.int .u8 (bt p.dat 0), .int .u8 (bt p.dat 1), .int .u32 (get32 p.dat 4), .slice A9 n9 c9], .int .i64 0]) (by simp [results, Try.results30, go_sem, pf]) rfl ⟨A9, n9, c9, rfl, Of.mono s2, Tf⟩
theorem ricmp_ok (p : Pkt) (A1 : Option Addr) (n1 c1 : Nat) (A2 : Option Addr) (n2 c2 : Nat) (w : World) (k2 : Bs w A2 n2 c2 p.dat) (hn2 : n2 ≤ 17592186044416)
    (h1 : (p.proto != 1) = false) (h2 : 8 ≤ (n2 : Int)) (h3 : (csum p.dat == 0) = true) :
    Calls Try.prog 31 #[(.agg #[.int .u8 (p).tos, .int .u16 (p).id, .bool (p).keep, .int .u8 (p).ttl, .int .u8 (p).proto, .int .u32 (p).src, .int .u32 (p).dst, .slice A1 n1 c1, .slice A2 n2 c2])] w (MsPost w ⟨bt p.dat 0, bt p.dat 1, get32 p.dat 4, p.dat.drop 8⟩ 0) := by
  have hlL : p.dat.take n2 = p.dat := List.take_of_length_le (by rw [k2.len]; exact Nat.le_refl _)
  obtain ⟨i8, hi8, -, hs8, -⟩ := info_parts info_u8
  have b2 := k2.max
  have hcap := k2.cap
  obtain ⟨b, off, rfl⟩ := k2.some_ (by omega)
  have hcut : ∀ W, (Instr.slice 24 (.slice (some ⟨b, off, none⟩) n2 c2) (some (.int .i64 8)) none none).run Try.prog W = _ := fun W => cut_l Try.underlying24 hi8 hs8 (some ⟨b, off, none⟩) n2 c2 .i64 8 (by omega) (by omega) W
  obtain ⟨A', n', c', eA, en, ec, hbD⟩ := k2.cutE (lo := 8) (hi := n2) (by omega) (Nat.le_refl _)
  simp only [show (8 : Int).toNat = 8 from rfl, eA, en, ec] at hcut
  rw [hlL] at hbD
  have hn' : n' ≤ n2 := by omega
  clear eA en ec hlL
  obtain ⟨k, hk⟩ : ∃ k : Nat, w.heap.size = k := ⟨_, rfl⟩
  obtain ⟨w1, hw1⟩ : ∃ w1, (w.alloc (.cells #[.int .u8 (p).tos, .int .u16 (p).id, .bool (p).keep, .int .u8 (p).ttl, .int .u8 (p).proto, .int .u32 (p).src, .int .u32 (p).dst, .slice A1 n1 c1, .slice (some ⟨b, off, none⟩) n2 c2] 26)).alloc (.cells #[.int .u8 0, .int .u8 0, .int .u32 0, .slice none 0 0] 28) = w1 := ⟨_, rfl⟩
  have P1 : Blk w1 k #[.int .u8 (p).tos, .int .u16 (p).id, .bool (p).keep, .int .u8 (p).ttl, .int .u8 (p).proto, .int .u32 (p).src, .int .u32 (p).dst, .slice A1 n1 c1, .slice (some ⟨b, off, none⟩) n2 c2] 26 := by rw [← hw1]; exact (blk_new w _ _ k hk).alloc _
  have Z1 : Blk w1 (k + 1) #[.int .u8 0, .int .u8 0, .int .u32 0, .slice none 0 0] 28 := by rw [← hw1]; exact blk_new _ _ _ (k + 1) (by simp [hk])
  have R1 : Below w.heap.size w w1 := by rw [← hw1]; (repeat (first | with_reducible exact Below.refl _ _ | with_reducible refine below_drew ?_ | with_reducible refine below_drewN ?_ _ | with_reducible refine below_alloc ?_ (Nat.le_refl _) _ | with_reducible refine Below.setCell ?_ (by first | exact Nat.le_refl _ | (simp only []; omega)) _ | with_reducible assumption))
  have x2 := k2.below R1
  have pc := P1.cell
  have zc := Z1.cell
  go_enter Try.func31, Try.ntmps31
  go_wp2_with (go_at_call 52; ((with_reducible refine (rgood_any (some ⟨b, off, none⟩) n2 c2 p.dat hn2 _ x2).mono ?_); rintro e w2 ⟨he2, hB2⟩); (try rw [h3] at he2); subst he2; have Z2 := Z1.below hB2; have zc2 := Z2.cell)
  have x3 := x2.below hB2
  have T2 := below_then R1 hB2
  have hD := hbD.below T2
  have s2 := T2.size
  have q0 : 0 < n2 := by omega
  have q0' : (0 : Int) < n2 := by omega
  have q1 : (1 : Int) < n2 := by omega
  refine region_txt 10 (by kernel_rfl) (by kernel_rfl) ?_; (iterate 10 (first | (apply ObsK.skip (by rfl)) | (apply ObsK.v (by rfl); (intro wo hT; (repeat (first | (intro v hv; (skip)) | (intro _ _ k; try have hcv := cv k))); (have bo := x3.below hT; have c0 := bo.at_ (j := 0) (by omega); rw [Nat.add_zero] at c0; have c1 := bo.at_ (j := 1) (by omega); have hsz : w2.heap.size ≤ wo.heap.size := hT.size); refine Goes.mk ?_; go_simp; first | exact goes_v | exact goes_b (by assumption) | exact goes_new hsz | (refine goes_enter ?_; first | (go_at_call 53; ((with_reducible refine (rget32_any (some ⟨b, off, none⟩) n2 c2 p.dat 4 wo bo).mono ?_); rintro e w5 ⟨rfl, hD5⟩); exact ret_v hD5.bel)))) | (apply ObsK.b (by rfl); (intro wo hT; (repeat (first | (intro v hv; (skip)) | (intro _ _ k; try have hcv := cv k))); (have bo := x3.below hT; have c0 := bo.at_ (j := 0) (by omega); rw [Nat.add_zero] at c0; have c1 := bo.at_ (j := 1) (by omega); have hsz : w2.heap.size ≤ wo.heap.size := hT.size); refine Goes.mk ?_; go_simp; first | exact goes_v | exact goes_b (by assumption) | exact goes_new hsz | (refine goes_enter ?_; first | (go_at_call 53; ((with_reducible refine (rget32_any (some ⟨b, off, none⟩) n2 c2 p.dat 4 wo bo).mono ?_); rintro e w5 ⟨rfl, hD5⟩); exact ret_v hD5.bel)))) | (apply ObsK.p (q := isNew w2.heap.size _ _) (by rfl) st_isNew; (intro wo hT; (repeat (first | (intro v hv; (skip)) | (intro _ _ k; try have hcv := cv k))); (have bo := x3.below hT; have c0 := bo.at_ (j := 0) (by omega); rw [Nat.add_zero] at c0; have c1 := bo.at_ (j := 1) (by omega); have hsz : w2.heap.size ≤ wo.heap.size := hT.size); refine Goes.mk ?_; go_simp; first | exact goes_v | exact goes_b (by assumption) | exact goes_new hsz | (refine goes_enter ?_; first | (go_at_call 53; ((with_reducible refine (rget32_any (some ⟨b, off, none⟩) n2 c2 p.dat 4 wo bo).mono ?_); rintro e w5 ⟨rfl, hD5⟩); exact ret_v hD5.bel)))))); refine ObsK.nil ?_; intro wz hBz; simp only [finOn, List.drop_succ_cons, List.drop_zero, List.drop_nil]
  rintro vp ⟨g, rfl, gw, G⟩
  go_simp
  obtain ⟨w4, hw4, S4⟩ := store4 G (.int .u8 (bt p.dat 0)) (.int .u8 (bt p.dat 1)) (.int .u32 (get32 p.dat 4)) (.slice none 0 0)
  have zl2 := Z2.lt
  have k2l : w.heap.size ≤ w2.heap.size := s2
  have gc0 := G.cell
  have G4 := S4.blk
  have T4 := S4.bel (below_then T2 hBz) (by omega)
  have Z4 := S4.other (by omega) (Z2.below hBz)
  have D4 := hbD.below T4
  go_wp2_with fail
  clear hw4 S4 gc0 G hBz
  refine region_txt 4 (by kernel_rfl) (by kernel_rfl) ?_; (iterate 4 (first | (apply ObsK.skip (by rfl)) | (apply ObsK.v (by rfl); (intro wo hT; (repeat (first | (intro _ _ k; try have hcv := cv k))); (have gc := (G4.below hT).cell); refine Goes.mk ?_; go_simp; first | exact goes_v | exact goes_b (by assumption) | (refine goes_enter ?_; first | fail))) | (apply ObsK.b (by rfl); (intro wo hT; (repeat (first | (intro _ _ k; try have hcv := cv k))); (have gc := (G4.below hT).cell); refine Goes.mk ?_; go_simp; first | exact goes_v | exact goes_b (by assumption) | (refine goes_enter ?_; first | fail))))); refine ObsK.nil ?_; intro wz hBz; simp only [finOn, List.drop_succ_cons, List.drop_zero, List.drop_nil]
  go_simp
  have G5 := G4.below hBz
  have Z5 := Z4.below hBz
  have T5 := below_then T4 hBz
  have D5 := D4.below hBz
  have gl := G4.lt
  have gs := hBz.size
  go_wp2_with (first
    | (at_builtin; refine wpList_append_bs (w0 := wz) _ rfl _ _ _ rfl wz.heap.size 5 Try.underlying24 info_u8 none 0 0 [] rfl (own_nil _ _ _) A' n' c' _ rfl D5 (Below.refl _ _) (by omega) (by first | exact Nat.le_refl _ | exact Below.size (Below.refl _ _) | omega | (simp <;> omega)) ?_; intro A7 n7 c7 w7 ho7 hB7 _ hz7; have u7 : n7 = n' := (by have := ho7.len; have := D5.len; simp at *; omega); subst u7; replace ho7 : Own w7 wz.heap.size 5 A7 n7 c7 (p.dat.drop 8) := ho7; have G7 := G5.below hB7; have gc7 := G7.cell; (obtain ⟨w8, hw8, S8⟩ := store1 G7 3 (.slice A7 n7 c7)); simp only [List.setIfInBounds_toArray, List.set_cons_zero, List.set_cons_succ] at S8; have gc8 := S8.blk.cell; have Z8 := S8.other (by omega) (Z5.below hB7); have zc8 := Z8.cell; have T8 := S8.bel (below_then T5 hB7) (by omega); have O8 := S8.own ho7 (fun a e => by have := ho7.ge a e; omega)))
  obtain ⟨wf, hwf, Sf⟩ := store4 Z8 (.int .u8 (bt p.dat 0)) (.int .u8 (bt p.dat 1)) (.int .u32 (get32 p.dat 4)) (.slice A7 n7 c7)
  rw [hwf]
  have pf := Sf.blk.cell
  have Of := Sf.own O8 (fun a e => by have := ho7.ge a e; omega)
  have s5 := T5.size
  refine bodyPost_ret (v := .tuple #[.agg #[.int .u8 (bt p.dat 0), .int .u8 (bt p.dat 1), .int .u32 (get32 p.dat 4), .slice A7 n7 c7], .int .i64 0]) (by simp [results, Try.results31, go_sem, pf]) rfl ⟨A7, n7, c7, rfl, Of.mono s5, Sf.bel T8 (by omega)⟩
theorem icE_12 {p : Pkt} (h : p.proto ≠ 1) : icE p = 12 := by unfold icE; rw [if_pos h]
theorem icE_3 {p : Pkt} (h : p.proto = 1) (h2 : (p.dat.length : Int) < 8) : icE p = 3 := by unfold icE; rw [if_neg (by simp [h]), if_pos h2]
theorem icE_5 {p : Pkt} (h : p.proto = 1) (h2 : 8 ≤ (p.dat.length : Int)) (h3 : csum p.dat ≠ 0) : icE p = 5 := by unfold icE; rw [if_neg (by simp [h]), if_neg (by omega), if_pos h3]
theorem icE_0 {p : Pkt} (h : p.proto = 1) (h2 : 8 ≤ (p.dat.length : Int)) (h3 : csum p.dat = 0) : icE p = 0 := by unfold icE; rw [if_neg (by simp [h]), if_neg (by omega), if_neg (by simp [h3])]
theorem icmp_any (p : Pkt) (A1 : Option Addr) (n1 c1 : Nat) (A2 : Option Addr) (n2 c2 : Nat) (w : World) (k2 : Bs w A2 n2 c2 p.dat) :
    Calls Try.prog 30 #[(.agg #[.int .u8 (p).tos, .int .u16 (p).id, .bool (p).keep, .int .u8 (p).ttl, .int .u8 (p).proto, .int .u32 (p).src, .int .u32 (p).dst, .slice A1 n1 c1, .slice A2 n2 c2])] w (MsPost w (icM p) (icE p)) := by
  have l2 := k2.len
  unfold icM
  by_cases h1 : p.proto = 1
  · by_cases h2 : (n2 : Int) < 8
    · rw [icE_3 h1 (by omega), if_neg (by decide)]
      exact icmp_no p A1 n1 c1 A2 n2 c2 w k2 3 (.inr (.inl ⟨rfl, by simp [h1], h2⟩))
    · by_cases h3 : csum p.dat = 0
      · rw [icE_0 h1 (by omega) h3, if_pos rfl]
        exact icmp_ok p A1 n1 c1 A2 n2 c2 w k2 (by simp [h1]) (by omega) (by simp [h3])
      · rw [icE_5 h1 (by omega) h3, if_neg (by decide)]
        exact icmp_no p A1 n1 c1 A2 n2 c2 w k2 5 (.inr (.inr ⟨rfl, by simp [h1], by omega, by simpa using h3⟩))
  · rw [icE_12 h1, if_neg (by decide)]
    exact icmp_no p A1 n1 c1 A2 n2 c2 w k2 12 (.inl ⟨rfl, by simpa using h1⟩)
theorem ricmp_any (p : Pkt) (A1 : Option Addr) (n1 c1 : Nat) (A2 : Option Addr) (n2 c2 : Nat) (w : World) (k2 : Bs w A2 n2 c2 p.dat) (hn2 : n2 ≤ 17592186044416) :
    Calls Try.prog 31 #[(.agg #[.int .u8 (p).tos, .int .u16 (p).id, .bool (p).keep, .int .u8 (p).ttl, .int .u8 (p).proto, .int .u32 (p).src, .int .u32 (p).dst, .slice A1 n1 c1, .slice A2 n2 c2])] w (MsPost w (icM p) (icE p)) := by
  have l2 := k2.len
  unfold icM
  by_cases h1 : p.proto = 1
  · by_cases h2 : (n2 : Int) < 8
    · rw [icE_3 h1 (by omega), if_neg (by decide)]
      exact ricmp_no p A1 n1 c1 A2 n2 c2 w k2 hn2 3 (.inr (.inl ⟨rfl, by simp [h1], h2⟩))
    · by_cases h3 : csum p.dat = 0
      · rw [icE_0 h1 (by omega) h3, if_pos rfl]
        exact ricmp_ok p A1 n1 c1 A2 n2 c2 w k2 hn2 (by simp [h1]) (by omega) (by simp [h3])
      · rw [icE_5 h1 (by omega) h3, if_neg (by decide)]
        exact ricmp_no p A1 n1 c1 A2 n2 c2 w k2 hn2 5 (.inr (.inr ⟨rfl, by simp [h1], by omega, by simpa using h3⟩))
  · rw [icE_12 h1, if_neg (by decide)]
    exact ricmp_no p A1 n1 c1 A2 n2 c2 w k2 hn2 12 (.inl ⟨rfl, by simpa using h1⟩)
end Go.Proofs.Ytogbncpchmnbdaa
