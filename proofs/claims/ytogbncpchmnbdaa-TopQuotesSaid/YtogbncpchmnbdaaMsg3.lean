/- The packet with a message. -/
import Derived.Test.YtogbncpchmnbdaaMsg2
import Derived.Test.YtogbncpchmnbdaaWith2
import Derived.Test.YtogbncpchmnbdaaMath1
namespace Go.Proofs.Ytogbncpchmnbdaa
open Go.RowKit
set_option linter.unusedVariables false
set_option linter.unusedSimpArgs false
set_option linter.unusedSimpArgs false
set_option maxHeartbeats 4000000
set_option maxRecDepth 100000

/-- A message's bytes with the sum 0; with theirs. -/
def mL (m : Msg) : List UInt8 := [ub m.ty, ub m.code, 0, 0] ++ four m.rest ++ m.dat
def mS (m : Msg) : List UInt8 := put16 (mL m) 2 (csum (mL m))
theorem mL_len (m : Msg) : (mL m).length = 8 + m.dat.length := by unfold mL four; simp; omega
theorem mS_len (m : Msg) : (mS m).length = 8 + m.dat.length := by unfold mS; rw [put16_length, mL_len]
theorem head8 (m : Msg) : put32 [ub m.ty, ub m.code, 0, 0, 0, 0, 0, 0] 4 m.rest = [ub m.ty, ub m.code, 0, 0] ++ four m.rest := by
  simp [put32, putK, four]
theorem lit8 {e : TypeId} {x y : Int} (x0 : 0 ≤ x) (x1 : x ≤ 255) (y0 : 0 ≤ y) (y1 : y ≤ 255) (W : World) : Own (W.alloc (.cells #[.int .u8 x, .int .u8 y, .int .u8 0, .int .u8 0, .int .u8 0, .int .u8 0, .int .u8 0, .int .u8 0] e)) W.heap.size e (some ⟨W.heap.size, 0, none⟩) 8 8 [ub x, ub y, 0, 0, 0, 0, 0, 0] := by
  have h : (cu [ub x, ub y, 0, 0, 0, 0, 0, 0]).toArray = #[.int .u8 x, .int .u8 y, .int .u8 0, .int .u8 0, .int .u8 0, .int .u8 0, .int .u8 0, .int .u8 0] := by
    simp [cu, ub_val]; omega
  rw [← h]; exact own_lit W _ e _ 8 rfl (by omega) (Nat.le_refl _)
theorem isCat2 {W0 : World} {g n1 c1 n2 c2 cc : Nat} {A1 A2 : Option Addr} {l1 l2 : List UInt8} {T : TypeId} (G : Blk W0 g #[.slice A1 n1 c1, .slice A2 n2 c2] T) (k1 : Bs W0 A1 n1 c1 l1) (k2 : Bs W0 A2 n2 c2 l2) (h : n1 + n2 ≤ 200000000000000) :
    isCat (.slice (some ⟨g, 0, none⟩) 2 cc) (l1 ++ l2) W0 := by
  intro W hB
  have G' := G.below hB
  have gc := G'.cell.1
  have := concat_any g 2 cc (fun j => if j = 0 then A1 else A2) (fun j => if j = 0 then n1 else n2) (fun j => if j = 0 then c1 else c2) (fun j => if j = 0 then l1 else l2) (by omega) W G'.lt (fun j hj => by
      rw [gc]
      have : j = 0 ∨ j = 1 := by omega
      rcases this with rfl | rfl <;> rfl) (fun j hj => by
      have : j = 0 ∨ j = 1 := by omega
      rcases this with rfl | rfl
      · exact k1.below hB
      · exact k2.below hB) (by simp [catN]; omega)
  exact this
theorem bicmp_ok (p : Pkt) (A1 : Option Addr) (n1 c1 : Nat) (A2 : Option Addr) (n2 c2 : Nat) (m : Msg) (hm : m.Ok) (B1 : Option Addr) (m1 d1 : Nat) (w : World) (k1 : Bs w A1 n1 c1 p.opt) (j1 : Bs w B1 m1 d1 m.dat)
    (hE : wiE p (8 + m1) = 0) (hm1 : m1 ≤ 140737488400000) :
    Calls Try.prog 14 #[(.agg #[.int .u8 (p).tos, .int .u16 (p).id, .bool (p).keep, .int .u8 (p).ttl, .int .u8 (p).proto, .int .u32 (p).src, .int .u32 (p).dst, .slice A1 n1 c1, .slice A2 n2 c2]), (.agg #[.int .u8 (m).ty, .int .u8 (m).code, .int .u32 (m).rest, .slice B1 m1 d1])] w (WiPost w { p with proto := 1, dat := mS m } 0) := by
  have b1 := j1.max
  have jl := j1.len
  obtain ⟨⟨t0, t1⟩, ⟨u0, u1⟩, ⟨r0, r1⟩⟩ := hm
  have L8 := fun W => lit8 (e := 5) t0 t1 u0 u1 W
  have H8 := Lib.hid (head8 m)
  have hcl : ([ub m.ty, ub m.code, 0, 0] ++ four m.rest ++ m.dat).length = 8 + m1 := by rw [show [ub m.ty, ub m.code, 0, 0] ++ four m.rest ++ m.dat = mL m from rfl, mL_len, jl]
  have HC := Lib.hid hcl
  have HS : Hid (put16 (mL m) 2 (csum (mL m)) = mS m) := rfl
  have hw2 : ∀ W lv, isCat lv (mL m) W → Bs W A1 n1 c1 p.opt → Calls Try.prog 38 #[(.agg #[.int .u8 (p).tos, .int .u16 (p).id, .bool (p).keep, .int .u8 (p).ttl, .int .u8 (p).proto, .int .u32 (p).src, .int .u32 (p).dst, .slice A1 n1 c1, .slice A2 n2 c2]), .int .u8 1, lv] W (WiPost W { p with proto := 1, dat := mL m } 0) := fun W lv hc kk => by
    have hh := with_any p A1 n1 c1 A2 n2 c2 1 lv (mL m) W kk hc (by rw [mL_len]; omega)
    unfold withP at hh
    rw [mL_len, jl, hE, if_pos rfl] at hh
    exact hh
  clear hcl jl hE
  obtain ⟨k, hk⟩ : ∃ k : Nat, w.heap.size = k := ⟨_, rfl⟩
  obtain ⟨w1, hw1⟩ : ∃ w1, ((w.alloc (.cells #[.int .u8 (p).tos, .int .u16 (p).id, .bool (p).keep, .int .u8 (p).ttl, .int .u8 (p).proto, .int .u32 (p).src, .int .u32 (p).dst, .slice A1 n1 c1, .slice A2 n2 c2] 26)).alloc (.cells #[.int .u8 (m).ty, .int .u8 (m).code, .int .u32 (m).rest, .slice B1 m1 d1] 28)).alloc (.cells #[.int .u8 0, .int .u16 0, .bool false, .int .u8 0, .int .u8 0, .int .u32 0, .int .u32 0, .slice none 0 0, .slice none 0 0] 26) = w1 := ⟨_, rfl⟩
  have P1 : Blk w1 k #[.int .u8 (p).tos, .int .u16 (p).id, .bool (p).keep, .int .u8 (p).ttl, .int .u8 (p).proto, .int .u32 (p).src, .int .u32 (p).dst, .slice A1 n1 c1, .slice A2 n2 c2] 26 := by rw [← hw1]; exact ((blk_new w _ _ k hk).alloc _).alloc _
  have M1 : Blk w1 (k + 1) #[.int .u8 (m).ty, .int .u8 (m).code, .int .u32 (m).rest, .slice B1 m1 d1] 28 := by rw [← hw1]; exact (blk_new _ _ _ (k + 1) (by simp [hk])).alloc _
  have Z1 : Blk w1 (k + 1 + 1) #[.int .u8 0, .int .u16 0, .bool false, .int .u8 0, .int .u8 0, .int .u32 0, .int .u32 0, .slice none 0 0, .slice none 0 0] 26 := by rw [← hw1]; exact blk_new _ _ _ (k + 1 + 1) (by simp [hk])
  have R1 : Below w.heap.size w w1 := by rw [← hw1]; (repeat (first | with_reducible exact Below.refl _ _ | with_reducible refine below_drew ?_ | with_reducible refine below_drewN ?_ _ | with_reducible refine below_alloc ?_ (Nat.le_refl _) _ | with_reducible refine Below.setCell ?_ (by first | exact Nat.le_refl _ | (simp only []; omega)) _ | with_reducible assumption))
  have x1 := k1.below R1
  have y1 := j1.below R1
  have pc := P1.cell
  have mc := M1.cell
  have kl1 := P1.lt
  have ml1 := M1.lt
  go_enter Try.func14, Try.ntmps14
  go_wp2_with (first
    | (go_at_call 37; ((with_reducible refine (put32_any _ 8 8 _ 4 m.rest r0 r1 _ (L8 w1).bs).mono ?_); rintro e w2 ⟨A6, c6, rfl, ho6, hB2⟩); rw [H8.out] at ho6; have T2 := below_then (below_alloc (Below.refl w1.heap.size w1) (Nat.le_refl _) _) hB2; have pc2 := (P1.below T2).cell; have mc2 := (M1.below T2).cell; have pl2 := (P1.below T2).lt; have ml2 := (M1.below T2).lt; have y2 := y1.below T2; have o6 := ho6.bs; (obtain ⟨w3, hw3⟩ : ∃ w3, w2.alloc (.cells #[.slice A6 8 c6, .slice B1 m1 d1] 24) = w3 := ⟨_, rfl⟩); have G3 : Blk w3 w2.heap.size #[.slice A6 8 c6, .slice B1 m1 d1] 24 := (by rw [← hw3]; exact blk_new w2 _ _ _ rfl); have V3 : Below w2.heap.size w2 w3 := (by rw [← hw3]; (repeat (first | with_reducible exact Below.refl _ _ | with_reducible refine below_drew ?_ | with_reducible refine below_drewN ?_ _ | with_reducible refine below_alloc ?_ (Nat.le_refl _) _ | with_reducible refine Below.setCell ?_ (by first | exact Nat.le_refl _ | (simp only []; omega)) _ | with_reducible assumption))); have T3 := below_then T2 V3; have hcat := isCat2 G3 (o6.below V3) (y2.below V3) (cc := 2) (by omega))
    | (go_at_call 38; ((with_reducible refine (hw2 w3 _ hcat (x1.below T3)).mono ?_); rintro e w4 ⟨⟨C1, e1, f1, C2, e2, f2, rfl, O1, O2, hB4⟩⟩); have T4 := below_then T3 hB4; have Z4 := Z1.below T4; (obtain ⟨w5, hw5⟩ : ∃ w5, w4.alloc (.cells #[.int .u8 p.tos, .int .u16 p.id, .bool p.keep, .int .u8 p.ttl, .int .u8 1, .int .u32 p.src, .int .u32 p.dst, .slice C1 e1 f1, .slice C2 e2 f2] 26) = w5 := ⟨_, rfl⟩); have Q5 : Blk w5 w4.heap.size #[.int .u8 p.tos, .int .u16 p.id, .bool p.keep, .int .u8 p.ttl, .int .u8 1, .int .u32 p.src, .int .u32 p.dst, .slice C1 e1 f1, .slice C2 e2 f2] 26 := (by rw [← hw5]; exact blk_new w4 _ _ _ rfl); have V5 : Below w4.heap.size w4 w5 := (by rw [← hw5]; (repeat (first | with_reducible exact Below.refl _ _ | with_reducible refine below_drew ?_ | with_reducible refine below_drewN ?_ _ | with_reducible refine below_alloc ?_ (Nat.le_refl _) _ | with_reducible refine Below.setCell ?_ (by first | exact Nat.le_refl _ | (simp only []; omega)) _ | with_reducible assumption))); have q5 := Q5.cell))
  have O1' := O1.below V5
  have O2' := O2.below V5
  have T5 := below_then T4 V5
  have Z5 := Z4.below V5
  have zl := Z4.lt
  have r1s := R1.size
  have t3s := T3.size
  have k2l := Z1.lt
  refine region_txt 7 (by kernel_rfl) (by kernel_rfl) ?_; (iterate 7 (first | (apply ObsK.skip (by rfl)) | (apply ObsK.v (by rfl); (intro wo hT; (repeat (first | (intro v hv; (skip)) | (intro _ _ k; try have hcv := cv k))); (have qc := (Q5.below hT).cell; have bo := O2'.bs.below hT; have hsz : w5.heap.size ≤ wo.heap.size := hT.size); refine Goes.mk ?_; go_simp; first | exact goes_v | exact goes_b (by assumption) | (refine goes_enter ?_; first | (go_at_call 40; ((with_reducible refine (sum_any C2 e2 f2 (mL m) wo bo).mono ?_); rintro e w9 ⟨rfl, hB9⟩); exact ret_v hB9) | (go_at_call 39; ((with_reducible refine (put16_any C2 e2 f2 (mL m) 2 _ (csum_lo _) (csum_hi _) wo bo).mono ?_); rintro e w9 ⟨A9, c9, rfl, ho9, hB9⟩); exact ret_p (own_isW ho9 hsz) hB9)))) | (apply ObsK.b (by rfl); (intro wo hT; (repeat (first | (intro v hv; (skip)) | (intro _ _ k; try have hcv := cv k))); (have qc := (Q5.below hT).cell; have bo := O2'.bs.below hT; have hsz : w5.heap.size ≤ wo.heap.size := hT.size); refine Goes.mk ?_; go_simp; first | exact goes_v | exact goes_b (by assumption) | (refine goes_enter ?_; first | (go_at_call 40; ((with_reducible refine (sum_any C2 e2 f2 (mL m) wo bo).mono ?_); rintro e w9 ⟨rfl, hB9⟩); exact ret_v hB9) | (go_at_call 39; ((with_reducible refine (put16_any C2 e2 f2 (mL m) 2 _ (csum_lo _) (csum_hi _) wo bo).mono ?_); rintro e w9 ⟨A9, c9, rfl, ho9, hB9⟩); exact ret_p (own_isW ho9 hsz) hB9)))) | (apply ObsK.p (q := isW w5.heap.size _) (by rfl) st_isW; (intro wo hT; (repeat (first | (intro v hv; (skip)) | (intro _ _ k; try have hcv := cv k))); (have qc := (Q5.below hT).cell; have bo := O2'.bs.below hT; have hsz : w5.heap.size ≤ wo.heap.size := hT.size); refine Goes.mk ?_; go_simp; first | exact goes_v | exact goes_b (by assumption) | (refine goes_enter ?_; first | (go_at_call 40; ((with_reducible refine (sum_any C2 e2 f2 (mL m) wo bo).mono ?_); rintro e w9 ⟨rfl, hB9⟩); exact ret_v hB9) | (go_at_call 39; ((with_reducible refine (put16_any C2 e2 f2 (mL m) 2 _ (csum_lo _) (csum_hi _) wo bo).mono ?_); rintro e w9 ⟨A9, c9, rfl, ho9, hB9⟩); exact ret_p (own_isW ho9 hsz) hB9)))))); refine ObsK.nil ?_; intro wz hBz; simp only [finOn, List.drop_succ_cons, List.drop_zero, List.drop_nil]
  rintro v9 ⟨A9, n9, c9, rfl, O9⟩
  go_simp
  have Q6 := Q5.below hBz
  have q6 := Q6.cell
  have q5l := Q5.lt
  have Z6 := Z5.below hBz
  obtain ⟨w7, hw7, S7⟩ := store1 Q6 8 (.slice A9 n9 c9)
  simp only [List.setIfInBounds_toArray, List.set_cons_zero, List.set_cons_succ] at S7
  have q7 := S7.blk.cell
  have Z7 := S7.other (by omega) Z6
  have z7 := Z7.cell
  have T7 := S7.bel (below_then R1 (below_then T5 hBz)) (by omega)
  have O7 := S7.own (O1'.below hBz) (fun a e => by
    have h1 := O1.ge a e
    have h2 : a.block < w4.heap.size := by
      rcases O1.row.2 with ⟨hv, _⟩ | ⟨g, cap, cur, hv, _, hg, _⟩
      · injection hv with hv; rw [hv] at e; cases e
      · injection hv with hv; rw [hv] at e; injection e with e; subst e; exact (Array.getElem?_eq_some_iff.1 hg).1
    omega)
  have D7 := S7.own O9 (fun a e => by have := O9.ge a e; omega)
  go_wp2_with fail
  obtain ⟨wf, hwf, Sf⟩ := store9 Z7 (.int .u8 p.tos) (.int .u16 p.id) (.bool p.keep) (.int .u8 p.ttl) (.int .u8 1) (.int .u32 p.src) (.int .u32 p.dst) (.slice C1 e1 f1) (.slice A9 n9 c9)
  rw [hwf]
  have pf := Sf.blk.cell
  have Of := Sf.own O7 (fun a e => by have := O1.ge a e; omega)
  have Df := Sf.own D7 (fun a e => by have := O9.ge a e; omega)
  refine bodyPost_ret (v := .tuple #[.agg #[.int .u8 p.tos, .int .u16 p.id, .bool p.keep, .int .u8 p.ttl, .int .u8 1, .int .u32 p.src, .int .u32 p.dst, .slice C1 e1 f1, .slice A9 n9 c9], .int .i64 0]) (by simp [results, Try.results14, go_sem, pf]) rfl ⟨⟨C1, e1, f1, A9, n9, c9, rfl, Of.mono (by omega), ?_, Sf.bel T7 (by omega)⟩⟩
  exact Df.mono (by omega)
theorem bicmp_no (p : Pkt) (A1 : Option Addr) (n1 c1 : Nat) (A2 : Option Addr) (n2 c2 : Nat) (m : Msg) (hm : m.Ok) (B1 : Option Addr) (m1 d1 : Nat) (w : World) (k1 : Bs w A1 n1 c1 p.opt) (j1 : Bs w B1 m1 d1 m.dat)
    (E : Int) (hE : wiE p (8 + m1) = E) (h0 : E ≠ 0) (hm1 : m1 ≤ 140737488400000) :
    Calls Try.prog 14 #[(.agg #[.int .u8 (p).tos, .int .u16 (p).id, .bool (p).keep, .int .u8 (p).ttl, .int .u8 (p).proto, .int .u32 (p).src, .int .u32 (p).dst, .slice A1 n1 c1, .slice A2 n2 c2]), (.agg #[.int .u8 (m).ty, .int .u8 (m).code, .int .u32 (m).rest, .slice B1 m1 d1])] w (WiPost w zP E) := by
  have b1 := j1.max
  have jl := j1.len
  obtain ⟨⟨t0, t1⟩, ⟨u0, u1⟩, ⟨r0, r1⟩⟩ := hm
  have L8 := fun W => lit8 (e := 5) t0 t1 u0 u1 W
  have H8 := Lib.hid (head8 m)
  have hw2 : ∀ W lv, isCat lv (mL m) W → Bs W A1 n1 c1 p.opt → Calls Try.prog 38 #[(.agg #[.int .u8 (p).tos, .int .u16 (p).id, .bool (p).keep, .int .u8 (p).ttl, .int .u8 (p).proto, .int .u32 (p).src, .int .u32 (p).dst, .slice A1 n1 c1, .slice A2 n2 c2]), .int .u8 1, lv] W (fun e w' => ∃ B1 m1 d1 B2 m2 d2, e = .returned (.tuple #[.agg #[.int .u8 0, .int .u16 0, .bool false, .int .u8 0, .int .u8 0, .int .u32 0, .int .u32 0, .slice B1 m1 d1, .slice B2 m2 d2], .int .i64 E]) ∧ Own w' W.heap.size 5 B1 m1 d1 [] ∧ Own w' W.heap.size 5 B2 m2 d2 [] ∧ Below W.heap.size W w') := fun W lv hc kk => by
    have hh := with_any p A1 n1 c1 A2 n2 c2 1 lv (mL m) W kk hc (by rw [mL_len]; omega)
    unfold withP at hh
    rw [mL_len, jl, hE, if_neg h0] at hh
    exact hh.mono fun e w' hq => hq.out
  have e0 : (E == 0) = false := by simpa using h0
  clear jl hE h0
  obtain ⟨k, hk⟩ : ∃ k : Nat, w.heap.size = k := ⟨_, rfl⟩
  obtain ⟨w1, hw1⟩ : ∃ w1, ((w.alloc (.cells #[.int .u8 (p).tos, .int .u16 (p).id, .bool (p).keep, .int .u8 (p).ttl, .int .u8 (p).proto, .int .u32 (p).src, .int .u32 (p).dst, .slice A1 n1 c1, .slice A2 n2 c2] 26)).alloc (.cells #[.int .u8 (m).ty, .int .u8 (m).code, .int .u32 (m).rest, .slice B1 m1 d1] 28)).alloc (.cells #[.int .u8 0, .int .u16 0, .bool false, .int .u8 0, .int .u8 0, .int .u32 0, .int .u32 0, .slice none 0 0, .slice none 0 0] 26) = w1 := ⟨_, rfl⟩
  have P1 : Blk w1 k #[.int .u8 (p).tos, .int .u16 (p).id, .bool (p).keep, .int .u8 (p).ttl, .int .u8 (p).proto, .int .u32 (p).src, .int .u32 (p).dst, .slice A1 n1 c1, .slice A2 n2 c2] 26 := by rw [← hw1]; exact ((blk_new w _ _ k hk).alloc _).alloc _
  have M1 : Blk w1 (k + 1) #[.int .u8 (m).ty, .int .u8 (m).code, .int .u32 (m).rest, .slice B1 m1 d1] 28 := by rw [← hw1]; exact (blk_new _ _ _ (k + 1) (by simp [hk])).alloc _
  have Z1 : Blk w1 (k + 1 + 1) #[.int .u8 0, .int .u16 0, .bool false, .int .u8 0, .int .u8 0, .int .u32 0, .int .u32 0, .slice none 0 0, .slice none 0 0] 26 := by rw [← hw1]; exact blk_new _ _ _ (k + 1 + 1) (by simp [hk])
  have R1 : Below w.heap.size w w1 := by rw [← hw1]; (repeat (first | with_reducible exact Below.refl _ _ | with_reducible refine below_drew ?_ | with_reducible refine below_drewN ?_ _ | with_reducible refine below_alloc ?_ (Nat.le_refl _) _ | with_reducible refine Below.setCell ?_ (by first | exact Nat.le_refl _ | (simp only []; omega)) _ | with_reducible assumption))
  have x1 := k1.below R1
  have y1 := j1.below R1
  have pc := P1.cell
  have mc := M1.cell
  have kl1 := P1.lt
  have ml1 := M1.lt
  go_enter Try.func14, Try.ntmps14
  go_wp2_with (first
    | (go_at_call 37; ((with_reducible refine (put32_any _ 8 8 _ 4 m.rest r0 r1 _ (L8 w1).bs).mono ?_); rintro e w2 ⟨A6, c6, rfl, ho6, hB2⟩); rw [H8.out] at ho6; have T2 := below_then (below_alloc (Below.refl w1.heap.size w1) (Nat.le_refl _) _) hB2; have pc2 := (P1.below T2).cell; have mc2 := (M1.below T2).cell; have pl2 := (P1.below T2).lt; have ml2 := (M1.below T2).lt; have y2 := y1.below T2; have o6 := ho6.bs; (obtain ⟨w3, hw3⟩ : ∃ w3, w2.alloc (.cells #[.slice A6 8 c6, .slice B1 m1 d1] 24) = w3 := ⟨_, rfl⟩); have G3 : Blk w3 w2.heap.size #[.slice A6 8 c6, .slice B1 m1 d1] 24 := (by rw [← hw3]; exact blk_new w2 _ _ _ rfl); have V3 : Below w2.heap.size w2 w3 := (by rw [← hw3]; (repeat (first | with_reducible exact Below.refl _ _ | with_reducible refine below_drew ?_ | with_reducible refine below_drewN ?_ _ | with_reducible refine below_alloc ?_ (Nat.le_refl _) _ | with_reducible refine Below.setCell ?_ (by first | exact Nat.le_refl _ | (simp only []; omega)) _ | with_reducible assumption))); have T3 := below_then T2 V3; have hcat := isCat2 G3 (o6.below V3) (y2.below V3) (cc := 2) (by omega))
    | (go_at_call 38; ((with_reducible refine (hw2 w3 _ hcat (x1.below T3)).mono ?_); rintro e w4 ⟨C1, e1, f1, C2, e2, f2, rfl, O1, O2, hB4⟩); have T4 := below_then T3 hB4; have Z4 := Z1.below T4; (obtain ⟨w5, hw5⟩ : ∃ w5, w4.alloc (.cells #[.int .u8 0, .int .u16 0, .bool false, .int .u8 0, .int .u8 0, .int .u32 0, .int .u32 0, .slice C1 e1 f1, .slice C2 e2 f2] 26) = w5 := ⟨_, rfl⟩); have Q5 : Blk w5 w4.heap.size #[.int .u8 0, .int .u16 0, .bool false, .int .u8 0, .int .u8 0, .int .u32 0, .int .u32 0, .slice C1 e1 f1, .slice C2 e2 f2] 26 := (by rw [← hw5]; exact blk_new w4 _ _ _ rfl); have V5 : Below w4.heap.size w4 w5 := (by rw [← hw5]; (repeat (first | with_reducible exact Below.refl _ _ | with_reducible refine below_drew ?_ | with_reducible refine below_drewN ?_ _ | with_reducible refine below_alloc ?_ (Nat.le_refl _) _ | with_reducible refine Below.setCell ?_ (by first | exact Nat.le_refl _ | (simp only []; omega)) _ | with_reducible assumption))); have q5 := Q5.cell; have Z5 := Z4.below V5; have z5 := Z5.cell))
  obtain ⟨wf, hwf, Sf⟩ := store9 Z5 (.int .u8 0) (.int .u16 0) (.bool false) (.int .u8 0) (.int .u8 0) (.int .u32 0) (.int .u32 0) (.slice C1 e1 f1) (.slice C2 e2 f2)
  rw [hwf]
  have pf := Sf.blk.cell
  have k2l := Z1.lt
  have t3s := T3.size
  have r1s := R1.size
  have Of := Sf.own (O1.below V5) (fun a e => by have := O1.ge a e; omega)
  have Df := Sf.own (O2.below V5) (fun a e => by have := O2.ge a e; omega)
  refine bodyPost_ret (v := .tuple #[.agg #[.int .u8 0, .int .u16 0, .bool false, .int .u8 0, .int .u8 0, .int .u32 0, .int .u32 0, .slice C1 e1 f1, .slice C2 e2 f2], .int .i64 E]) (by simp [results, Try.results14, go_sem, pf]) rfl ⟨⟨C1, e1, f1, C2, e2, f2, rfl, Of.mono (by omega), Df.mono (by omega), Sf.bel (below_then R1 (below_then T4 V5)) (by omega)⟩⟩
theorem bicmp_any (p : Pkt) (A1 : Option Addr) (n1 c1 : Nat) (A2 : Option Addr) (n2 c2 : Nat) (m : Msg) (hm : m.Ok) (B1 : Option Addr) (m1 d1 : Nat) (w : World) (k1 : Bs w A1 n1 c1 p.opt) (j1 : Bs w B1 m1 d1 m.dat) (hm1 : m1 ≤ 140737488400000) :
    Calls Try.prog 14 #[(.agg #[.int .u8 (p).tos, .int .u16 (p).id, .bool (p).keep, .int .u8 (p).ttl, .int .u8 (p).proto, .int .u32 (p).src, .int .u32 (p).dst, .slice A1 n1 c1, .slice A2 n2 c2]), (.agg #[.int .u8 (m).ty, .int .u8 (m).code, .int .u32 (m).rest, .slice B1 m1 d1])] w (WiPost w (withP p 1 (mS m)) (wiE p (8 + m.dat.length))) := by
  unfold withP
  rw [mS_len, j1.len]
  by_cases h : wiE p (8 + m1) = 0
  · rw [h, if_pos rfl]
    exact bicmp_ok p A1 n1 c1 A2 n2 c2 m hm B1 m1 d1 w k1 j1 h hm1
  · rw [if_neg h]
    exact bicmp_no p A1 n1 c1 A2 n2 c2 m hm B1 m1 d1 w k1 j1 _ rfl h hm1
end Go.Proofs.Ytogbncpchmnbdaa
