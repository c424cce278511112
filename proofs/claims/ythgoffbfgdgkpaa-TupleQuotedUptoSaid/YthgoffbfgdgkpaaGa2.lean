/- Parts of the proofs of this seat, laid together. -/
import Derived.BigRegionIn
import Derived.OwnWalkIn
import Derived.Lib.AppendZerosOnto
import Derived.Laws.CopyRow
import Derived.ChangeKeysEq
import Derived.Test.YthgoffbfgdgkpaaGa1
namespace Go.Proofs.Ythgoffbfgdgkpaa
open Go.RowKit
set_option linter.unusedVariables false
set_option linter.unusedSimpArgs false
set_option maxHeartbeats 4000000
set_option maxRecDepth 100000

theorem store478 {W : World} {r : Nat} {c0 c1 c2 c3 c4 c5 c6 c7 c8 : Value} {t : TypeId} (R : Blk W r #[c0, c1, c2, c3, c4, c5, c6, c7, c8] t) (v4 v7 v8 : Value) :
    ∃ wf, (((W.setCell ⟨r, 4, none⟩ v4).setCell ⟨r, 7, none⟩ v7).setCell ⟨r, 8, none⟩ v8) = wf ∧ Sto W r wf #[c0, c1, c2, c3, v4, c5, c6, v7, v8] t := by
  have h := (((Sto.nil R).set 4 v4).set 7 v7).set 8 v8
  simp only [List.setIfInBounds_toArray, List.set_cons_zero, List.set_cons_succ] at h
  exact ⟨_, rfl, h⟩
def isCat (lv : Value) (d : List UInt8) (w : World) : Prop := ∀ W, Below w.heap.size w W → Calls Try.prog 91 #[lv] W fun e w' => ∃ A n c, e = .returned (.slice A n c) ∧ Own w' W.heap.size 5 A n c d ∧ Below W.heap.size W w'
theorem with_no (fn : List UInt8) (p : Pkt) (A1 : Option Addr) (n1 c1 : Nat) (A2 : Option Addr) (n2 c2 : Nat) (pr : Int) (lv : Value) (d : List UInt8) (nd : Nat) (hd : d.length = nd) (w : World) (k1 : Bs w A1 n1 c1 p.opt) (hcc : isCat lv d w) (b3 : nd ≤ 200000000000000) (E : Int)
    (h : (E = 4 ∧ 40 < (n1 : Int)) ∨ (E = 4 ∧ (n1 : Int) ≤ 40 ∧ ((n1 : Int) % 4 != 0) = true) ∨ (E = 8 ∧ (n1 : Int) ≤ 40 ∧ ((n1 : Int) % 4 != 0) = false ∧ rightP { p with proto := pr, dat := d } = false)) :
    Calls Try.prog 86 #[(.agg #[.int .u8 (p).tos, .int .u16 (p).id, .bool (p).keep, .int .u8 (p).ttl, .int .u8 (p).proto, .int .u32 (p).src, .int .u32 (p).dst, .slice A1 n1 c1, .slice A2 n2 c2]), .int .u8 pr, lv] w (WiPost w zP E) := by
  have b1 := k1.max
  have HD := Lib.hid hd
  have hc2 : ∀ W, Below w.heap.size w W → Calls Try.prog 91 #[lv] W fun e w' => ∃ A n c, e = .returned (.slice A n c) ∧ Own w' W.heap.size 5 A n c d ∧ Below W.heap.size W w' := hcc
  clear hd hcc
  obtain ⟨k, hk⟩ : ∃ k : Nat, w.heap.size = k := ⟨_, rfl⟩
  obtain ⟨w1, hw1⟩ : ∃ w1, (w.alloc (.cells #[.int .u8 (p).tos, .int .u16 (p).id, .bool (p).keep, .int .u8 (p).ttl, .int .u8 (p).proto, .int .u32 (p).src, .int .u32 (p).dst, .slice A1 n1 c1, .slice A2 n2 c2] 26)).alloc (.cells #[.int .u8 0, .int .u16 0, .bool false, .int .u8 0, .int .u8 0, .int .u32 0, .int .u32 0, .slice none 0 0, .slice none 0 0] 26) = w1 := ⟨_, rfl⟩
  have P1 : Blk w1 k #[.int .u8 (p).tos, .int .u16 (p).id, .bool (p).keep, .int .u8 (p).ttl, .int .u8 (p).proto, .int .u32 (p).src, .int .u32 (p).dst, .slice A1 n1 c1, .slice A2 n2 c2] 26 := by rw [← hw1]; exact (blk_new w _ _ k hk).alloc _
  have Z1 : Blk w1 (k + 1) #[.int .u8 0, .int .u16 0, .bool false, .int .u8 0, .int .u8 0, .int .u32 0, .int .u32 0, .slice none 0 0, .slice none 0 0] 26 := by rw [← hw1]; exact blk_new _ _ _ (k + 1) (by simp [hk])
  have R1 : Below w.heap.size w w1 := by rw [← hw1]; (repeat (first | with_reducible exact Below.refl _ _ | with_reducible refine below_drew ?_ | with_reducible refine below_drewN ?_ _ | with_reducible refine below_alloc ?_ (Nat.le_refl _) _ | with_reducible refine Below.setCell ?_ (by first | exact Nat.le_refl _ | (simp only []; omega)) _ | with_reducible assumption))
  have x1 := k1.below R1
  have pc := P1.cell
  rcases h with ⟨rfl, h1⟩ | ⟨rfl, h1, h2⟩ | ⟨rfl, h1, h2, h3⟩
  · go_enter Try.func86, Try.ntmps86
    have HR : Hid (rightP { p with proto := pr, dat := d } = rightP { p with proto := pr, dat := d }) := rfl
    go_wp2_with (first
    | (go_at_call 64; ((with_reducible refine (clone_any A1 n1 c1 p.opt _ x1).mono ?_); rintro e w2 ⟨A4, c4, rfl, ho4, hB2⟩); have s2 := hB2.size; have T2 := below_then R1 hB2)
    | (go_at_call 91; ((with_reducible refine (hc2 _ T2).mono ?_); rintro e w3 ⟨A6, n6, c6, rfl, ho6, hB3⟩); have u6 : n6 = nd := (by rw [← ho6.len]; exact HD.out); subst u6; have P3 := (P1.below hB2).below hB3; have pc3 := P3.cell; have Z3 := (Z1.below hB2).below hB3; have O4 := ho4.below hB3; (obtain ⟨w5, hw5, S5⟩ := store478 P3 (.int .u8 pr) (.slice A4 n1 c4) (.slice A6 n6 c6)); have pc5 := S5.blk.cell; have T5 := S5.bel (below_then T2 hB3) (by omega); have Z5 := S5.other (by omega) Z3; have zc5 := Z5.cell; have O5 := S5.own O4 (fun a e => by have := O4.ge a e; have := P1.lt; omega); have D5 := S5.own ho6 (fun a e => by have := ho6.ge a e; have := P1.lt; omega))
    | (go_at_call 97; ((with_reducible refine (right_any { p with proto := pr, dat := d } A4 n1 c4 A6 n6 c6 w5 O5.bs D5.bs).mono ?_); rintro e w6 ⟨he6, hB6⟩); rw [HR.out] at he6; subst he6; have pc6 := (S5.blk.below hB6).cell; have Z6 := Z5.below hB6; have zc6 := Z6.cell; have T6 := below_then T5 hB6))
    obtain ⟨wf, hwf, Sf⟩ := store9 Z5 (.int .u8 0) (.int .u16 0) (.bool false) (.int .u8 0) (.int .u8 0) (.int .u32 0) (.int .u32 0) (.slice none 0 0) (.slice none 0 0)
    rw [hwf]
    have pf := Sf.blk.cell
    exact bodyPost_ret (by simp [results, Try.results86, go_sem, pf]) rfl (wiPost_no (Sf.bel T5 (by omega)))
  · go_enter Try.func86, Try.ntmps86
    have HR : Hid (rightP { p with proto := pr, dat := d } = rightP { p with proto := pr, dat := d }) := rfl
    go_wp2_with (first
    | (go_at_call 64; ((with_reducible refine (clone_any A1 n1 c1 p.opt _ x1).mono ?_); rintro e w2 ⟨A4, c4, rfl, ho4, hB2⟩); have s2 := hB2.size; have T2 := below_then R1 hB2)
    | (go_at_call 91; ((with_reducible refine (hc2 _ T2).mono ?_); rintro e w3 ⟨A6, n6, c6, rfl, ho6, hB3⟩); have u6 : n6 = nd := (by rw [← ho6.len]; exact HD.out); subst u6; have P3 := (P1.below hB2).below hB3; have pc3 := P3.cell; have Z3 := (Z1.below hB2).below hB3; have O4 := ho4.below hB3; (obtain ⟨w5, hw5, S5⟩ := store478 P3 (.int .u8 pr) (.slice A4 n1 c4) (.slice A6 n6 c6)); have pc5 := S5.blk.cell; have T5 := S5.bel (below_then T2 hB3) (by omega); have Z5 := S5.other (by omega) Z3; have zc5 := Z5.cell; have O5 := S5.own O4 (fun a e => by have := O4.ge a e; have := P1.lt; omega); have D5 := S5.own ho6 (fun a e => by have := ho6.ge a e; have := P1.lt; omega))
    | (go_at_call 97; ((with_reducible refine (right_any { p with proto := pr, dat := d } A4 n1 c4 A6 n6 c6 w5 O5.bs D5.bs).mono ?_); rintro e w6 ⟨he6, hB6⟩); rw [HR.out] at he6; subst he6; have pc6 := (S5.blk.below hB6).cell; have Z6 := Z5.below hB6; have zc6 := Z6.cell; have T6 := below_then T5 hB6))
    obtain ⟨wf, hwf, Sf⟩ := store9 Z5 (.int .u8 0) (.int .u16 0) (.bool false) (.int .u8 0) (.int .u8 0) (.int .u32 0) (.int .u32 0) (.slice none 0 0) (.slice none 0 0)
    rw [hwf]
    have pf := Sf.blk.cell
    exact bodyPost_ret (by simp [results, Try.results86, go_sem, pf]) rfl (wiPost_no (Sf.bel T5 (by omega)))
  · go_enter Try.func86, Try.ntmps86
    have HR := Lib.hid h3
    clear h3
    go_wp2_with (first
    | (go_at_call 64; ((with_reducible refine (clone_any A1 n1 c1 p.opt _ x1).mono ?_); rintro e w2 ⟨A4, c4, rfl, ho4, hB2⟩); have s2 := hB2.size; have T2 := below_then R1 hB2)
    | (go_at_call 91; ((with_reducible refine (hc2 _ T2).mono ?_); rintro e w3 ⟨A6, n6, c6, rfl, ho6, hB3⟩); have u6 : n6 = nd := (by rw [← ho6.len]; exact HD.out); subst u6; have P3 := (P1.below hB2).below hB3; have pc3 := P3.cell; have Z3 := (Z1.below hB2).below hB3; have O4 := ho4.below hB3; (obtain ⟨w5, hw5, S5⟩ := store478 P3 (.int .u8 pr) (.slice A4 n1 c4) (.slice A6 n6 c6)); have pc5 := S5.blk.cell; have T5 := S5.bel (below_then T2 hB3) (by omega); have Z5 := S5.other (by omega) Z3; have zc5 := Z5.cell; have O5 := S5.own O4 (fun a e => by have := O4.ge a e; have := P1.lt; omega); have D5 := S5.own ho6 (fun a e => by have := ho6.ge a e; have := P1.lt; omega))
    | (go_at_call 97; ((with_reducible refine (right_any { p with proto := pr, dat := d } A4 n1 c4 A6 n6 c6 w5 O5.bs D5.bs).mono ?_); rintro e w6 ⟨he6, hB6⟩); rw [HR.out] at he6; subst he6; have pc6 := (S5.blk.below hB6).cell; have Z6 := Z5.below hB6; have zc6 := Z6.cell; have T6 := below_then T5 hB6))
    obtain ⟨wf, hwf, Sf⟩ := store9 Z6 (.int .u8 0) (.int .u16 0) (.bool false) (.int .u8 0) (.int .u8 0) (.int .u32 0) (.int .u32 0) (.slice none 0 0) (.slice none 0 0)
    rw [hwf]
    have pf := Sf.blk.cell
    exact bodyPost_ret (by simp [results, Try.results86, go_sem, pf]) rfl (wiPost_no (Sf.bel T6 (by omega)))
theorem with_ok (p : Pkt) (A1 : Option Addr) (n1 c1 : Nat) (A2 : Option Addr) (n2 c2 : Nat) (pr : Int) (lv : Value) (d : List UInt8) (nd : Nat) (hd : d.length = nd) (w : World) (k1 : Bs w A1 n1 c1 p.opt) (hcc : isCat lv d w) (b3 : nd ≤ 200000000000000)
    (h1 : (n1 : Int) ≤ 40) (h2 : ((n1 : Int) % 4 != 0) = false) (h3 : rightP { p with proto := pr, dat := d } = true) :
    Calls Try.prog 86 #[(.agg #[.int .u8 (p).tos, .int .u16 (p).id, .bool (p).keep, .int .u8 (p).ttl, .int .u8 (p).proto, .int .u32 (p).src, .int .u32 (p).dst, .slice A1 n1 c1, .slice A2 n2 c2]), .int .u8 pr, lv] w (WiPost w { p with proto := pr, dat := d } 0) := by
  have b1 := k1.max
  have HD := Lib.hid hd
  have hc2 : ∀ W, Below w.heap.size w W → Calls Try.prog 91 #[lv] W fun e w' => ∃ A n c, e = .returned (.slice A n c) ∧ Own w' W.heap.size 5 A n c d ∧ Below W.heap.size W w' := hcc
  clear hd hcc
  obtain ⟨k, hk⟩ : ∃ k : Nat, w.heap.size = k := ⟨_, rfl⟩
  obtain ⟨w1, hw1⟩ : ∃ w1, (w.alloc (.cells #[.int .u8 (p).tos, .int .u16 (p).id, .bool (p).keep, .int .u8 (p).ttl, .int .u8 (p).proto, .int .u32 (p).src, .int .u32 (p).dst, .slice A1 n1 c1, .slice A2 n2 c2] 26)).alloc (.cells #[.int .u8 0, .int .u16 0, .bool false, .int .u8 0, .int .u8 0, .int .u32 0, .int .u32 0, .slice none 0 0, .slice none 0 0] 26) = w1 := ⟨_, rfl⟩
  have P1 : Blk w1 k #[.int .u8 (p).tos, .int .u16 (p).id, .bool (p).keep, .int .u8 (p).ttl, .int .u8 (p).proto, .int .u32 (p).src, .int .u32 (p).dst, .slice A1 n1 c1, .slice A2 n2 c2] 26 := by rw [← hw1]; exact (blk_new w _ _ k hk).alloc _
  have Z1 : Blk w1 (k + 1) #[.int .u8 0, .int .u16 0, .bool false, .int .u8 0, .int .u8 0, .int .u32 0, .int .u32 0, .slice none 0 0, .slice none 0 0] 26 := by rw [← hw1]; exact blk_new _ _ _ (k + 1) (by simp [hk])
  have R1 : Below w.heap.size w w1 := by rw [← hw1]; (repeat (first | with_reducible exact Below.refl _ _ | with_reducible refine below_drew ?_ | with_reducible refine below_drewN ?_ _ | with_reducible refine below_alloc ?_ (Nat.le_refl _) _ | with_reducible refine Below.setCell ?_ (by first | exact Nat.le_refl _ | (simp only []; omega)) _ | with_reducible assumption))
  have x1 := k1.below R1
  have pc := P1.cell
  go_enter Try.func86, Try.ntmps86
  have HR := Lib.hid h3
  clear h3
  go_wp2_with (first
    | (go_at_call 64; ((with_reducible refine (clone_any A1 n1 c1 p.opt _ x1).mono ?_); rintro e w2 ⟨A4, c4, rfl, ho4, hB2⟩); have s2 := hB2.size; have T2 := below_then R1 hB2)
    | (go_at_call 91; ((with_reducible refine (hc2 _ T2).mono ?_); rintro e w3 ⟨A6, n6, c6, rfl, ho6, hB3⟩); have u6 : n6 = nd := (by rw [← ho6.len]; exact HD.out); subst u6; have P3 := (P1.below hB2).below hB3; have pc3 := P3.cell; have Z3 := (Z1.below hB2).below hB3; have O4 := ho4.below hB3; (obtain ⟨w5, hw5, S5⟩ := store478 P3 (.int .u8 pr) (.slice A4 n1 c4) (.slice A6 n6 c6)); have pc5 := S5.blk.cell; have T5 := S5.bel (below_then T2 hB3) (by omega); have Z5 := S5.other (by omega) Z3; have zc5 := Z5.cell; have O5 := S5.own O4 (fun a e => by have := O4.ge a e; have := P1.lt; omega); have D5 := S5.own ho6 (fun a e => by have := ho6.ge a e; have := P1.lt; omega))
    | (go_at_call 97; ((with_reducible refine (right_any { p with proto := pr, dat := d } A4 n1 c4 A6 n6 c6 w5 O5.bs D5.bs).mono ?_); rintro e w6 ⟨he6, hB6⟩); rw [HR.out] at he6; subst he6; have pc6 := (S5.blk.below hB6).cell; have Z6 := Z5.below hB6; have zc6 := Z6.cell; have T6 := below_then T5 hB6))
  obtain ⟨wf, hwf, Sf⟩ := store9 Z6 (.int .u8 p.tos) (.int .u16 p.id) (.bool p.keep) (.int .u8 p.ttl) (.int .u8 pr) (.int .u32 p.src) (.int .u32 p.dst) (.slice A4 n1 c4) (.slice A6 n6 c6)
  rw [hwf]
  have pf := Sf.blk.cell
  have zl := Z1.lt
  have O6 := O5.below hB6
  have D6 := D5.below hB6
  have Of := Sf.own O6 (fun a e => by have := O6.ge a e; omega)
  have Df := Sf.own D6 (fun a e => by have := D6.ge a e; omega)
  have r1 := R1.size
  refine bodyPost_ret (v := .tuple #[.agg #[.int .u8 p.tos, .int .u16 p.id, .bool p.keep, .int .u8 p.ttl, .int .u8 pr, .int .u32 p.src, .int .u32 p.dst, .slice A4 n1 c4, .slice A6 n6 c6], .int .i64 0]) (by simp [results, Try.results86, go_sem, pf]) rfl ⟨A4, n1, c4, A6, n6, c6, rfl, Of.mono (by omega), Df.mono (by omega), Sf.bel T6 (by omega)⟩
theorem with_any (p : Pkt) (A1 : Option Addr) (n1 c1 : Nat) (A2 : Option Addr) (n2 c2 : Nat) (pr : Int) (lv : Value) (d : List UInt8) (w : World) (k1 : Bs w A1 n1 c1 p.opt) (hcc : isCat lv d w) (b3 : d.length ≤ 200000000000000) :
    Calls Try.prog 86 #[(.agg #[.int .u8 (p).tos, .int .u16 (p).id, .bool (p).keep, .int .u8 (p).ttl, .int .u8 (p).proto, .int .u32 (p).src, .int .u32 (p).dst, .slice A1 n1 c1, .slice A2 n2 c2]), .int .u8 pr, lv] w (WiPost w (withP p pr d) (wiE p d.length)) := by
  have l1 := k1.len
  unfold withP
  by_cases h1 : (n1 : Int) ≤ 40
  · by_cases h2 : n1 % 4 = 0
    · by_cases h3 : 20 + (n1 : Int) + (d.length : Int) ≤ 65535
      · rw [wiE_0 l1 h1 h2 h3, if_pos rfl]
        exact with_ok p A1 n1 c1 A2 n2 c2 pr lv d d.length rfl w k1 hcc b3 h1 (m4_no h2) (by unfold rightP; simp [l1]; omega)
      · rw [wiE_8 l1 h1 h2 (by omega), if_neg (by decide)]
        exact with_no [] p A1 n1 c1 A2 n2 c2 pr lv d d.length rfl w k1 hcc b3 8 (.inr (.inr ⟨rfl, h1, m4_no h2, by unfold rightP; simp [l1]; omega⟩))
    · rw [wiE_4 l1 (.inr h2), if_neg (by decide)]
      exact with_no [] p A1 n1 c1 A2 n2 c2 pr lv d d.length rfl w k1 hcc b3 4 (.inr (.inl ⟨rfl, h1, m4_yes h2⟩))
  · rw [wiE_4 l1 (.inl (by omega)), if_neg (by decide)]
    exact with_no [] p A1 n1 c1 A2 n2 c2 pr lv d d.length rfl w k1 hcc b3 4 (.inl ⟨rfl, by omega⟩)
end Go.Proofs.Ythgoffbfgdgkpaa

namespace Go.Proofs.Ythgoffbfgdgkpaa
open Go.RowKit
set_option linter.unusedVariables false
set_option linter.unusedSimpArgs false
set_option linter.unusedSimpArgs false
set_option maxHeartbeats 4000000
set_option maxRecDepth 100000

structure isC (L : List UInt8) (W : World) (v : Value) : Prop where
  out : ∀ W', Below W.heap.size W W' → Calls Try.prog 91 #[v] W' fun e w' => ∃ A n c, e = .returned (.slice A n c) ∧ Own w' W'.heap.size 5 A n c L ∧ Below W'.heap.size W' w'
theorem st_isC {L : List UInt8} : ∀ w w' v, isC L w v → Below w.heap.size w w' → isC L w' v := fun w w' v h hb => ⟨fun W hB => h.out W (below_then hb hB)⟩
theorem isCat3 {W0 : World} {g n1 c1 n2 c2 n3 c3 cc : Nat} {A1 A2 A3 : Option Addr} {l1 l2 l3 : List UInt8} {T : TypeId} (G : Blk W0 g #[.slice A1 n1 c1, .slice A2 n2 c2, .slice A3 n3 c3] T) (k1 : Bs W0 A1 n1 c1 l1) (k2 : Bs W0 A2 n2 c2 l2) (k3 : Bs W0 A3 n3 c3 l3) (h : n1 + n2 + n3 ≤ 200000000000000) :
    isCat (.slice (some ⟨g, 0, none⟩) 3 cc) (l1 ++ l2 ++ l3) W0 := by
  intro W hB
  have G' := G.below hB
  have gc := G'.cell.1
  have := concat_any g 3 cc (fun j => if j = 0 then A1 else if j = 1 then A2 else A3) (fun j => if j = 0 then n1 else if j = 1 then n2 else n3) (fun j => if j = 0 then c1 else if j = 1 then c2 else c3) (fun j => if j = 0 then l1 else if j = 1 then l2 else l3) (by omega) W G'.lt (fun j hj => by
      rw [gc]
      have : j = 0 ∨ j = 1 ∨ j = 2 := by omega
      rcases this with rfl | rfl | rfl <;> rfl) (fun j hj => by
      have : j = 0 ∨ j = 1 ∨ j = 2 := by omega
      rcases this with rfl | rfl | rfl
      · exact k1.below hB
      · exact k2.below hB
      · exact k3.below hB) (by simp [catN]; omega)
  exact this
theorem goes_cat3 {W : World} {n1 c1 n2 c2 n3 c3 : Nat} {A1 A2 A3 : Option Addr} {l1 l2 l3 : List UInt8} {T : TypeId} (k1 : Bs W A1 n1 c1 l1) (k2 : Bs W A2 n2 c2 l2) (k3 : Bs W A3 n3 c3 l3) (h : n1 + n2 + n3 ≤ 200000000000000) :
    OpGoes Try.prog (fun v w' => (Kd.p (isC (l1 ++ (l2 ++ l3)))).holds w' v ∧ Below W.heap.size W w') (.ok (.value (.slice (some ⟨W.heap.size, 0, none⟩) 3 3)) (W.alloc (.cells #[.slice A1 n1 c1, .slice A2 n2 c2, .slice A3 n3 c3] T))) :=
  ⟨⟨by rw [← List.append_assoc]; exact isCat3 (blk_new W _ T _ rfl) (k1.alloc _) (k2.alloc _) (k3.alloc _) h⟩, (Below.refl _ W).alloc (Nat.le_refl _) _⟩
theorem goes_mkb {W : World} {z : Nat} (hz : z ≤ 200000000000000) :
    OpGoes Try.prog (fun v w' => (Kd.b z (zs z)).holds w' v ∧ Below W.heap.size W w') (.ok (.value (.slice (some ⟨W.heap.size, 0, none⟩) z z)) (W.alloc (.cells (cu (zs z)).toArray 5))) :=
  ⟨⟨_, _, rfl, bs_lit (zs z) z (zs_length z) hz⟩, (Below.refl _ W).alloc (Nat.le_refl _) _⟩
theorem psum_more (p : Pkt) (pr : Int) (b : List UInt8) (k : Nat) : csum (pseudo p.src p.dst pr b.length ++ b ++ zs k) = psum p pr b := by rw [csum_behind]; rfl
theorem fits_any (p : Pkt) (hp : p.Ok) (A1 : Option Addr) (n1 c1 : Nat) (A2 : Option Addr) (n2 c2 : Nat) (pr : Int) (p0 : 0 ≤ pr) (p1 : pr ≤ 255) (w : World) (k2 : Bs w A2 n2 c2 p.dat) (hn2 : n2 ≤ 140737488400000) :
    Calls Try.prog 80 #[(.agg #[.int .u8 (p).tos, .int .u16 (p).id, .bool (p).keep, .int .u8 (p).ttl, .int .u8 (p).proto, .int .u32 (p).src, .int .u32 (p).dst, .slice A1 n1 c1, .slice A2 n2 c2]), .int .u8 pr] w fun e w' => e = .returned (.bool (psum p pr p.dat == 0)) ∧ Below w.heap.size w w' := by
  have l2 := k2.len
  have HS : Hid (csum (pseudo p.src p.dst pr n2 ++ (p.dat ++ zs (n2 % 2))) = psum p pr p.dat) := by unfold Hid; rw [← l2, ← List.append_assoc]; exact psum_more p pr p.dat _
  obtain ⟨-, -, -, -, ⟨o5, o5'⟩, ⟨o6, o6'⟩⟩ := hp
  have hrem : ((n2 : Int)).tmod 2 = ((n2 % 2 : Nat) : Int) := by rw [Int.tmod_eq_emod_of_nonneg (by omega)]; omega
  obtain ⟨z, hz⟩ : ∃ z : Nat, n2 % 2 = z := ⟨_, rfl⟩
  rw [hz] at hrem HS
  have hz1 : z ≤ 1 := by omega
  have hmk : ∀ W, (Instr.makeSlice 24 (.int .i64 (z : Int)) (.int .i64 (z : Int))).run Try.prog W = .ok (.slice (some ⟨W.heap.size, 0, none⟩) z z) (W.alloc (.cells (cu (zs z)).toArray 5)) := fun W => by
    obtain ⟨i, hi, hz', hs, hb⟩ := info_parts info_u8
    have hr := run_make (P := Try.prog) W 24 5 i (.int .u8 0) Try.underlying24 hi hz' .i64 .i64 z z (by omega) (by omega) (by rw [hb]; omega) (by omega)
    simp only [hs, Nat.mul_one] at hr
    rw [hr, cu_zs]
    rfl
  clear l2 hz
  obtain ⟨k, hk⟩ : ∃ k : Nat, w.heap.size = k := ⟨_, rfl⟩
  obtain ⟨w1, hw1⟩ : ∃ W, (w.alloc (.cells #[.int .u8 (p).tos, .int .u16 (p).id, .bool (p).keep, .int .u8 (p).ttl, .int .u8 (p).proto, .int .u32 (p).src, .int .u32 (p).dst, .slice A1 n1 c1, .slice A2 n2 c2] 26)) = W := ⟨_, rfl⟩
  have P1 : Blk w1 k #[.int .u8 (p).tos, .int .u16 (p).id, .bool (p).keep, .int .u8 (p).ttl, .int .u8 (p).proto, .int .u32 (p).src, .int .u32 (p).dst, .slice A1 n1 c1, .slice A2 n2 c2] 26 := by rw [← hw1]; exact (blk_new _ _ _ k (by simp [hk]))
  have R1 : Below w.heap.size w w1 := by rw [← hw1]; (repeat (first | with_reducible exact Below.refl _ _ | with_reducible refine below_drew ?_ | with_reducible refine below_drewN ?_ _ | with_reducible refine below_alloc ?_ (Nat.le_refl _) _ | with_reducible refine Below.setCell ?_ (by first | exact Nat.le_refl _ | (simp only []; omega)) _ | with_reducible assumption))
  have Pc1 := P1.cell
  have Pl1 := P1.lt
  have x1 := (k2).below R1
  clear k2
  go_enter Try.func80, Try.ntmps80
  go_wp2_with fail
  refine region_txt 19 (by kernel_rfl) (by kernel_rfl) ?_; (iterate 19 (first | (apply ObsK.skip (by rfl)) | (apply ObsK.v (by rfl); (intro wo hT; (repeat (first | (intro v hv; ((first | (obtain ⟨A7, n7, c7, rfl, o7⟩ := hv; have ob7 := o7.bs) | (have hcat := hv.out)))) | (intro _ _ k; try have hcv := cv k))); (have pc := (P1.below hT).cell; have xo := x1.below hT; have hsz : w1.heap.size ≤ wo.heap.size := hT.size); refine Goes.mk ?_; go_simp; first | exact goes_v | exact goes_b (by assumption) | (first | exact goes_mkb (by omega) | exact goes_cat3 (by assumption) (by assumption) (by assumption) (by omega)) | (refine goes_enter ?_; first | (go_at_call 92; ((with_reducible refine (pseudo_any p.src p.dst pr n2 o5 o5' o6 o6' p0 p1 (by omega) (by omega) wo).mono ?_); rintro e w9 ⟨A9, c9, rfl, ho9, hB9⟩); exact ret_b ho9.bs hB9) | (go_at_call 91; ((with_reducible refine (hcat wo (Below.refl _ _)).mono ?_); rintro e w9 ⟨A9, n9, c9, rfl, ho9, hB9⟩); exact ret_p (own_isW ho9 hsz) hB9) | (go_at_call 62; ((with_reducible refine (good_any A7 n7 c7 _ wo ob7).mono ?_); rintro e w9 ⟨rfl, hB9⟩); exact ret_v hB9)))) | (apply ObsK.b (by rfl); (intro wo hT; (repeat (first | (intro v hv; ((first | (obtain ⟨A7, n7, c7, rfl, o7⟩ := hv; have ob7 := o7.bs) | (have hcat := hv.out)))) | (intro _ _ k; try have hcv := cv k))); (have pc := (P1.below hT).cell; have xo := x1.below hT; have hsz : w1.heap.size ≤ wo.heap.size := hT.size); refine Goes.mk ?_; go_simp; first | exact goes_v | exact goes_b (by assumption) | (first | exact goes_mkb (by omega) | exact goes_cat3 (by assumption) (by assumption) (by assumption) (by omega)) | (refine goes_enter ?_; first | (go_at_call 92; ((with_reducible refine (pseudo_any p.src p.dst pr n2 o5 o5' o6 o6' p0 p1 (by omega) (by omega) wo).mono ?_); rintro e w9 ⟨A9, c9, rfl, ho9, hB9⟩); exact ret_b ho9.bs hB9) | (go_at_call 91; ((with_reducible refine (hcat wo (Below.refl _ _)).mono ?_); rintro e w9 ⟨A9, n9, c9, rfl, ho9, hB9⟩); exact ret_p (own_isW ho9 hsz) hB9) | (go_at_call 62; ((with_reducible refine (good_any A7 n7 c7 _ wo ob7).mono ?_); rintro e w9 ⟨rfl, hB9⟩); exact ret_v hB9)))) | (apply ObsK.p (q := isC (pseudo p.src p.dst pr n2 ++ (p.dat ++ zs z))) (by rfl) st_isC; (intro wo hT; (repeat (first | (intro v hv; ((first | (obtain ⟨A7, n7, c7, rfl, o7⟩ := hv; have ob7 := o7.bs) | (have hcat := hv.out)))) | (intro _ _ k; try have hcv := cv k))); (have pc := (P1.below hT).cell; have xo := x1.below hT; have hsz : w1.heap.size ≤ wo.heap.size := hT.size); refine Goes.mk ?_; go_simp; first | exact goes_v | exact goes_b (by assumption) | (first | exact goes_mkb (by omega) | exact goes_cat3 (by assumption) (by assumption) (by assumption) (by omega)) | (refine goes_enter ?_; first | (go_at_call 92; ((with_reducible refine (pseudo_any p.src p.dst pr n2 o5 o5' o6 o6' p0 p1 (by omega) (by omega) wo).mono ?_); rintro e w9 ⟨A9, c9, rfl, ho9, hB9⟩); exact ret_b ho9.bs hB9) | (go_at_call 91; ((with_reducible refine (hcat wo (Below.refl _ _)).mono ?_); rintro e w9 ⟨A9, n9, c9, rfl, ho9, hB9⟩); exact ret_p (own_isW ho9 hsz) hB9) | (go_at_call 62; ((with_reducible refine (good_any A7 n7 c7 _ wo ob7).mono ?_); rintro e w9 ⟨rfl, hB9⟩); exact ret_v hB9)))) | (apply ObsK.p (q := isW w1.heap.size (pseudo p.src p.dst pr n2 ++ (p.dat ++ zs z))) (by rfl) st_isW; (intro wo hT; (repeat (first | (intro v hv; ((first | (obtain ⟨A7, n7, c7, rfl, o7⟩ := hv; have ob7 := o7.bs) | (have hcat := hv.out)))) | (intro _ _ k; try have hcv := cv k))); (have pc := (P1.below hT).cell; have xo := x1.below hT; have hsz : w1.heap.size ≤ wo.heap.size := hT.size); refine Goes.mk ?_; go_simp; first | exact goes_v | exact goes_b (by assumption) | (first | exact goes_mkb (by omega) | exact goes_cat3 (by assumption) (by assumption) (by assumption) (by omega)) | (refine goes_enter ?_; first | (go_at_call 92; ((with_reducible refine (pseudo_any p.src p.dst pr n2 o5 o5' o6 o6' p0 p1 (by omega) (by omega) wo).mono ?_); rintro e w9 ⟨A9, c9, rfl, ho9, hB9⟩); exact ret_b ho9.bs hB9) | (go_at_call 91; ((with_reducible refine (hcat wo (Below.refl _ _)).mono ?_); rintro e w9 ⟨A9, n9, c9, rfl, ho9, hB9⟩); exact ret_p (own_isW ho9 hsz) hB9) | (go_at_call 62; ((with_reducible refine (good_any A7 n7 c7 _ wo ob7).mono ?_); rintro e w9 ⟨rfl, hB9⟩); exact ret_v hB9)))))); refine ObsK.nil ?_; intro wz hBz; simp only [finOn, List.drop_succ_cons, List.drop_zero, List.drop_nil]
  rintro v7 ⟨A7, n7, c7, rfl, o7⟩ v8 hv8 A5 c5 k5 A6 c6 k6
  go_simp
  go_wp2_with fail
  go_ret
  exact ⟨congrArg (fun z => Ending.returned (.bool (z == 0))) HS.out, below_then R1 hBz⟩
theorem rssum_any (p : Pkt) (hp : p.Ok) (A1 : Option Addr) (n1 c1 : Nat) (A2 : Option Addr) (n2 c2 : Nat) (pr : Int) (p0 : 0 ≤ pr) (p1 : pr ≤ 255) (A3 : Option Addr) (n3 c3 : Nat) (b : List UInt8) (w : World) (k3 : Bs w A3 n3 c3 b) (hn3 : n3 ≤ 17592186044400) :
    Calls Try.prog 39 #[(.agg #[.int .u8 (p).tos, .int .u16 (p).id, .bool (p).keep, .int .u8 (p).ttl, .int .u8 (p).proto, .int .u32 (p).src, .int .u32 (p).dst, .slice A1 n1 c1, .slice A2 n2 c2]), .int .u8 pr, .slice A3 n3 c3] w fun e w' => e = .returned (.int .u16 (psum p pr b)) ∧ Below w.heap.size w w' := by
  have l3 := k3.len
  have HS : Hid (csum (pseudo p.src p.dst pr n3 ++ b) = psum p pr b) := by unfold Hid psum; rw [l3]
  obtain ⟨-, -, -, -, ⟨o5, o5'⟩, ⟨o6, o6'⟩⟩ := hp
  clear l3
  obtain ⟨k, hk⟩ : ∃ k : Nat, w.heap.size = k := ⟨_, rfl⟩
  obtain ⟨w1, hw1⟩ : ∃ W, (w.alloc (.cells #[.int .u8 (p).tos, .int .u16 (p).id, .bool (p).keep, .int .u8 (p).ttl, .int .u8 (p).proto, .int .u32 (p).src, .int .u32 (p).dst, .slice A1 n1 c1, .slice A2 n2 c2] 26)) = W := ⟨_, rfl⟩
  have P1 : Blk w1 k #[.int .u8 (p).tos, .int .u16 (p).id, .bool (p).keep, .int .u8 (p).ttl, .int .u8 (p).proto, .int .u32 (p).src, .int .u32 (p).dst, .slice A1 n1 c1, .slice A2 n2 c2] 26 := by rw [← hw1]; exact (blk_new _ _ _ k (by simp [hk]))
  have R1 : Below w.heap.size w w1 := by rw [← hw1]; (repeat (first | with_reducible exact Below.refl _ _ | with_reducible refine below_drew ?_ | with_reducible refine below_drewN ?_ _ | with_reducible refine below_alloc ?_ (Nat.le_refl _) _ | with_reducible refine Below.setCell ?_ (by first | exact Nat.le_refl _ | (simp only []; omega)) _ | with_reducible assumption))
  have Pc1 := P1.cell
  have Pl1 := P1.lt
  have x1 := (k3).below R1
  clear k3
  go_enter Try.func39, Try.ntmps39
  go_wp2_with (first
    | (go_at_call 59; ((with_reducible refine (rpseudo_any p.src p.dst pr n3 o5 o5' o6 o6' p0 p1 (by omega) (by omega) _).mono ?_); rintro e w2 ⟨A2, c2, rfl, o2, hB2⟩); have y2 := o2; have P2 := P1.below hB2; have Pc2 := P2.cell; clear Pc1; have x2 := x1.below hB2; have R2 := below_then R1 hB2)
    | (at_builtin; refine wpList_append_bs (w0 := w1) _ rfl _ _ _ rfl w1.heap.size 5 Try.underlying24 info_u8 A2 12 c2 _ rfl y2 A3 n3 c3 b rfl x2 hB2 (by omega) (by first | exact Nat.le_refl _ | exact Below.size hB2 | omega | (simp <;> omega)) ?_; intro A9 n9 c9 w9 ho9 hB9 _ hz9; have u9 : n9 = 12 + n3 := (by have := ho9.len; have := x2.len; simp [pseudo, four, two] at *; omega); subst u9)
    | (go_at_call 40; ((with_reducible refine (rsum_any A9 (12 + n3) c9 _ (by omega) _ ho9.bs).mono ?_); rintro e w4 ⟨rfl, hB4⟩)))
  go_ret
  exact ⟨congrArg (fun z => Ending.returned (.int .u16 z)) HS.out, below_then (below_then R1 hB9) hB4⟩
end Go.Proofs.Ythgoffbfgdgkpaa

namespace Go.Proofs.Ythgoffbfgdgkpaa
open Go.RowKit Go.Shelf
attribute [local go_sem] Oper.semAt_some jump_normal jump_exit jump_ret jump_panic jump_goto
set_option linter.unusedVariables false
set_option linter.unusedSimpArgs false
set_option maxHeartbeats 8000000
set_option maxRecDepth 100000

structure TcPost (w : World) (s : Seg) (E : Int) (e : Ending) (w' : World) : Prop where
  out : ∃ OA on oc DA dn dc, e = .returned (.tuple #[(.agg #[.int .u16 (s).src, .int .u16 (s).dst, .int .u32 (s).seq, .int .u32 (s).ack, .int .u8 (s).flags, .int .u16 (s).win, .int .u16 (s).urg, .slice OA on oc, .slice DA dn dc]), .int .i64 E]) ∧ OsO w' w.heap.size OA on oc s.opts ∧ on ≤ 40 ∧ Own w' w.heap.size 5 DA dn dc s.dat ∧ Below w.heap.size w w'
theorem tcPost_no {w w' : World} {E : Int} (hB : Below w.heap.size w w') : TcPost w zS E (.returned (.tuple #[.agg #[.int .u16 0, .int .u16 0, .int .u32 0, .int .u32 0, .int .u8 0, .int .u16 0, .int .u16 0, .slice none 0 0, .slice none 0 0], .int .i64 E])) w' :=
  ⟨none, 0, 0, none, 0, 0, rfl, osO_nil _ _, by omega, own_nil _ _ _, hB⟩
structure TcJ (w : World) (k : Nat) (E : Int) (a : Act) (W : World) : Prop where
  size : a.tmps.size = 87
  t2 : a.tmps[2]? = some (.pointer (some ⟨k + 1, 0, none⟩))
  t3 : a.tmps[3]? = some (.pointer (some ⟨k + 1 + 1, 0, none⟩))
  s : ∃ c0 c1 c2 c3 c4 c5 c6 c7 c8, Blk W (k + 1) #[c0, c1, c2, c3, c4, c5, c6, c7, c8] 42
  e : Blk W (k + 1 + 1) #[.int .i64 E] 29
  bel : Below w.heap.size w W
  de : a.defers = [] ∨ ∃ D, a.defers = [{ target := .collected D, args := #[] }] ∧ W.heap[D]? = some (.deferred (some [])) ∧ w.heap.size ≤ D
theorem heap_setCell_ne (W : World) (b o : Nat) (v : Value) (D : Nat) (h : b ≠ D) : (W.setCell ⟨b, o, none⟩ v).heap[D]? = W.heap[D]? := by
  simp [World.setCell, Array.getElem?_modify, h]
theorem tcp_no (p : Pkt) (hp : p.Ok) (A1 : Option Addr) (n1 c1 : Nat) (A2 : Option Addr) (n2 c2 : Nat) (w : World) (k2 : Bs w A2 n2 c2 p.dat) (E x q : Int) (hd : Nat) (hx : bt p.dat 12 = x) (hq : x / 16 = q) (hh : q * 4 = (hd : Int))
    (h : (E = 12 ∧ (p.proto != 6) = true) ∨ (E = 3 ∧ (p.proto != 6) = false ∧ (n2 : Int) < 20) ∨ (E = 4 ∧ (p.proto != 6) = false ∧ 20 ≤ (n2 : Int) ∧ (hd : Int) < 20) ∨ (E = 4 ∧ (p.proto != 6) = false ∧ 20 ≤ (n2 : Int) ∧ 20 ≤ (hd : Int) ∧ (x % 16 != 0) = true) ∨
      (E = 3 ∧ (p.proto != 6) = false ∧ 20 ≤ (n2 : Int) ∧ 20 ≤ (hd : Int) ∧ (x % 16 != 0) = false ∧ (n2 : Int) < (hd : Int)) ∨ (E = 5 ∧ (p.proto != 6) = false ∧ 20 ≤ (n2 : Int) ∧ 20 ≤ (hd : Int) ∧ (x % 16 != 0) = false ∧ (hd : Int) ≤ (n2 : Int) ∧ (psum p 6 p.dat == 0) = false ∧ n2 ≤ 140737488400000)) :
    Calls Try.prog 70 #[(.agg #[.int .u8 (p).tos, .int .u16 (p).id, .bool (p).keep, .int .u8 (p).ttl, .int .u8 (p).proto, .int .u32 (p).src, .int .u32 (p).dst, .slice A1 n1 c1, .slice A2 n2 c2])] w (TcPost w zS E) := by
  have b2 := k2.max
  obtain ⟨k, hk⟩ : ∃ k : Nat, w.heap.size = k := ⟨_, rfl⟩
  obtain ⟨w1, hw1⟩ : ∃ W, (((w.alloc (.cells #[.int .u8 (p).tos, .int .u16 (p).id, .bool (p).keep, .int .u8 (p).ttl, .int .u8 (p).proto, .int .u32 (p).src, .int .u32 (p).dst, .slice A1 n1 c1, .slice A2 n2 c2] 26)).alloc (.cells #[.int .u16 0, .int .u16 0, .int .u32 0, .int .u32 0, .int .u8 0, .int .u16 0, .int .u16 0, .slice none 0 0, .slice none 0 0] 42)).alloc (.cells #[.int .i64 0] 29)) = W := ⟨_, rfl⟩
  have P1 : Blk w1 k #[.int .u8 (p).tos, .int .u16 (p).id, .bool (p).keep, .int .u8 (p).ttl, .int .u8 (p).proto, .int .u32 (p).src, .int .u32 (p).dst, .slice A1 n1 c1, .slice A2 n2 c2] 26 := by rw [← hw1]; exact (((blk_new _ _ _ k (by simp [hk])).alloc _).alloc _)
  have S1 : Blk w1 (k + 1) #[.int .u16 0, .int .u16 0, .int .u32 0, .int .u32 0, .int .u8 0, .int .u16 0, .int .u16 0, .slice none 0 0, .slice none 0 0] 42 := by rw [← hw1]; exact ((blk_new _ _ _ (k + 1) (by simp [hk])).alloc _)
  have E1 : Blk w1 (k + 1 + 1) #[.int .i64 0] 29 := by rw [← hw1]; exact (blk_new _ _ _ (k + 1 + 1) (by simp [hk]))
  have R1 : Below w.heap.size w w1 := by rw [← hw1]; (repeat (first | with_reducible exact Below.refl _ _ | with_reducible refine below_drew ?_ | with_reducible refine below_drewN ?_ _ | with_reducible refine below_alloc ?_ (Nat.le_refl _) _ | with_reducible refine Below.setCell ?_ (by first | exact Nat.le_refl _ | (simp only []; omega)) _ | with_reducible assumption))
  have Pc1 := P1.cell
  have Sc1 := S1.cell
  have Ec1 := E1.cell
  have Pl1 := P1.lt
  have Sl1 := S1.lt
  have El1 := E1.lt
  have x1 := (k2).below R1
  refine (callsIn_wide (n := 3)).1 ?_
  refine callsIn_of_wp_marks Try.func70 rfl trivial ?_ rfl
  simp only [Try.ntmps70, List.size_toArray, List.length_cons, List.length_nil, Nat.reduceAdd, Nat.reduceSub, Array.replicate_succ, Array.replicate_zero, List.push_toArray, List.append_toArray, List.nil_append, List.cons_append]
  gi_wp2
  refine wpIn_scope_fwd 0 (TcJ w k E) rfl ?first ?pass
  case pass =>
    rintro a W ⟨hs, h2, h3, ⟨d0, d1, d2, d3, d4, d5, d6, d7, d8, S⟩, Eb, hB, hde⟩
    obtain ⟨f, hf, hfv⟩ := slots hs
    have f2 := hfv 2 _ (by omega) h2
    have f3 := hfv 3 _ (by omega) h3
    obtain ⟨tm, df⟩ := a
    simp only at hf hde
    subst hf
    have sc := S.cell
    have ec := Eb.cell
    simp only [List.range, List.range.loop, List.map_cons, List.map_nil, f2, f3]
    have sl := S.lt
    have el := Eb.lt
    gi_wp2_with gi_region
    obtain ⟨wf, hwf, Sf⟩ := store9 S (.int .u16 0) (.int .u16 0) (.int .u32 0) (.int .u32 0) (.int .u8 0) (.int .u16 0) (.int .u16 0) (.slice none 0 0) (.slice none 0 0)
    rw [hwf]
    have Ef := Sf.other (k := k + 1 + 1) (by omega) Eb
    obtain ⟨wg, hwg, Sg⟩ := store1 Ef 0 (.int .i64 E)
    rw [hwg, Exit.noGoto_ret]
    have Sz := Sg.other (k := k + 1) (by omega) Sf.blk
    have pf := (Sz.drew).cell
    have pg := (Sg.blk.drew).cell
    have Tg := Sg.bel (Sf.bel hB (by omega)) (by omega)
    have hdn : ∀ D : Nat, W.heap[D]? = some (Obj.deferred (some [])) → wg.drew.heap[D]? = some (Obj.deferred (some [])) := fun D h => by
      have e1 : k + 1 ≠ D := fun e => by subst e; have := S.rd; rw [h] at this; cases this
      have e2 : k + 1 + 1 ≠ D := fun e => by subst e; have := Eb.rd; rw [h] at this; cases this
      show wg.heap[D]? = _
      rw [← hwg, ← hwf]
      simp only [heap_setCell_ne _ _ _ _ _ e1, heap_setCell_ne _ _ _ _ _ e2]
      exact h
    rcases hde with rfl | ⟨D, rfl, hD, hge⟩
    · show LeavesInM _ _ _ _ _ _ [] .returning _
      exact ⟨(.tuple #[.agg #[.int .u16 0, .int .u16 0, .int .u32 0, .int .u32 0, .int .u8 0, .int .u16 0, .int .u16 0, .slice none 0 0, .slice none 0 0], .int .i64 E]), by simp [results, Try.results70, go_sem, pf, pg], tcPost_no (below_drew Tg)⟩
    · show LeavesInM _ _ _ _ _ _ _ .returning _
      refine ⟨by simp, .inl ⟨_, _, rfl, run_takeDeferred (hdn D hD), ?_⟩⟩
      have d1 : k + 1 ≠ D := fun e => by subst e; have := S.rd; rw [hD] at this; cases this
      have d2 : k + 1 + 1 ≠ D := fun e => by subst e; have := Eb.rd; rw [hD] at this; cases this
      have pf2 : ∀ j, (wg.drew.putObj D (Obj.deferred none)).cell? ⟨k + 1, j, none⟩ = _ := fun j => (cell_putObj d1 _).trans (pf.1 j)
      have pg2 : ∀ j, (wg.drew.putObj D (Obj.deferred none)).cell? ⟨k + 1 + 1, j, none⟩ = _ := fun j => (cell_putObj d2 _).trans (pg.1 j)
      exact ⟨(.tuple #[.agg #[.int .u16 0, .int .u16 0, .int .u32 0, .int .u32 0, .int .u8 0, .int .u16 0, .int .u16 0, .slice none 0 0, .slice none 0 0], .int .i64 E]), by simp [results, Try.results70, go_sem, pf2, pg2], tcPost_no (below_putObj (below_drew Tg) hge _)⟩
  case first =>
    rcases h with ⟨rfl, h1⟩ | ⟨rfl, h1, h2⟩ | ⟨rfl, h1, h2, h3⟩ | ⟨rfl, h1, h2, h3, h4⟩ | ⟨rfl, h1, h2, h3, h4, h5⟩ | ⟨rfl, h1, h2, h3, h4, h5, h6, h7⟩
    · gi_wp2
      apply wpIn_goto
      have Eg := (E1.set_ 0 (.int .i64 3)).set_ 0 (.int .i64 12)
      exact ⟨rfl, rfl, rfl, rfl, ⟨_, _, _, _, _, _, _, _, _, (S1.far _ (by simp) _).far _ (by simp) _⟩, Eg, (R1.setCell (p := ⟨k + 1 + 1, 0, none⟩) (by simp only []; omega) _).setCell (p := ⟨k + 1 + 1, 0, none⟩) (by simp only []; omega) _, .inl rfl⟩
    · gi_wp2
      apply wpIn_goto
      have Eg := E1.set_ 0 (.int .i64 3)
      exact ⟨rfl, rfl, rfl, rfl, ⟨_, _, _, _, _, _, _, _, _, S1.far _ (by simp) _⟩, Eg, R1.setCell (p := ⟨k + 1 + 1, 0, none⟩) (by simp only []; omega) _, .inl rfl⟩
    · obtain ⟨b, off, rfl, hcs⟩ := x1.rd (by omega)
      have g12 := hcs 12 (by omega)
      have i12 : (12 : Int) < n2 := by omega
      have x0 := bt_lo p.dat 12
      have x255 := bt_hi p.dat 12
      rw [hx] at g12 x0 x255
      have hw1' : IntKind.i64.wrap q = q := by rw [IntKind.wrap_i64]; omega
      have hw2' : IntKind.i64.wrap (hd : Int) = hd := by rw [IntKind.wrap_i64]; omega
      have hand := and_u8_15 x0 x255
      clear hcs hx
      gi_wp2
      apply wpIn_goto
      have Eg := (E1.set_ 0 (.int .i64 3)).set_ 0 (.int .i64 4)
      exact ⟨rfl, rfl, rfl, rfl, ⟨_, _, _, _, _, _, _, _, _, (S1.far _ (by simp) _).far _ (by simp) _⟩, Eg, (R1.setCell (p := ⟨k + 1 + 1, 0, none⟩) (by simp only []; omega) _).setCell (p := ⟨k + 1 + 1, 0, none⟩) (by simp only []; omega) _, .inl rfl⟩
    · obtain ⟨b, off, rfl, hcs⟩ := x1.rd (by omega)
      have g12 := hcs 12 (by omega)
      have i12 : (12 : Int) < n2 := by omega
      have x0 := bt_lo p.dat 12
      have x255 := bt_hi p.dat 12
      rw [hx] at g12 x0 x255
      have hw1' : IntKind.i64.wrap q = q := by rw [IntKind.wrap_i64]; omega
      have hw2' : IntKind.i64.wrap (hd : Int) = hd := by rw [IntKind.wrap_i64]; omega
      have hand := and_u8_15 x0 x255
      clear hcs hx
      gi_wp2
      apply wpIn_goto
      have Eg := (E1.set_ 0 (.int .i64 3)).set_ 0 (.int .i64 4)
      exact ⟨rfl, rfl, rfl, rfl, ⟨_, _, _, _, _, _, _, _, _, (S1.far _ (by simp) _).far _ (by simp) _⟩, Eg, (R1.setCell (p := ⟨k + 1 + 1, 0, none⟩) (by simp only []; omega) _).setCell (p := ⟨k + 1 + 1, 0, none⟩) (by simp only []; omega) _, .inl rfl⟩
    · obtain ⟨b, off, rfl, hcs⟩ := x1.rd (by omega)
      have g12 := hcs 12 (by omega)
      have i12 : (12 : Int) < n2 := by omega
      have x0 := bt_lo p.dat 12
      have x255 := bt_hi p.dat 12
      rw [hx] at g12 x0 x255
      have hw1' : IntKind.i64.wrap q = q := by rw [IntKind.wrap_i64]; omega
      have hw2' : IntKind.i64.wrap (hd : Int) = hd := by rw [IntKind.wrap_i64]; omega
      have hand := and_u8_15 x0 x255
      clear hcs hx
      gi_wp2
      apply wpIn_goto
      have Eg := E1.set_ 0 (.int .i64 3)
      exact ⟨rfl, rfl, rfl, rfl, ⟨_, _, _, _, _, _, _, _, _, S1.far _ (by simp) _⟩, Eg, R1.setCell (p := ⟨k + 1 + 1, 0, none⟩) (by simp only []; omega) _, .inl rfl⟩
    · obtain ⟨b, off, rfl, hcs⟩ := x1.rd (by omega)
      have g12 := hcs 12 (by omega)
      have i12 : (12 : Int) < n2 := by omega
      have x0 := bt_lo p.dat 12
      have x255 := bt_hi p.dat 12
      rw [hx] at g12 x0 x255
      have hw1' : IntKind.i64.wrap q = q := by rw [IntKind.wrap_i64]; omega
      have hw2' : IntKind.i64.wrap (hd : Int) = hd := by rw [IntKind.wrap_i64]; omega
      have hand := and_u8_15 x0 x255
      clear hcs
      obtain ⟨w2, hw2, S2⟩ := store1 E1 0 (.int .i64 3)
      have P2 := S2.other (by omega) P1
      have pc2 := P2.cell
      have SS2 := S2.other (by omega) S1
      have R2 := S2.bel R1 (by omega)
      have x2 := k2.below R2
      have el2 := S2.blk.lt
      have g12b := x2.at_ (j := 12) (by omega)
      rw [hx] at g12b
      clear hx g12
      gi_wp2_with (refine ⟨trivial, ?_⟩; gi_at_call 80; refine (callsIn_wide.2 (fits_any p hp A1 n1 c1 _ n2 c2 6 (by omega) (by omega) w2 x2 h7)).mono ?_; rintro e w3 ⟨he, hB3⟩; (try rw [h6] at he); subst he; have E3 := (S2.blk).below hB3; have ec3 := E3.cell; have el3 := E3.lt)
      apply wpIn_goto
      exact ⟨rfl, rfl, rfl, rfl, ⟨_, _, _, _, _, _, _, _, _, (SS2.below hB3).far _ (by simp) _⟩, E3.set_ 0 (.int .i64 5), (below_then R2 hB3).setCell (p := ⟨k + 1 + 1, 0, none⟩) (by simp only []; omega) _, .inl rfl⟩
end Go.Proofs.Ythgoffbfgdgkpaa

namespace Go.Proofs.Ythgoffbfgdgkpaa
open Go.RowKit Go.Shelf
set_option linter.unusedVariables false
set_option linter.unusedSimpArgs false

theorem wpListIn_appG {F : Fence} {n₀ : Nat} {P : Program} {ops : Array Oper} {rest : List Oper} {o : Oper} {a : Act} {Q : Exit → Act → World → Prop} {w0 : World} (w : World) (hgd : o.guard = none) (s x : Operand) (t : TypeId) (ho : o.op = .call { callee := .builtin .append, args := #[s, x], argTypes := #[t, t] })
    (base : Nat) (e : TypeId) (i : TypeInfo) (z : Value) (size bytes : Nat) (ht : P.underlying t = some (.slice e)) (hi : P.info? e = some i) (hz : i.zero = some z) (hsize : i.size = size) (hby : i.bytes = bytes) (hzs : z.cells.size = size) (hsz : 0 < size) (hbs : bytes ≤ 64)
    (A : Option Addr) (n c : Nat) (xs : List Value) (hs : a.eval s = .slice A n c) (hown : OwnG w base e size A n c xs) (ad : Addr) (m c2 : Nat) (news : List Value) (hx : a.eval x = .slice (some ad) m c2) (hl : news.length = m * size)
    (hnews : ∀ j u, news[j]? = some u → w.cell? (ad.add j) = some u) (h1 : ∀ u ∈ news, u.oneCell' = true)
    (HB : Below base w0 w) (hmax : n + m ≤ 3000000000000) (hbase : base ≤ w.heap.size)
    (h : ∀ A' c' w', OwnG w' base e size A' (n + m) c' (xs ++ news) → Below base w0 w' → w.grownBy w' (Value.slice A n c).ownBlock → base ≤ w'.heap.size → wpListIn F n₀ P ops Q rest (a.put o.dst (.slice A' (n + m) c')) w') : wpListIn F n₀ P ops Q (o :: rest) a w := by
  refine wpListIn_plain hgd fun K hK' => ?_
  obtain ⟨v', w', hrun, hrow, hg, _⟩ := run_append_own_wide (P := P) w base t o.type e i z size bytes ht hi hz hsize hby hzs hsz (.slice A n c) n xs hown.row ad m c2 news hl hnews h1 (by simp only [maxLen]; omega) (by
      have : ((n + m) + (n + m) / 4 + 192) * bytes ≤ ((n + m) + (n + m) / 4 + 192) * 64 := Nat.mul_le_mul_left _ hbs
      omega) hbase
  have hv : ∃ A' c', v' = .slice A' (n + m) c' := by
    rcases hrow.2 with ⟨hv, h0⟩ | ⟨g, cap, cur, hv, _⟩
    · exact ⟨none, 0, by rw [hv, h0]⟩
    · exact ⟨_, cap, hv⟩
  obtain ⟨A', c', rfl⟩ := hv
  unfold Oper.wpIn
  refine ⟨?_, ?_⟩
  · simp [Oper.about, ho, resolve, Target.leads, Sem.run_pure]
  · rw [Oper.semAt_plain F _ _ (by rw [ho]; intro c hc'; cases hc')]
    simp [execOp, ho, resolve, invoke, builtin, hs, hx, hrun, Result.andThen]
    exact hK' _ _ (h A' c' w' ⟨hrow⟩ (HB.grown hg hbase hown.base_le) hg (Nat.le_trans hbase hg.size))

theorem range_law2 {α β : Type} {F : Fence} {n : Nat} {P : Program} {g : Operand} {ps : Array Tmp} {assign body : Code} {Q : Exit → Act → World → Prop} {a : Act} {w : World}
    (hro : F.round = none) (h1 : 1 ≤ n) {gf : Nat} {lb : Array Value} (hg : a.eval g = .func (.func gf) #[] lb) (hFg : F.fn gf) (eg : ∀ args w, (callFunc gf args).run P w = .ok (.enter gf args) w)
    (encs : α → Array Value) (hps : ∀ x, (encs x).size = ps.size) (step : β → α → β) (s0 : β) (S : β → Prop)
    (I : β → World → Prop) (Ix : Code → β → World → Prop) (ok : β → α → Prop) (J : β → α → Act → World → Prop)
    (hI : ∀ s W o, o.isCells = false → I s W → I s (W.putObj (w.heap.size + 1) o)) (hIx : ∀ c s W o, o.isCells = false → Ix c s W → Ix c s (W.putObj (w.heap.size + 1) o)) (hJ : ∀ s x a W o, o.isCells = false → J s x a W → J s x a (W.putObj (w.heap.size + 1) o))
    (h0 : ∀ o o', o.isCells = false → o'.isCells = false → I s0 ((w.alloc o).alloc o'))
    (hassign : ∀ (s : β) (x : α) (W : World) (K : Act → World → Prop), ok s x → I s W → w.heap.size + 2 ≤ W.heap.size → (∀ b W', KeepsFrom w.heap.size W W' → J s x b W' → K b W') →
      assign.wpIn (F.inRound (w.heap.size + 1)) (n - 1 - 1) P (Exit.then K (fun _ _ _ => False)) { tmps := (ps.zip (encs x)).foldl (fun t (p, v) => t.setIfInBounds p v) a.tmps, defers := [] } W)
    (hbody : ∀ (s : β) (x : α) (b : Act) (W : World), ok s x → J s x b W → w.heap.size + 2 ≤ W.heap.size → body.wpIn (F.inRound (w.heap.size + 1)) (n - 1 - 1) P (roundEnd w.heap.size I Ix (step s x) W) b W)
    (hiter : ∀ (R : World → Prop) (Rx : Code → World → Prop) (W1 : World), (∀ W W', R W → KeepsFrom w.heap.size W W' → R W') → (∀ W, R W → w.heap.size + 2 ≤ W.heap.size) →
      (∀ s x W, ok s x → I s W → R W → YieldAt F (n - 1 - 1) P (w.heap.size + 1) (encs x) W (roundSaid (step s x) I Ix R Rx)) →
      I s0 W1 → R W1 → w.heap.size + 2 = W1.heap.size → CallsIn F (n - 1) P gf (#[.func (.yield (w.heap.size + 1)) #[] #[]] ++ lb) W1 (iterEnd S I Ix R Rx))
    (hdone : ∀ (s : β) (W : World), S s → I s W → W.heap[w.heap.size]? = some (.deferred (some [])) → Q .normal { a with defers := { target := .collected w.heap.size, args := #[] } :: a.defers } W)
    (hstop : ∀ (c : Code) (s : β) (W : World), Ix c s W → W.heap[w.heap.size]? = some (.deferred (some [])) → c.wpIn F n P Q { a with defers := { target := .collected w.heap.size, args := #[] } :: a.defers } W) :
    (Code.rangeFunc g ps assign body).wpIn F n P Q a w := by
  refine wpIn_rangeFunc fun fn hfn => ?_
  rw [hro]
  obtain ⟨D, hD⟩ : ∃ D, w.heap.size = D := ⟨_, rfl⟩
  obtain ⟨r, hr⟩ : ∃ r : Loop, ({ state := .ready, pending := none, fn, tmps := a.tmps, params := ps, assign, body, defers := D } : Loop) = r := ⟨_, rfl⟩
  have hrun := run_enterLoop_outer (P := P) (w := w) fn a.tmps ps assign body
  rw [hD] at hrun hI hIx hJ hbody hiter hdone hstop hassign
  rw [hr] at hrun
  have hready : ({ r with state := if (none : Option Code).isNone then .ready else .done, pending := none } : Loop) = r := by rw [← hr]; rfl
  obtain ⟨W1, hW1⟩ : ∃ W1, (w.alloc (.deferred (some []))).alloc (.loop r) = W1 := ⟨_, rfl⟩
  have hsz : D + 2 = W1.heap.size := by rw [← hW1, ← hD]; simp
  have hL1 : Loops D r none W1 := by
    refine ⟨?_, ?_⟩
    · rw [hready, ← hW1]
      have := World.alloc_heap_new (w.alloc (.deferred (some []))) (.loop r)
      rwa [World.size_alloc, hD] at this
    · rw [← hW1, ← hD]
      exact (Below.heap_alloc _ _ _ (by simp)).trans (World.alloc_heap_new w _)
  rw [hW1] at hrun
  refine ⟨D + 1, _, W1, { target := .fn (.func gf) lb, args := #[.func (.yield (D + 1)) #[] #[]] }, W1, gf, #[.func (.yield (D + 1)) #[] #[]] ++ lb, W1, hrun, ?_, ?_, ?_, fun _ => h1, ?_⟩
  · simp only [resolve, hg]
    simp [go_sem]
  · intro f' hf'
    simp [Target.leads] at hf'
    subst hf'
    exact hFg
  · simp [invoke, go_sem, eg]
  refine (hiter (Loops D r none) (fun c W => Loops D r (some c) W) W1 (fun W W' h hk => h.keep hk) (fun W h => (Array.getElem?_eq_some_iff.1 h.loop).1) ?_ (by rw [← hW1]; exact h0 _ _ rfl rfl) hL1 hsz).mono ?_
  · intro s x W hok hi hl
    have hl0 := hl.loop
    rw [hready] at hl0
    have hlt : D + 1 < W.heap.size := (Array.getElem?_eq_some_iff.1 hl0).1
    have hpar : r.params = ps := by rw [← hr]
    have hy := run_yield (P := P) (args := encs x) hl0 (by rw [hpar]; exact hps x)
    refine ⟨r.fn, _, r.assign, r.body, hy, ?_⟩
    have e1 : r.fn = fn := by rw [← hr]
    have e2 : r.assign = assign := by rw [← hr]
    have e3 : r.body = body := by rw [← hr]
    have e4 : r.tmps = a.tmps := by rw [← hr]
    rw [e1, e2, e3, hpar, e4]
    refine roundIn_of_wpIn hfn (hassign s x W _ hok hi hlt ?_)
    intro b Wa hka hja
    have hla := hl.keep hka
    have hl0a := hla.loop
    rw [hready] at hl0a
    have hlta : D + 1 < Wa.heap.size := (Array.getElem?_eq_some_iff.1 hl0a).1
    obtain ⟨W2, hW2⟩ : ∃ W2, Wa.putObj (D + 1) (.loop { r with state := .busy }) = W2 := ⟨_, rfl⟩
    have hb2 : W2.heap[D + 1]? = some (.loop { r with state := .busy }) := by rw [← hW2]; exact World.putObj_heap_same hlta
    have hd2 : W2.heap[D]? = some (.deferred (some [])) := by rw [← hW2]; exact (World.putObj_heap_other (by omega)).trans hla.defers
    have hs2 : D + 2 ≤ W2.heap.size := (Array.getElem?_eq_some_iff.1 hb2).1
    have hj2 : J s x b W2 := by rw [← hW2]; exact hJ _ _ _ _ _ rfl hja
    have hend : ∀ (j : Option Code) (W3 : World), KeepsFrom D W2 W3 → (Instr.endRound (D + 1) j).run P W3 = .ok (.bool j.isNone) (W3.putObj (D + 1) (.loop { r with state := if j.isNone then .ready else .done, pending := j })) ∧ Loops D r j (W3.putObj (D + 1) (.loop { r with state := if j.isNone then .ready else .done, pending := j })) := by
      intro j W3 hk
      have hb3 := hk.same _ _ (by omega) hb2 rfl
      have hd3 := hk.same _ _ (Nat.le_refl _) hd2 rfl
      have he := run_endRound (P := P) j hb3
      exact ⟨he, World.putObj_heap_same (Array.getElem?_eq_some_iff.1 hb3).1, (World.putObj_heap_other (by omega)).trans hd3⟩
    refine ⟨W2, by rw [← hW2]; exact run_beginRound hl0a (by rw [← hr]), ?_⟩
    refine wpIn_mono (hbody s x b W2 hok hj2 hs2) ?_
    intro e a3 W3 hp
    cases e with
    | normal =>
      obtain ⟨hk, hi3⟩ := hp
      obtain ⟨hr3, hl3⟩ := hend none W3 hk
      exact ⟨_, _, hr3, .inl ⟨rfl, hI _ _ _ rfl hi3, hl3⟩⟩
    | ret =>
      obtain ⟨hk, hi3⟩ := hp
      obtain ⟨hr3, hl3⟩ := hend (some .ret) W3 hk
      exact ⟨_, _, hr3, .inr ⟨rfl, .ret, hIx _ _ _ _ rfl hi3, hl3⟩⟩
    | exit id =>
      obtain ⟨hk, hi3⟩ := hp
      obtain ⟨hr3, hl3⟩ := hend (some (.exit id)) W3 hk
      exact ⟨_, _, hr3, .inr ⟨rfl, .exit id, hIx _ _ _ _ rfl hi3, hl3⟩⟩
    | goto t =>
      obtain ⟨hk, hi3⟩ := hp
      obtain ⟨hr3, hl3⟩ := hend (some (.goto t)) W3 hk
      exact ⟨_, _, hr3, .inr ⟨rfl, .goto t, hIx _ _ _ _ rfl hi3, hl3⟩⟩
    | panic ch => exact hp.elim
    | outgrown => exact hp.elim
  · rintro e W2 ⟨⟨v, rfl⟩, ⟨s, hS, hi, hl⟩ | ⟨c, s, hi, hl⟩⟩
    · have h2 := run_endLoop (P := P) hl.loop (by simp)
      exact ⟨none, _, h2, hdone s _ hS (hI _ _ _ rfl hi) ((World.putObj_heap_other (by omega)).trans hl.defers)⟩
    · have h2 := run_endLoop (P := P) hl.loop (by simp)
      exact ⟨some c, _, h2, hstop c s _ (hIx _ _ _ _ rfl hi) ((World.putObj_heap_other (by omega)).trans hl.defers)⟩
end Go.Proofs.Ythgoffbfgdgkpaa

namespace Go.Proofs.Ythgoffbfgdgkpaa
open Go.RowKit Go.Shelf
set_option linter.unusedVariables false
set_option linter.unusedSimpArgs false
set_option maxHeartbeats 1000000

def NotOf (e : TypeId) (W : World) (j : Nat) : Prop := ∀ o, W.heap[j]? = some o → ∀ cur f, o ≠ .cells cur e f
theorem Own.apart {w w' : World} {base : Nat} {e : TypeId} {A : Option Addr} {n c : Nat} {l : List UInt8} {row : Option Nat} (h : Own w base e A n c l) (hg : w.grownBy w' row) (hr : ∀ j, row = some j → NotOf e w j) : Own w' base e A n c l :=
  h.kept hg (by
    rcases h.row.2 with ⟨hv, _⟩ | ⟨g, cap, cur, hv, _, hg2, _⟩
    · rw [hv]; exact .inl rfl
    · injection hv with h1 h2 h3
      subst h1 h3
      refine .inr fun he => ?_
      simp only [Value.ownBlock] at he
      exact hr g he.symm _ hg2 _ _ rfl)
theorem OwnG.apart {w w' : World} {base : Nat} {e : TypeId} {s : Nat} {A : Option Addr} {n c : Nat} {xs : List Value} {row : Option Nat} (h : OwnG w base e s A n c xs) (hg : w.grownBy w' row) (hr : ∀ j, row = some j → NotOf e w j) : OwnG w' base e s A n c xs :=
  h.kept hg (by
    rcases h.row.2 with ⟨hv, _⟩ | ⟨g, cap, cur, hv, _, hg2, _⟩
    · rw [hv]; exact .inl rfl
    · injection hv with h1 h2 h3
      subst h1 h3
      refine .inr fun he => ?_
      simp only [Value.ownBlock] at he
      exact hr g he.symm _ hg2 _ _ rfl)
theorem OsO.apart {w w' : World} {base : Nat} {A : Option Addr} {n c : Nat} {os : List Opt} {row : Option Nat} (h : OsO w base A n c os) (hg : w.grownBy w' row) (hr : ∀ j, row = some j → NotOf 5 w j ∧ NotOf 97 w j) : OsO w' base A n c os := by
  obtain ⟨xs, hx, hj⟩ := h.own
  refine ⟨h.len, xs, hx.apart hg (fun j e => (hr j e).2), fun j hjn => ?_⟩
  obtain ⟨h1, B, m, d, h2, h3⟩ := hj j hjn
  exact ⟨h1, B, m, d, h2, h3.apart hg (fun j e => (hr j e).1)⟩
theorem Blk.notOf {w : World} {k : Nat} {cs : Array Value} {t : TypeId} (h : Blk w k cs t) {e : TypeId} (he : t ≠ e) : NotOf e w k := by
  intro o ho cur f e2
  rw [h.rd] at ho
  subst e2
  simp only [Option.some.injEq, Obj.cells.injEq] at ho
  exact he ho.2.1
theorem Blk.kept {w w' : World} {k : Nat} {cs : Array Value} {t : TypeId} {row : Option Nat} (h : Blk w k cs t) (hg : w.grownBy w' row) (hr : row ≠ some k) : Blk w' k cs t :=
  ⟨(hg.block k h.lt (Ne.symm hr)).trans h.rd⟩
theorem OwnG.ne_blk {w : World} {base : Nat} {e : TypeId} {s : Nat} {A : Option Addr} {n c : Nat} {xs : List Value} (h : OwnG w base e s A n c xs) {k : Nat} {cs : Array Value} {t : TypeId} (b : Blk w k cs t) (he : t ≠ e) : (Value.slice A n c).ownBlock ≠ some k := by
  rcases h.row.2 with ⟨hv, _⟩ | ⟨g, cap, cur, hv, _, hg, _⟩
  · rw [hv]; simp [Value.ownBlock]
  · injection hv with h1 h2 h3
    subst h1 h3
    simp only [Value.ownBlock, ne_eq, Option.some.injEq]
    intro e2
    subst e2
    exact b.notOf he _ hg _ _ rfl
theorem OwnG.cells {w : World} {base : Nat} {e : TypeId} {s : Nat} {A : Option Addr} {n c : Nat} {xs : List Value} (h : OwnG w base e s A n c xs) : ∀ (j : Nat) (o : Obj), (Value.slice A n c).ownBlock = some j → w.heap[j]? = some o → o.isCells = true := by
  intro j o hj ho
  rcases h.row.2 with ⟨hv, _⟩ | ⟨g, cap, cur, hv, _, hg, _⟩
  · rw [hv] at hj; simp [Value.ownBlock] at hj
  · injection hv with h1 h2 h3
    subst h1 h3
    simp only [Value.ownBlock, Option.some.injEq] at hj
    subst hj
    rw [hg] at ho
    simp only [Option.some.injEq] at ho
    subst ho
    rfl
def NoCells (W : World) (j : Nat) : Prop := ∃ o, W.heap[j]? = some o ∧ o.isCells = false
theorem NoCells.notOf {W : World} {j : Nat} (h : NoCells W j) (e : TypeId) : NotOf e W j := by
  obtain ⟨o, ho, hc⟩ := h
  intro o' ho' cur f e2
  rw [ho] at ho'
  simp only [Option.some.injEq] at ho'
  subst ho' e2
  simp [Obj.isCells] at hc
theorem NoCells.lt {W : World} {j : Nat} (h : NoCells W j) : j < W.heap.size := by
  obtain ⟨o, ho, _⟩ := h
  exact (Array.getElem?_eq_some_iff.1 ho).1
theorem NoCells.below {W W' : World} {j : Nat} (h : NoCells W j) (hb : Below W.heap.size W W') : NoCells W' j := by
  have hl := h.lt
  obtain ⟨o, ho, hc⟩ := h
  exact ⟨o, (hb.block j hl).trans ho, hc⟩
theorem NoCells.set {W : World} {j : Nat} (h : NoCells W j) (p : Addr) (v : Value) : NoCells (W.setCell p v) j := by
  obtain ⟨o, ho, hc⟩ := h
  refine ⟨o, ?_, hc⟩
  simp only [World.setCell, Array.getElem?_modify, ho, Option.map_some]
  split
  · cases o <;> simp_all [Obj.isCells]
  · rfl
theorem NoCells.put {W : World} {j : Nat} (h : NoCells W j) (l : Nat) (o' : Obj) (ho' : o'.isCells = false) : NoCells (W.putObj l o') j := by
  have hl := h.lt
  by_cases e : j = l
  · subst e
    exact ⟨o', World.putObj_heap_same hl, ho'⟩
  · obtain ⟨o, ho, hc⟩ := h
    exact ⟨o, (World.putObj_heap_other e).trans ho, hc⟩
theorem NoCells.kept {W W' : World} {j : Nat} {row : Option Nat} (h : NoCells W j) (hg : W.grownBy W' row) (hr : ∀ (j : Nat) (o : Obj), row = some j → W.heap[j]? = some o → o.isCells = true) : NoCells W' j := by
  have hl := h.lt
  obtain ⟨o, ho, hc⟩ := h
  refine ⟨o, (hg.block j hl (fun e => ?_)).trans ho, hc⟩
  rw [hr j o e.symm ho] at hc
  cases hc
theorem Blk.put {W : World} {k : Nat} {cs : Array Value} {t : TypeId} (h : Blk W k cs t) {l : Nat} (hn : NoCells W l) (o' : Obj) : Blk (W.putObj l o') k cs t := by
  refine ⟨(World.putObj_heap_other fun e => ?_).trans h.rd⟩
  subst e
  obtain ⟨o, ho, hc⟩ := hn
  rw [h.rd] at ho
  simp only [Option.some.injEq] at ho
  subst ho
  simp [Obj.isCells] at hc
theorem new2 (w : World) (x y : Value) (t : TypeId) : ∀ (q : Nat) u, [x, y][q]? = some u → (w.alloc (.cells #[x, y] t)).cell? ((⟨w.heap.size, 0, none⟩ : Addr).add q) = some u := by
  intro q u h
  have h1 := (blk_new w #[x, y] t _ rfl).cell.1 q
  have h2 : (⟨w.heap.size, 0, none⟩ : Addr).add q = ⟨w.heap.size, q, none⟩ := by cases q <;> simp [Addr.add]
  rw [h2, h1]
  simpa using h
theorem info_opt : (Try.prog.info? 97).map (fun i => (i.zero, i.size, i.bytes)) = some (some (.agg #[.int .u8 0, .slice none 0 0]), 2, 32) := by kernel_rfl
end Go.Proofs.Ythgoffbfgdgkpaa

namespace Go.Proofs.Ythgoffbfgdgkpaa
open Go.RowKit Go.Shelf
attribute [local go_sem] Oper.semAt_some jump_normal jump_exit jump_ret jump_panic jump_goto
set_option linter.unusedVariables false
set_option linter.unusedSimpArgs false
set_option linter.unusedSimpArgs false
set_option maxHeartbeats 8000000
set_option maxRecDepth 100000

theorem store0123 {W : World} {r : Nat} {c0 c1 c2 c3 c4 c5 c6 c7 c8 : Value} {t : TypeId} (R : Blk W r #[c0, c1, c2, c3, c4, c5, c6, c7, c8] t) (v0 v1 v2 v3 : Value) :
    ∃ wf, ((((W.setCell ⟨r, 0, none⟩ v0).setCell ⟨r, 1, none⟩ v1).setCell ⟨r, 2, none⟩ v2).setCell ⟨r, 3, none⟩ v3) = wf ∧ Sto W r wf #[v0, v1, v2, v3, c4, c5, c6, c7, c8] t := by
  have h := ((((Sto.nil R).set 0 v0).set 1 v1).set 2 v2).set 3 v3
  simp only [List.setIfInBounds_toArray, List.set_cons_zero, List.set_cons_succ] at h
  exact ⟨_, rfl, h⟩
theorem store4568 {W : World} {r : Nat} {c0 c1 c2 c3 c4 c5 c6 c7 c8 : Value} {t : TypeId} (R : Blk W r #[c0, c1, c2, c3, c4, c5, c6, c7, c8] t) (v4 v5 v6 v8 : Value) :
    ∃ wf, ((((W.setCell ⟨r, 4, none⟩ v4).setCell ⟨r, 5, none⟩ v5).setCell ⟨r, 6, none⟩ v6).setCell ⟨r, 8, none⟩ v8) = wf ∧ Sto W r wf #[c0, c1, c2, c3, v4, v5, v6, c7, v8] t := by
  have h := ((((Sto.nil R).set 4 v4).set 5 v5).set 6 v6).set 8 v8
  simp only [List.setIfInBounds_toArray, List.set_cons_zero, List.set_cons_succ] at h
  exact ⟨_, rfl, h⟩
theorem optsK_len : ∀ (k : Nat) (l : List UInt8) (os : List Opt), optsK k l = some os → os.length ≤ l.length
  | 0, l, os, h => by cases h
  | k + 1, l, os, h => by
    unfold optsK at h
    cases hx : nx l with
    | none => rw [hx] at h; cases h
    | some x =>
      cases x with
      | none =>
        rw [hx] at h
        simp only [Option.some.injEq] at h
        subst h
        simp
      | some y =>
        obtain ⟨o, n⟩ := y
        rw [hx] at h
        simp only [Option.map_eq_some_iff] at h
        obtain ⟨r, hr, rfl⟩ := h
        have := optsK_len k _ r hr
        have := nx_some hx
        simp only [List.length_drop, List.length_cons] at *
        omega
theorem optsP_len {l : List UInt8} {os : List Opt} (h : optsP l = some os) : os.length ≤ l.length := optsK_len _ l os h
theorem split_any (A : Option Addr) (n c : Nat) (w : World) :
    Calls Try.prog 81 #[.slice A n c] w fun e w' => e = .returned (.func (.func 93) #[] #[.pointer (some ⟨w.heap.size, 0, none⟩)]) ∧ w' = w.alloc (.cells #[.slice A n c] 24) := by
  have hmf : ∀ (fn : Fn) (first cap : Array Value) (w : World), (Instr.makeFunc fn first cap).run Try.prog w = .ok (.func fn first cap) w := fun _ _ _ _ => rfl
  go_enter Try.func81, Try.ntmps81
  go_wp2
  go_ret
  exact ⟨rfl, rfl⟩
structure SO (W : World) (base r : Nat) (t : TypeId) (A : Option Addr) (n c : Nat) (os : List Opt) : Prop where
  o : OsO W base A n c os
  b : ∃ cs, Blk W r cs t
theorem SO.set {W : World} {base r : Nat} {t : TypeId} {A : Option Addr} {n c : Nat} {os : List Opt} (h : SO W base r t A n c os) (h1 : t ≠ 5) (h2 : t ≠ 97) (j : Nat) (v : Value) : SO (W.setCell ⟨r, j, none⟩ v) base r t A n c os := by
  obtain ⟨h3, cs, h4⟩ := h
  exact ⟨h3.apart (grownBy_setCell _ _ _) (fun j e => by cases e; exact ⟨h4.notOf h1, h4.notOf h2⟩), _, h4.set_ j v⟩
theorem SO.below {W W' : World} {base r : Nat} {t : TypeId} {A : Option Addr} {n c : Nat} {os : List Opt} (h : SO W base r t A n c os) (hb : Below W.heap.size W W') : SO W' base r t A n c os := by
  obtain ⟨h3, cs, h4⟩ := h
  exact ⟨h3.below hb, cs, h4.below hb⟩
structure TcC (w : World) (k kB D : Nat) (os : List Opt) (W : World) : Prop where
  s : ∃ OA oc, Blk W (k + 1) #[.int .u16 0, .int .u16 0, .int .u32 0, .int .u32 0, .int .u8 0, .int .u16 0, .int .u16 0, .slice OA os.length oc, .slice none 0 0] 42 ∧ OsO W w.heap.size OA os.length oc os
  e : Blk W (k + 1 + 1) #[.int .i64 3] 29
  b : ∃ v, Blk W kB #[v] 24
  d : NoCells W (D + 1)
theorem TcC.below {w : World} {k kB D : Nat} {os : List Opt} {W W' : World} (h : TcC w k kB D os W) (hb : Below W.heap.size W W') : TcC w k kB D os W' := by
  obtain ⟨⟨OA, oc, h1, h2⟩, h3, ⟨v, h4⟩, h5⟩ := h
  exact ⟨⟨OA, oc, h1.below hb, h2.below hb⟩, h3.below hb, ⟨v, h4.below hb⟩, h5.below hb⟩
theorem TcC.setB {w : World} {k kB D : Nat} {os : List Opt} {W : World} (h : TcC w k kB D os W) (h1 : kB ≠ k + 1) (h2 : kB ≠ k + 1 + 1) (u : Value) : TcC w k kB D os (W.setCell ⟨kB, 0, none⟩ u) := by
  have hT : 24 ≠ 5 ∧ 24 ≠ 97 := by decide
  obtain ⟨⟨OA, oc, k1, k2⟩, k3, ⟨v, k4⟩, k5⟩ := h
  exact ⟨⟨OA, oc, k1.far _ h1 _, k2.apart (grownBy_setCell _ _ _) (fun j e => by cases e; exact ⟨k4.notOf hT.1, k4.notOf hT.2⟩)⟩, k3.far _ h2 _, ⟨_, k4.set_ 0 u⟩, k5.set _ _⟩
theorem TcC.put {w : World} {k kB D : Nat} {os : List Opt} {W : World} (h : TcC w k kB D os W) (o : Obj) (ho : o.isCells = false) : TcC w k kB D os (W.putObj (D + 1) o) := by
  obtain ⟨⟨OA, oc, k1, k2⟩, k3, ⟨v, k4⟩, k5⟩ := h
  exact ⟨⟨OA, oc, k1.put k5 o, k2.apart (grownBy_putObj' _ _ _) (fun j e => by cases e; exact ⟨k5.notOf _, k5.notOf _⟩)⟩, k3.put k5 o, ⟨v, k4.put k5 o⟩, k5.put _ _ ho⟩
structure TcIx (w : World) (k : Nat) (l : List UInt8) (c : Code) (s : SpS) (W : World) : Prop where
  c : c = .goto 0
  bad : s.bad = true
  no : optsP l = none
  s : ∃ c0 c1 c2 c3 c4 c5 c6 c7 c8, Blk W (k + 1) #[c0, c1, c2, c3, c4, c5, c6, c7, c8] 42
  e : Blk W (k + 1 + 1) #[.int .i64 4] 29
  bel : Below w.heap.size w W
structure TcR (w : World) (k kB D : Nat) (s : SpS) (x : SpX) (b : Act) (W : World) : Prop where
  size : b.tmps.size = 87
  t2 : b.tmps[2]? = some (.pointer (some ⟨k + 1, 0, none⟩))
  t3 : b.tmps[3]? = some (.pointer (some ⟨k + 1 + 1, 0, none⟩))
  q : ∃ q, b.tmps[6]? = some (.pointer (some ⟨q, 0, none⟩)) ∧ Blk W q #[.int .u8 x.o.kind, .slice x.A x.n x.c] 97 ∧ q ≠ k + 1 ∧ q ≠ k + 1 + 1
  t7 : b.tmps[7]? = some (.bool x.ok)
  de : b.defers = []
  i : SplI w kB (TcC w k kB D) s W
theorem splI_put {w : World} {k kB D : Nat} {s : SpS} {W : World} (h : SplI w kB (TcC w k kB D) s W) (o : Obj) (ho : o.isCells = false) (hD : w.heap.size ≤ D + 1) (hB : kB ≠ D + 1) : SplI w kB (TcC w k kB D) s (W.putObj (D + 1) o) := by
  obtain ⟨h1, h2, h3, h4, h5, h6⟩ := h
  exact ⟨h1.put o ho, by rw [cell_putObj (by simpa using hB)]; exact h2, by rw [frozen_putObj (by simpa using hB)]; exact h3, below_putObj h4 hD _, h5, fun x hx hok => (h6 x hx hok).apart (grownBy_putObj' _ _ _) (fun j e => by cases e; exact h1.d.notOf _)⟩
theorem tcp_go (p : Pkt) (hp : p.Ok) (A1 : Option Addr) (n1 c1 : Nat) (A2 : Option Addr) (n2 c2 : Nat) (w : World) (k2 : Bs w A2 n2 c2 p.dat) (x q : Int) (hd : Nat) (hx : bt p.dat 12 = x) (hq : x / 16 = q) (hh : q * 4 = (hd : Int))
    (h1 : (p.proto != 6) = false) (h2 : 20 ≤ (n2 : Int)) (h3 : 20 ≤ (hd : Int)) (h4 : (x % 16 != 0) = false) (h5 : (hd : Int) ≤ (n2 : Int)) (h6 : (psum p 6 p.dat == 0) = true) (h7 : n2 ≤ 140737488400000)
    (T : Ending → World → Prop) (HN : Hid (optsP ((p.dat.take hd).drop 20) = none → ∀ e w', TcPost w zS 4 e w' → T e w'))
    (HY : Hid (∀ os, optsP ((p.dat.take hd).drop 20) = some os → ∀ e w', TcPost w ⟨get16 p.dat 0, get16 p.dat 2, get32 p.dat 4, get32 p.dat 8, bt p.dat 13, get16 p.dat 14, get16 p.dat 18, os, p.dat.drop hd⟩ 0 e w' → T e w')) :
    Calls Try.prog 70 #[(.agg #[.int .u8 (p).tos, .int .u16 (p).id, .bool (p).keep, .int .u8 (p).ttl, .int .u8 (p).proto, .int .u32 (p).src, .int .u32 (p).dst, .slice A1 n1 c1, .slice A2 n2 c2])] w T := by
  obtain ⟨i8, hi8, -, hs8, -⟩ := info_parts info_u8
  have b2 := k2.max
  have hcap := k2.cap
  obtain ⟨k, hk⟩ : ∃ k : Nat, w.heap.size = k := ⟨_, rfl⟩
  obtain ⟨w1, hw1⟩ : ∃ W, (((w.alloc (.cells #[.int .u8 (p).tos, .int .u16 (p).id, .bool (p).keep, .int .u8 (p).ttl, .int .u8 (p).proto, .int .u32 (p).src, .int .u32 (p).dst, .slice A1 n1 c1, .slice A2 n2 c2] 26)).alloc (.cells #[.int .u16 0, .int .u16 0, .int .u32 0, .int .u32 0, .int .u8 0, .int .u16 0, .int .u16 0, .slice none 0 0, .slice none 0 0] 42)).alloc (.cells #[.int .i64 0] 29)) = W := ⟨_, rfl⟩
  have P1 : Blk w1 k #[.int .u8 (p).tos, .int .u16 (p).id, .bool (p).keep, .int .u8 (p).ttl, .int .u8 (p).proto, .int .u32 (p).src, .int .u32 (p).dst, .slice A1 n1 c1, .slice A2 n2 c2] 26 := by rw [← hw1]; exact (((blk_new _ _ _ k (by simp [hk])).alloc _).alloc _)
  have S1 : Blk w1 (k + 1) #[.int .u16 0, .int .u16 0, .int .u32 0, .int .u32 0, .int .u8 0, .int .u16 0, .int .u16 0, .slice none 0 0, .slice none 0 0] 42 := by rw [← hw1]; exact ((blk_new _ _ _ (k + 1) (by simp [hk])).alloc _)
  have E1 : Blk w1 (k + 1 + 1) #[.int .i64 0] 29 := by rw [← hw1]; exact (blk_new _ _ _ (k + 1 + 1) (by simp [hk]))
  have R1 : Below w.heap.size w w1 := by rw [← hw1]; (repeat (first | with_reducible exact Below.refl _ _ | with_reducible refine below_drew ?_ | with_reducible refine below_drewN ?_ _ | with_reducible refine below_alloc ?_ (Nat.le_refl _) _ | with_reducible refine Below.setCell ?_ (by first | exact Nat.le_refl _ | (simp only []; omega)) _ | with_reducible assumption))
  have Pc1 := P1.cell
  have Sc1 := S1.cell
  have Ec1 := E1.cell
  have Pl1 := P1.lt
  have Sl1 := S1.lt
  have El1 := E1.lt
  have x1 := (k2).below R1
  obtain ⟨b, off, rfl, hcs⟩ := x1.rd (by omega)
  have g12 := hcs 12 (by omega)
  have i12 : (12 : Int) < n2 := by omega
  have x0 := bt_lo p.dat 12
  have x255 := bt_hi p.dat 12
  rw [hx] at g12 x0 x255
  have hw1' : IntKind.i64.wrap q = q := by rw [IntKind.wrap_i64]; omega
  have hw2' : IntKind.i64.wrap (hd : Int) = hd := by rw [IntKind.wrap_i64]; omega
  have hand := and_u8_15 x0 x255
  clear hcs
  have hcut : ∀ W, (Instr.slice 24 (.slice (some ⟨b, off, none⟩) n2 c2) (some (.int .i64 20)) (some (.int .i64 (hd : Int))) none).run Try.prog W = _ := fun W => cut_lh Try.underlying24 hi8 hs8 (some ⟨b, off, none⟩) n2 c2 .i64 .i64 20 (hd : Int) (by omega) (by omega) (by omega) W
  obtain ⟨A', n', c', eA, en, ec, hbO⟩ := k2.cutE (lo := 20) (hi := hd) (by omega) (by omega)
  simp only [show (20 : Int).toNat = 20 from rfl, Int.toNat_natCast, eA, en, ec] at hcut
  have hn' : n' ≤ 40 := by omega
  obtain ⟨l, hl⟩ : ∃ l, (p.dat.take hd).drop 20 = l := ⟨_, rfl⟩
  rw [hl] at hbO HN HY
  clear eA en ec hl
  obtain ⟨v0, hv0⟩ : ∃ v, get16 p.dat 0 = v := ⟨_, rfl⟩
  have g0 : ∀ W, Bs W (some ⟨b, off, none⟩) n2 c2 p.dat → Calls Try.prog 47 #[.slice (some ⟨b, off, none⟩) n2 c2, .int .i64 0] W fun e w' => e = .returned (.int .u16 v0) ∧ Drawn W w' := fun W k => by have := get16_any (some ⟨b, off, none⟩) n2 c2 p.dat 0 W k; rw [hv0] at this; exact this
  rw [hv0] at HY
  clear hv0
  obtain ⟨v2, hv2⟩ : ∃ v, get16 p.dat 2 = v := ⟨_, rfl⟩
  have g2 : ∀ W, Bs W (some ⟨b, off, none⟩) n2 c2 p.dat → Calls Try.prog 47 #[.slice (some ⟨b, off, none⟩) n2 c2, .int .i64 2] W fun e w' => e = .returned (.int .u16 v2) ∧ Drawn W w' := fun W k => by have := get16_any (some ⟨b, off, none⟩) n2 c2 p.dat 2 W k; rw [hv2] at this; exact this
  rw [hv2] at HY
  clear hv2
  obtain ⟨v4, hv4⟩ : ∃ v, get32 p.dat 4 = v := ⟨_, rfl⟩
  have g4 : ∀ W, Bs W (some ⟨b, off, none⟩) n2 c2 p.dat → Calls Try.prog 63 #[.slice (some ⟨b, off, none⟩) n2 c2, .int .i64 4] W fun e w' => e = .returned (.int .u32 v4) ∧ Drawn W w' := fun W k => by have := get32_any (some ⟨b, off, none⟩) n2 c2 p.dat 4 W k; rw [hv4] at this; exact this
  rw [hv4] at HY
  clear hv4
  obtain ⟨v8, hv8⟩ : ∃ v, get32 p.dat 8 = v := ⟨_, rfl⟩
  have g8 : ∀ W, Bs W (some ⟨b, off, none⟩) n2 c2 p.dat → Calls Try.prog 63 #[.slice (some ⟨b, off, none⟩) n2 c2, .int .i64 8] W fun e w' => e = .returned (.int .u32 v8) ∧ Drawn W w' := fun W k => by have := get32_any (some ⟨b, off, none⟩) n2 c2 p.dat 8 W k; rw [hv8] at this; exact this
  rw [hv8] at HY
  clear hv8
  obtain ⟨v14, hv14⟩ : ∃ v, get16 p.dat 14 = v := ⟨_, rfl⟩
  have g14 : ∀ W, Bs W (some ⟨b, off, none⟩) n2 c2 p.dat → Calls Try.prog 47 #[.slice (some ⟨b, off, none⟩) n2 c2, .int .i64 14] W fun e w' => e = .returned (.int .u16 v14) ∧ Drawn W w' := fun W k => by have := get16_any (some ⟨b, off, none⟩) n2 c2 p.dat 14 W k; rw [hv14] at this; exact this
  rw [hv14] at HY
  clear hv14
  obtain ⟨v18, hv18⟩ : ∃ v, get16 p.dat 18 = v := ⟨_, rfl⟩
  have g18 : ∀ W, Bs W (some ⟨b, off, none⟩) n2 c2 p.dat → Calls Try.prog 47 #[.slice (some ⟨b, off, none⟩) n2 c2, .int .i64 18] W fun e w' => e = .returned (.int .u16 v18) ∧ Drawn W w' := fun W k => by have := get16_any (some ⟨b, off, none⟩) n2 c2 p.dat 18 W k; rw [hv18] at this; exact this
  rw [hv18] at HY
  clear hv18
  obtain ⟨v13, hv13⟩ : ∃ v, bt p.dat 13 = v := ⟨_, rfl⟩
  have g13 := fun W (k : Bs W (some ⟨b, off, none⟩) n2 c2 p.dat) => k.at_ (j := 13) (by omega)
  rw [hv13] at g13 HY
  clear hv13
  have hcutD : ∀ W, (Instr.slice 24 (.slice (some ⟨b, off, none⟩) n2 c2) (some (.int .i64 (hd : Int))) none none).run Try.prog W = _ := fun W => cut_l Try.underlying24 hi8 hs8 (some ⟨b, off, none⟩) n2 c2 .i64 (hd : Int) (by omega) (by omega) W
  obtain ⟨AD, nD, cD, eA, en, ec, hbD⟩ := k2.cutE (lo := hd) (hi := n2) (by omega) (Nat.le_refl _)
  simp only [Int.toNat_natCast, eA, en, ec] at hcutD
  rw [List.take_of_length_le (by rw [k2.len]; exact Nat.le_refl _)] at hbD
  clear eA en ec
  refine (callsIn_wide (n := 3)).1 ?_
  refine callsIn_of_wp_marks Try.func70 rfl trivial ?_ rfl
  simp only [Try.ntmps70, List.size_toArray, List.length_cons, List.length_nil, Nat.reduceAdd, Nat.reduceSub, Array.replicate_succ, Array.replicate_zero, List.push_toArray, List.append_toArray, List.nil_append, List.cons_append]
  gi_wp2
  refine wpIn_scope_fwd 0 (fun a W => TcJ w k 4 a W ∧ optsP l = none) rfl ?first ?pass
  case pass =>
    rintro a W ⟨⟨hs, h2, h3, ⟨d0, d1, d2, d3, d4, d5, d6, d7, d8, S⟩, Eb, hB, hde⟩, hno⟩
    have HNO := Lib.hid hno
    clear hno
    obtain ⟨f, hf, hfv⟩ := slots hs
    have f2 := hfv 2 _ (by omega) h2
    have f3 := hfv 3 _ (by omega) h3
    obtain ⟨tm, df⟩ := a
    simp only at hf hde
    subst hf
    have sc := S.cell
    have ec := Eb.cell
    simp only [List.range, List.range.loop, List.map_cons, List.map_nil, f2, f3]
    have sl := S.lt
    have el := Eb.lt
    gi_wp2_with gi_region
    obtain ⟨wf, hwf, Sf⟩ := store9 S (.int .u16 0) (.int .u16 0) (.int .u32 0) (.int .u32 0) (.int .u8 0) (.int .u16 0) (.int .u16 0) (.slice none 0 0) (.slice none 0 0)
    rw [hwf]
    have Ef := Sf.other (k := k + 1 + 1) (by omega) Eb
    obtain ⟨wg, hwg, Sg⟩ := store1 Ef 0 (.int .i64 4)
    rw [hwg, Exit.noGoto_ret]
    have Sz := Sg.other (k := k + 1) (by omega) Sf.blk
    have pf := (Sz.drew).cell
    have pg := (Sg.blk.drew).cell
    have Tg := Sg.bel (Sf.bel hB (by omega)) (by omega)
    have hdn : ∀ D : Nat, W.heap[D]? = some (Obj.deferred (some [])) → wg.drew.heap[D]? = some (Obj.deferred (some [])) := fun D h => by
      have e1 : k + 1 ≠ D := fun e => by subst e; have := S.rd; rw [h] at this; cases this
      have e2 : k + 1 + 1 ≠ D := fun e => by subst e; have := Eb.rd; rw [h] at this; cases this
      show wg.heap[D]? = _
      rw [← hwg, ← hwf]
      simp only [heap_setCell_ne _ _ _ _ _ e1, heap_setCell_ne _ _ _ _ _ e2]
      exact h
    rcases hde with rfl | ⟨D, rfl, hD, hge⟩
    · show LeavesInM _ _ _ _ _ _ [] .returning _
      exact ⟨(.tuple #[.agg #[.int .u16 0, .int .u16 0, .int .u32 0, .int .u32 0, .int .u8 0, .int .u16 0, .int .u16 0, .slice none 0 0, .slice none 0 0], .int .i64 4]), by simp [results, Try.results70, go_sem, pf, pg], HN.out HNO.out _ _ (tcPost_no (below_drew Tg))⟩
    · show LeavesInM _ _ _ _ _ _ _ .returning _
      refine ⟨by simp, .inl ⟨_, _, rfl, run_takeDeferred (hdn D hD), ?_⟩⟩
      have d1 : k + 1 ≠ D := fun e => by subst e; have := S.rd; rw [hD] at this; cases this
      have d2 : k + 1 + 1 ≠ D := fun e => by subst e; have := Eb.rd; rw [hD] at this; cases this
      have pf2 : ∀ j, (wg.drew.putObj D (Obj.deferred none)).cell? ⟨k + 1, j, none⟩ = _ := fun j => (cell_putObj d1 _).trans (pf.1 j)
      have pg2 : ∀ j, (wg.drew.putObj D (Obj.deferred none)).cell? ⟨k + 1 + 1, j, none⟩ = _ := fun j => (cell_putObj d2 _).trans (pg.1 j)
      exact ⟨(.tuple #[.agg #[.int .u16 0, .int .u16 0, .int .u32 0, .int .u32 0, .int .u8 0, .int .u16 0, .int .u16 0, .slice none 0 0, .slice none 0 0], .int .i64 4]), by simp [results, Try.results70, go_sem, pf2, pg2], HN.out HNO.out _ _ (tcPost_no (below_putObj (below_drew Tg) hge _))⟩
  case first =>
    obtain ⟨w2, hw2, S2⟩ := store1 E1 0 (.int .i64 3)
    have P2 := S2.other (by omega) P1
    have pc2 := P2.cell
    have SS2 := S2.other (by omega) S1
    have R2 := S2.bel R1 (by omega)
    have x2 := k2.below R2
    have el2 := S2.blk.lt
    have g12b := x2.at_ (j := 12) (by omega)
    rw [hx] at g12b
    clear hx g12
    gi_wp2_with (first
      | (refine ⟨trivial, ?_⟩; gi_at_call 80; refine (callsIn_wide.2 (fits_any p hp A1 n1 c1 _ n2 c2 6 (by omega) (by omega) w2 x2 h7)).mono ?_; rintro e w3 ⟨he, hB3⟩; (try rw [h6] at he); subst he; have P3 := P2.below hB3; have E3 := (S2.blk).below hB3; have SS3 := SS2.below hB3; have ec3 := E3.cell; have sc3 := SS3.cell; have el3 := E3.lt; have R3 := below_then R2 hB3; have x3 := x2.below hB3)
      | (refine ⟨trivial, ?_⟩; gi_at_call 81; refine (callsIn_wide.2 (split_any A' n' c' w3)).mono ?_; rintro e w4 ⟨rfl, hw4⟩; (obtain ⟨kB, hkB⟩ : ∃ kB : Nat, w3.heap.size = kB := ⟨_, rfl⟩); rw [hkB]))
    clear hw4
    obtain ⟨w4, hw4⟩ : ∃ w4, w3.alloc (.cells #[.slice A' n' c'] 24) = w4 := ⟨_, rfl⟩
    rw [hw4]
    have hB4 : Below w3.heap.size w3 w4 := by rw [← hw4]; exact (Below.refl _ _).alloc (Nat.le_refl _) _
    have B4 : Blk w4 kB #[.slice A' n' c'] 24 := by rw [← hw4]; exact blk_new _ _ _ _ hkB
    have E4 := E3.below hB4
    have SS4 := SS3.below hB4
    have R4 := below_then R3 hB4
    have x4 := x3.below hB4
    have hk4 : k + 1 + 1 < kB := by rw [← hkB]; exact el3
    have hD4 : w4.heap.size = kB + 1 := by rw [← hw4, ← hkB]; simp
    clear hw4 P3 E3 SS3 ec3 sc3 el3 P2 SS2 pc2 hB3 hkB x2 g12b P1 S1 E1 Pc1 Sc1 Ec1 el2
    refine range_law2 rfl (by omega) (gf := 93) (lb := #[.pointer (some ⟨kB, 0, none⟩)]) rfl trivial (enters_of Try.func93 (by kernel_rfl) rfl)
      encX (fun _ => rfl) spStep ⟨[], .slice A' n' c', none, false⟩ (fun s => optsP l = some s.os) (SplI w kB (TcC w k kB w4.heap.size)) (TcIx w k l) (SplOk l) (TcR w k kB w4.heap.size) ?hI ?hIx ?hJ ?h0 ?hassign ?hbody ?hiter ?hdone ?hstop
    case hI => exact fun s W o ho h => splI_put h o ho (by have := R4.size; omega) (by omega)
    case hIx =>
      rintro c s W o ho ⟨i1, i2, i3, ⟨d0, d1, d2, d3, d4, d5, d6, d7, d8, S⟩, i5, i6⟩
      exact ⟨i1, i2, i3, ⟨d0, d1, d2, d3, d4, d5, d6, d7, d8, ⟨(World.putObj_heap_other (by omega)).trans S.rd⟩⟩, ⟨(World.putObj_heap_other (by omega)).trans i5.rd⟩, below_putObj i6 (by have := R4.size; omega) _⟩
    case hJ =>
      rintro s x a W o ho ⟨j1, j2, j3, ⟨q, j4, j5, j6, j7⟩, j8, j9, j10⟩
      exact ⟨j1, j2, j3, ⟨q, j4, j5.put j10.1.d o, j6, j7⟩, j8, j9, splI_put j10 o ho (by have := R4.size; omega) (by omega)⟩
    case h0 =>
      intro o o' ho ho'
      have hb' : Below w4.heap.size w4 ((w4.alloc o).alloc o') := ((Below.refl _ w4).alloc (Nat.le_refl _) _).alloc (by simp) _
      refine ⟨⟨⟨none, 0, SS4.below hb', osO_nil _ _⟩, E4.below hb', ⟨_, B4.below hb'⟩, ⟨o', ?_, ho'⟩⟩, ?_, ?_, below_then R4 hb', rfl, fun x h => by cases h⟩
      · have := World.alloc_heap_new (w4.alloc o) o'
        rwa [World.size_alloc] at this
      · exact (B4.below hb').cell.1 0
      · exact (B4.below hb').cell.2 0
    case hassign =>
      intro s x W K hok hi hs hK
      dsimp only [encX]
      gi_wp2
      have hb' : Below W.heap.size W (W.alloc (.cells #[.int .u8 x.o.kind, .slice x.A x.n x.c] 97)) := (Below.refl _ W).alloc (Nat.le_refl _) _
      refine hK _ _ (keeps_alloc _ _) ?_
      exact ⟨rfl, rfl, rfl, ⟨W.heap.size, rfl, blk_new _ _ _ _ rfl, by omega, by omega⟩, rfl, rfl, hi.below (fun os W W' h hb => h.below hb) hb'⟩
    case hbody =>
      rintro s y bb W ⟨hpd, hok1, hok2⟩ ⟨js, j2, j3, ⟨qq, j6, Qb, qn1, qn2⟩, j7, jd, ji⟩ hz
      obtain ⟨f, hf, hfv⟩ := slots js
      have f2 := hfv 2 _ (by omega) j2
      have f3 := hfv 3 _ (by omega) j3
      have f6 := hfv 6 _ (by omega) j6
      have f7 := hfv 7 _ (by omega) j7
      obtain ⟨tm, df⟩ := bb
      simp only at hf jd
      subst hf jd
      simp only [List.range, List.range.loop, List.map_cons, List.map_nil, f2, f3, f6, f7]
      obtain ⟨⟨⟨OA, oc, Sb, Ob⟩, Eb, ⟨vB, Bb⟩, Nc⟩, iB, iF, iL, ibad, iD⟩ := ji
      have sc := Sb.cell
      have ec := Eb.cell
      have qc := Qb.cell
      have sl := Sb.lt
      have el := Eb.lt
      have ql := Qb.lt
      clear hfv j2 j3 j6 j7 js
      cases hy : y.ok with
      | false =>
        have HO : Hid (optsP l = none) := hok1 hy
        clear hok1 hok2 hpd iD
        gi_wp2
        apply wpIn_goto
        exact ⟨keeps_setCell _ _ _, rfl, by simp [spStep, hy], HO.out, ⟨_, _, _, _, _, _, _, _, _, Sb.far _ (by simp) _⟩, Eb.set_ 0 (.int .i64 4), iL.setCell (p := ⟨k + 1 + 1, 0, none⟩) (by simp only []; have := R4.size; omega) _⟩
      | true =>
        obtain ⟨xs, hxs, hj⟩ := Ob.own
        have hown := iD y hpd hy
        have HLs := Lib.hid (hok2 hy)
        have Hj := Lib.hid hj
        have HL := Lib.hid hbO.len
        clear hok1 hok2 hpd iD hj
        obtain ⟨m, hm⟩ : ∃ m, s.os.length = m := ⟨_, rfl⟩
        rw [hm] at Sb Ob hxs Hj HLs sc
        have hm40 : m ≤ 40 := by have := HLs.out; have := HL.out; omega
        have HM := Lib.hid hm
        clear hm
        obtain ⟨ii, hi, hz', hs', hb'⟩ := info_parts info_opt
        have hT1 : (42 : TypeId) ≠ 97 := by decide
        have hT2 : (29 : TypeId) ≠ 97 := by decide
        have hT3 : (24 : TypeId) ≠ 97 := by decide
        have hT4 : (42 : TypeId) ≠ 5 := by decide
        gi_wp2_with (gi_at_builtin; refine wpListIn_appG (w0 := w) _ rfl _ _ _ rfl w.heap.size 97 ii (.agg #[.int .u8 0, .slice none 0 0]) 2 32 Try.underlying40 hi hz' hs' hb' rfl (by omega) (by omega) OA m oc xs rfl (hxs.alloc _) ⟨W.heap.size, 0, none⟩ 1 1 [.int .u8 y.o.kind, .slice y.A y.n y.c] rfl rfl (new2 _ _ _ _) (by intro u h; simp at h; rcases h with rfl | rfl <;> rfl) (below_alloc iL (by omega) _) (by omega) (by have := iL.size; simp; omega) ?_; intro A5 c5 w5 O5 hB5 hG5 hz5; have hx2 := hxs.alloc (.cells #[.int .u8 y.o.kind, .slice y.A y.n y.c] 97); have S5 := (Sb.alloc (.cells #[.int .u8 y.o.kind, .slice y.A y.n y.c] 97)).kept hG5 (hx2.ne_blk (Sb.alloc (.cells #[.int .u8 y.o.kind, .slice y.A y.n y.c] 97)) hT1); have sc5 := S5.cell)
        have vv : vB = s.v := by have e1 := Bb.cell.1 0; rw [iB] at e1; simpa using e1.symm
        have E5 := (Eb.alloc (.cells #[.int .u8 y.o.kind, .slice y.A y.n y.c] 97)).kept hG5 (hx2.ne_blk (Eb.alloc _) hT2)
        have B5 := ((Bb.alloc (.cells #[.int .u8 y.o.kind, .slice y.A y.n y.c] 97)).kept hG5 (hx2.ne_blk (Bb.alloc _) hT3)).far ⟨k + 1, 7, none⟩ (by simp only []; omega) (.slice A5 (m + 1) c5)
        have N5 := ((Nc.below ((Below.refl _ W).alloc (Nat.le_refl _) (.cells #[.int .u8 y.o.kind, .slice y.A y.n y.c] 97))).kept hG5 hx2.cells).set ⟨k + 1, 7, none⟩ (.slice A5 (m + 1) c5)
        have OO := (Ob.below ((Below.refl _ W).alloc (Nat.le_refl _) (.cells #[.int .u8 y.o.kind, .slice y.A y.n y.c] 97))).snoc hx2 (fun j hj => by obtain ⟨a1, B', m', d', a2, a3⟩ := Hj.out j hj; exact ⟨a1, B', m', d', a2, a3.alloc _⟩) hG5 y.o (hown.alloc _) O5
        have OO2 := OO.apart (grownBy_setCell w5 ⟨k + 1, 7, none⟩ (.slice A5 (m + 1) c5)) (fun j e => by cases e; exact ⟨S5.notOf hT4, S5.notOf hT1⟩)
        refine ⟨?_, ⟨⟨A5, c5, ?_, ?_⟩, E5.far _ (by simp) _, ⟨_, B5⟩, N5⟩, ?_, B5.cell.2 0, hB5.setCell (p := ⟨k + 1, 7, none⟩) (by simp only []; omega) _, by simp [spStep, hy], fun x h => by cases h⟩
        · exact (keeps_alloc _ _).trans (((KeepsOthers.of_grownBy hG5 hx2.cells).from _).trans (keeps_setCell _ _ _))
        · have := S5.set_ 7 (.slice A5 (m + 1) c5)
          simp only [spStep, hy, if_true, List.length_append, List.length_cons, List.length_nil, HM.out]
          exact this
        · simp only [spStep, hy, if_true, List.length_append, List.length_cons, List.length_nil, HM.out]
          exact OO2
        · rw [B5.cell.1 0, vv]; rfl
    case hiter =>
      intro R Rx W1 hRk hRs hY h0 hR0 hz
      exact split1_in w4.heap.size kB w l n' hbO.len (by omega) (by omega) hbO.max (TcC w k kB w4.heap.size) (TcIx w k l) R Rx (fun os W W' h hb => h.below hb) (fun os W u h => h.setB (by omega) (by omega) u) (fun c s W h => h.bad) hRk hY W1 A' c' hbO h0 hR0
    case hstop =>
      rintro c s W ⟨rfl, i2, i3, ⟨d0, d1, d2, d3, d4, d5, d6, d7, d8, S⟩, i5, i6⟩ hK
      apply wpIn_goto
      exact ⟨rfl, ⟨rfl, rfl, rfl, ⟨_, _, _, _, _, _, _, _, _, S⟩, i5, i6, .inr ⟨_, rfl, hK, by have := R4.size; omega⟩⟩, i3⟩
    case hdone =>
      rintro s u10 hS ⟨⟨⟨OA, oc, S10, O10⟩, E10, -, -⟩, -, -, L10, -, -⟩ hK
      have z10 := k2.below L10
      have HOS : Hid (optsP l = some s.os) := hS
      obtain ⟨m, hm⟩ : ∃ m, s.os.length = m := ⟨_, rfl⟩
      rw [hm] at S10 O10
      have kl := R4.size
      have HM := Lib.hid hm
      have HL := Lib.hid hbO.len
      clear hS hm
      rw [hD4] at hK
      have lt10 := (Array.getElem?_eq_some_iff.1 hK).1
      have hne1 : k + 1 ≠ kB + 1 := by omega
      have hne2 : k + 1 + 1 ≠ kB + 1 := by omega
      dsimp only
      gi_wp2
      with_reducible refine And.intro ?_ ?_
      exact trivial
      gi_at_call 47
      refine (callsIn_wide.2 (g0 u10 z10)).mono ?_
      rintro e u11 ⟨rfl, hD11⟩
      have hB11 := hD11.bel
      have S11 := S10.below hB11
      have E11 := E10.below hB11
      have z11 := z10.below hB11
      have L11 := below_then L10 hB11
      have O11 := O10.below hB11
      gi_wp2
      with_reducible refine And.intro ?_ ?_
      exact trivial
      gi_at_call 47
      refine (callsIn_wide.2 (g2 u11 z11)).mono ?_
      rintro e u12 ⟨rfl, hD12⟩
      have hB12 := hD12.bel
      have S12 := S11.below hB12
      have E12 := E11.below hB12
      have z12 := z11.below hB12
      have L12 := below_then L11 hB12
      have O12 := O11.below hB12
      gi_wp2
      with_reducible refine And.intro ?_ ?_
      exact trivial
      gi_at_call 63
      refine (callsIn_wide.2 (g4 u12 z12)).mono ?_
      rintro e u13 ⟨rfl, hD13⟩
      have hB13 := hD13.bel
      have S13 := S12.below hB13
      have E13 := E12.below hB13
      have z13 := z12.below hB13
      have L13 := below_then L12 hB13
      have O13 := O12.below hB13
      gi_wp2
      with_reducible refine And.intro ?_ ?_
      exact trivial
      gi_at_call 63
      refine (callsIn_wide.2 (g8 u13 z13)).mono ?_
      rintro e u14 ⟨rfl, hD14⟩
      have hB14 := hD14.bel
      have S14 := S13.below hB14
      have E14 := E13.below hB14
      have z14 := z13.below hB14
      have L14 := below_then L13 hB14
      have O14 := O13.below hB14
      have sc14 := S14.cell
      have sl14 := S14.lt
      obtain ⟨w6, hw6, S6⟩ := store0123 S14 (.int .u16 v0) (.int .u16 v2) (.int .u32 v4) (.int .u32 v8)
      gi_wp2
      have HK6 : w6.heap[kB + 1]? = some (Obj.deferred (some [])) := by
        rw [← hw6]; simp only [heap_setCell_ne _ _ _ _ _ hne1]; exact ((below_then (below_then (below_then hB11 hB12) hB13) hB14).block _ lt10).trans hK
      have lt6 := (Array.getElem?_eq_some_iff.1 HK6).1
      have L6 := S6.bel L14 (by omega)
      have z6 := k2.below L6
      have D6 := hbD.below L6
      have hT4 : (42 : TypeId) ≠ 5 := by decide
      have hT1 : (42 : TypeId) ≠ 97 := by decide
      have hT5 : (29 : TypeId) ≠ 5 := by decide
      have hT6 : (29 : TypeId) ≠ 97 := by decide
      have Q6 : SO w6 w.heap.size (k + 1) 42 OA m oc s.os := by rw [← hw6]; exact ((((SO.mk O14 ⟨_, S14⟩).set hT4 hT1 _ _).set hT4 hT1 _ _).set hT4 hT1 _ _).set hT4 hT1 _ _
      have E6 := S6.other (k := k + 1 + 1) (by omega) E14
      have l6 := L6.size
      have r6s : w.heap.size ≤ w6.heap.size := L6.size
      have i13 : (13 : Int) < n2 := by omega
      clear hw6 sc14 S10 S11 S12 S13 E10 E11 E12 E13 O10 O11 O12 O13 sl14
      refine wpIn_wide.2 ?_
      refine region_txt 12 (by kernel_rfl) (by kernel_rfl) ?_; (iterate 12 (first | (apply ObsK.skip (by rfl)) | (apply ObsK.v (by rfl); (intro wo hT; (repeat (first | (intro v hv; (skip)) | (intro _ _ k; try have hcv := cv k))); (have bo := z6.below hT; have hsz : w6.heap.size ≤ wo.heap.size := hT.size; have g13o := g13 wo bo); refine Goes.mk ?_; go_simp; first | exact goes_v | exact goes_b (by assumption) | (refine goes_enter ?_; first | (go_at_call 47; ((with_reducible refine (g14 wo bo).mono ?_); rintro e w9 ⟨rfl, hD9⟩); exact ret_v hD9.bel) | (go_at_call 47; ((with_reducible refine (g18 wo bo).mono ?_); rintro e w9 ⟨rfl, hD9⟩); exact ret_v hD9.bel) | (go_at_call 64; ((with_reducible refine (clone_any AD nD cD _ wo (D6.below hT)).mono ?_); rintro e w9 ⟨A9, c9, rfl, ho9, hB9⟩); exact ret_p (own_isW ho9 hsz) hB9)))) | (apply ObsK.b (by rfl); (intro wo hT; (repeat (first | (intro v hv; (skip)) | (intro _ _ k; try have hcv := cv k))); (have bo := z6.below hT; have hsz : w6.heap.size ≤ wo.heap.size := hT.size; have g13o := g13 wo bo); refine Goes.mk ?_; go_simp; first | exact goes_v | exact goes_b (by assumption) | (refine goes_enter ?_; first | (go_at_call 47; ((with_reducible refine (g14 wo bo).mono ?_); rintro e w9 ⟨rfl, hD9⟩); exact ret_v hD9.bel) | (go_at_call 47; ((with_reducible refine (g18 wo bo).mono ?_); rintro e w9 ⟨rfl, hD9⟩); exact ret_v hD9.bel) | (go_at_call 64; ((with_reducible refine (clone_any AD nD cD _ wo (D6.below hT)).mono ?_); rintro e w9 ⟨A9, c9, rfl, ho9, hB9⟩); exact ret_p (own_isW ho9 hsz) hB9)))) | (apply ObsK.p (q := isW w6.heap.size (p.dat.drop hd)) (by rfl) st_isW; (intro wo hT; (repeat (first | (intro v hv; (skip)) | (intro _ _ k; try have hcv := cv k))); (have bo := z6.below hT; have hsz : w6.heap.size ≤ wo.heap.size := hT.size; have g13o := g13 wo bo); refine Goes.mk ?_; go_simp; first | exact goes_v | exact goes_b (by assumption) | (refine goes_enter ?_; first | (go_at_call 47; ((with_reducible refine (g14 wo bo).mono ?_); rintro e w9 ⟨rfl, hD9⟩); exact ret_v hD9.bel) | (go_at_call 47; ((with_reducible refine (g18 wo bo).mono ?_); rintro e w9 ⟨rfl, hD9⟩); exact ret_v hD9.bel) | (go_at_call 64; ((with_reducible refine (clone_any AD nD cD _ wo (D6.below hT)).mono ?_); rintro e w9 ⟨A9, c9, rfl, ho9, hB9⟩); exact ret_p (own_isW ho9 hsz) hB9)))))); refine ObsK.nil ?_; intro wz hBz; simp only [finOn, List.drop_succ_cons, List.drop_zero, List.drop_nil]
      rintro v9 ⟨A9, n9, c9, rfl, O9⟩
      go_simp
      have Sz := S6.blk.below hBz
      have Ez := E6.below hBz
      have Qz := Q6.below hBz
      have Lz := below_then L6 hBz
      have szc := Sz.cell
      have szl := Sz.lt
      obtain ⟨wf, hwf, Sf⟩ := store4568 Sz (.int .u8 v13) (.int .u16 v14) (.int .u16 v18) (.slice A9 n9 c9)
      have sfc := Sf.blk.cell
      have Ef := Sf.other (k := k + 1 + 1) (by omega) Ez
      have efc := Ef.cell
      have sfl := Sf.blk.lt
      have efl := Ef.lt
      go_wp2_with fail
      obtain ⟨wg, hwg, Sg⟩ := store9 Sf.blk (.int .u16 v0) (.int .u16 v2) (.int .u32 v4) (.int .u32 v8) (.int .u8 v13) (.int .u16 v14) (.int .u16 v18) (.slice OA m oc) (.slice A9 n9 c9)
      have Eg := Sg.other (k := k + 1 + 1) (by omega) Ef
      have egc := Eg.cell
      have egl := Eg.lt
      obtain ⟨wh, hwh, Eh⟩ := store1 Eg 0 (.int .i64 0)
      have Sh := Eh.other (k := k + 1) (by omega) Sg.blk
      have shc := Sh.cell
      have ehc := Eh.blk.cell
      gi_wp2
      show LeavesInM _ _ _ _ _ _ _ .returning _
      have HKf : wf.heap[kB + 1]? = some (Obj.deferred (some [])) := by
        rw [← hwf]; simp only [heap_setCell_ne _ _ _ _ _ hne1]; exact (hBz.block _ lt6).trans HK6
      have HKg : wg.heap[kB + 1]? = some (Obj.deferred (some [])) := by
        rw [← hwg]; simp only [heap_setCell_ne _ _ _ _ _ hne1]; exact HKf
      have HKh : wh.heap[kB + 1]? = some (Obj.deferred (some [])) := by
        rw [← hwh]; simp only [heap_setCell_ne _ _ _ _ _ hne2]; exact HKg
      have Qf : SO wf w.heap.size (k + 1) 42 OA m oc s.os := by rw [← hwf]; exact (((Qz.set hT4 hT1 _ _).set hT4 hT1 _ _).set hT4 hT1 _ _).set hT4 hT1 _ _
      have Qg : SO wg w.heap.size (k + 1) 42 OA m oc s.os := by
        rw [← hwg]; exact ((((((((Qf.set hT4 hT1 _ _).set hT4 hT1 _ _).set hT4 hT1 _ _).set hT4 hT1 _ _).set hT4 hT1 _ _).set hT4 hT1 _ _).set hT4 hT1 _ _).set hT4 hT1 _ _).set hT4 hT1 _ _
      have Qh : OsO wh w.heap.size OA m oc s.os := by
        rw [← hwh]; exact Qg.o.apart (grownBy_setCell _ _ _) (fun j e => by cases e; exact ⟨Eg.notOf hT5, Eg.notOf hT6⟩)
      have NC : NoCells wh (kB + 1) := ⟨_, HKh, rfl⟩
      have Qe := Qh.apart (grownBy_putObj' wh (kB + 1) (Obj.deferred none)) (fun j e => by cases e; exact ⟨NC.notOf _, NC.notOf _⟩)
      have el6 := E6.lt
      have Of := Sf.own O9 (fun a e => by have := O9.ge a e; omega)
      have Og := Sg.own Of (fun a e => by have := O9.ge a e; omega)
      have Oh := Eh.own Og (fun a e => by have := O9.ge a e; omega)
      have Oe := Oh.apart (grownBy_putObj' wh (kB + 1) (Obj.deferred none)) (fun j e => by cases e; exact NC.notOf _)
      have Lh := Eh.bel (Sg.bel (Sf.bel Lz (by omega)) (by omega)) (by omega)
      refine ⟨by simp, .inl ⟨_, _, rfl, run_takeDeferred HKh, ?_⟩⟩
      have pf2 : ∀ j, (wh.putObj (kB + 1) (Obj.deferred none)).cell? ⟨k + 1, j, none⟩ = _ := fun j => (cell_putObj (by simpa using hne1) _).trans (shc.1 j)
      have pg2 : ∀ j, (wh.putObj (kB + 1) (Obj.deferred none)).cell? ⟨k + 1 + 1, j, none⟩ = _ := fun j => (cell_putObj (by simpa using hne2) _).trans (ehc.1 j)
      exact ⟨.tuple #[.agg #[.int .u16 v0, .int .u16 v2, .int .u32 v4, .int .u32 v8, .int .u8 v13, .int .u16 v14, .int .u16 v18, .slice OA m oc, .slice A9 n9 c9], .int .i64 0], by simp [results, Try.results70, go_sem, pf2, pg2],
        HY.out s.os HOS.out _ _ ⟨OA, m, oc, A9, n9, c9, rfl, Qe, by have := optsP_len HOS.out; have := HM.out; have := HL.out; omega, Oe.mono r6s, below_putObj Lh (by omega) _⟩⟩
end Go.Proofs.Ythgoffbfgdgkpaa

namespace Go.Proofs.Ythgoffbfgdgkpaa
open Go.RowKit
set_option linter.unusedVariables false
set_option linter.unusedSimpArgs false
set_option maxHeartbeats 4000000

theorem tc_ways (p : Pkt) (n2 : Nat) (l2 : p.dat.length = n2) (x : Int) (hx : bt p.dat 12 = x) (hd : Nat) (hh : hdS p.dat = hd) :
    (tcE p ≠ 0 ∧ ((tcE p = 12 ∧ (p.proto != 6) = true) ∨ (tcE p = 3 ∧ (p.proto != 6) = false ∧ (n2 : Int) < 20) ∨ (tcE p = 4 ∧ (p.proto != 6) = false ∧ 20 ≤ (n2 : Int) ∧ (hd : Int) < 20) ∨ (tcE p = 4 ∧ (p.proto != 6) = false ∧ 20 ≤ (n2 : Int) ∧ 20 ≤ (hd : Int) ∧ (x % 16 != 0) = true) ∨
      (tcE p = 3 ∧ (p.proto != 6) = false ∧ 20 ≤ (n2 : Int) ∧ 20 ≤ (hd : Int) ∧ (x % 16 != 0) = false ∧ (n2 : Int) < (hd : Int)) ∨ (tcE p = 5 ∧ (p.proto != 6) = false ∧ 20 ≤ (n2 : Int) ∧ 20 ≤ (hd : Int) ∧ (x % 16 != 0) = false ∧ (hd : Int) ≤ (n2 : Int) ∧ (psum p 6 p.dat == 0) = false))) ∨
    ((p.proto != 6) = false ∧ 20 ≤ (n2 : Int) ∧ 20 ≤ (hd : Int) ∧ (x % 16 != 0) = false ∧ (hd : Int) ≤ (n2 : Int) ∧ (psum p 6 p.dat == 0) = true ∧ (optsP ((p.dat.take hd).drop 20) = none → tcE p = 4) ∧ (∀ os, optsP ((p.dat.take hd).drop 20) = some os → tcE p = 0)) := by
  unfold tcE
  rw [l2, hh, hx]
  by_cases h1 : p.proto = 6
  · by_cases h2 : n2 < 20
    · have h2' : (n2 : Int) < 20 := by omega
      simp [h1, h2, h2']
    · have h2' : 20 ≤ (n2 : Int) := by omega
      by_cases h3 : hd < 20
      · have h3' : (hd : Int) < 20 := by omega
        simp [h1, h2, h2', h3, h3']
      · have h3' : 20 ≤ (hd : Int) := by omega
        by_cases h4 : x % 16 = 0
        · by_cases h5 : n2 < hd
          · have h5' : (n2 : Int) < hd := by omega
            simp [h1, h2, h2', h3, h3', h4, h5, h5']
          · have h5' : (hd : Int) ≤ n2 := by omega
            by_cases h6 : psum p 6 p.dat = 0
            · right
              refine ⟨by simp [h1], h2', h3', by simp [h4], h5', by simp [h6], fun h => ?_, fun os h => ?_⟩
              · simp [h1, h2, h3, h4, h5, h6, h]
              · simp [h1, h2, h3, h4, h5, h6, h]
            · left
              have h6' : (psum p 6 p.dat == 0) = false := by simp [h6]
              rw [if_neg (by simp [h1]), if_neg h2, if_neg (by simp [h3, h4]), if_neg h5, if_pos h6]
              exact ⟨by decide, .inr (.inr (.inr (.inr (.inr ⟨rfl, by simp [h1], h2', h3', by simp [h4], h5', h6'⟩))))⟩
        · left
          rw [if_neg (by simp [h1]), if_neg h2, if_pos (.inr h4)]
          exact ⟨by decide, .inr (.inr (.inr (.inl ⟨rfl, by simp [h1], h2', h3', by simp [h4]⟩)))⟩
  · left
    rw [if_pos h1]
    exact ⟨by decide, .inl ⟨rfl, by simp [h1]⟩⟩
theorem tcp_any (p : Pkt) (hp : p.Ok) (A1 : Option Addr) (n1 c1 : Nat) (A2 : Option Addr) (n2 c2 : Nat) (w : World) (k2 : Bs w A2 n2 c2 p.dat) (h7 : n2 ≤ 140737488400000) :
    Calls Try.prog 70 #[(.agg #[.int .u8 (p).tos, .int .u16 (p).id, .bool (p).keep, .int .u8 (p).ttl, .int .u8 (p).proto, .int .u32 (p).src, .int .u32 (p).dst, .slice A1 n1 c1, .slice A2 n2 c2])] w (TcPost w (tcS p) (tcE p)) := by
  have b0 := bt_lo p.dat 12
  have hq : bt p.dat 12 / 16 * 4 = ((hdS p.dat : Nat) : Int) := by unfold hdS; omega
  rcases tc_ways p n2 k2.len _ rfl _ rfl with ⟨h0, h⟩ | ⟨h1, h2, h3, h4, h5, h6, hN, hY⟩
  · have hs : tcS p = zS := by unfold tcS; rw [if_neg h0]
    rw [hs]
    refine tcp_no p hp A1 n1 c1 A2 n2 c2 w k2 _ _ _ _ rfl rfl hq ?_
    rcases h with h | h | h | h | h | h
    · exact .inl h
    · exact .inr (.inl h)
    · exact .inr (.inr (.inl h))
    · exact .inr (.inr (.inr (.inl h)))
    · exact .inr (.inr (.inr (.inr (.inl h))))
    · exact .inr (.inr (.inr (.inr (.inr ⟨h.1, h.2.1, h.2.2.1, h.2.2.2.1, h.2.2.2.2.1, h.2.2.2.2.2.1, h.2.2.2.2.2.2, h7⟩))))
  · refine tcp_go p hp A1 n1 c1 A2 n2 c2 w k2 _ _ _ rfl rfl hq h1 h2 h3 h4 h5 h6 h7 _ (fun hn e w' k => ?_) (fun os hs e w' k => ?_)
    · have he := hN hn
      have hz : tcS p = zS := by unfold tcS; rw [if_neg (by omega)]
      rw [hz, he]
      exact k
    · have he := hY os hs
      have hz : tcS p = ⟨get16 p.dat 0, get16 p.dat 2, get32 p.dat 4, get32 p.dat 8, bt p.dat 13, get16 p.dat 14, get16 p.dat 18, os, p.dat.drop (hdS p.dat)⟩ := by
        unfold tcS; rw [if_pos he]; unfold rdS; rw [hs]; rfl
      rw [hz, he]
      exact k
end Go.Proofs.Ythgoffbfgdgkpaa

namespace Go.Proofs.Ythgoffbfgdgkpaa
open Go.RowKit
set_option linter.unusedVariables false
set_option linter.unusedSimpArgs false
set_option maxHeartbeats 4000000
set_option maxRecDepth 100000

end Go.Proofs.Ythgoffbfgdgkpaa

namespace Go.Proofs.Ythgoffbfgdgkpaa
open Go.RowKit
set_option linter.unusedVariables false
set_option linter.unusedSimpArgs false

def Kd.OkN (Rl : World → World → Prop) : Kd → Prop
  | .v _ => True
  | .b _ _ => False
  | .p q => ∀ w w' u, q w u → Rl w w' → q w' u
structure GoesN (P : Program) (K : Kd) (Rl : World → World → Prop) (J : World → Prop) (o : Oper) (W : World) (a : Act) : Prop where
  out : OpGoes P (fun v w' => K.holds w' v ∧ Rl W w' ∧ J w') ((execOp a.eval o).run P W)
def Ob1N (P : Program) (ops : Array Oper) (a0 : Act) (w0 : World) (Rl : World → World → Prop) (J : Nat → World → Prop) (c : Nat) (x : Bool) (nz ks : List (Tmp × Kd)) (o : Oper) (K : Kd) : Prop :=
  (x = false ∧ wantK ops ks o.guard = some true ∧ ∀ W, Rl w0 W → leanOn ks W o.op.operands.toList (Goes P K o W) a0) ∨
  (x = true ∧ wantK ops ks o.guard = some true ∧ ∀ W, Rl w0 W → J c W → leanOn (nz ++ ks) W o.op.operands.toList (GoesN P K Rl (J (c + 1)) o W) a0) ∨
  (x = false ∧ wantK ops ks o.guard = some false ∧ K = .v undef)
def kT : Kd := .p fun _ _ => True
def ObsN (P : Program) (ops : Array Oper) (a0 : Act) (w0 : World) (Rl : World → World → Prop) (J : Nat → World → Prop) (exs : List Nat) (fin : List (Tmp × Kd) → Prop) : Nat → Nat → List (Tmp × Kd) → List (Tmp × Kd) → List Oper → Prop
  | _, _, _, ks, [] => fin ks
  | i, c, nz, ks, o :: rest => ∃ K K' t, o.dst = some t ∧ (K.Ok ∧ (K' = K ∨ K' = kT) ∧ (lastX exs i = true ∨ K'.OkN Rl)) ∧ Ob1N P ops a0 w0 Rl J c (exs.elem i) nz ks o K ∧
      ObsN P ops a0 w0 Rl J exs fin (i + 1) (bif exs.elem i then c + 1 else c) (bif exs.elem i then [(t, K)] else (bif c == 0 then (t, K) :: nz else nz)) ((t, K') :: ks) rest
section
variable {P : Program} {ops : Array Oper} {a0 : Act} {w0 : World} {Rl : World → World → Prop} {J : Nat → World → Prop} {exs : List Nat} {fin : List (Tmp × Kd) → Prop} {i c : Nat} {nz ks : List (Tmp × Kd)} {rest : List Oper}
  {t : Tmp} {op : Op} {ty : TypeId} {pos : String} {after : Array Edge} {gd : Option (Nat × Bool)}
theorem ObsN.v {x : Value} (hx : exs.elem i = false) (hg : wantK ops ks gd = some true) (ho : ∀ W, Rl w0 W → leanOn ks W op.operands.toList (Goes P (.v x) ⟨some t, op, ty, pos, after, gd⟩ W) a0)
    (hr : ObsN P ops a0 w0 Rl J exs fin (i + 1) c (bif c == 0 then (t, .v x) :: nz else nz) ((t, .v x) :: ks) rest) : ObsN P ops a0 w0 Rl J exs fin i c nz ks (⟨some t, op, ty, pos, after, gd⟩ :: rest) :=
  ⟨.v x, .v x, t, rfl, ⟨trivial, .inl rfl, .inr trivial⟩, .inl ⟨hx, hg, ho⟩, by rw [hx]; exact hr⟩
theorem ObsN.l {q : World → Value → Prop} (hx : exs.elem i = false) (hg : wantK ops ks gd = some true) (hkb : ∀ w w' v, q w v → Below w.heap.size w w' → q w' v) (ho : ∀ W, Rl w0 W → leanOn ks W op.operands.toList (Goes P (.p q) ⟨some t, op, ty, pos, after, gd⟩ W) a0)
    (hr : ObsN P ops a0 w0 Rl J exs fin (i + 1) c (bif c == 0 then (t, .p q) :: nz else nz) ((t, kT) :: ks) rest) : ObsN P ops a0 w0 Rl J exs fin i c nz ks (⟨some t, op, ty, pos, after, gd⟩ :: rest) :=
  ⟨.p q, kT, t, rfl, ⟨hkb, .inr rfl, .inr fun _ _ _ _ _ => trivial⟩, .inl ⟨hx, hg, ho⟩, by rw [hx]; exact hr⟩
theorem ObsN.p {q : World → Value → Prop} (hx : exs.elem i = false) (hg : wantK ops ks gd = some true) (hkb : ∀ w w' v, q w v → Below w.heap.size w w' → q w' v) (hk : ∀ w w' v, q w v → Rl w w' → q w' v) (ho : ∀ W, Rl w0 W → leanOn ks W op.operands.toList (Goes P (.p q) ⟨some t, op, ty, pos, after, gd⟩ W) a0)
    (hr : ObsN P ops a0 w0 Rl J exs fin (i + 1) c (bif c == 0 then (t, .p q) :: nz else nz) ((t, .p q) :: ks) rest) : ObsN P ops a0 w0 Rl J exs fin i c nz ks (⟨some t, op, ty, pos, after, gd⟩ :: rest) :=
  ⟨.p q, .p q, t, rfl, ⟨hkb, .inl rfl, .inr hk⟩, .inl ⟨hx, hg, ho⟩, by rw [hx]; exact hr⟩
theorem ObsN.ev {x : Value} (hx : exs.elem i = true) (hg : wantK ops ks gd = some true) (ho : ∀ W, Rl w0 W → J c W → leanOn (nz ++ ks) W op.operands.toList (GoesN P (.v x) Rl (J (c + 1)) ⟨some t, op, ty, pos, after, gd⟩ W) a0)
    (hr : ObsN P ops a0 w0 Rl J exs fin (i + 1) (c + 1) [(t, .v x)] ((t, .v x) :: ks) rest) : ObsN P ops a0 w0 Rl J exs fin i c nz ks (⟨some t, op, ty, pos, after, gd⟩ :: rest) :=
  ⟨.v x, .v x, t, rfl, ⟨trivial, .inl rfl, .inr trivial⟩, .inr (.inl ⟨hx, hg, ho⟩), by rw [hx]; exact hr⟩
theorem ObsN.ep {q : World → Value → Prop} (hx : exs.elem i = true) (hg : wantK ops ks gd = some true) (hl : lastX exs i = true) (hkb : ∀ w w' v, q w v → Below w.heap.size w w' → q w' v) (ho : ∀ W, Rl w0 W → J c W → leanOn (nz ++ ks) W op.operands.toList (GoesN P (.p q) Rl (J (c + 1)) ⟨some t, op, ty, pos, after, gd⟩ W) a0)
    (hr : ObsN P ops a0 w0 Rl J exs fin (i + 1) (c + 1) [(t, .p q)] ((t, .p q) :: ks) rest) : ObsN P ops a0 w0 Rl J exs fin i c nz ks (⟨some t, op, ty, pos, after, gd⟩ :: rest) :=
  ⟨.p q, .p q, t, rfl, ⟨hkb, .inl rfl, .inl hl⟩, .inr (.inl ⟨hx, hg, ho⟩), by rw [hx]; exact hr⟩
theorem ObsN.skip (hx : exs.elem i = false) (hg : wantK ops ks gd = some false) (hr : ObsN P ops a0 w0 Rl J exs fin (i + 1) c (bif c == 0 then (t, .v undef) :: nz else nz) ((t, .v undef) :: ks) rest) : ObsN P ops a0 w0 Rl J exs fin i c nz ks (⟨some t, op, ty, pos, after, gd⟩ :: rest) :=
  ⟨.v undef, .v undef, t, rfl, ⟨trivial, .inl rfl, .inr trivial⟩, .inr (.inr ⟨hx, hg, rfl⟩), by rw [hx]; exact hr⟩
theorem ObsN.nil (h : fin ks) : ObsN P ops a0 w0 Rl J exs fin i c nz ks [] := h
end
theorem ObsN.out {P : Program} {ops : Array Oper} {a0 : Act} {w0 : World} {Rl : World → World → Prop} {J : Nat → World → Prop} {exs : List Nat} {fin : List (Tmp × Kd) → Prop} : ∀ {l : List Oper} {i0 : Nat} {nz ks : List (Tmp × Kd)}, ObsN P ops a0 w0 Rl J exs fin i0 (czX exs i0) nz ks l →
    ∃ Kt Ks : Nat → Kd, ∃ kn kz : Nat → List (Tmp × Kd), kz 0 = ks ∧ kn 0 = nz ∧ fin (kz l.length) ∧ ∀ i o, l[i]? = some o → ∃ t, o.dst = some t ∧ ((Kt i).Ok ∧ (Ks i = Kt i ∨ Ks i = kT) ∧ (lastX exs (i0 + i) = true ∨ (Ks i).OkN Rl)) ∧ Ob1N P ops a0 w0 Rl J (czX exs (i0 + i)) (exs.elem (i0 + i)) (kn i) (kz i) o (Kt i) ∧ kz (i + 1) = (t, Ks i) :: kz i ∧
      kn (i + 1) = (bif exs.elem (i0 + i) then [(t, Kt i)] else (bif czX exs (i0 + i) == 0 then (t, Kt i) :: kn i else kn i))
  | [], i0, nz, ks, h => ⟨fun _ => .v undef, fun _ => .v undef, fun _ => nz, fun _ => ks, rfl, rfl, h, fun i o ho => by simp at ho⟩
  | o :: rest, i0, nz, ks, ⟨K, K', t, hd, hk, hob, hr⟩ => by
    have hr' : ObsN P ops a0 w0 Rl J exs fin (i0 + 1) (czX exs (i0 + 1)) (bif exs.elem i0 then [(t, K)] else (bif czX exs i0 == 0 then (t, K) :: nz else nz)) ((t, K') :: ks) rest := hr
    obtain ⟨Kt, Ks, kn, kz, h0, hn0, hf, hall⟩ := ObsN.out hr'
    refine ⟨fun i => match i with | 0 => K | i + 1 => Kt i, fun i => match i with | 0 => K' | i + 1 => Ks i, fun i => match i with | 0 => nz | i + 1 => kn i, fun i => match i with | 0 => ks | i + 1 => kz i, rfl, rfl, hf, fun i o' ho' => ?_⟩
    cases i with
    | zero =>
      simp only [List.getElem?_cons_zero, Option.some.injEq] at ho'
      subst ho'
      exact ⟨t, hd, hk, hob, h0, hn0⟩
    | succ i =>
      have := hall i o' (by simpa using ho')
      rw [show i0 + 1 + i = i0 + (i + 1) from by omega] at this
      exact this
section
variable {P : Program} {Q : Exit → Act → World → Prop}
end
end Go.Proofs.Ythgoffbfgdgkpaa

namespace Go.Proofs.Ythgoffbfgdgkpaa
open Go.RowKit
set_option linter.unusedVariables false
set_option linter.unusedSimpArgs false

structure KeepR (B : Nat) (W W' : World) : Prop where
  below : Below (min B W.heap.size) W W'
  ty : ∀ k cs t, t ≠ 5 → Blk W k cs t → Blk W' k cs t
theorem KeepR.of (B : Nat) : ∀ a b, Below a.heap.size a b → KeepR B a b := fun a b h => ⟨h.mono (Nat.min_le_right _ _), fun k cs t _ bl => bl.below h⟩
theorem KeepR.trans (B : Nat) : ∀ a b c, KeepR B a b → KeepR B b c → KeepR B a c := fun a b c h k => ⟨h.below.trans (k.below.mono (by have := h.below.size; omega)), fun i cs t ht bl => k.ty i cs t ht (h.ty i cs t ht bl)⟩
theorem KeepR.bel {B : Nat} {a b c : World} (h : Below B a b) (k : KeepR B b c) (hB : B ≤ b.heap.size) : Below B a c := h.trans (k.below.mono (by omega))
theorem KeepR.grown {B base n c : Nat} {W w' : World} {A : Option Addr} {l : List UInt8} (hown : Own W base 5 A n c l) (hg : W.grownBy w' (Value.slice A n c).ownBlock) (hb : B ≤ base) : KeepR B W w' :=
  ⟨((Below.refl (min B W.heap.size) W).grown hg (by omega) (fun k hk => by have := hown.base_le k hk; omega)), fun k cs t ht bl => bl.grown hg (hown.ne_blk bl ht)⟩
end Go.Proofs.Ythgoffbfgdgkpaa

namespace Go.Proofs.Ythgoffbfgdgkpaa
open Go.RowKit
set_option linter.unusedVariables false
set_option linter.unusedSimpArgs false
set_option linter.unusedSimpArgs false
set_option maxHeartbeats 4000000
set_option maxRecDepth 100000

end Go.Proofs.Ythgoffbfgdgkpaa

namespace Go.Proofs.Ythgoffbfgdgkpaa
open Go.RowKit
set_option linter.unusedVariables false
set_option linter.unusedSimpArgs false
set_option maxHeartbeats 1000000

def isExt : Op → Bool
  | .extract .. => true
  | _ => false
def lateL (m z s : Nat) : Array Bool := Array.ofFn fun i : Fin s => decide (i.val < m) && i.val != z
def upZ (ops : Array Oper) (lo hi z j : Nat) : Bool := (List.range (hi + 1 - lo)).any fun k => lo + k != z && match ops[lo + k]? with
  | some o => hasOn o j
  | none => false
def regZ (ops : Array Oper) (m z n : Nat) : Bool :=
  decide (m ≤ ops.size) && decide (z < m) && (List.range m).all (mainB ops m n) && (List.range ops.size).all (downB ops) &&
    ((List.range m).all fun j => j == z || upZ ops (j + 1) m z j) && ((List.range (ops.size - 1 - m)).all fun k => upB ops (m + k + 1) (m + k + 1) (m + k)) &&
    Region.noSelect ops && Region.free .any ops (lateL m z ops.size) z && (Region.ready .any ops (lateL m z ops.size)).contains z &&
    (match ops[z]? with
      | some o => isExt o.op && o.guard.isNone
      | none => false)
structure RegOkZ (ops : Array Oper) (m z n : Nat) : Prop where
  le : m ≤ ops.size
  zlt : z < m
  main : ∀ i o, i < m → ops[i]? = some o → ∃ t, o.dst = some t ∧ t < n ∧ (∀ j, j < i → dstOf ops j ≠ some t) ∧ isSel o.op = false ∧
    (∀ s, .tmp s ∈ o.op.operands → ∀ j, j < m → dstOf ops j = some s → hasOn o j = true ∧ j < i) ∧ (∀ g b, o.guard = some (g, b) → hasOn o g = true ∧ g < i)
  down : ∀ i o, ops[i]? = some o → ∀ e ∈ o.after, Region.binds .any e = true → e.on < i
  up : ∀ j, j < m → j ≠ z → ∃ k o, j < k ∧ k ≤ m ∧ k ≠ z ∧ ops[k]? = some o ∧ hasOn o j = true
  tail : ∀ k, m ≤ k → k + 1 < ops.size → ∃ o, ops[k + 1]? = some o ∧ hasOn o k = true
  nosel : Region.noSelect ops = true
  free : Region.free .any ops (lateL m z ops.size) z = true
  rdy : (Region.ready .any ops (lateL m z ops.size)).contains z = true
  ext : ∀ o, ops[z]? = some o → isExt o.op = true ∧ o.guard = none
theorem upZ_out {ops : Array Oper} {lo hi z j : Nat} (h : upZ ops lo hi z j = true) : ∃ k o, lo ≤ k ∧ k ≤ hi ∧ k ≠ z ∧ ops[k]? = some o ∧ hasOn o j = true := by
  obtain ⟨k, hk, hh⟩ := List.any_eq_true.1 h
  have := List.mem_range.1 hk
  simp only [Bool.and_eq_true, bne_iff_ne, ne_eq] at hh
  obtain ⟨hz, hh⟩ := hh
  cases ho : ops[lo + k]? with
  | none => rw [ho] at hh; cases hh
  | some o => rw [ho] at hh; exact ⟨lo + k, o, by omega, by omega, hz, ho, hh⟩
theorem regZ_out {ops : Array Oper} {m z n : Nat} (h : regZ ops m z n = true) : RegOkZ ops m z n := by
  unfold regZ at h
  simp only [Bool.and_eq_true, decide_eq_true_eq, List.all_eq_true, List.mem_range, Bool.or_eq_true, beq_iff_eq] at h
  obtain ⟨⟨⟨⟨⟨⟨⟨⟨⟨h1, hz⟩, h2⟩, h3⟩, h4⟩, h5⟩, h6⟩, h7⟩, h8⟩, h9⟩ := h
  refine ⟨h1, hz, fun i o hi ho => ?_, fun i o ho e he hb => ?_, fun j hj hjz => ?_, fun k hk hk1 => ?_, h6, h7, h8, fun o ho => ?_⟩
  · have := h2 i hi
    unfold mainB at this
    rw [ho] at this
    simp only [Bool.and_eq_true] at this
    obtain ⟨⟨⟨a1, a2⟩, a3⟩, a4⟩ := this
    cases ht : o.dst with
    | none => rw [ht] at a1; cases a1
    | some t =>
      rw [ht] at a1
      simp only [Bool.and_eq_true, decide_eq_true_eq, List.all_eq_true, List.mem_range, bne_iff_ne, ne_eq] at a1
      refine ⟨t, rfl, a1.1, a1.2, by simpa using a2, fun s hs j hj hd => ?_, fun g b hg => ?_⟩
      · rw [Array.all_eq_true] at a3
        obtain ⟨q, hq, hqs⟩ := Array.mem_iff_getElem.1 hs
        have := a3 q hq
        rw [hqs] at this
        simp only [List.all_eq_true, List.mem_range, Bool.or_eq_true, bne_iff_ne, ne_eq, Bool.and_eq_true, decide_eq_true_eq] at this
        exact (this j hj).resolve_left (fun h => h hd)
      · rw [hg] at a4
        simpa using a4
  · have hi : i < ops.size := (Array.getElem?_eq_some_iff.1 ho).1
    have := h3 i hi
    unfold downB at this
    rw [ho] at this
    simp only [Array.all_eq_true] at this
    obtain ⟨k, hk, rfl⟩ := Array.mem_iff_getElem.1 he
    have := this k hk
    rw [hb] at this
    simpa using this
  · obtain ⟨k, o, k1, k2, kz, k3, k4⟩ := upZ_out ((h4 j hj).resolve_left hjz)
    exact ⟨k, o, by omega, k2, kz, k3, k4⟩
  · have := h5 (k - m) (by omega)
    rw [show m + (k - m) = k from by omega] at this
    obtain ⟨q, o, k1, k2, k3, k4⟩ := upB_out this
    obtain rfl : q = k + 1 := by omega
    exact ⟨o, k3, k4⟩
  · rw [ho] at h9
    simp only [Bool.and_eq_true, Option.isNone_iff_eq_none] at h9
    exact h9
theorem dst_injZ {ops : Array Oper} {m z n : Nat} (h : RegOkZ ops m z n) {i j : Nat} {t : Tmp} (im : i < m) (jm : j < m) (hi : dstOf ops i = some t) (hj : dstOf ops j = some t) : i = j := by
  have key : ∀ i j, j < m → dstOf ops i = some t → dstOf ops j = some t → i < j → False := by
    intro i j jm hi hj hlt
    obtain ⟨o, ho, hd⟩ := dstOf_some hj
    obtain ⟨s, hs, _, hne, _⟩ := h.main j o jm ho
    rw [hd] at hs
    injection hs with hs
    subst hs
    exact hne i hlt hi
  rcases Nat.lt_trichotomy i j with hlt | heq | hlt
  · exact (key i j jm hi hj hlt).elim
  · exact heq
  · exact (key j i im hj hi hlt).elim
theorem all_beforeZ {ops : Array Oper} {m z n : Nat} (h : RegOkZ ops m z n) {listed : Array Bool} (hd : ∀ i o, ops[i]? = some o → listed.getD i false = true → ∀ e ∈ o.after, Region.binds .any e = true → listed.getD e.on false = true)
    {k : Nat} {ok : Oper} (hk : m ≤ k) (hok : ops[k]? = some ok) (hr : ∀ e ∈ ok.after, Region.binds .any e = true → listed.getD e.on false = true) : ∀ d j, j + d + 1 = k → j ≠ z → listed.getD j false = true := by
  have hks : k < ops.size := (Array.getElem?_eq_some_iff.1 hok).1
  intro d
  induction d using Nat.strongRecOn with
  | _ d ih =>
    intro j hj hjz
    have zlt := h.zlt
    have : ∃ q o, j < q ∧ q ≤ k ∧ q ≠ z ∧ ops[q]? = some o ∧ hasOn o j = true := by
      by_cases jm : j < m
      · obtain ⟨q, o, q1, q2, qz, q3⟩ := h.up j jm hjz
        exact ⟨q, o, q1, by omega, qz, q3⟩
      · obtain ⟨o, ho, hh⟩ := h.tail j (by omega) (by omega)
        exact ⟨j + 1, o, by omega, by omega, by omega, ho, hh⟩
    obtain ⟨q, o, q1, q2, qz, q3, q4⟩ := this
    obtain ⟨e, he, heo, heb⟩ := hasOn_mem q4
    rw [← heo]
    by_cases e1 : q = k
    · subst e1
      rw [hok] at q3
      injection q3 with q3
      subst q3
      exact hr e he heb
    · exact hd q o q3 (ih (k - q - 1) (by omega) q (by omega) qz) e he heb

section
variable {P : Program} {Q : Exit → Act → World → Prop}
theorem tail_anyZ {ops : Array Oper} {m z n : Nat} (h : RegOkZ ops m z n) : ∀ (fuel k : Nat) (listed : Array Bool) (a : Act) (w : World), m ≤ k → k ≤ ops.size → listed.size = ops.size →
    (∀ i, i < ops.size → listed.getD i false = decide (i < k)) → ops.size - k ≤ fuel → wpList P ops Q (ops.toList.drop k) a w → wpAny P .any ops Q fuel listed a w := by
  intro fuel
  have hnil : ∀ (k : Nat) (listed : Array Bool), listed.size = ops.size → (∀ i, i < ops.size → listed.getD i false = decide (i < k)) → k ≤ ops.size → Region.ready .any ops listed = [] → k = ops.size := by
    intro k listed hs hl hk hr
    rcases Nat.lt_or_ge k ops.size with hlt | hge
    · exfalso
      have hm : k ∈ Region.ready .any ops listed := by
        rw [mem_ready]
        refine ⟨by rw [getD_ff (by omega), hl k hlt]; simp, ops[k], Array.getElem?_eq_getElem hlt, fun e he hb => ?_⟩
        have := h.down k _ (Array.getElem?_eq_getElem hlt) e he hb
        rw [hl _ (by omega)]
        simpa using this
      rw [hr] at hm
      cases hm
    · omega
  induction fuel with
  | zero =>
    intro k listed a w hmk hk hs hl hf hw
    obtain rfl : k = ops.size := by omega
    have hd : ops.toList.drop ops.size = [] := by simp
    rw [hd] at hw
    refine ⟨?_, hw⟩
    unfold Region.ready
    rw [List.filter_eq_nil_iff]
    intro i hi
    have hi := List.mem_range.1 hi
    rw [getD_ff (by omega), hl i hi]
    simp [hi]
  | succ fuel ih =>
    intro k listed a w hmk hk hs hl hf hw
    refine ⟨fun hr => ?_, fun i hi => ?_⟩
    · obtain rfl := hnil k listed hs hl hk hr
      have hd : ops.toList.drop ops.size = [] := by simp
      rw [hd] at hw
      exact hw
    · rw [mem_ready] at hi
      obtain ⟨hn, o, ho, hall⟩ := hi
      have his : i < ops.size := (Array.getElem?_eq_some_iff.1 ho).1
      rw [getD_ff (by omega), hl i his] at hn
      have hik : k ≤ i := by simpa using hn
      have hki : i ≤ k := by
        rcases Nat.lt_or_ge k i with hlt | hge
        · exfalso
          have := all_beforeZ h (listed := listed) (fun q oq hq hlq e he hb => by
            have hqs : q < ops.size := (Array.getElem?_eq_some_iff.1 hq).1
            have h1 := h.down q oq hq e he hb
            rw [hl q hqs] at hlq
            rw [hl _ (by omega)]
            simp only [decide_eq_true_eq] at hlq ⊢
            omega) (by omega) ho hall (i - k - 1) k (by omega) (by have := h.zlt; omega)
          rw [hl k (by omega)] at this
          simp at this
        · exact hge
      obtain rfl : i = k := by omega
      have hdrop : ops.toList.drop i = o :: ops.toList.drop (i + 1) := by
        have : ops.toList[i]? = some o := by simpa using ho
        rw [List.drop_eq_getElem_cons (by simpa using his)]
        congr 1
        have e2 := (List.getElem?_eq_some_iff.1 this).2
        exact e2
      rw [hdrop] at hw
      have hnext : ∀ a w, wpList P ops Q (ops.toList.drop (i + 1)) a w → wpAny P .any ops Q fuel (listed.setIfInBounds i true) a w := by
        intro a w hw
        refine ih (i + 1) _ a w (by omega) (by omega) (by simpa using hs) (fun j hj => ?_) (by omega) hw
        rw [getD_set (by omega), hl j hj]
        by_cases e : j = i
        · subst e; simp
        · simp [e]; omega
      unfold wpOp
      rw [ho]
      simp only
      unfold wpList at hw
      split
      · rename_i hwant
        rw [if_pos hwant] at hw
        exact hw.imp (Oper.wp_mono hnext) id
      · rename_i hwant
        rw [if_neg hwant] at hw
        exact hnext _ _ hw

theorem extract_ways {ρ : Operand → Value} {o : Oper} (h : isExt o.op = true) : (∃ v, ∀ w, (execOp ρ o).run P w = .ok (.value v) w) ∨ ∀ w n w', (execOp ρ o).run P w ≠ .ok n w' := by
  obtain ⟨dst, op, ty, pos, after, g⟩ := o
  cases op <;> simp only [isExt] at h <;> try cases h
  rename_i t ix
  simp only [execOp, Instr.extract]
  cases hv : ρ t
  case tuple vs =>
    cases hx : vs[ix]? with
    | none => right; intro w n w'; simp [hx]
    | some v => left; exact ⟨v, fun w => by simp [hx]⟩
  all_goals right; intro w n w'; simp
theorem region_z {id : Nat} {l : List Oper} {a : Act} {w : World} (m z : Nat) (hm : P.follows .mixedOrders = true) (hchk : regZ l.toArray m z a.tmps.size = true) (hQ : ∀ (t : Tmp) v c a w, Q (.panic c) (Act.put a (some t) v) w → Q (.panic c) a w)
    (hobs : ObsK P l.toArray a w (fun ks => ∀ W, Below w.heap.size w W → finOn W ks (fun a' => wpList P l.toArray Q (l.drop m) a' W) a) [] (l.take m)) :
    (Code.region id l.toArray true).wp P Q a w := by
  have R := regZ_out hchk
  obtain ⟨ops, hops⟩ : ∃ ops, l.toArray = ops := ⟨_, rfl⟩
  have hl' : l = ops.toList := by rw [← hops]
  rw [hops] at hobs R ⊢
  rw [hl'] at hobs
  clear hops hl' hchk
  obtain ⟨Ks, kz, hz0, hfin, hall⟩ := hobs.out
  have hmlen : (ops.toList.take m).length = m := by simp [R.le]
  rw [hmlen] at hfin
  have hat : ∀ i o, i < m → ops[i]? = some o → (ops.toList.take m)[i]? = some o := fun i o hi ho => by
    rw [List.getElem?_take, if_pos hi]; simpa using ho
  have hta : ∀ i o, (ops.toList.take m)[i]? = some o → i < m ∧ ops[i]? = some o := fun i o ho => by
    rw [List.getElem?_take] at ho
    split at ho
    · exact ⟨‹_›, by simpa using ho⟩
    · cases ho
  have hall2 : ∀ i o, (ops.toList.take m)[i]? = some o → ∃ t, o.dst = some t ∧ kz (i + 1) = (t, Ks i) :: kz i := fun i o ho => by
    obtain ⟨t, h1, _, _, h2⟩ := hall i o ho
    exact ⟨t, h1, h2⟩
  have hmem : ∀ i, i ≤ m → ∀ t K, (t, K) ∈ kz i → ∃ j, j < i ∧ dstOf ops j = some t ∧ K = Ks j := fun i hi t K hm => by
    obtain ⟨j, o, h1, h2, h3, h4⟩ := kz_mem hz0 hall2 i (by omega) t K hm
    obtain ⟨_, ho⟩ := hta j o h2
    exact ⟨j, h1, by unfold dstOf; rw [ho]; exact h3, h4⟩
  refine wp_region_any hm ?_
  have hd : ∀ i o, ops[i]? = some o → dstOf ops i = o.dst := fun i o ho => by unfold dstOf; rw [ho]; rfl
  have hend : ∀ (listed : Array Bool) (a' : Act) (w' : World), RInv ops a w Ks m listed a' w' → (∀ j, j < m → listed.getD j false = true) → wpList P ops Q (ops.toList.drop m) a' w' := by
    intro listed a' w' hI hlst
    obtain ⟨b, hb, e1, e2, e3, e4⟩ := finOn.out (a' := a') (hfin w' hI.below) hI.size.symm (fun t K hm => by
      obtain ⟨j, hj, hdj, rfl⟩ := hmem m (Nat.le_refl _) t K hm
      obtain ⟨o, ho, hod⟩ := dstOf_some hdj
      obtain ⟨s, hs, hsn, _⟩ := R.main j o hj ho
      rw [hod] at hs
      injection hs with hs
      subst hs
      exact ⟨by rw [hI.size]; exact hsn, hI.val j t hj (hlst j hj) hdj⟩)
    have : b = a' := by
      cases b with
      | mk bt bd =>
        cases a' with
        | mk at' ad =>
          simp only at e1 e2 e3 e4
          have hdf : bd = ad := by rw [e2]; exact hI.defers.symm
          have htm : bt = at' := by
            apply Array.ext
            · rw [e1]; exact hI.size.symm
            · intro t t1 t2
              have : bt.getD t undef = at'.getD t undef := by
                by_cases hx : ∃ K, (t, K) ∈ kz m
                · exact e4 t hx
                · rw [e3 t (fun K hm => hx ⟨K, hm⟩)]
                  refine (hI.other t fun j hj hdj => hx ?_).symm
                  obtain ⟨o, ho, hod⟩ := dstOf_some hdj
                  exact ⟨Ks j, kz_all hall2 m (by omega) j o t hj (hat j o hj ho) hod⟩
              simpa only [Array.getD_eq_getD_getElem?, Array.getElem?_eq_getElem t1, Array.getElem?_eq_getElem t2, Option.getD_some] using this
          subst hdf htm
          rfl
    rw [this] at hb
    exact hb
  have key : ∀ (fuel : Nat) (listed : Array Bool) (a' : Act) (w' : World), RInv ops a w Ks m listed a' w' → (∀ i, m ≤ i → i < ops.size → listed.getD i false = false) →
      ((List.range ops.size).filter fun i => !listed.getD i true).length ≤ fuel → wpAny P .any ops Q fuel listed a' w' := by
    intro fuel
    have hprefix : ∀ (listed : Array Bool), listed.size = ops.size → (∀ j, j < m → listed.getD j false = true) → (∀ i, m ≤ i → i < ops.size → listed.getD i false = false) → ∀ i, i < ops.size → listed.getD i false = decide (i < m) := by
      intro listed hs h1 h2 i hi
      by_cases e : i < m
      · rw [h1 i e]; simp [e]
      · rw [h2 i (by omega) hi]; simp [e]
    induction fuel with
    | zero =>
      intro listed a' w' hI hno hc
      have h0 : ((List.range ops.size).filter fun i => !listed.getD i true) = [] := List.eq_nil_of_length_eq_zero (by omega)
      have hal : ∀ i, i < ops.size → listed.getD i false = true := by
        intro i hi
        rw [List.filter_eq_nil_iff] at h0
        have := h0 i (List.mem_range.2 hi)
        rw [← getD_ff (by rw [hI.lsize]; exact hi)]
        simpa using this
      have hms : m = ops.size := by
        rcases Nat.lt_or_ge m ops.size with hlt | hge
        · have := hno m (Nat.le_refl _) hlt
          rw [hal m hlt] at this
          cases this
        · have := R.le; omega
      have := hend listed a' w' hI (fun j hj => hal j (by omega))
      rw [hms] at this
      have hdr : ops.toList.drop ops.size = [] := by simp
      rw [hdr] at this
      refine ⟨?_, this⟩
      unfold Region.ready
      rw [List.filter_eq_nil_iff] at h0 ⊢
      intro i hi
      have := h0 i hi
      simp only [Bool.not_eq_true] at this ⊢
      rw [this]
      rfl
    | succ fuel ih =>
      intro listed a' w' hI hno hc
      by_cases hdone : ∀ j, j < m → listed.getD j false = true
      · refine tail_anyZ R (fuel + 1) m listed a' w' (Nat.le_refl _) R.le hI.lsize (hprefix listed hI.lsize hdone hno) ?_ (hend listed a' w' hI hdone)
        have hlen : ops.size - m ≤ ((List.range ops.size).filter fun i => !listed.getD i true).length := by
          have hsub : (List.range ops.size).filter (fun i => decide (m ≤ i)) = (List.range ops.size).filter fun i => !listed.getD i true := by
            apply List.filter_congr
            intro i hi
            have hi := List.mem_range.1 hi
            rw [getD_ff (by rw [hI.lsize]; exact hi), hprefix listed hI.lsize hdone hno i hi]
            by_cases e : i < m <;> simp [e] <;> omega
          rw [← hsub]
          have : ∀ N, m ≤ N → ((List.range N).filter fun i => decide (m ≤ i)).length = N - m := by
            intro N hN
            induction N with
            | zero => simp
            | succ N ihN =>
              rw [List.range_succ, List.filter_append, List.length_append]
              by_cases e : m ≤ N
              · rw [ihN e]; simp [e]; omega
              · have : m = N + 1 := by omega
                subst this
                have : (List.range N).filter (fun i => decide (N + 1 ≤ i)) = [] := by
                  rw [List.filter_eq_nil_iff]
                  intro i hi
                  have := List.mem_range.1 hi
                  simp; omega
                rw [this]
                simp
          rw [this _ R.le]
          exact Nat.le_refl _
        omega
      · by_cases hzz : ∀ j, j < m → j ≠ z → listed.getD j false = true
        · have zlt := R.zlt
          have zs : z < ops.size := by have := R.le; omega
          have hlz : listed.getD z false = false := by
            cases hlz : listed.getD z false with
            | false => rfl
            | true => exact absurd (fun j hj => by by_cases e : j = z; · rw [e]; exact hlz
                                                   · exact hzz j hj e) hdone
          have hlst : listed = lateL m z ops.size := by
            apply Array.ext
            · rw [hI.lsize]; simp [lateL]
            · intro q q1 q2
              have qs : q < ops.size := by rw [← hI.lsize]; exact q1
              have e1 : listed[q] = listed.getD q false := by simp [Array.getD_eq_getD_getElem?, Array.getElem?_eq_getElem q1]
              rw [e1]
              simp only [lateL, Array.getElem_ofFn]
              by_cases qm : q < m
              · by_cases qz : q = z
                · subst qz; rw [hlz]; simp
                · rw [hzz q qm qz]; simp [qm, qz]
              · rw [hno q (by omega) qs]; simp [qm]
          have ho : ops[z]? = some ops[z] := Array.getElem?_eq_getElem zs
          obtain ⟨o, hoo⟩ : ∃ o, ops[z] = o := ⟨_, rfl⟩
          rw [hoo] at ho
          have hnl' : listed.getD z true = false := by rw [getD_ff (by rw [hI.lsize]; exact zs)]; exact hlz
          have hrd0 : z ∈ Region.ready .any ops listed := by have := R.rdy; rw [← hlst] at this; simpa using this
          obtain ⟨_, o', ho', haf⟩ := mem_ready.1 hrd0
          rw [ho] at ho'
          injection ho' with ho'
          subst ho'
          obtain ⟨hext, hgn⟩ := R.ext o ho
          have him := zlt
          have his := zs
          have hsi : z < listed.size := by rw [hI.lsize]; exact zs
          obtain ⟨t, ht, htn, hne, hsel, hrd, hgd⟩ := R.main z o him ho
          obtain ⟨t', ht', hok, hob, hkz⟩ := hall z o (hat z o him ho)
          have hon : ∀ j, hasOn o j = true → listed.getD j false = true := fun j hj => by
            obtain ⟨e, he, heo, heb⟩ := hasOn_mem hj
            rw [← heo]
            exact haf e he heb
          have hnext : ∀ v w'', (Ks z).holds w'' v → Below w'.heap.size w' w'' → wpAny P .any ops Q fuel (listed.setIfInBounds z true) (a'.put o.dst v) w'' := by
            intro v w'' hv hb
            refine ih _ _ _ ⟨by simpa using hI.lsize, ?_, ?_, below_then hI.below hb, ?_, ?_, ?_⟩ ?_ ?_
            · rw [ht]; exact hI.defers
            · rw [ht]; simpa [Act.put] using hI.size
            · intro s hs
              have hst : s ≠ t := fun e => hs z him (by rw [hd z _ ho, ht, e])
              rw [ht, put_getD (by rw [hI.size]; exact htn), if_neg hst]
              exact hI.other s hs
            · intro j s hjm hj hdj
              rw [getD_set hsi] at hj
              rw [ht, put_getD (by rw [hI.size]; exact htn)]
              by_cases e : j = z
              · subst e
                have : s = t := by rw [hd j _ ho, ht] at hdj; injection hdj with hdj; exact hdj.symm
                rw [if_pos this]
                exact hv
              · rw [if_neg e] at hj
                have hst : s ≠ t := fun e2 => e (dst_injZ R hjm him hdj (by rw [hd z _ ho, ht, e2]))
                rw [if_neg hst]
                obtain ⟨oj, hoj, hdoj⟩ := dstOf_some hdj
                obtain ⟨_, _, hokj, _, _⟩ := hall j oj (hat j oj hjm hoj)
                exact Kd.keep hokj (hI.val j s hjm hj hdj) hb
            · intro q oq hq hlq e he hb
              rw [getD_set hsi] at hlq ⊢
              by_cases e1 : q = z
              · subst e1
                rw [ho] at hq
                injection hq with hq
                subst hq
                split
                · rfl
                · exact haf e he hb
              · rw [if_neg e1] at hlq
                split
                · rfl
                · exact hI.down q oq hq hlq e he hb
            · intro q hq hqs
              rw [getD_set hsi, if_neg (by omega)]
              exact hno q hq hqs
            · have hnl : (!listed.getD z true) = true := by rw [hnl']; rfl
              have hlt : ((List.range ops.size).filter fun k => !(listed.setIfInBounds z true).getD k true).length < ((List.range ops.size).filter fun k => !listed.getD k true).length := by
                have hsub : ((List.range ops.size).filter fun k => !(listed.setIfInBounds z true).getD k true) = (((List.range ops.size).filter fun k => !listed.getD k true).filter fun k => k != z) := by
                  rw [List.filter_filter]
                  apply List.filter_congr
                  intro k _
                  rw [getD_set hsi]
                  by_cases e : k = z
                  · subst e; simp
                  · simp [e]
                rw [hsub]
                exact List.length_filter_lt_length_iff_exists.2 ⟨z, List.mem_filter.2 ⟨List.mem_range.2 his, hnl⟩, by simp⟩
              omega
          have hlook : ∀ s K, lookK (kz z) s = some K → ∃ j, j < z ∧ dstOf ops j = some s ∧ K = Ks j := fun s K hK => hmem z (by omega) s K (lookK_some hK)
          have hgo : ∀ W, Below w.heap.size w W → leanOn (kz z) W o.op.operands.toList (Goes P (Ks z) o W) a := by
            rcases hob with ⟨_, hgo⟩ | ⟨hwk, _⟩
            · exact hgo
            · rw [hgn] at hwk; cases hwk
          obtain ⟨b, hb, b1, b2, b3, b4⟩ := leanOn.out (a' := a') (hgo w' hI.below) hI.size.symm (fun s K hs hK => by
            obtain ⟨j, hj, hdj, rfl⟩ := hlook s K hK
            obtain ⟨o2, ho2, hod2⟩ := dstOf_some hdj
            obtain ⟨s2, hs2, hsn, _⟩ := R.main j o2 (by omega) ho2
            rw [hod2] at hs2
            injection hs2 with hs2
            subst hs2
            obtain ⟨ha, _⟩ := hrd s (by simpa using hs) j (by omega) hdj
            exact ⟨by rw [hI.size]; exact hsn, hI.val j s (by omega) (hon j ha) hdj⟩)
          have heq : execOp a'.eval o = execOp b.eval o := by
            refine execOp_congr o (fun cs bb hc => by rw [hc] at hsel; cases hsel) fun x hx => ?_
            cases x with
            | tmp s =>
              show a'.tmps.getD s undef = b.tmps.getD s undef
              by_cases hks : ∃ K, lookK (kz z) s = some K
              · obtain ⟨K, hK⟩ := hks
                exact (b4 s ⟨K, hK, by simpa using hx⟩).symm
              · have ho2 : ∀ j, j < m → dstOf ops j ≠ some s := by
                  intro j hj hdj
                  obtain ⟨_, hji⟩ := hrd s hx j hj hdj
                  obtain ⟨oj, hoj, hdoj⟩ := dstOf_some hdj
                  have := kz_all hall2 z (by omega) j oj s hji (hat j oj hj hoj) hdoj
                  cases hl : lookK (kz z) s with
                  | some K => exact hks ⟨K, hl⟩
                  | none => exact lookK_none hl _ this
                have e0 := hI.other s ho2
                rcases b3 s with e | e
                · rw [e, e0]
                · exact e.symm
            | const _ => rfl
            | global _ => rfl
            | func _ => rfl
          have hgoes := hb.out
          have hy : ∃ v, (∀ w, (execOp b.eval o).run P w = .ok (.value v) w) ∧ (Ks z).holds w' v := by
            rcases extract_ways (P := P) (ρ := b.eval) hext with ⟨v, hall'⟩ | hnone
            · rw [hall' w'] at hgoes
              exact ⟨v, hall', hgoes.1⟩
            · exfalso
              cases hr : (execOp b.eval o).run P w' with
              | ok n w'' => exact hnone _ _ _ hr
              | halt x w'' => rw [hr] at hgoes; exact hgoes.elim
          obtain ⟨v, hrun, hv⟩ := hy
          refine wpAny_take ho R.nosel (by rw [hlst]; exact R.free) (by rw [hlst]; exact R.rdy) (fun c a w h => hQ t _ c a w (by rw [← ht]; exact h)) (v := v) (.inl ⟨by unfold Region.wanted; rw [hgn], fun w => by rw [heq]; exact hrun w⟩) ?_
          exact hnext v w' hv (Below.refl _ _)
        · refine ⟨fun hr => ?_, fun i hi => ?_⟩
          · exfalso
            refine hdone ?_
            intro j
            induction j using Nat.strongRecOn with
            | _ j ihj =>
              intro hj
              cases hlj : listed.getD j false with
              | true => rfl
              | false =>
                exfalso
                have hjs : j < ops.size := by have := R.le; omega
                have hmem : j ∈ Region.ready .any ops listed := by
                  rw [mem_ready]
                  refine ⟨by rw [getD_ff (by rw [hI.lsize]; exact hjs)]; exact hlj, ops[j], Array.getElem?_eq_getElem hjs, fun e he hb => ?_⟩
                  have := R.down j _ (Array.getElem?_eq_getElem hjs) e he hb
                  exact ihj _ this (by omega)
                rw [hr] at hmem
                cases hmem
          · have hi0 := hi
            rw [mem_ready] at hi
            obtain ⟨hnl', o, ho, haf⟩ := hi
            have his : i < ops.size := (Array.getElem?_eq_some_iff.1 ho).1
            have hsi : i < listed.size := by rw [hI.lsize]; exact his
            have him : i < m := by
              rcases Nat.lt_or_ge i m with hlt | hge
              · exact hlt
              · exact absurd (fun j hj hjz => all_beforeZ R hI.down hge ho haf (i - j - 1) j (by omega) hjz) hzz
            obtain ⟨t, ht, htn, hne, hsel, hrd, hgd⟩ := R.main i o him ho
            obtain ⟨t', ht', hok, hob, hkz⟩ := hall i o (hat i o him ho)
            have hon : ∀ j, hasOn o j = true → listed.getD j false = true := fun j hj => by
              obtain ⟨e, he, heo, heb⟩ := hasOn_mem hj
              rw [← heo]
              exact haf e he heb
            have hnext : ∀ v w'', (Ks i).holds w'' v → Below w'.heap.size w' w'' → wpAny P .any ops Q fuel (listed.setIfInBounds i true) (a'.put o.dst v) w'' := by
              intro v w'' hv hb
              refine ih _ _ _ ⟨by simpa using hI.lsize, ?_, ?_, below_then hI.below hb, ?_, ?_, ?_⟩ ?_ ?_
              · rw [ht]; exact hI.defers
              · rw [ht]; simpa [Act.put] using hI.size
              · intro s hs
                have hst : s ≠ t := fun e => hs i him (by rw [hd i _ ho, ht, e])
                rw [ht, put_getD (by rw [hI.size]; exact htn), if_neg hst]
                exact hI.other s hs
              · intro j s hjm hj hdj
                rw [getD_set hsi] at hj
                rw [ht, put_getD (by rw [hI.size]; exact htn)]
                by_cases e : j = i
                · subst e
                  have : s = t := by rw [hd j _ ho, ht] at hdj; injection hdj with hdj; exact hdj.symm
                  rw [if_pos this]
                  exact hv
                · rw [if_neg e] at hj
                  have hst : s ≠ t := fun e2 => e (dst_injZ R hjm him hdj (by rw [hd i _ ho, ht, e2]))
                  rw [if_neg hst]
                  obtain ⟨oj, hoj, hdoj⟩ := dstOf_some hdj
                  obtain ⟨_, _, hokj, _, _⟩ := hall j oj (hat j oj hjm hoj)
                  exact Kd.keep hokj (hI.val j s hjm hj hdj) hb
              · intro q oq hq hlq e he hb
                rw [getD_set hsi] at hlq ⊢
                by_cases e1 : q = i
                · subst e1
                  rw [ho] at hq
                  injection hq with hq
                  subst hq
                  split
                  · rfl
                  · exact haf e he hb
                · rw [if_neg e1] at hlq
                  split
                  · rfl
                  · exact hI.down q oq hq hlq e he hb
              · intro q hq hqs
                rw [getD_set hsi, if_neg (by omega)]
                exact hno q hq hqs
              · have hnl : (!listed.getD i true) = true := by rw [hnl']; rfl
                have hlt : ((List.range ops.size).filter fun k => !(listed.setIfInBounds i true).getD k true).length < ((List.range ops.size).filter fun k => !listed.getD k true).length := by
                  have hsub : ((List.range ops.size).filter fun k => !(listed.setIfInBounds i true).getD k true) = (((List.range ops.size).filter fun k => !listed.getD k true).filter fun k => k != i) := by
                    rw [List.filter_filter]
                    apply List.filter_congr
                    intro k _
                    rw [getD_set hsi]
                    by_cases e : k = i
                    · subst e; simp
                    · simp [e]
                  rw [hsub]
                  exact List.length_filter_lt_length_iff_exists.2 ⟨i, List.mem_filter.2 ⟨List.mem_range.2 his, hnl⟩, by simp⟩
                omega
            have hlook : ∀ s K, lookK (kz i) s = some K → ∃ j, j < i ∧ dstOf ops j = some s ∧ K = Ks j := fun s K hK => hmem i (by omega) s K (lookK_some hK)
            unfold wpOp
            rw [ho]
            rcases hob with ⟨hwk, hgo⟩ | ⟨hwk, hskip⟩
            · have hw : Region.wanted o (yielded ops a'.tmps) = true := by
                unfold Region.wanted
                cases hg : o.guard with
                | none => rfl
                | some gb =>
                  obtain ⟨g, b⟩ := gb
                  rw [hg] at hwk
                  unfold wantK at hwk
                  simp only at hwk
                  cases hdg : dstOf ops g with
                  | none => rw [hdg] at hwk; cases hwk
                  | some s =>
                    rw [hdg] at hwk
                    cases hlk : lookK (kz i) s with
                    | none => simp only [hlk] at hwk; cases hwk
                    | some K =>
                      simp only [hlk] at hwk
                      split at hwk
                      · rename_i hKe
                        injection hKe with hKe
                        subst hKe
                        rename_i c
                        obtain ⟨j, hj, hdj, hKj⟩ := hlook s _ hlk
                        obtain ⟨hong, hgi⟩ := hgd g b hg
                        obtain rfl := dst_injZ R (by omega) (by omega) hdj hdg
                        have hv := hI.val j s (by omega) (hon j hong) hdj
                        rw [← hKj] at hv
                        have hy : yielded ops a'.tmps j = some c := by
                          have hv' : a'.tmps.getD s undef = .bool c := hv
                          unfold yielded
                          unfold dstOf at hdj
                          rw [hdj]
                          rw [Array.getD_eq_getD_getElem?] at hv'
                          cases hx : a'.tmps[s]? with
                          | none => rw [hx] at hv'; exact absurd hv' (by simp [undef])
                          | some x =>
                            rw [hx] at hv'
                            simp only [Option.getD_some] at hv'
                            subst hv'
                            simp [hx]
                        simp only [hy]
                        injection hwk
                      · cases hwk
              simp only [hw, if_true]
              refine .inl ?_
              obtain ⟨b, hb, b1, b2, b3, b4⟩ := leanOn.out (a' := a') (hgo w' hI.below) hI.size.symm (fun s K hs hK => by
                obtain ⟨j, hj, hdj, rfl⟩ := hlook s K hK
                obtain ⟨o2, ho2, hod2⟩ := dstOf_some hdj
                obtain ⟨s2, hs2, hsn, _⟩ := R.main j o2 (by omega) ho2
                rw [hod2] at hs2
                injection hs2 with hs2
                subst hs2
                obtain ⟨ha, _⟩ := hrd s (by simpa using hs) j (by omega) hdj
                exact ⟨by rw [hI.size]; exact hsn, hI.val j s (by omega) (hon j ha) hdj⟩)
              have heq : execOp a'.eval o = execOp b.eval o := by
                refine execOp_congr o (fun cs bb hc => by rw [hc] at hsel; cases hsel) fun x hx => ?_
                cases x with
                | tmp s =>
                  show a'.tmps.getD s undef = b.tmps.getD s undef
                  by_cases hks : ∃ K, lookK (kz i) s = some K
                  · obtain ⟨K, hK⟩ := hks
                    exact (b4 s ⟨K, hK, by simpa using hx⟩).symm
                  · have ho2 : ∀ j, j < m → dstOf ops j ≠ some s := by
                      intro j hj hdj
                      obtain ⟨_, hji⟩ := hrd s hx j hj hdj
                      obtain ⟨oj, hoj, hdoj⟩ := dstOf_some hdj
                      have := kz_all hall2 i (by omega) j oj s hji (hat j oj hj hoj) hdoj
                      cases hl : lookK (kz i) s with
                      | some K => exact hks ⟨K, hl⟩
                      | none => exact lookK_none hl _ this
                    have e0 := hI.other s ho2
                    rcases b3 s with e | e
                    · rw [e, e0]
                    · exact e.symm
                | const _ => rfl
                | global _ => rfl
                | func _ => rfl
              have hgoes := hb.out
              unfold Oper.wp
              rw [heq]
              generalize (execOp b.eval o).run P w' = r at hgoes
              cases r with
              | ok n w'' =>
                cases n <;> simp only [OpGoes] at hgoes <;> try exact hgoes.elim
                case value v => exact hnext v w'' hgoes.1 hgoes.2
                case enter f args =>
                  refine Calls.mono hgoes ?_
                  rintro e w3 ⟨v, rfl, hv, hb⟩
                  exact hnext v w3 hv hb
              | halt x w'' => exact hgoes.elim
            · have hw : Region.wanted o (yielded ops a'.tmps) = false := by
                unfold Region.wanted
                cases hg : o.guard with
                | none => rw [hg] at hwk; cases hwk
                | some gb =>
                  obtain ⟨g, b⟩ := gb
                  rw [hg] at hwk
                  unfold wantK at hwk
                  simp only at hwk
                  cases hdg : dstOf ops g with
                  | none => rw [hdg] at hwk; cases hwk
                  | some s =>
                    rw [hdg] at hwk
                    cases hlk : lookK (kz i) s with
                    | none => simp only [hlk] at hwk; cases hwk
                    | some K =>
                      simp only [hlk] at hwk
                      split at hwk
                      · rename_i hKe
                        injection hKe with hKe
                        subst hKe
                        rename_i c
                        obtain ⟨j, hj, hdj, hKj⟩ := hlook s _ hlk
                        obtain ⟨hong, hgi⟩ := hgd g b hg
                        obtain rfl := dst_injZ R (by omega) (by omega) hdj hdg
                        have hv := hI.val j s (by omega) (hon j hong) hdj
                        rw [← hKj] at hv
                        have hy : yielded ops a'.tmps j = some c := by
                          have hv' : a'.tmps.getD s undef = .bool c := hv
                          unfold yielded
                          unfold dstOf at hdj
                          rw [hdj]
                          rw [Array.getD_eq_getD_getElem?] at hv'
                          cases hx : a'.tmps[s]? with
                          | none => rw [hx] at hv'; exact absurd hv' (by simp [undef])
                          | some x =>
                            rw [hx] at hv'
                            simp only [Option.getD_some] at hv'
                            subst hv'
                            simp [hx]
                        simp only [hy]
                        injection hwk
                      · cases hwk
              simp only [hw]
              exact hnext _ _ (by rw [hskip]; rfl) (Below.refl _ _)
  refine key ops.size _ a _ ⟨by simp, rfl, rfl, Below.drew (Below.refl _ _), fun _ _ => rfl, fun j t _ hj => ?_, fun i o _ hj => ?_⟩ ?_ ?_
  · exfalso
    revert hj
    simp only [Array.getD_eq_getD_getElem?, Array.getElem?_replicate]
    split <;> simp
  · exfalso
    revert hj
    simp only [Array.getD_eq_getD_getElem?, Array.getElem?_replicate]
    split <;> simp
  · intro i _ hi
    simp [Array.getD_eq_getD_getElem?, Array.getElem?_replicate, hi]
  · exact Nat.le_trans (List.length_filter_le _ _) (by simp)
end
end Go.Proofs.Ythgoffbfgdgkpaa

namespace Go.Proofs.Ythgoffbfgdgkpaa
open Go.RowKit
set_option linter.unusedVariables false
set_option linter.unusedSimpArgs false
set_option linter.unusedSimpArgs false
set_option maxHeartbeats 4000000
set_option maxRecDepth 100000

end Go.Proofs.Ythgoffbfgdgkpaa

namespace Go.Proofs.Ythgoffbfgdgkpaa
open Go.RowKit

theorem run_items_ints {P : Program} (w : World) (d : Nat) (e : TypeId) (k : IntKind) (xs ys : Array Value) (f g : Nat → Int) (he : P.underlying e = some (.int k)) (n : Nat)
    (hx : ∀ i, i < n → xs[i]? = some (.int k (f i))) (hy : ∀ i, i < n → ys[i]? = some (.int k (g i))) : ∀ is : List Nat, (∀ i ∈ is, i < n) →
    (Op.eqItems (d + 1) e 1 xs ys is).run P w = .ok (is.all fun i => f i == g i) w
  | [], _ => by simp [Op.eqItems]
  | i :: is, h => by
    have hp : ∀ (zs : Array Value) (h : Nat → Int), (∀ i, i < n → zs[i]? = some (.int k (h i))) → ∀ i, i < n → (part e zs (i * 1)).run P w = .ok (.int k (h i)) w := by
      intro zs h hz i hi'
      have := hz i hi'
      simp [part, isAgg, run_underlying he, Result.andThen, this]
    have hi := h i (by simp)
    have IH := run_items_ints w d e k xs ys f g he n hx hy is (fun j hj => h j (by simp [hj]))
    simp only [Op.eqItems, Sem.run_bind, hp xs f hx i hi, hp ys g hy i hi, Result.andThen_ok, run_equalIn_int w d e k k (f i) (g i) he]
    cases hb : f i == g i <;> simp [IH, hb]
theorem run_eq_ints {P : Program} (w : World) (d : Nat) (t e : TypeId) (k : IntKind) (n : Nat) {i : TypeInfo} (xs ys : Array Value) (f g : Nat → Int) (ht : P.underlying t = some (.array n e)) (he : P.underlying e = some (.int k))
    (hi : P.info? e = some i) (hs : i.size = 1) (hx : ∀ i, i < n → xs[i]? = some (.int k (f i))) (hy : ∀ i, i < n → ys[i]? = some (.int k (g i))) :
    (Op.equalIn (d + 2) t (.agg xs) (.agg ys)).run P w = .ok ((List.range n).all fun i => f i == g i) w := by
  have h1 : P.cellsOf e = 1 := by simp [Program.cellsOf, hi, hs]
  rw [run_equalIn_array w (d + 1) xs ys ht hi, h1]
  exact run_items_ints w d e k xs ys f g he n hx hy _ (fun i hi => List.mem_range.1 hi)
end Go.Proofs.Ythgoffbfgdgkpaa

namespace Go.Proofs.Ythgoffbfgdgkpaa
open Go.RowKit
set_option linter.unusedVariables false
set_option linter.unusedSimpArgs false
set_option linter.unusedSimpArgs false
set_option maxHeartbeats 4000000
set_option maxRecDepth 100000

def udE (p : Pkt) : Int := if p.proto ≠ 17 then 12 else if p.dat.length < 8 then 3 else if get16 p.dat 4 ≠ p.dat.length then 4 else if get16 p.dat 6 ≠ 0 ∧ psum p 17 p.dat ≠ 0 then 5 else 0
def rdD (l : List UInt8) : Dgm := ⟨get16 l 0, get16 l 2, get16 l 6 == 0, l.drop 8⟩
def udD (p : Pkt) : Dgm := if udE p = 0 then rdD p.dat else zD
structure DgPost (w : World) (D : Dgm) (E : Int) (e : Ending) (w' : World) : Prop where
  out : ∃ A n c, e = .returned (.tuple #[(.agg #[.int .u16 (D).src, .int .u16 (D).dst, .bool (D).bare, .slice A n c]), .int .i64 E]) ∧ Own w' w.heap.size 5 A n c D.dat ∧ Below w.heap.size w w'
theorem dgPost_no {w w' : World} {E : Int} (hB : Below w.heap.size w w') : DgPost w zD E (.returned (.tuple #[.agg #[.int .u16 0, .int .u16 0, .bool false, .slice none 0 0], .int .i64 E])) w' :=
  ⟨none, 0, 0, rfl, own_nil _ _ _, hB⟩
theorem udp_no (p : Pkt) (hp : p.Ok) (A1 : Option Addr) (n1 c1 : Nat) (A2 : Option Addr) (n2 c2 : Nat) (w : World) (k2 : Bs w A2 n2 c2 p.dat) (E q4 : Int) (b6 : Bool) (hq4 : get16 p.dat 4 = q4) (hb6 : (get16 p.dat 6 == 0) = b6)
    (h : (E = 12 ∧ (p.proto != 17) = true) ∨ (E = 3 ∧ (p.proto != 17) = false ∧ (n2 : Int) < 8) ∨ (E = 4 ∧ (p.proto != 17) = false ∧ 8 ≤ (n2 : Int) ∧ (q4 != (n2 : Int)) = true) ∨ (E = 5 ∧ (p.proto != 17) = false ∧ 8 ≤ (n2 : Int) ∧ (q4 != (n2 : Int)) = false ∧ b6 = false ∧ (psum p 17 p.dat == 0) = false)) :
    Calls Try.prog 71 #[(.agg #[.int .u8 (p).tos, .int .u16 (p).id, .bool (p).keep, .int .u8 (p).ttl, .int .u8 (p).proto, .int .u32 (p).src, .int .u32 (p).dst, .slice A1 n1 c1, .slice A2 n2 c2])] w (DgPost w zD E) := by
  have b2 := k2.max
  have q0 : 0 ≤ q4 := by rw [← hq4]; exact get16_lo _ _
  have q1 : q4 ≤ 65535 := by rw [← hq4]; exact get16_hi _ _
  have hw4 : IntKind.i64.wrap q4 = q4 := by rw [IntKind.wrap_i64]; omega
  have g4 : ∀ W, Bs W A2 n2 c2 p.dat → Calls Try.prog 47 #[.slice A2 n2 c2, .int .i64 4] W fun e w' => e = .returned (.int .u16 q4) ∧ Drawn W w' := fun W k => by have := get16_any A2 n2 c2 p.dat 4 W k; rw [hq4] at this; exact this
  obtain ⟨q6, hq6⟩ : ∃ q, get16 p.dat 6 = q := ⟨_, rfl⟩
  have g6 : ∀ W, Bs W A2 n2 c2 p.dat → Calls Try.prog 47 #[.slice A2 n2 c2, .int .i64 6] W fun e w' => e = .returned (.int .u16 q6) ∧ Drawn W w' := fun W k => by have := get16_any A2 n2 c2 p.dat 6 W k; rw [hq6] at this; exact this
  rw [hq6] at hb6
  clear hq4 hq6
  obtain ⟨k, hk⟩ : ∃ k : Nat, w.heap.size = k := ⟨_, rfl⟩
  obtain ⟨w1, hw1⟩ : ∃ W, ((w.alloc (.cells #[.int .u8 (p).tos, .int .u16 (p).id, .bool (p).keep, .int .u8 (p).ttl, .int .u8 (p).proto, .int .u32 (p).src, .int .u32 (p).dst, .slice A1 n1 c1, .slice A2 n2 c2] 26)).alloc (.cells #[.int .u16 0, .int .u16 0, .bool false, .slice none 0 0] 45)) = W := ⟨_, rfl⟩
  have P1 : Blk w1 k #[.int .u8 (p).tos, .int .u16 (p).id, .bool (p).keep, .int .u8 (p).ttl, .int .u8 (p).proto, .int .u32 (p).src, .int .u32 (p).dst, .slice A1 n1 c1, .slice A2 n2 c2] 26 := by rw [← hw1]; exact ((blk_new _ _ _ k (by simp [hk])).alloc _)
  have Z1 : Blk w1 (k + 1) #[.int .u16 0, .int .u16 0, .bool false, .slice none 0 0] 45 := by rw [← hw1]; exact (blk_new _ _ _ (k + 1) (by simp [hk]))
  have R1 : Below w.heap.size w w1 := by rw [← hw1]; (repeat (first | with_reducible exact Below.refl _ _ | with_reducible refine below_drew ?_ | with_reducible refine below_drewN ?_ _ | with_reducible refine below_alloc ?_ (Nat.le_refl _) _ | with_reducible refine Below.setCell ?_ (by first | exact Nat.le_refl _ | (simp only []; omega)) _ | with_reducible assumption))
  have Pc1 := P1.cell
  have Zc1 := Z1.cell
  have Pl1 := P1.lt
  have Zl1 := Z1.lt
  have x1 := (k2).below R1
  rcases h with ⟨rfl, h1⟩ | ⟨rfl, h1, h2⟩ | ⟨rfl, h1, h2, h3⟩ | ⟨rfl, h1, h2, h3, rfl, h5⟩
  · go_enter Try.func71, Try.ntmps71
    go_wp2_with (go_at_call 47; ((with_reducible refine (g6 w1 x1).mono ?_); rintro e w2 ⟨rfl, hD2⟩); have hB2 := hD2.bel; have P2 := P1.below hB2; have Pc2 := P2.cell; clear Pc1; have Z2 := Z1.below hB2; have Zc2 := Z2.cell; clear Zc1; have x2 := x1.below hB2; have R2 := below_then R1 hB2)
    obtain ⟨wf, hwf, Sf⟩ := store4 Z2 (.int .u16 0) (.int .u16 0) (.bool false) (.slice none 0 0)
    rw [hwf]
    have pf := Sf.blk.cell
    exact bodyPost_ret (by simp [results, Try.results71, go_sem, pf]) rfl (dgPost_no (Sf.bel R2 (by omega)))

  · go_enter Try.func71, Try.ntmps71
    go_wp2_with (go_at_call 47; ((with_reducible refine (g6 w1 x1).mono ?_); rintro e w2 ⟨rfl, hD2⟩); have hB2 := hD2.bel; have P2 := P1.below hB2; have Pc2 := P2.cell; clear Pc1; have Z2 := Z1.below hB2; have Zc2 := Z2.cell; clear Zc1; have x2 := x1.below hB2; have R2 := below_then R1 hB2)
    obtain ⟨wf, hwf, Sf⟩ := store4 Z2 (.int .u16 0) (.int .u16 0) (.bool false) (.slice none 0 0)
    rw [hwf]
    have pf := Sf.blk.cell
    exact bodyPost_ret (by simp [results, Try.results71, go_sem, pf]) rfl (dgPost_no (Sf.bel R2 (by omega)))

  · go_enter Try.func71, Try.ntmps71
    go_wp2_with (first
      | (go_at_call 47; ((with_reducible refine (g6 w1 x1).mono ?_); rintro e w2 ⟨rfl, hD2⟩); have hB2 := hD2.bel; have P2 := P1.below hB2; have Pc2 := P2.cell; clear Pc1; have Z2 := Z1.below hB2; have Zc2 := Z2.cell; clear Zc1; have x2 := x1.below hB2; have R2 := below_then R1 hB2)
      | (go_at_call 47; ((with_reducible refine (g4 w2 x2).mono ?_); rintro e w3 ⟨rfl, hD3⟩); have hB3 := hD3.bel; have P3 := P2.below hB3; have Pc3 := P3.cell; clear Pc2; have Z3 := Z2.below hB3; have Zc3 := Z3.cell; clear Zc2; have x3 := x2.below hB3; have R3 := below_then R2 hB3))
    obtain ⟨wf, hwf, Sf⟩ := store4 Z3 (.int .u16 0) (.int .u16 0) (.bool false) (.slice none 0 0)
    rw [hwf]
    have pf := Sf.blk.cell
    exact bodyPost_ret (by simp [results, Try.results71, go_sem, pf]) rfl (dgPost_no (Sf.bel R3 (by omega)))

  · have n2b : n2 ≤ 140737488400000 := by have : q4 = n2 := by simpa using h3
                                          omega
    go_enter Try.func71, Try.ntmps71
    go_wp2_with (first
      | (go_at_call 47; ((with_reducible refine (g6 w1 x1).mono ?_); rintro e w2 ⟨rfl, hD2⟩); have hB2 := hD2.bel; have P2 := P1.below hB2; have Pc2 := P2.cell; clear Pc1; have Z2 := Z1.below hB2; have Zc2 := Z2.cell; clear Zc1; have x2 := x1.below hB2; have R2 := below_then R1 hB2)
      | (go_at_call 47; ((with_reducible refine (g4 w2 x2).mono ?_); rintro e w3 ⟨rfl, hD3⟩); have hB3 := hD3.bel; have P3 := P2.below hB3; have Pc3 := P3.cell; clear Pc2; have Z3 := Z2.below hB3; have Zc3 := Z3.cell; clear Zc2; have x3 := x2.below hB3; have R3 := below_then R2 hB3)
      | (go_at_call 80; ((with_reducible refine (fits_any p hp A1 n1 c1 A2 n2 c2 17 (by omega) (by omega) w3 x3 n2b).mono ?_); rintro e w4 ⟨he4, hB4⟩); (try rw [h5] at he4); subst he4; have P4 := P3.below hB4; have Pc4 := P4.cell; clear Pc3; have Z4 := Z3.below hB4; have Zc4 := Z4.cell; clear Zc3; have x4 := x3.below hB4; have R4 := below_then R3 hB4))
    obtain ⟨wf, hwf, Sf⟩ := store4 Z4 (.int .u16 0) (.int .u16 0) (.bool false) (.slice none 0 0)
    rw [hwf]
    have pf := Sf.blk.cell
    exact bodyPost_ret (by simp [results, Try.results71, go_sem, pf]) rfl (dgPost_no (Sf.bel R4 (by omega)))
theorem udp_ok (p : Pkt) (hp : p.Ok) (A1 : Option Addr) (n1 c1 : Nat) (A2 : Option Addr) (n2 c2 : Nat) (w : World) (k2 : Bs w A2 n2 c2 p.dat) (q4 : Int) (b6 : Bool) (hq4 : get16 p.dat 4 = q4) (hb6 : (get16 p.dat 6 == 0) = b6)
    (h1 : (p.proto != 17) = false) (h2 : 8 ≤ (n2 : Int)) (h3 : (q4 != (n2 : Int)) = false) (h : b6 = true ∨ (b6 = false ∧ (psum p 17 p.dat == 0) = true)) :
    Calls Try.prog 71 #[(.agg #[.int .u8 (p).tos, .int .u16 (p).id, .bool (p).keep, .int .u8 (p).ttl, .int .u8 (p).proto, .int .u32 (p).src, .int .u32 (p).dst, .slice A1 n1 c1, .slice A2 n2 c2])] w (DgPost w (rdD p.dat) 0) := by
  have hlL : p.dat.take n2 = p.dat := List.take_of_length_le (by rw [k2.len]; exact Nat.le_refl _)
  obtain ⟨i8, hi8, -, hs8, -⟩ := info_parts info_u8
  have b2 := k2.max
  have hcap := k2.cap
  obtain ⟨b, off, rfl⟩ := k2.some_ (by omega)
  have hcut : ∀ W, (Instr.slice 24 (.slice (some ⟨b, off, none⟩) n2 c2) (some (.int .i64 8)) none none).run Try.prog W = _ := fun W => cut_l Try.underlying24 hi8 hs8 (some ⟨b, off, none⟩) n2 c2 .i64 8 (by omega) (by omega) W
  obtain ⟨A', n', c', eA, en, ec, hbD⟩ := k2.cutE (lo := 8) (hi := n2) (by omega) (Nat.le_refl _)
  simp only [show (8 : Int).toNat = 8 from rfl, eA, en, ec] at hcut
  rw [hlL] at hbD
  have hn' : n' ≤ n2 := by omega
  clear eA en ec hlL
  have q0 : 0 ≤ q4 := by rw [← hq4]; exact get16_lo _ _
  have q1 : q4 ≤ 65535 := by rw [← hq4]; exact get16_hi _ _
  have hw4 : IntKind.i64.wrap q4 = q4 := by rw [IntKind.wrap_i64]; omega
  have g4 : ∀ W, Bs W (some ⟨b, off, none⟩) n2 c2 p.dat → Calls Try.prog 47 #[.slice (some ⟨b, off, none⟩) n2 c2, .int .i64 4] W fun e w' => e = .returned (.int .u16 q4) ∧ Drawn W w' := fun W k => by have := get16_any (some ⟨b, off, none⟩) n2 c2 p.dat 4 W k; rw [hq4] at this; exact this
  obtain ⟨q6, hq6⟩ : ∃ q, get16 p.dat 6 = q := ⟨_, rfl⟩
  have g6 : ∀ W, Bs W (some ⟨b, off, none⟩) n2 c2 p.dat → Calls Try.prog 47 #[.slice (some ⟨b, off, none⟩) n2 c2, .int .i64 6] W fun e w' => e = .returned (.int .u16 q6) ∧ Drawn W w' := fun W k => by have := get16_any (some ⟨b, off, none⟩) n2 c2 p.dat 6 W k; rw [hq6] at this; exact this
  rw [hq6] at hb6
  have HQ6 := Lib.hid hq6
  clear hq4 hq6
  obtain ⟨v0, hv0⟩ : ∃ q, get16 p.dat 0 = q := ⟨_, rfl⟩
  obtain ⟨v2, hv2⟩ : ∃ q, get16 p.dat 2 = q := ⟨_, rfl⟩
  have g0 : ∀ W, Bs W (some ⟨b, off, none⟩) n2 c2 p.dat → Calls Try.prog 47 #[.slice (some ⟨b, off, none⟩) n2 c2, .int .i64 0] W fun e w' => e = .returned (.int .u16 v0) ∧ Drawn W w' := fun W k => by have := get16_any (some ⟨b, off, none⟩) n2 c2 p.dat 0 W k; rw [hv0] at this; exact this
  have g2 : ∀ W, Bs W (some ⟨b, off, none⟩) n2 c2 p.dat → Calls Try.prog 47 #[.slice (some ⟨b, off, none⟩) n2 c2, .int .i64 2] W fun e w' => e = .returned (.int .u16 v2) ∧ Drawn W w' := fun W k => by have := get16_any (some ⟨b, off, none⟩) n2 c2 p.dat 2 W k; rw [hv2] at this; exact this
  have HD : Hid (rdD p.dat = ⟨v0, v2, b6, p.dat.drop 8⟩) := by unfold Hid rdD; rw [hv0, hv2, HQ6.out, hb6]
  clear hv0 hv2
  have n2b : n2 ≤ 100000 := by have : q4 = n2 := by simpa using h3
                               omega
  obtain ⟨k, hk⟩ : ∃ k : Nat, w.heap.size = k := ⟨_, rfl⟩
  obtain ⟨w1, hw1⟩ : ∃ W, ((w.alloc (.cells #[.int .u8 (p).tos, .int .u16 (p).id, .bool (p).keep, .int .u8 (p).ttl, .int .u8 (p).proto, .int .u32 (p).src, .int .u32 (p).dst, .slice A1 n1 c1, .slice (some ⟨b, off, none⟩) n2 c2] 26)).alloc (.cells #[.int .u16 0, .int .u16 0, .bool false, .slice none 0 0] 45)) = W := ⟨_, rfl⟩
  have P1 : Blk w1 k #[.int .u8 (p).tos, .int .u16 (p).id, .bool (p).keep, .int .u8 (p).ttl, .int .u8 (p).proto, .int .u32 (p).src, .int .u32 (p).dst, .slice A1 n1 c1, .slice (some ⟨b, off, none⟩) n2 c2] 26 := by rw [← hw1]; exact ((blk_new _ _ _ k (by simp [hk])).alloc _)
  have Z1 : Blk w1 (k + 1) #[.int .u16 0, .int .u16 0, .bool false, .slice none 0 0] 45 := by rw [← hw1]; exact (blk_new _ _ _ (k + 1) (by simp [hk]))
  have R1 : Below w.heap.size w w1 := by rw [← hw1]; (repeat (first | with_reducible exact Below.refl _ _ | with_reducible refine below_drew ?_ | with_reducible refine below_drewN ?_ _ | with_reducible refine below_alloc ?_ (Nat.le_refl _) _ | with_reducible refine Below.setCell ?_ (by first | exact Nat.le_refl _ | (simp only []; omega)) _ | with_reducible assumption))
  have Pc1 := P1.cell
  have Zc1 := Z1.cell
  have Pl1 := P1.lt
  have Zl1 := Z1.lt
  have x1 := (k2).below R1
  rcases h with rfl | ⟨rfl, h5⟩
  · go_enter Try.func71, Try.ntmps71
    go_wp2_with (first
      | (go_at_call 47; ((with_reducible refine (g6 w1 x1).mono ?_); rintro e w2 ⟨rfl, hD2⟩); have hB2 := hD2.bel; have P2 := P1.below hB2; have Pc2 := P2.cell; clear Pc1; have Z2 := Z1.below hB2; have Zc2 := Z2.cell; clear Zc1; have x2 := x1.below hB2; have R2 := below_then R1 hB2)
      | (go_at_call 47; ((with_reducible refine (g4 w2 x2).mono ?_); rintro e w3 ⟨rfl, hD3⟩); have hB3 := hD3.bel; have P3 := P2.below hB3; have Pc3 := P3.cell; clear Pc2; have Z3 := Z2.below hB3; have Zc3 := Z3.cell; clear Zc2; have x3 := x2.below hB3; have R3 := below_then R2 hB3))
    have D3 := hbD.below R3
    have r3s := R3.size
    refine region_txt 8 (by kernel_rfl) (by kernel_rfl) ?_; (iterate 8 (first | (apply ObsK.skip (by rfl)) | (apply ObsK.v (by rfl); (intro wo hT; (repeat (first | (intro v hv; (skip)) | (intro _ _ k; try have hcv := cv k))); (have bo := x3.below hT; have hsz : w3.heap.size ≤ wo.heap.size := hT.size); refine Goes.mk ?_; go_simp; first | exact goes_v | exact goes_b (by assumption) | (refine goes_enter ?_; first | (go_at_call 47; ((with_reducible refine (g0 wo bo).mono ?_); rintro e w9 ⟨rfl, hD9⟩); exact ret_v hD9.bel) | (go_at_call 47; ((with_reducible refine (g2 wo bo).mono ?_); rintro e w9 ⟨rfl, hD9⟩); exact ret_v hD9.bel) | (go_at_call 64; ((with_reducible refine (clone_any A' n' c' _ wo (D3.below hT)).mono ?_); rintro e w9 ⟨A9, c9, rfl, ho9, hB9⟩); exact ret_p (own_isW ho9 hsz) hB9)))) | (apply ObsK.b (by rfl); (intro wo hT; (repeat (first | (intro v hv; (skip)) | (intro _ _ k; try have hcv := cv k))); (have bo := x3.below hT; have hsz : w3.heap.size ≤ wo.heap.size := hT.size); refine Goes.mk ?_; go_simp; first | exact goes_v | exact goes_b (by assumption) | (refine goes_enter ?_; first | (go_at_call 47; ((with_reducible refine (g0 wo bo).mono ?_); rintro e w9 ⟨rfl, hD9⟩); exact ret_v hD9.bel) | (go_at_call 47; ((with_reducible refine (g2 wo bo).mono ?_); rintro e w9 ⟨rfl, hD9⟩); exact ret_v hD9.bel) | (go_at_call 64; ((with_reducible refine (clone_any A' n' c' _ wo (D3.below hT)).mono ?_); rintro e w9 ⟨A9, c9, rfl, ho9, hB9⟩); exact ret_p (own_isW ho9 hsz) hB9)))) | (apply ObsK.p (q := isW w3.heap.size _) (by rfl) st_isW; (intro wo hT; (repeat (first | (intro v hv; (skip)) | (intro _ _ k; try have hcv := cv k))); (have bo := x3.below hT; have hsz : w3.heap.size ≤ wo.heap.size := hT.size); refine Goes.mk ?_; go_simp; first | exact goes_v | exact goes_b (by assumption) | (refine goes_enter ?_; first | (go_at_call 47; ((with_reducible refine (g0 wo bo).mono ?_); rintro e w9 ⟨rfl, hD9⟩); exact ret_v hD9.bel) | (go_at_call 47; ((with_reducible refine (g2 wo bo).mono ?_); rintro e w9 ⟨rfl, hD9⟩); exact ret_v hD9.bel) | (go_at_call 64; ((with_reducible refine (clone_any A' n' c' _ wo (D3.below hT)).mono ?_); rintro e w9 ⟨A9, c9, rfl, ho9, hB9⟩); exact ret_p (own_isW ho9 hsz) hB9)))))); refine ObsK.nil ?_; intro wz hBz; simp only [finOn, List.drop_succ_cons, List.drop_zero, List.drop_nil]
    rintro v9 ⟨A9, n9, c9, rfl, O9⟩
    go_simp
    have Zz := Z3.below hBz
    have zcz := Zz.cell
    have zl := Z3.lt
    obtain ⟨wf, hwf, Sf⟩ := store4 Zz (.int .u16 v0) (.int .u16 v2) (.bool true) (.slice A9 n9 c9)
    have pf := Sf.blk.cell
    have Tf := Sf.bel (below_then R3 hBz) (by omega)
    have Of := Sf.own O9 (fun a e => by have := O9.ge a e; omega)
    go_wp2_with fail
    refine bodyPost_ret (v := .tuple #[.agg #[.int .u16 v0, .int .u16 v2, .bool true, .slice A9 n9 c9], .int .i64 0]) (by simp [results, Try.results71, go_sem, pf]) rfl (by rw [HD.out]; exact ⟨A9, n9, c9, rfl, Of.mono r3s, Tf⟩)

  · go_enter Try.func71, Try.ntmps71
    go_wp2_with (first
      | (go_at_call 47; ((with_reducible refine (g6 w1 x1).mono ?_); rintro e w2 ⟨rfl, hD2⟩); have hB2 := hD2.bel; have P2 := P1.below hB2; have Pc2 := P2.cell; clear Pc1; have Z2 := Z1.below hB2; have Zc2 := Z2.cell; clear Zc1; have x2 := x1.below hB2; have R2 := below_then R1 hB2)
      | (go_at_call 47; ((with_reducible refine (g4 w2 x2).mono ?_); rintro e w3 ⟨rfl, hD3⟩); have hB3 := hD3.bel; have P3 := P2.below hB3; have Pc3 := P3.cell; clear Pc2; have Z3 := Z2.below hB3; have Zc3 := Z3.cell; clear Zc2; have x3 := x2.below hB3; have R3 := below_then R2 hB3)
      | (go_at_call 80; ((with_reducible refine (fits_any p hp A1 n1 c1 (some ⟨b, off, none⟩) n2 c2 17 (by omega) (by omega) w3 x3 (by omega)).mono ?_); rintro e w4 ⟨he4, hB4⟩); (try rw [h5] at he4); subst he4; have P4 := P3.below hB4; have Pc4 := P4.cell; clear Pc3; have Z4 := Z3.below hB4; have Zc4 := Z4.cell; clear Zc3; have x4 := x3.below hB4; have R4 := below_then R3 hB4))
    have D4 := hbD.below R4
    have r4s := R4.size
    refine region_txt 8 (by kernel_rfl) (by kernel_rfl) ?_; (iterate 8 (first | (apply ObsK.skip (by rfl)) | (apply ObsK.v (by rfl); (intro wo hT; (repeat (first | (intro v hv; (skip)) | (intro _ _ k; try have hcv := cv k))); (have bo := x4.below hT; have hsz : w4.heap.size ≤ wo.heap.size := hT.size); refine Goes.mk ?_; go_simp; first | exact goes_v | exact goes_b (by assumption) | (refine goes_enter ?_; first | (go_at_call 47; ((with_reducible refine (g0 wo bo).mono ?_); rintro e w9 ⟨rfl, hD9⟩); exact ret_v hD9.bel) | (go_at_call 47; ((with_reducible refine (g2 wo bo).mono ?_); rintro e w9 ⟨rfl, hD9⟩); exact ret_v hD9.bel) | (go_at_call 64; ((with_reducible refine (clone_any A' n' c' _ wo (D4.below hT)).mono ?_); rintro e w9 ⟨A9, c9, rfl, ho9, hB9⟩); exact ret_p (own_isW ho9 hsz) hB9)))) | (apply ObsK.b (by rfl); (intro wo hT; (repeat (first | (intro v hv; (skip)) | (intro _ _ k; try have hcv := cv k))); (have bo := x4.below hT; have hsz : w4.heap.size ≤ wo.heap.size := hT.size); refine Goes.mk ?_; go_simp; first | exact goes_v | exact goes_b (by assumption) | (refine goes_enter ?_; first | (go_at_call 47; ((with_reducible refine (g0 wo bo).mono ?_); rintro e w9 ⟨rfl, hD9⟩); exact ret_v hD9.bel) | (go_at_call 47; ((with_reducible refine (g2 wo bo).mono ?_); rintro e w9 ⟨rfl, hD9⟩); exact ret_v hD9.bel) | (go_at_call 64; ((with_reducible refine (clone_any A' n' c' _ wo (D4.below hT)).mono ?_); rintro e w9 ⟨A9, c9, rfl, ho9, hB9⟩); exact ret_p (own_isW ho9 hsz) hB9)))) | (apply ObsK.p (q := isW w4.heap.size _) (by rfl) st_isW; (intro wo hT; (repeat (first | (intro v hv; (skip)) | (intro _ _ k; try have hcv := cv k))); (have bo := x4.below hT; have hsz : w4.heap.size ≤ wo.heap.size := hT.size); refine Goes.mk ?_; go_simp; first | exact goes_v | exact goes_b (by assumption) | (refine goes_enter ?_; first | (go_at_call 47; ((with_reducible refine (g0 wo bo).mono ?_); rintro e w9 ⟨rfl, hD9⟩); exact ret_v hD9.bel) | (go_at_call 47; ((with_reducible refine (g2 wo bo).mono ?_); rintro e w9 ⟨rfl, hD9⟩); exact ret_v hD9.bel) | (go_at_call 64; ((with_reducible refine (clone_any A' n' c' _ wo (D4.below hT)).mono ?_); rintro e w9 ⟨A9, c9, rfl, ho9, hB9⟩); exact ret_p (own_isW ho9 hsz) hB9)))))); refine ObsK.nil ?_; intro wz hBz; simp only [finOn, List.drop_succ_cons, List.drop_zero, List.drop_nil]
    rintro v9 ⟨A9, n9, c9, rfl, O9⟩
    go_simp
    have Zz := Z4.below hBz
    have zcz := Zz.cell
    have zl := Z4.lt
    obtain ⟨wf, hwf, Sf⟩ := store4 Zz (.int .u16 v0) (.int .u16 v2) (.bool false) (.slice A9 n9 c9)
    have pf := Sf.blk.cell
    have Tf := Sf.bel (below_then R4 hBz) (by omega)
    have Of := Sf.own O9 (fun a e => by have := O9.ge a e; omega)
    go_wp2_with fail
    refine bodyPost_ret (v := .tuple #[.agg #[.int .u16 v0, .int .u16 v2, .bool false, .slice A9 n9 c9], .int .i64 0]) (by simp [results, Try.results71, go_sem, pf]) rfl (by rw [HD.out]; exact ⟨A9, n9, c9, rfl, Of.mono r4s, Tf⟩)
theorem ud_ways (p : Pkt) (n2 : Nat) (l2 : p.dat.length = n2) :
    (udE p ≠ 0 ∧ ((udE p = 12 ∧ (p.proto != 17) = true) ∨ (udE p = 3 ∧ (p.proto != 17) = false ∧ (n2 : Int) < 8) ∨ (udE p = 4 ∧ (p.proto != 17) = false ∧ 8 ≤ (n2 : Int) ∧ (get16 p.dat 4 != (n2 : Int)) = true) ∨ (udE p = 5 ∧ (p.proto != 17) = false ∧ 8 ≤ (n2 : Int) ∧ (get16 p.dat 4 != (n2 : Int)) = false ∧ (get16 p.dat 6 == 0) = false ∧ (psum p 17 p.dat == 0) = false))) ∨
    (udE p = 0 ∧ (p.proto != 17) = false ∧ 8 ≤ (n2 : Int) ∧ (get16 p.dat 4 != (n2 : Int)) = false ∧ ((get16 p.dat 6 == 0) = true ∨ ((get16 p.dat 6 == 0) = false ∧ (psum p 17 p.dat == 0) = true))) := by
  unfold udE
  rw [l2]
  by_cases h1 : p.proto = 17
  · by_cases h2 : n2 < 8
    · have h2' : (n2 : Int) < 8 := by omega
      simp [h1, h2, h2']
    · have h2' : 8 ≤ (n2 : Int) := by omega
      by_cases h3 : get16 p.dat 4 = n2
      · by_cases h6 : get16 p.dat 6 = 0
        · simp [h1, h2, h2', h3, h6]
        · by_cases h5 : psum p 17 p.dat = 0
          · simp [h1, h2, h2', h3, h6, h5]
          · simp [h1, h2, h2', h3, h6, h5]
      · simp [h1, h2, h2', h3]
  · simp [h1]
theorem udp_any (p : Pkt) (hp : p.Ok) (A1 : Option Addr) (n1 c1 : Nat) (A2 : Option Addr) (n2 c2 : Nat) (w : World) (k2 : Bs w A2 n2 c2 p.dat) :
    Calls Try.prog 71 #[(.agg #[.int .u8 (p).tos, .int .u16 (p).id, .bool (p).keep, .int .u8 (p).ttl, .int .u8 (p).proto, .int .u32 (p).src, .int .u32 (p).dst, .slice A1 n1 c1, .slice A2 n2 c2])] w (DgPost w (udD p) (udE p)) := by
  unfold udD
  rcases ud_ways p n2 k2.len with ⟨h0, h⟩ | ⟨h0, h1, h2, h3, h⟩
  · rw [if_neg h0]
    exact udp_no p hp A1 n1 c1 A2 n2 c2 w k2 _ _ _ rfl rfl h
  · rw [if_pos h0, h0]
    exact udp_ok p hp A1 n1 c1 A2 n2 c2 w k2 _ _ rfl rfl h1 h2 h3 h
theorem rudp_no (p : Pkt) (hp : p.Ok) (A1 : Option Addr) (n1 c1 : Nat) (A2 : Option Addr) (n2 c2 : Nat) (w : World) (k2 : Bs w A2 n2 c2 p.dat) (E q4 : Int) (b6 : Bool) (hq4 : get16 p.dat 4 = q4) (hb6 : (get16 p.dat 6 == 0) = b6)
    (h : (E = 12 ∧ (p.proto != 17) = true) ∨ (E = 3 ∧ (p.proto != 17) = false ∧ (n2 : Int) < 8) ∨ (E = 4 ∧ (p.proto != 17) = false ∧ 8 ≤ (n2 : Int) ∧ (q4 != (n2 : Int)) = true) ∨ (E = 5 ∧ (p.proto != 17) = false ∧ 8 ≤ (n2 : Int) ∧ (q4 != (n2 : Int)) = false ∧ b6 = false ∧ (psum p 17 p.dat == 0) = false)) :
    Calls Try.prog 30 #[(.agg #[.int .u8 (p).tos, .int .u16 (p).id, .bool (p).keep, .int .u8 (p).ttl, .int .u8 (p).proto, .int .u32 (p).src, .int .u32 (p).dst, .slice A1 n1 c1, .slice A2 n2 c2])] w (DgPost w zD E) := by
  have b2 := k2.max
  have q0 : 0 ≤ q4 := by rw [← hq4]; exact get16_lo _ _
  have q1 : q4 ≤ 65535 := by rw [← hq4]; exact get16_hi _ _
  have hw4 : IntKind.i64.wrap q4 = q4 := by rw [IntKind.wrap_i64]; omega
  have g4 : ∀ W, Bs W A2 n2 c2 p.dat → Calls Try.prog 55 #[.slice A2 n2 c2, .int .i64 4] W fun e w' => e = .returned (.int .u16 q4) ∧ Drawn W w' := fun W k => by have := rget16_any A2 n2 c2 p.dat 4 W k; rw [hq4] at this; exact this
  obtain ⟨q6, hq6⟩ : ∃ q, get16 p.dat 6 = q := ⟨_, rfl⟩
  have g6 : ∀ W, Bs W A2 n2 c2 p.dat → Calls Try.prog 55 #[.slice A2 n2 c2, .int .i64 6] W fun e w' => e = .returned (.int .u16 q6) ∧ Drawn W w' := fun W k => by have := rget16_any A2 n2 c2 p.dat 6 W k; rw [hq6] at this; exact this
  rw [hq6] at hb6
  clear hq4 hq6
  obtain ⟨k, hk⟩ : ∃ k : Nat, w.heap.size = k := ⟨_, rfl⟩
  obtain ⟨w1, hw1⟩ : ∃ W, ((w.alloc (.cells #[.int .u8 (p).tos, .int .u16 (p).id, .bool (p).keep, .int .u8 (p).ttl, .int .u8 (p).proto, .int .u32 (p).src, .int .u32 (p).dst, .slice A1 n1 c1, .slice A2 n2 c2] 26)).alloc (.cells #[.int .u16 0, .int .u16 0, .bool false, .slice none 0 0] 45)) = W := ⟨_, rfl⟩
  have P1 : Blk w1 k #[.int .u8 (p).tos, .int .u16 (p).id, .bool (p).keep, .int .u8 (p).ttl, .int .u8 (p).proto, .int .u32 (p).src, .int .u32 (p).dst, .slice A1 n1 c1, .slice A2 n2 c2] 26 := by rw [← hw1]; exact ((blk_new _ _ _ k (by simp [hk])).alloc _)
  have Z1 : Blk w1 (k + 1) #[.int .u16 0, .int .u16 0, .bool false, .slice none 0 0] 45 := by rw [← hw1]; exact (blk_new _ _ _ (k + 1) (by simp [hk]))
  have R1 : Below w.heap.size w w1 := by rw [← hw1]; (repeat (first | with_reducible exact Below.refl _ _ | with_reducible refine below_drew ?_ | with_reducible refine below_drewN ?_ _ | with_reducible refine below_alloc ?_ (Nat.le_refl _) _ | with_reducible refine Below.setCell ?_ (by first | exact Nat.le_refl _ | (simp only []; omega)) _ | with_reducible assumption))
  have Pc1 := P1.cell
  have Zc1 := Z1.cell
  have Pl1 := P1.lt
  have Zl1 := Z1.lt
  have x1 := (k2).below R1
  rcases h with ⟨rfl, h1⟩ | ⟨rfl, h1, h2⟩ | ⟨rfl, h1, h2, h3⟩ | ⟨rfl, h1, h2, h3, rfl, h5⟩
  · go_enter Try.func30, Try.ntmps30
    go_wp2_with fail
    obtain ⟨wf, hwf, Sf⟩ := store4 Z1 (.int .u16 0) (.int .u16 0) (.bool false) (.slice none 0 0)
    rw [hwf]
    have pf := Sf.blk.cell
    exact bodyPost_ret (by simp [results, Try.results30, go_sem, pf]) rfl (dgPost_no (Sf.bel R1 (by omega)))
  · go_enter Try.func30, Try.ntmps30
    go_wp2_with fail
    obtain ⟨wf, hwf, Sf⟩ := store4 Z1 (.int .u16 0) (.int .u16 0) (.bool false) (.slice none 0 0)
    rw [hwf]
    have pf := Sf.blk.cell
    exact bodyPost_ret (by simp [results, Try.results30, go_sem, pf]) rfl (dgPost_no (Sf.bel R1 (by omega)))
  · go_enter Try.func30, Try.ntmps30
    go_wp2_with (go_at_call 55; ((with_reducible refine (g4 w1 x1).mono ?_); rintro e w2 ⟨rfl, hD2⟩); have hB2 := hD2.bel; have P2 := P1.below hB2; have Pc2 := P2.cell; clear Pc1; have Z2 := Z1.below hB2; have Zc2 := Z2.cell; clear Zc1; have x2 := x1.below hB2; have R2 := below_then R1 hB2)
    obtain ⟨wf, hwf, Sf⟩ := store4 Z2 (.int .u16 0) (.int .u16 0) (.bool false) (.slice none 0 0)
    rw [hwf]
    have pf := Sf.blk.cell
    exact bodyPost_ret (by simp [results, Try.results30, go_sem, pf]) rfl (dgPost_no (Sf.bel R2 (by omega)))

  · have n2b : n2 ≤ 17592186044400 := by have : q4 = n2 := by simpa using h3
                                         omega
    have h6 : ∀ z : Int, (z == 0) = false → (z != 0) = true := fun z h => by simpa using h
    have h5' := h6 _ h5
    go_enter Try.func30, Try.ntmps30
    go_wp2_with (first
      | (go_at_call 55; ((with_reducible refine (g4 w1 x1).mono ?_); rintro e w2 ⟨rfl, hD2⟩); have hB2 := hD2.bel; have P2 := P1.below hB2; have Pc2 := P2.cell; clear Pc1; have Z2 := Z1.below hB2; have Zc2 := Z2.cell; clear Zc1; have x2 := x1.below hB2; have R2 := below_then R1 hB2)
      | (go_at_call 55; ((with_reducible refine (g6 w2 x2).mono ?_); rintro e w3 ⟨rfl, hD3⟩); have hB3 := hD3.bel; have P3 := P2.below hB3; have Pc3 := P3.cell; clear Pc2; have Z3 := Z2.below hB3; have Zc3 := Z3.cell; clear Zc2; have x3 := x2.below hB3; have R3 := below_then R2 hB3)
      | (go_at_call 39; ((with_reducible refine (rssum_any p hp A1 n1 c1 A2 n2 c2 17 (by omega) (by omega) A2 n2 c2 p.dat w3 x3 n2b).mono ?_); rintro e w4 ⟨rfl, hB4⟩); have P4 := P3.below hB4; have Pc4 := P4.cell; clear Pc3; have Z4 := Z3.below hB4; have Zc4 := Z4.cell; clear Zc3; have x4 := x3.below hB4; have R4 := below_then R3 hB4))
    obtain ⟨wf, hwf, Sf⟩ := store4 Z4 (.int .u16 0) (.int .u16 0) (.bool false) (.slice none 0 0)
    rw [hwf]
    have pf := Sf.blk.cell
    exact bodyPost_ret (by simp [results, Try.results30, go_sem, pf]) rfl (dgPost_no (Sf.bel R4 (by omega)))
theorem rudp_ok (p : Pkt) (hp : p.Ok) (A1 : Option Addr) (n1 c1 : Nat) (A2 : Option Addr) (n2 c2 : Nat) (w : World) (k2 : Bs w A2 n2 c2 p.dat) (q4 : Int) (b6 : Bool) (hq4 : get16 p.dat 4 = q4) (hb6 : (get16 p.dat 6 == 0) = b6)
    (h1 : (p.proto != 17) = false) (h2 : 8 ≤ (n2 : Int)) (h3 : (q4 != (n2 : Int)) = false) (h : b6 = true ∨ (b6 = false ∧ (psum p 17 p.dat == 0) = true)) :
    Calls Try.prog 30 #[(.agg #[.int .u8 (p).tos, .int .u16 (p).id, .bool (p).keep, .int .u8 (p).ttl, .int .u8 (p).proto, .int .u32 (p).src, .int .u32 (p).dst, .slice A1 n1 c1, .slice A2 n2 c2])] w (DgPost w (rdD p.dat) 0) := by
  have hlL : p.dat.take n2 = p.dat := List.take_of_length_le (by rw [k2.len]; exact Nat.le_refl _)
  obtain ⟨i8, hi8, -, hs8, -⟩ := info_parts info_u8
  have b2 := k2.max
  have hcap := k2.cap
  obtain ⟨b, off, rfl⟩ := k2.some_ (by omega)
  have hcut : ∀ W, (Instr.slice 24 (.slice (some ⟨b, off, none⟩) n2 c2) (some (.int .i64 8)) none none).run Try.prog W = _ := fun W => cut_l Try.underlying24 hi8 hs8 (some ⟨b, off, none⟩) n2 c2 .i64 8 (by omega) (by omega) W
  obtain ⟨A', n', c', eA, en, ec, hbD⟩ := k2.cutE (lo := 8) (hi := n2) (by omega) (Nat.le_refl _)
  simp only [show (8 : Int).toNat = 8 from rfl, eA, en, ec] at hcut
  rw [hlL] at hbD
  have hn' : n' ≤ n2 := by omega
  clear eA en ec hlL
  have q0 : 0 ≤ q4 := by rw [← hq4]; exact get16_lo _ _
  have q1 : q4 ≤ 65535 := by rw [← hq4]; exact get16_hi _ _
  have hw4 : IntKind.i64.wrap q4 = q4 := by rw [IntKind.wrap_i64]; omega
  have g4 : ∀ W, Bs W (some ⟨b, off, none⟩) n2 c2 p.dat → Calls Try.prog 55 #[.slice (some ⟨b, off, none⟩) n2 c2, .int .i64 4] W fun e w' => e = .returned (.int .u16 q4) ∧ Drawn W w' := fun W k => by have := rget16_any (some ⟨b, off, none⟩) n2 c2 p.dat 4 W k; rw [hq4] at this; exact this
  obtain ⟨q6, hq6⟩ : ∃ q, get16 p.dat 6 = q := ⟨_, rfl⟩
  have g6 : ∀ W, Bs W (some ⟨b, off, none⟩) n2 c2 p.dat → Calls Try.prog 55 #[.slice (some ⟨b, off, none⟩) n2 c2, .int .i64 6] W fun e w' => e = .returned (.int .u16 q6) ∧ Drawn W w' := fun W k => by have := rget16_any (some ⟨b, off, none⟩) n2 c2 p.dat 6 W k; rw [hq6] at this; exact this
  rw [hq6] at hb6
  have HQ6 := Lib.hid hq6
  clear hq4 hq6
  obtain ⟨v0, hv0⟩ : ∃ q, get16 p.dat 0 = q := ⟨_, rfl⟩
  obtain ⟨v2, hv2⟩ : ∃ q, get16 p.dat 2 = q := ⟨_, rfl⟩
  have g0 : ∀ W, Bs W (some ⟨b, off, none⟩) n2 c2 p.dat → Calls Try.prog 55 #[.slice (some ⟨b, off, none⟩) n2 c2, .int .i64 0] W fun e w' => e = .returned (.int .u16 v0) ∧ Drawn W w' := fun W k => by have := rget16_any (some ⟨b, off, none⟩) n2 c2 p.dat 0 W k; rw [hv0] at this; exact this
  have g2 : ∀ W, Bs W (some ⟨b, off, none⟩) n2 c2 p.dat → Calls Try.prog 55 #[.slice (some ⟨b, off, none⟩) n2 c2, .int .i64 2] W fun e w' => e = .returned (.int .u16 v2) ∧ Drawn W w' := fun W k => by have := rget16_any (some ⟨b, off, none⟩) n2 c2 p.dat 2 W k; rw [hv2] at this; exact this
  have HD : Hid (rdD p.dat = ⟨v0, v2, b6, p.dat.drop 8⟩) := by unfold Hid rdD; rw [hv0, hv2, HQ6.out, hb6]
  clear hv0 hv2
  have n2b : n2 ≤ 100000 := by have : q4 = n2 := by simpa using h3
                               omega
  obtain ⟨k, hk⟩ : ∃ k : Nat, w.heap.size = k := ⟨_, rfl⟩
  obtain ⟨w1, hw1⟩ : ∃ W, ((w.alloc (.cells #[.int .u8 (p).tos, .int .u16 (p).id, .bool (p).keep, .int .u8 (p).ttl, .int .u8 (p).proto, .int .u32 (p).src, .int .u32 (p).dst, .slice A1 n1 c1, .slice (some ⟨b, off, none⟩) n2 c2] 26)).alloc (.cells #[.int .u16 0, .int .u16 0, .bool false, .slice none 0 0] 45)) = W := ⟨_, rfl⟩
  have P1 : Blk w1 k #[.int .u8 (p).tos, .int .u16 (p).id, .bool (p).keep, .int .u8 (p).ttl, .int .u8 (p).proto, .int .u32 (p).src, .int .u32 (p).dst, .slice A1 n1 c1, .slice (some ⟨b, off, none⟩) n2 c2] 26 := by rw [← hw1]; exact ((blk_new _ _ _ k (by simp [hk])).alloc _)
  have Z1 : Blk w1 (k + 1) #[.int .u16 0, .int .u16 0, .bool false, .slice none 0 0] 45 := by rw [← hw1]; exact (blk_new _ _ _ (k + 1) (by simp [hk]))
  have R1 : Below w.heap.size w w1 := by rw [← hw1]; (repeat (first | with_reducible exact Below.refl _ _ | with_reducible refine below_drew ?_ | with_reducible refine below_drewN ?_ _ | with_reducible refine below_alloc ?_ (Nat.le_refl _) _ | with_reducible refine Below.setCell ?_ (by first | exact Nat.le_refl _ | (simp only []; omega)) _ | with_reducible assumption))
  have Pc1 := P1.cell
  have Zc1 := Z1.cell
  have Pl1 := P1.lt
  have Zl1 := Z1.lt
  have x1 := (k2).below R1
  rcases h with rfl | ⟨rfl, h5⟩
  · go_enter Try.func30, Try.ntmps30
    go_wp2_with (first
      | (go_at_call 55; ((with_reducible refine (g4 w1 x1).mono ?_); rintro e w2 ⟨rfl, hD2⟩); have hB2 := hD2.bel; have P2 := P1.below hB2; have Pc2 := P2.cell; clear Pc1; have Z2 := Z1.below hB2; have Zc2 := Z2.cell; clear Zc1; have x2 := x1.below hB2; have R2 := below_then R1 hB2)
      | (go_at_call 55; ((with_reducible refine (g6 w2 x2).mono ?_); rintro e w3 ⟨rfl, hD3⟩); have hB3 := hD3.bel; have P3 := P2.below hB3; have Pc3 := P3.cell; clear Pc2; have Z3 := Z2.below hB3; have Zc3 := Z3.cell; clear Zc2; have x3 := x2.below hB3; have R3 := below_then R2 hB3)
      | (go_at_call 55; ((with_reducible refine (g0 w3 x3).mono ?_); rintro e w4 ⟨rfl, hD4⟩); have hB4 := hD4.bel; have P4 := P3.below hB4; have Pc4 := P4.cell; clear Pc3; have Z4 := Z3.below hB4; have Zc4 := Z4.cell; clear Zc3; have x4 := x3.below hB4; have R4 := below_then R3 hB4)
      | (go_at_call 55; ((with_reducible refine (g2 w4 x4).mono ?_); rintro e w5 ⟨rfl, hD5⟩); have hB5 := hD5.bel; have P5 := P4.below hB5; have Pc5 := P5.cell; clear Pc4; have Z5 := Z4.below hB5; have Zc5 := Z5.cell; clear Zc4; have x5 := x4.below hB5; have R5 := below_then R4 hB5))
    obtain ⟨wq, hwq⟩ : ∃ W, w5.alloc (.cells #[.int .u16 v0, .int .u16 v2, .bool true, .slice none 0 0] 45) = W := ⟨_, rfl⟩
    have G := blk_new w5 #[.int .u16 v0, .int .u16 v2, .bool true, .slice none 0 0] 45 _ rfl
    have Vq : Below w5.heap.size w5 wq := by rw [← hwq]; (repeat (first | with_reducible exact Below.refl _ _ | with_reducible refine below_drew ?_ | with_reducible refine below_drewN ?_ _ | with_reducible refine below_alloc ?_ (Nat.le_refl _) _ | with_reducible refine Below.setCell ?_ (by first | exact Nat.le_refl _ | (simp only []; omega)) _ | with_reducible assumption))
    rw [hwq] at G ⊢
    have Zq := Z5.below Vq
    have Tq := below_then R5 Vq
    have Dq := hbD.below Tq
    have zl := Z5.lt
    have rs := R5.size
    have hg : w.heap.size ≤ w5.heap.size := rs
    clear hwq
    refine region_txt 4 (by kernel_rfl) (by kernel_rfl) ?_; (iterate 4 (first | (apply ObsK.skip (by rfl)) | (apply ObsK.v (by rfl); (intro wo hT; (repeat (first | (intro _ _ k; try have hcv := cv k))); (have gc := (G.below hT).cell); refine Goes.mk ?_; go_simp; first | exact goes_v | exact goes_b (by assumption) | (refine goes_enter ?_; first | fail))) | (apply ObsK.b (by rfl); (intro wo hT; (repeat (first | (intro _ _ k; try have hcv := cv k))); (have gc := (G.below hT).cell); refine Goes.mk ?_; go_simp; first | exact goes_v | exact goes_b (by assumption) | (refine goes_enter ?_; first | fail))))); refine ObsK.nil ?_; intro wz hBz; simp only [finOn, List.drop_succ_cons, List.drop_zero, List.drop_nil]
    go_simp
    have G5 := G.below hBz
    have Z5 := Zq.below hBz
    have T5 := below_then Tq hBz
    have D5 := Dq.below hBz
    have gs := hBz.size
    have gl := G.lt
    go_wp2_with (first
      | (at_builtin; refine wpList_append_bs (w0 := wz) _ rfl _ _ _ rfl wz.heap.size 5 Try.underlying24 info_u8 none 0 0 [] rfl (own_nil _ _ _) A' n' c' _ rfl D5 (Below.refl _ _) (by omega) (by first | exact Nat.le_refl _ | exact Below.size (Below.refl _ _) | omega | (simp <;> omega)) ?_; intro A7 n7 c7 w7 ho7 hB7 _ hz7; have u7 : n7 = n' := (by have := ho7.len; have := D5.len; simp at *; omega); subst u7; replace ho7 : Own w7 wz.heap.size 5 A7 n7 c7 (p.dat.drop 8) := ho7; have G7 := G5.below hB7; have gc7 := G7.cell; (obtain ⟨w8, hw8, S8⟩ := store1 G7 3 (.slice A7 n7 c7)); simp only [List.setIfInBounds_toArray, List.set_cons_zero, List.set_cons_succ] at S8; have gc8 := S8.blk.cell; have Z8 := S8.other (by omega) (Z5.below hB7); have zc8 := Z8.cell; have T8 := S8.bel (below_then T5 hB7) (by omega); have O8 := S8.own ho7 (fun a e => by have := ho7.ge a e; omega)))
    obtain ⟨wf, hwf, Sf⟩ := store4 Z8 (.int .u16 v0) (.int .u16 v2) (.bool true) (.slice A7 n7 c7)
    rw [hwf]
    have pf := Sf.blk.cell
    have Of := Sf.own O8 (fun a e => by have := ho7.ge a e; omega)
    have s5 := T5.size
    refine bodyPost_ret (v := .tuple #[.agg #[.int .u16 v0, .int .u16 v2, .bool true, .slice A7 n7 c7], .int .i64 0]) (by simp [results, Try.results30, go_sem, pf]) rfl (by rw [HD.out]; exact ⟨A7, n7, c7, rfl, Of.mono s5, Sf.bel T8 (by omega)⟩)

  · have h6 : ∀ z : Int, (z == 0) = true → (z != 0) = false := fun z h => by simpa using h
    have h5' := h6 _ h5
    go_enter Try.func30, Try.ntmps30
    go_wp2_with (first
      | (go_at_call 55; ((with_reducible refine (g4 w1 x1).mono ?_); rintro e w2 ⟨rfl, hD2⟩); have hB2 := hD2.bel; have P2 := P1.below hB2; have Pc2 := P2.cell; clear Pc1; have Z2 := Z1.below hB2; have Zc2 := Z2.cell; clear Zc1; have x2 := x1.below hB2; have R2 := below_then R1 hB2)
      | (go_at_call 55; ((with_reducible refine (g6 w2 x2).mono ?_); rintro e w3 ⟨rfl, hD3⟩); have hB3 := hD3.bel; have P3 := P2.below hB3; have Pc3 := P3.cell; clear Pc2; have Z3 := Z2.below hB3; have Zc3 := Z3.cell; clear Zc2; have x3 := x2.below hB3; have R3 := below_then R2 hB3)
      | (go_at_call 39; ((with_reducible refine (rssum_any p hp A1 n1 c1 (some ⟨b, off, none⟩) n2 c2 17 (by omega) (by omega) (some ⟨b, off, none⟩) n2 c2 p.dat w3 x3 (by omega)).mono ?_); rintro e w4 ⟨rfl, hB4⟩); have P4 := P3.below hB4; have Pc4 := P4.cell; clear Pc3; have Z4 := Z3.below hB4; have Zc4 := Z4.cell; clear Zc3; have x4 := x3.below hB4; have R4 := below_then R3 hB4)
      | (go_at_call 55; ((with_reducible refine (g0 w4 x4).mono ?_); rintro e w5 ⟨rfl, hD5⟩); have hB5 := hD5.bel; have P5 := P4.below hB5; have Pc5 := P5.cell; clear Pc4; have Z5 := Z4.below hB5; have Zc5 := Z5.cell; clear Zc4; have x5 := x4.below hB5; have R5 := below_then R4 hB5)
      | (go_at_call 55; ((with_reducible refine (g2 w5 x5).mono ?_); rintro e w6 ⟨rfl, hD6⟩); have hB6 := hD6.bel; have P6 := P5.below hB6; have Pc6 := P6.cell; clear Pc5; have Z6 := Z5.below hB6; have Zc6 := Z6.cell; clear Zc5; have x6 := x5.below hB6; have R6 := below_then R5 hB6))
    obtain ⟨wq, hwq⟩ : ∃ W, w6.alloc (.cells #[.int .u16 v0, .int .u16 v2, .bool false, .slice none 0 0] 45) = W := ⟨_, rfl⟩
    have G := blk_new w6 #[.int .u16 v0, .int .u16 v2, .bool false, .slice none 0 0] 45 _ rfl
    have Vq : Below w6.heap.size w6 wq := by rw [← hwq]; (repeat (first | with_reducible exact Below.refl _ _ | with_reducible refine below_drew ?_ | with_reducible refine below_drewN ?_ _ | with_reducible refine below_alloc ?_ (Nat.le_refl _) _ | with_reducible refine Below.setCell ?_ (by first | exact Nat.le_refl _ | (simp only []; omega)) _ | with_reducible assumption))
    rw [hwq] at G ⊢
    have Zq := Z6.below Vq
    have Tq := below_then R6 Vq
    have Dq := hbD.below Tq
    have zl := Z6.lt
    have rs := R6.size
    have hg : w.heap.size ≤ w6.heap.size := rs
    clear hwq
    refine region_txt 4 (by kernel_rfl) (by kernel_rfl) ?_; (iterate 4 (first | (apply ObsK.skip (by rfl)) | (apply ObsK.v (by rfl); (intro wo hT; (repeat (first | (intro _ _ k; try have hcv := cv k))); (have gc := (G.below hT).cell); refine Goes.mk ?_; go_simp; first | exact goes_v | exact goes_b (by assumption) | (refine goes_enter ?_; first | fail))) | (apply ObsK.b (by rfl); (intro wo hT; (repeat (first | (intro _ _ k; try have hcv := cv k))); (have gc := (G.below hT).cell); refine Goes.mk ?_; go_simp; first | exact goes_v | exact goes_b (by assumption) | (refine goes_enter ?_; first | fail))))); refine ObsK.nil ?_; intro wz hBz; simp only [finOn, List.drop_succ_cons, List.drop_zero, List.drop_nil]
    go_simp
    have G5 := G.below hBz
    have Z5 := Zq.below hBz
    have T5 := below_then Tq hBz
    have D5 := Dq.below hBz
    have gs := hBz.size
    have gl := G.lt
    go_wp2_with (first
      | (at_builtin; refine wpList_append_bs (w0 := wz) _ rfl _ _ _ rfl wz.heap.size 5 Try.underlying24 info_u8 none 0 0 [] rfl (own_nil _ _ _) A' n' c' _ rfl D5 (Below.refl _ _) (by omega) (by first | exact Nat.le_refl _ | exact Below.size (Below.refl _ _) | omega | (simp <;> omega)) ?_; intro A7 n7 c7 w7 ho7 hB7 _ hz7; have u7 : n7 = n' := (by have := ho7.len; have := D5.len; simp at *; omega); subst u7; replace ho7 : Own w7 wz.heap.size 5 A7 n7 c7 (p.dat.drop 8) := ho7; have G7 := G5.below hB7; have gc7 := G7.cell; (obtain ⟨w8, hw8, S8⟩ := store1 G7 3 (.slice A7 n7 c7)); simp only [List.setIfInBounds_toArray, List.set_cons_zero, List.set_cons_succ] at S8; have gc8 := S8.blk.cell; have Z8 := S8.other (by omega) (Z5.below hB7); have zc8 := Z8.cell; have T8 := S8.bel (below_then T5 hB7) (by omega); have O8 := S8.own ho7 (fun a e => by have := ho7.ge a e; omega)))
    obtain ⟨wf, hwf, Sf⟩ := store4 Z8 (.int .u16 v0) (.int .u16 v2) (.bool false) (.slice A7 n7 c7)
    rw [hwf]
    have pf := Sf.blk.cell
    have Of := Sf.own O8 (fun a e => by have := ho7.ge a e; omega)
    have s5 := T5.size
    refine bodyPost_ret (v := .tuple #[.agg #[.int .u16 v0, .int .u16 v2, .bool false, .slice A7 n7 c7], .int .i64 0]) (by simp [results, Try.results30, go_sem, pf]) rfl (by rw [HD.out]; exact ⟨A7, n7, c7, rfl, Of.mono s5, Sf.bel T8 (by omega)⟩)
theorem rudp_any (p : Pkt) (hp : p.Ok) (A1 : Option Addr) (n1 c1 : Nat) (A2 : Option Addr) (n2 c2 : Nat) (w : World) (k2 : Bs w A2 n2 c2 p.dat) :
    Calls Try.prog 30 #[(.agg #[.int .u8 (p).tos, .int .u16 (p).id, .bool (p).keep, .int .u8 (p).ttl, .int .u8 (p).proto, .int .u32 (p).src, .int .u32 (p).dst, .slice A1 n1 c1, .slice A2 n2 c2])] w (DgPost w (udD p) (udE p)) := by
  unfold udD
  rcases ud_ways p n2 k2.len with ⟨h0, h⟩ | ⟨h0, h1, h2, h3, h⟩
  · rw [if_neg h0]
    exact rudp_no p hp A1 n1 c1 A2 n2 c2 w k2 _ _ _ rfl rfl h
  · rw [if_pos h0, h0]
    exact rudp_ok p hp A1 n1 c1 A2 n2 c2 w k2 _ _ rfl rfl h1 h2 h3 h
end Go.Proofs.Ythgoffbfgdgkpaa

namespace Go.Proofs.Ythgoffbfgdgkpaa
open Go.RowKit
set_option linter.unusedVariables false
set_option linter.unusedSimpArgs false
set_option maxHeartbeats 4000000
set_option maxRecDepth 100000

structure Msg where
  ty : Int
  code : Int
  rest : Int
  dat : List UInt8
structure Msg.Ok (m : Msg) : Prop where
  ty : 0 ≤ m.ty ∧ m.ty ≤ 255
  code : 0 ≤ m.code ∧ m.code ≤ 255
  rest : 0 ≤ m.rest ∧ m.rest ≤ 4294967295
def zM : Msg := ⟨0, 0, 0, []⟩
def isErrM (m : Msg) : Bool := m.ty == 3 || m.ty == 11 || m.ty == 12
def isEchoM (m : Msg) : Bool := (m.ty == 8 || m.ty == 0) && m.code == 0
theorem riserr_any (m : Msg) (A1 : Option Addr) (n1 c1 : Nat) (w : World) :
    Calls Try.prog 67 #[(.agg #[.int .u8 (m).ty, .int .u8 (m).code, .int .u32 (m).rest, .slice A1 n1 c1])] w fun e w' => e = .returned (.bool (isErrM m)) ∧ Below w.heap.size w w' := by
  go_enter Try.func67, Try.ntmps67
  go_wp2_with fail
  all_goals go_ret
  all_goals refine ⟨?_, by (repeat (first | with_reducible exact Below.refl _ _ | with_reducible refine below_drew ?_ | with_reducible refine below_drewN ?_ _ | with_reducible refine below_alloc ?_ (Nat.le_refl _) _ | with_reducible refine Below.setCell ?_ (by first | exact Nat.le_refl _ | (simp only []; omega)) _ | with_reducible assumption))⟩
  all_goals simp_all [isErrM]
theorem risecho_any (m : Msg) (A1 : Option Addr) (n1 c1 : Nat) (w : World) :
    Calls Try.prog 23 #[(.agg #[.int .u8 (m).ty, .int .u8 (m).code, .int .u32 (m).rest, .slice A1 n1 c1])] w fun e w' => e = .returned (.bool (isEchoM m)) ∧ Below w.heap.size w w' := by
  go_enter Try.func23, Try.ntmps23
  go_wp2_with fail
  all_goals go_ret
  all_goals refine ⟨?_, by (repeat (first | with_reducible exact Below.refl _ _ | with_reducible refine below_drew ?_ | with_reducible refine below_drewN ?_ _ | with_reducible refine below_alloc ?_ (Nat.le_refl _) _ | with_reducible refine Below.setCell ?_ (by first | exact Nat.le_refl _ | (simp only []; omega)) _ | with_reducible assumption))⟩
  all_goals simp_all [isEchoM]
theorem andNot8_tab : ∀ a : Fin 256, (bits .andNot .u8 (a.val : Int) 8 == 0) = ((a.val : Int) == 8 || (a.val : Int) == 0) := by decide +kernel
theorem andNot8 {x : Int} (h0 : 0 ≤ x) (h1 : x ≤ 255) : (bits .andNot .u8 x 8 == 0) = (x == 8 || x == 0) := by
  have h := andNot8_tab ⟨x.toNat, by omega⟩
  have e : ((x.toNat : Nat) : Int) = x := by omega
  simp only [e] at h
  exact h
theorem isecho_any (m : Msg) (hm : m.Ok) (A1 : Option Addr) (n1 c1 : Nat) (w : World) :
    Calls Try.prog 72 #[(.agg #[.int .u8 (m).ty, .int .u8 (m).code, .int .u32 (m).rest, .slice A1 n1 c1])] w fun e w' => e = .returned (.bool (isEchoM m)) ∧ Below w.heap.size w w' := by
  have hn := andNot8 hm.ty.1 hm.ty.2
  go_enter Try.func72, Try.ntmps72
  go_wp2_with fail
  all_goals go_ret
  all_goals refine ⟨?_, by (repeat (first | with_reducible exact Below.refl _ _ | with_reducible refine below_drew ?_ | with_reducible refine below_drewN ?_ _ | with_reducible refine below_alloc ?_ (Nat.le_refl _) _ | with_reducible refine Below.setCell ?_ (by first | exact Nat.le_refl _ | (simp only []; omega)) _ | with_reducible assumption))⟩
  all_goals simp_all [isEchoM]
end Go.Proofs.Ythgoffbfgdgkpaa

namespace Go.Proofs.Ythgoffbfgdgkpaa
open Go.RowKit
set_option linter.unusedVariables false
set_option linter.unusedSimpArgs false
set_option linter.unusedSimpArgs false
set_option maxHeartbeats 4000000
set_option maxRecDepth 100000

def icE (p : Pkt) : Int := if p.proto ≠ 1 then 12 else if (p.dat.length : Int) < 8 then 3 else if csum p.dat ≠ 0 then 5 else 0
def icM (p : Pkt) : Msg := if icE p = 0 then ⟨bt p.dat 0, bt p.dat 1, get32 p.dat 4, p.dat.drop 8⟩ else zM
theorem icM_ok (p : Pkt) : (icM p).Ok := by
  unfold icM; split
  · exact ⟨⟨bt_lo _ _, bt_hi _ _⟩, ⟨bt_lo _ _, bt_hi _ _⟩, ⟨get32_lo _ _, get32_hi _ _⟩⟩
  · exact ⟨⟨by decide, by decide⟩, ⟨by decide, by decide⟩, ⟨by decide, by decide⟩⟩
structure MsPost (w : World) (M : Msg) (E : Int) (e : Ending) (w' : World) : Prop where
  out : ∃ B m d, e = .returned (.tuple #[(.agg #[.int .u8 (M).ty, .int .u8 (M).code, .int .u32 (M).rest, .slice B m d]), .int .i64 E]) ∧ Own w' w.heap.size 5 B m d M.dat ∧ Below w.heap.size w w'
theorem msPost_no {w w' : World} {E : Int} (hB : Below w.heap.size w w') : MsPost w zM E (.returned (.tuple #[.agg #[.int .u8 0, .int .u8 0, .int .u32 0, .slice none 0 0], .int .i64 E])) w' :=
  ⟨none, 0, 0, rfl, own_nil _ _ _, hB⟩
theorem icmp_no (p : Pkt) (A1 : Option Addr) (n1 c1 : Nat) (A2 : Option Addr) (n2 c2 : Nat) (w : World) (k2 : Bs w A2 n2 c2 p.dat) (E : Int)
    (h : (E = 12 ∧ (p.proto != 1) = true) ∨ (E = 3 ∧ (p.proto != 1) = false ∧ (n2 : Int) < 8) ∨ (E = 5 ∧ (p.proto != 1) = false ∧ 8 ≤ (n2 : Int) ∧ (csum p.dat == 0) = false)) :
    Calls Try.prog 41 #[(.agg #[.int .u8 (p).tos, .int .u16 (p).id, .bool (p).keep, .int .u8 (p).ttl, .int .u8 (p).proto, .int .u32 (p).src, .int .u32 (p).dst, .slice A1 n1 c1, .slice A2 n2 c2])] w (MsPost w zM E) := by
  have b2 := k2.max
  obtain ⟨k, hk⟩ : ∃ k : Nat, w.heap.size = k := ⟨_, rfl⟩
  obtain ⟨w1, hw1⟩ : ∃ w1, (w.alloc (.cells #[.int .u8 (p).tos, .int .u16 (p).id, .bool (p).keep, .int .u8 (p).ttl, .int .u8 (p).proto, .int .u32 (p).src, .int .u32 (p).dst, .slice A1 n1 c1, .slice A2 n2 c2] 26)).alloc (.cells #[.int .u8 0, .int .u8 0, .int .u32 0, .slice none 0 0] 49) = w1 := ⟨_, rfl⟩
  have P1 : Blk w1 k #[.int .u8 (p).tos, .int .u16 (p).id, .bool (p).keep, .int .u8 (p).ttl, .int .u8 (p).proto, .int .u32 (p).src, .int .u32 (p).dst, .slice A1 n1 c1, .slice A2 n2 c2] 26 := by rw [← hw1]; exact (blk_new w _ _ k hk).alloc _
  have Z1 : Blk w1 (k + 1) #[.int .u8 0, .int .u8 0, .int .u32 0, .slice none 0 0] 49 := by rw [← hw1]; exact blk_new _ _ _ (k + 1) (by simp [hk])
  have R1 : Below w.heap.size w w1 := by rw [← hw1]; (repeat (first | with_reducible exact Below.refl _ _ | with_reducible refine below_drew ?_ | with_reducible refine below_drewN ?_ _ | with_reducible refine below_alloc ?_ (Nat.le_refl _) _ | with_reducible refine Below.setCell ?_ (by first | exact Nat.le_refl _ | (simp only []; omega)) _ | with_reducible assumption))
  have x2 := k2.below R1
  have pc := P1.cell
  have zc := Z1.cell
  obtain ⟨wf, hwf, Sf⟩ := store4 Z1 (.int .u8 0) (.int .u8 0) (.int .u32 0) (.slice none 0 0)
  have pf := Sf.blk.cell
  have Tf := Sf.bel R1 (by omega)
  rcases h with ⟨rfl, h1⟩ | ⟨rfl, h1, h2⟩ | ⟨rfl, h1, h2, h3⟩
  · go_enter Try.func41, Try.ntmps41
    go_wp2_with fail
    exact bodyPost_ret (by simp [results, Try.results41, go_sem, pf]) rfl (msPost_no Tf)
  · go_enter Try.func41, Try.ntmps41
    go_wp2_with fail
    exact bodyPost_ret (by simp [results, Try.results41, go_sem, pf]) rfl (msPost_no Tf)
  · go_enter Try.func41, Try.ntmps41
    clear hwf Sf pf Tf
    go_wp2_with (go_at_call 62; ((with_reducible refine (good_any A2 n2 c2 p.dat _ x2).mono ?_); rintro e w2 ⟨he2, hB2⟩); (try rw [h3] at he2); subst he2; have Z2 := Z1.below hB2; have zc2 := Z2.cell)
    obtain ⟨wf, hwf, Sf⟩ := store4 Z2 (.int .u8 0) (.int .u8 0) (.int .u32 0) (.slice none 0 0)
    rw [hwf]
    have pf := Sf.blk.cell
    exact bodyPost_ret (by simp [results, Try.results41, go_sem, pf]) rfl (msPost_no (Sf.bel (below_then R1 hB2) (by omega)))
theorem ricmp_no (p : Pkt) (A1 : Option Addr) (n1 c1 : Nat) (A2 : Option Addr) (n2 c2 : Nat) (w : World) (k2 : Bs w A2 n2 c2 p.dat) (hn2 : n2 ≤ 17592186044416) (E : Int)
    (h : (E = 12 ∧ (p.proto != 1) = true) ∨ (E = 3 ∧ (p.proto != 1) = false ∧ (n2 : Int) < 8) ∨ (E = 5 ∧ (p.proto != 1) = false ∧ 8 ≤ (n2 : Int) ∧ (csum p.dat == 0) = false)) :
    Calls Try.prog 31 #[(.agg #[.int .u8 (p).tos, .int .u16 (p).id, .bool (p).keep, .int .u8 (p).ttl, .int .u8 (p).proto, .int .u32 (p).src, .int .u32 (p).dst, .slice A1 n1 c1, .slice A2 n2 c2])] w (MsPost w zM E) := by
  have b2 := k2.max
  obtain ⟨k, hk⟩ : ∃ k : Nat, w.heap.size = k := ⟨_, rfl⟩
  obtain ⟨w1, hw1⟩ : ∃ w1, (w.alloc (.cells #[.int .u8 (p).tos, .int .u16 (p).id, .bool (p).keep, .int .u8 (p).ttl, .int .u8 (p).proto, .int .u32 (p).src, .int .u32 (p).dst, .slice A1 n1 c1, .slice A2 n2 c2] 26)).alloc (.cells #[.int .u8 0, .int .u8 0, .int .u32 0, .slice none 0 0] 49) = w1 := ⟨_, rfl⟩
  have P1 : Blk w1 k #[.int .u8 (p).tos, .int .u16 (p).id, .bool (p).keep, .int .u8 (p).ttl, .int .u8 (p).proto, .int .u32 (p).src, .int .u32 (p).dst, .slice A1 n1 c1, .slice A2 n2 c2] 26 := by rw [← hw1]; exact (blk_new w _ _ k hk).alloc _
  have Z1 : Blk w1 (k + 1) #[.int .u8 0, .int .u8 0, .int .u32 0, .slice none 0 0] 49 := by rw [← hw1]; exact blk_new _ _ _ (k + 1) (by simp [hk])
  have R1 : Below w.heap.size w w1 := by rw [← hw1]; (repeat (first | with_reducible exact Below.refl _ _ | with_reducible refine below_drew ?_ | with_reducible refine below_drewN ?_ _ | with_reducible refine below_alloc ?_ (Nat.le_refl _) _ | with_reducible refine Below.setCell ?_ (by first | exact Nat.le_refl _ | (simp only []; omega)) _ | with_reducible assumption))
  have x2 := k2.below R1
  have pc := P1.cell
  have zc := Z1.cell
  obtain ⟨wf, hwf, Sf⟩ := store4 Z1 (.int .u8 0) (.int .u8 0) (.int .u32 0) (.slice none 0 0)
  have pf := Sf.blk.cell
  have Tf := Sf.bel R1 (by omega)
  rcases h with ⟨rfl, h1⟩ | ⟨rfl, h1, h2⟩ | ⟨rfl, h1, h2, h3⟩
  · go_enter Try.func31, Try.ntmps31
    go_wp2_with fail
    exact bodyPost_ret (by simp [results, Try.results31, go_sem, pf]) rfl (msPost_no Tf)
  · go_enter Try.func31, Try.ntmps31
    go_wp2_with fail
    exact bodyPost_ret (by simp [results, Try.results31, go_sem, pf]) rfl (msPost_no Tf)
  · go_enter Try.func31, Try.ntmps31
    clear hwf Sf pf Tf
    go_wp2_with (go_at_call 57; ((with_reducible refine (rgood_any A2 n2 c2 p.dat hn2 _ x2).mono ?_); rintro e w2 ⟨he2, hB2⟩); (try rw [h3] at he2); subst he2; have Z2 := Z1.below hB2; have zc2 := Z2.cell)
    obtain ⟨wf, hwf, Sf⟩ := store4 Z2 (.int .u8 0) (.int .u8 0) (.int .u32 0) (.slice none 0 0)
    rw [hwf]
    have pf := Sf.blk.cell
    exact bodyPost_ret (by simp [results, Try.results31, go_sem, pf]) rfl (msPost_no (Sf.bel (below_then R1 hB2) (by omega)))
theorem icmp_ok (p : Pkt) (A1 : Option Addr) (n1 c1 : Nat) (A2 : Option Addr) (n2 c2 : Nat) (w : World) (k2 : Bs w A2 n2 c2 p.dat) 
    (h1 : (p.proto != 1) = false) (h2 : 8 ≤ (n2 : Int)) (h3 : (csum p.dat == 0) = true) :
    Calls Try.prog 41 #[(.agg #[.int .u8 (p).tos, .int .u16 (p).id, .bool (p).keep, .int .u8 (p).ttl, .int .u8 (p).proto, .int .u32 (p).src, .int .u32 (p).dst, .slice A1 n1 c1, .slice A2 n2 c2])] w (MsPost w ⟨bt p.dat 0, bt p.dat 1, get32 p.dat 4, p.dat.drop 8⟩ 0) := by
  have hlL : p.dat.take n2 = p.dat := List.take_of_length_le (by rw [k2.len]; exact Nat.le_refl _)
  obtain ⟨i8, hi8, -, hs8, -⟩ := info_parts info_u8
  have b2 := k2.max
  have hcap := k2.cap
  obtain ⟨b, off, rfl⟩ := k2.some_ (by omega)
  have hcut : ∀ W, (Instr.slice 24 (.slice (some ⟨b, off, none⟩) n2 c2) (some (.int .i64 8)) none none).run Try.prog W = _ := fun W => cut_l Try.underlying24 hi8 hs8 (some ⟨b, off, none⟩) n2 c2 .i64 8 (by omega) (by omega) W
  obtain ⟨A', n', c', eA, en, ec, hbD⟩ := k2.cutE (lo := 8) (hi := n2) (by omega) (Nat.le_refl _)
  simp only [show (8 : Int).toNat = 8 from rfl, eA, en, ec] at hcut
  rw [hlL] at hbD
  have hn' : n' ≤ n2 := by omega
  clear eA en ec hlL
  obtain ⟨k, hk⟩ : ∃ k : Nat, w.heap.size = k := ⟨_, rfl⟩
  obtain ⟨w1, hw1⟩ : ∃ w1, (w.alloc (.cells #[.int .u8 (p).tos, .int .u16 (p).id, .bool (p).keep, .int .u8 (p).ttl, .int .u8 (p).proto, .int .u32 (p).src, .int .u32 (p).dst, .slice A1 n1 c1, .slice (some ⟨b, off, none⟩) n2 c2] 26)).alloc (.cells #[.int .u8 0, .int .u8 0, .int .u32 0, .slice none 0 0] 49) = w1 := ⟨_, rfl⟩
  have P1 : Blk w1 k #[.int .u8 (p).tos, .int .u16 (p).id, .bool (p).keep, .int .u8 (p).ttl, .int .u8 (p).proto, .int .u32 (p).src, .int .u32 (p).dst, .slice A1 n1 c1, .slice (some ⟨b, off, none⟩) n2 c2] 26 := by rw [← hw1]; exact (blk_new w _ _ k hk).alloc _
  have Z1 : Blk w1 (k + 1) #[.int .u8 0, .int .u8 0, .int .u32 0, .slice none 0 0] 49 := by rw [← hw1]; exact blk_new _ _ _ (k + 1) (by simp [hk])
  have R1 : Below w.heap.size w w1 := by rw [← hw1]; (repeat (first | with_reducible exact Below.refl _ _ | with_reducible refine below_drew ?_ | with_reducible refine below_drewN ?_ _ | with_reducible refine below_alloc ?_ (Nat.le_refl _) _ | with_reducible refine Below.setCell ?_ (by first | exact Nat.le_refl _ | (simp only []; omega)) _ | with_reducible assumption))
  have x2 := k2.below R1
  have pc := P1.cell
  have zc := Z1.cell
  go_enter Try.func41, Try.ntmps41
  go_wp2_with (go_at_call 62; ((with_reducible refine (good_any (some ⟨b, off, none⟩) n2 c2 p.dat _ x2).mono ?_); rintro e w2 ⟨he2, hB2⟩); (try rw [h3] at he2); subst he2; have Z2 := Z1.below hB2; have zc2 := Z2.cell)
  have x3 := x2.below hB2
  have T2 := below_then R1 hB2
  have hD := hbD.below T2
  have s2 := T2.size
  have q0 : 0 < n2 := by omega
  have q0' : (0 : Int) < n2 := by omega
  have q1 : (1 : Int) < n2 := by omega
  refine region_txt 11 (by kernel_rfl) (by kernel_rfl) ?_; (iterate 11 (first | (apply ObsK.skip (by rfl)) | (apply ObsK.v (by rfl); (intro wo hT; (repeat (first | (intro v hv; (skip)) | (intro _ _ k; try have hcv := cv k))); (have bo := x3.below hT; have c0 := bo.at_ (j := 0) (by omega); rw [Nat.add_zero] at c0; have c1 := bo.at_ (j := 1) (by omega); have hsz : w2.heap.size ≤ wo.heap.size := hT.size); refine Goes.mk ?_; go_simp; first | exact goes_v | exact goes_b (by assumption) | (refine goes_enter ?_; first | (go_at_call 63; ((with_reducible refine (get32_any (some ⟨b, off, none⟩) n2 c2 p.dat 4 wo bo).mono ?_); rintro e w5 ⟨rfl, hD5⟩); exact ret_v hD5.bel) | (go_at_call 64; ((with_reducible refine (clone_any A' n' c' _ wo (hD.below hT)).mono ?_); rintro e w5 ⟨A9, c9, rfl, ho9, hB9⟩); exact ret_p (own_isW ho9 hsz) hB9)))) | (apply ObsK.b (by rfl); (intro wo hT; (repeat (first | (intro v hv; (skip)) | (intro _ _ k; try have hcv := cv k))); (have bo := x3.below hT; have c0 := bo.at_ (j := 0) (by omega); rw [Nat.add_zero] at c0; have c1 := bo.at_ (j := 1) (by omega); have hsz : w2.heap.size ≤ wo.heap.size := hT.size); refine Goes.mk ?_; go_simp; first | exact goes_v | exact goes_b (by assumption) | (refine goes_enter ?_; first | (go_at_call 63; ((with_reducible refine (get32_any (some ⟨b, off, none⟩) n2 c2 p.dat 4 wo bo).mono ?_); rintro e w5 ⟨rfl, hD5⟩); exact ret_v hD5.bel) | (go_at_call 64; ((with_reducible refine (clone_any A' n' c' _ wo (hD.below hT)).mono ?_); rintro e w5 ⟨A9, c9, rfl, ho9, hB9⟩); exact ret_p (own_isW ho9 hsz) hB9)))) | (apply ObsK.p (q := isW w2.heap.size _) (by rfl) st_isW; (intro wo hT; (repeat (first | (intro v hv; (skip)) | (intro _ _ k; try have hcv := cv k))); (have bo := x3.below hT; have c0 := bo.at_ (j := 0) (by omega); rw [Nat.add_zero] at c0; have c1 := bo.at_ (j := 1) (by omega); have hsz : w2.heap.size ≤ wo.heap.size := hT.size); refine Goes.mk ?_; go_simp; first | exact goes_v | exact goes_b (by assumption) | (refine goes_enter ?_; first | (go_at_call 63; ((with_reducible refine (get32_any (some ⟨b, off, none⟩) n2 c2 p.dat 4 wo bo).mono ?_); rintro e w5 ⟨rfl, hD5⟩); exact ret_v hD5.bel) | (go_at_call 64; ((with_reducible refine (clone_any A' n' c' _ wo (hD.below hT)).mono ?_); rintro e w5 ⟨A9, c9, rfl, ho9, hB9⟩); exact ret_p (own_isW ho9 hsz) hB9)))))); refine ObsK.nil ?_; intro wz hBz; simp only [finOn, List.drop_succ_cons, List.drop_zero, List.drop_nil]
  rintro v9 ⟨A9, n9, c9, rfl, O9⟩
  go_simp
  have Z3 := Z2.below hBz
  have zc3 := Z3.cell
  obtain ⟨wf, hwf, Sf⟩ := store4 Z3 (.int .u8 (bt p.dat 0)) (.int .u8 (bt p.dat 1)) (.int .u32 (get32 p.dat 4)) (.slice A9 n9 c9)
  have pf := Sf.blk.cell
  have Tf := Sf.bel (below_then T2 hBz) (by omega)
  have zl := Z2.lt
  have Of := Sf.own O9 (fun a e => by have := O9.ge a e; omega)
  go_wp2_with fail
  refine bodyPost_ret (v := .tuple #[.agg #[.int .u8 (bt p.dat 0), .int .u8 (bt p.dat 1), .int .u32 (get32 p.dat 4), .slice A9 n9 c9], .int .i64 0]) (by simp [results, Try.results41, go_sem, pf]) rfl ⟨A9, n9, c9, rfl, Of.mono s2, Tf⟩
theorem ricmp_ok (p : Pkt) (A1 : Option Addr) (n1 c1 : Nat) (A2 : Option Addr) (n2 c2 : Nat) (w : World) (k2 : Bs w A2 n2 c2 p.dat) (hn2 : n2 ≤ 17592186044416)
    (h1 : (p.proto != 1) = false) (h2 : 8 ≤ (n2 : Int)) (h3 : (csum p.dat == 0) = true) :
    Calls Try.prog 31 #[(.agg #[.int .u8 (p).tos, .int .u16 (p).id, .bool (p).keep, .int .u8 (p).ttl, .int .u8 (p).proto, .int .u32 (p).src, .int .u32 (p).dst, .slice A1 n1 c1, .slice A2 n2 c2])] w (MsPost w ⟨bt p.dat 0, bt p.dat 1, get32 p.dat 4, p.dat.drop 8⟩ 0) := by
  have hlL : p.dat.take n2 = p.dat := List.take_of_length_le (by rw [k2.len]; exact Nat.le_refl _)
  obtain ⟨i8, hi8, -, hs8, -⟩ := info_parts info_u8
  have b2 := k2.max
  have hcap := k2.cap
  obtain ⟨b, off, rfl⟩ := k2.some_ (by omega)
  have hcut : ∀ W, (Instr.slice 24 (.slice (some ⟨b, off, none⟩) n2 c2) (some (.int .i64 8)) none none).run Try.prog W = _ := fun W => cut_l Try.underlying24 hi8 hs8 (some ⟨b, off, none⟩) n2 c2 .i64 8 (by omega) (by omega) W
  obtain ⟨A', n', c', eA, en, ec, hbD⟩ := k2.cutE (lo := 8) (hi := n2) (by omega) (Nat.le_refl _)
  simp only [show (8 : Int).toNat = 8 from rfl, eA, en, ec] at hcut
  rw [hlL] at hbD
  have hn' : n' ≤ n2 := by omega
  clear eA en ec hlL
  obtain ⟨k, hk⟩ : ∃ k : Nat, w.heap.size = k := ⟨_, rfl⟩
  obtain ⟨w1, hw1⟩ : ∃ w1, (w.alloc (.cells #[.int .u8 (p).tos, .int .u16 (p).id, .bool (p).keep, .int .u8 (p).ttl, .int .u8 (p).proto, .int .u32 (p).src, .int .u32 (p).dst, .slice A1 n1 c1, .slice (some ⟨b, off, none⟩) n2 c2] 26)).alloc (.cells #[.int .u8 0, .int .u8 0, .int .u32 0, .slice none 0 0] 49) = w1 := ⟨_, rfl⟩
  have P1 : Blk w1 k #[.int .u8 (p).tos, .int .u16 (p).id, .bool (p).keep, .int .u8 (p).ttl, .int .u8 (p).proto, .int .u32 (p).src, .int .u32 (p).dst, .slice A1 n1 c1, .slice (some ⟨b, off, none⟩) n2 c2] 26 := by rw [← hw1]; exact (blk_new w _ _ k hk).alloc _
  have Z1 : Blk w1 (k + 1) #[.int .u8 0, .int .u8 0, .int .u32 0, .slice none 0 0] 49 := by rw [← hw1]; exact blk_new _ _ _ (k + 1) (by simp [hk])
  have R1 : Below w.heap.size w w1 := by rw [← hw1]; (repeat (first | with_reducible exact Below.refl _ _ | with_reducible refine below_drew ?_ | with_reducible refine below_drewN ?_ _ | with_reducible refine below_alloc ?_ (Nat.le_refl _) _ | with_reducible refine Below.setCell ?_ (by first | exact Nat.le_refl _ | (simp only []; omega)) _ | with_reducible assumption))
  have x2 := k2.below R1
  have pc := P1.cell
  have zc := Z1.cell
  go_enter Try.func31, Try.ntmps31
  go_wp2_with (go_at_call 57; ((with_reducible refine (rgood_any (some ⟨b, off, none⟩) n2 c2 p.dat hn2 _ x2).mono ?_); rintro e w2 ⟨he2, hB2⟩); (try rw [h3] at he2); subst he2; have Z2 := Z1.below hB2; have zc2 := Z2.cell)
  have x3 := x2.below hB2
  have T2 := below_then R1 hB2
  have hD := hbD.below T2
  have s2 := T2.size
  have q0 : 0 < n2 := by omega
  have q0' : (0 : Int) < n2 := by omega
  have q1 : (1 : Int) < n2 := by omega
  refine region_txt 10 (by kernel_rfl) (by kernel_rfl) ?_; (iterate 10 (first | (apply ObsK.skip (by rfl)) | (apply ObsK.v (by rfl); (intro wo hT; (repeat (first | (intro v hv; (skip)) | (intro _ _ k; try have hcv := cv k))); (have bo := x3.below hT; have c0 := bo.at_ (j := 0) (by omega); rw [Nat.add_zero] at c0; have c1 := bo.at_ (j := 1) (by omega); have hsz : w2.heap.size ≤ wo.heap.size := hT.size); refine Goes.mk ?_; go_simp; first | exact goes_v | exact goes_b (by assumption) | exact goes_new hsz | (refine goes_enter ?_; first | (go_at_call 56; ((with_reducible refine (rget32_any (some ⟨b, off, none⟩) n2 c2 p.dat 4 wo bo).mono ?_); rintro e w5 ⟨rfl, hD5⟩); exact ret_v hD5.bel)))) | (apply ObsK.b (by rfl); (intro wo hT; (repeat (first | (intro v hv; (skip)) | (intro _ _ k; try have hcv := cv k))); (have bo := x3.below hT; have c0 := bo.at_ (j := 0) (by omega); rw [Nat.add_zero] at c0; have c1 := bo.at_ (j := 1) (by omega); have hsz : w2.heap.size ≤ wo.heap.size := hT.size); refine Goes.mk ?_; go_simp; first | exact goes_v | exact goes_b (by assumption) | exact goes_new hsz | (refine goes_enter ?_; first | (go_at_call 56; ((with_reducible refine (rget32_any (some ⟨b, off, none⟩) n2 c2 p.dat 4 wo bo).mono ?_); rintro e w5 ⟨rfl, hD5⟩); exact ret_v hD5.bel)))) | (apply ObsK.p (q := isNew w2.heap.size _ _) (by rfl) st_isNew; (intro wo hT; (repeat (first | (intro v hv; (skip)) | (intro _ _ k; try have hcv := cv k))); (have bo := x3.below hT; have c0 := bo.at_ (j := 0) (by omega); rw [Nat.add_zero] at c0; have c1 := bo.at_ (j := 1) (by omega); have hsz : w2.heap.size ≤ wo.heap.size := hT.size); refine Goes.mk ?_; go_simp; first | exact goes_v | exact goes_b (by assumption) | exact goes_new hsz | (refine goes_enter ?_; first | (go_at_call 56; ((with_reducible refine (rget32_any (some ⟨b, off, none⟩) n2 c2 p.dat 4 wo bo).mono ?_); rintro e w5 ⟨rfl, hD5⟩); exact ret_v hD5.bel)))))); refine ObsK.nil ?_; intro wz hBz; simp only [finOn, List.drop_succ_cons, List.drop_zero, List.drop_nil]
  rintro vp ⟨g, rfl, gw, G⟩
  go_simp
  obtain ⟨w4, hw4, S4⟩ := store4 G (.int .u8 (bt p.dat 0)) (.int .u8 (bt p.dat 1)) (.int .u32 (get32 p.dat 4)) (.slice none 0 0)
  have zl2 := Z2.lt
  have k2l : w.heap.size ≤ w2.heap.size := s2
  have gc0 := G.cell
  have G4 := S4.blk
  have T4 := S4.bel (below_then T2 hBz) (by omega)
  have Z4 := S4.other (by omega) (Z2.below hBz)
  have D4 := hbD.below T4
  go_wp2_with fail
  clear hw4 S4 gc0 G hBz
  refine region_txt 4 (by kernel_rfl) (by kernel_rfl) ?_; (iterate 4 (first | (apply ObsK.skip (by rfl)) | (apply ObsK.v (by rfl); (intro wo hT; (repeat (first | (intro _ _ k; try have hcv := cv k))); (have gc := (G4.below hT).cell); refine Goes.mk ?_; go_simp; first | exact goes_v | exact goes_b (by assumption) | (refine goes_enter ?_; first | fail))) | (apply ObsK.b (by rfl); (intro wo hT; (repeat (first | (intro _ _ k; try have hcv := cv k))); (have gc := (G4.below hT).cell); refine Goes.mk ?_; go_simp; first | exact goes_v | exact goes_b (by assumption) | (refine goes_enter ?_; first | fail))))); refine ObsK.nil ?_; intro wz hBz; simp only [finOn, List.drop_succ_cons, List.drop_zero, List.drop_nil]
  go_simp
  have G5 := G4.below hBz
  have Z5 := Z4.below hBz
  have T5 := below_then T4 hBz
  have D5 := D4.below hBz
  have gl := G4.lt
  have gs := hBz.size
  go_wp2_with (first
    | (at_builtin; refine wpList_append_bs (w0 := wz) _ rfl _ _ _ rfl wz.heap.size 5 Try.underlying24 info_u8 none 0 0 [] rfl (own_nil _ _ _) A' n' c' _ rfl D5 (Below.refl _ _) (by omega) (by first | exact Nat.le_refl _ | exact Below.size (Below.refl _ _) | omega | (simp <;> omega)) ?_; intro A7 n7 c7 w7 ho7 hB7 _ hz7; have u7 : n7 = n' := (by have := ho7.len; have := D5.len; simp at *; omega); subst u7; replace ho7 : Own w7 wz.heap.size 5 A7 n7 c7 (p.dat.drop 8) := ho7; have G7 := G5.below hB7; have gc7 := G7.cell; (obtain ⟨w8, hw8, S8⟩ := store1 G7 3 (.slice A7 n7 c7)); simp only [List.setIfInBounds_toArray, List.set_cons_zero, List.set_cons_succ] at S8; have gc8 := S8.blk.cell; have Z8 := S8.other (by omega) (Z5.below hB7); have zc8 := Z8.cell; have T8 := S8.bel (below_then T5 hB7) (by omega); have O8 := S8.own ho7 (fun a e => by have := ho7.ge a e; omega)))
  obtain ⟨wf, hwf, Sf⟩ := store4 Z8 (.int .u8 (bt p.dat 0)) (.int .u8 (bt p.dat 1)) (.int .u32 (get32 p.dat 4)) (.slice A7 n7 c7)
  rw [hwf]
  have pf := Sf.blk.cell
  have Of := Sf.own O8 (fun a e => by have := ho7.ge a e; omega)
  have s5 := T5.size
  refine bodyPost_ret (v := .tuple #[.agg #[.int .u8 (bt p.dat 0), .int .u8 (bt p.dat 1), .int .u32 (get32 p.dat 4), .slice A7 n7 c7], .int .i64 0]) (by simp [results, Try.results31, go_sem, pf]) rfl ⟨A7, n7, c7, rfl, Of.mono s5, Sf.bel T8 (by omega)⟩
theorem icE_12 {p : Pkt} (h : p.proto ≠ 1) : icE p = 12 := by unfold icE; rw [if_pos h]
theorem icE_3 {p : Pkt} (h : p.proto = 1) (h2 : (p.dat.length : Int) < 8) : icE p = 3 := by unfold icE; rw [if_neg (by simp [h]), if_pos h2]
theorem icE_5 {p : Pkt} (h : p.proto = 1) (h2 : 8 ≤ (p.dat.length : Int)) (h3 : csum p.dat ≠ 0) : icE p = 5 := by unfold icE; rw [if_neg (by simp [h]), if_neg (by omega), if_pos h3]
theorem icE_0 {p : Pkt} (h : p.proto = 1) (h2 : 8 ≤ (p.dat.length : Int)) (h3 : csum p.dat = 0) : icE p = 0 := by unfold icE; rw [if_neg (by simp [h]), if_neg (by omega), if_neg (by simp [h3])]
theorem icmp_any (p : Pkt) (A1 : Option Addr) (n1 c1 : Nat) (A2 : Option Addr) (n2 c2 : Nat) (w : World) (k2 : Bs w A2 n2 c2 p.dat) :
    Calls Try.prog 41 #[(.agg #[.int .u8 (p).tos, .int .u16 (p).id, .bool (p).keep, .int .u8 (p).ttl, .int .u8 (p).proto, .int .u32 (p).src, .int .u32 (p).dst, .slice A1 n1 c1, .slice A2 n2 c2])] w (MsPost w (icM p) (icE p)) := by
  have l2 := k2.len
  unfold icM
  by_cases h1 : p.proto = 1
  · by_cases h2 : (n2 : Int) < 8
    · rw [icE_3 h1 (by omega), if_neg (by decide)]
      exact icmp_no p A1 n1 c1 A2 n2 c2 w k2 3 (.inr (.inl ⟨rfl, by simp [h1], h2⟩))
    · by_cases h3 : csum p.dat = 0
      · rw [icE_0 h1 (by omega) h3, if_pos rfl]
        exact icmp_ok p A1 n1 c1 A2 n2 c2 w k2 (by simp [h1]) (by omega) (by simp [h3])
      · rw [icE_5 h1 (by omega) h3, if_neg (by decide)]
        exact icmp_no p A1 n1 c1 A2 n2 c2 w k2 5 (.inr (.inr ⟨rfl, by simp [h1], by omega, by simpa using h3⟩))
  · rw [icE_12 h1, if_neg (by decide)]
    exact icmp_no p A1 n1 c1 A2 n2 c2 w k2 12 (.inl ⟨rfl, by simpa using h1⟩)
theorem ricmp_any (p : Pkt) (A1 : Option Addr) (n1 c1 : Nat) (A2 : Option Addr) (n2 c2 : Nat) (w : World) (k2 : Bs w A2 n2 c2 p.dat) (hn2 : n2 ≤ 17592186044416) :
    Calls Try.prog 31 #[(.agg #[.int .u8 (p).tos, .int .u16 (p).id, .bool (p).keep, .int .u8 (p).ttl, .int .u8 (p).proto, .int .u32 (p).src, .int .u32 (p).dst, .slice A1 n1 c1, .slice A2 n2 c2])] w (MsPost w (icM p) (icE p)) := by
  have l2 := k2.len
  unfold icM
  by_cases h1 : p.proto = 1
  · by_cases h2 : (n2 : Int) < 8
    · rw [icE_3 h1 (by omega), if_neg (by decide)]
      exact ricmp_no p A1 n1 c1 A2 n2 c2 w k2 hn2 3 (.inr (.inl ⟨rfl, by simp [h1], h2⟩))
    · by_cases h3 : csum p.dat = 0
      · rw [icE_0 h1 (by omega) h3, if_pos rfl]
        exact ricmp_ok p A1 n1 c1 A2 n2 c2 w k2 hn2 (by simp [h1]) (by omega) (by simp [h3])
      · rw [icE_5 h1 (by omega) h3, if_neg (by decide)]
        exact ricmp_no p A1 n1 c1 A2 n2 c2 w k2 hn2 5 (.inr (.inr ⟨rfl, by simp [h1], by omega, by simpa using h3⟩))
  · rw [icE_12 h1, if_neg (by decide)]
    exact ricmp_no p A1 n1 c1 A2 n2 c2 w k2 hn2 12 (.inl ⟨rfl, by simpa using h1⟩)
end Go.Proofs.Ythgoffbfgdgkpaa

namespace Go.Proofs.Ythgoffbfgdgkpaa
open Go.RowKit
set_option linter.unusedVariables false
set_option linter.unusedSimpArgs false
set_option maxHeartbeats 4000000
set_option maxRecDepth 100000

structure Frm where
  call : Int
  hs : Bool
  ha : Bool
  seq : Int
  ack : Int
  dat : List UInt8
structure Frm.Ok (f : Frm) : Prop where
  call : 0 ≤ f.call ∧ f.call ≤ 65535
  seq : 0 ≤ f.seq ∧ f.seq ≤ 4294967295
  ack : 0 ≤ f.ack ∧ f.ack ≤ 4294967295
def zF : Frm := ⟨0, false, false, 0, 0, []⟩
def b0F (s : Bool) : Int := if s then 48 else 32
def b1F (a : Bool) : Int := if a then 129 else 1
def grB (s a : Bool) : List UInt8 := [ub (b0F s), ub (b1F a), ub 136, ub 11]
theorem begin_any (s a : Bool) (w : World) :
    Calls Try.prog 82 #[.bool s, .bool a] w fun e w' => e = .returned (.agg #[.int .u8 (b0F s), .int .u8 (b1F a), .int .u8 136, .int .u8 11]) ∧ Below w.heap.size w w' := by
  have h1 : bits .or .u8 32 16 = 48 := by decide
  have h2 : bits .or .u8 1 128 = 129 := by decide
  cases s <;> cases a
  all_goals go_enter Try.func82, Try.ntmps82
  all_goals go_wp2_with fail
  all_goals first
    | exact bodyPost_ret (v := .agg #[.int .u8 32, .int .u8 1, .int .u8 136, .int .u8 11]) (by simp [results, Try.results82, go_sem]) rfl ⟨rfl, by (repeat (first | with_reducible exact Below.refl _ _ | with_reducible refine below_drew ?_ | with_reducible refine below_drewN ?_ _ | with_reducible refine below_alloc ?_ (Nat.le_refl _) _ | with_reducible refine Below.setCell ?_ (by first | exact Nat.le_refl _ | (simp only []; omega)) _ | with_reducible assumption))⟩
    | exact bodyPost_ret (v := .agg #[.int .u8 48, .int .u8 1, .int .u8 136, .int .u8 11]) (by simp [results, Try.results82, go_sem]) rfl ⟨rfl, by (repeat (first | with_reducible exact Below.refl _ _ | with_reducible refine below_drew ?_ | with_reducible refine below_drewN ?_ _ | with_reducible refine below_alloc ?_ (Nat.le_refl _) _ | with_reducible refine Below.setCell ?_ (by first | exact Nat.le_refl _ | (simp only []; omega)) _ | with_reducible assumption))⟩
    | exact bodyPost_ret (v := .agg #[.int .u8 32, .int .u8 129, .int .u8 136, .int .u8 11]) (by simp [results, Try.results82, go_sem]) rfl ⟨rfl, by (repeat (first | with_reducible exact Below.refl _ _ | with_reducible refine below_drew ?_ | with_reducible refine below_drewN ?_ _ | with_reducible refine below_alloc ?_ (Nat.le_refl _) _ | with_reducible refine Below.setCell ?_ (by first | exact Nat.le_refl _ | (simp only []; omega)) _ | with_reducible assumption))⟩
    | exact bodyPost_ret (v := .agg #[.int .u8 48, .int .u8 129, .int .u8 136, .int .u8 11]) (by simp [results, Try.results82, go_sem]) rfl ⟨rfl, by (repeat (first | with_reducible exact Below.refl _ _ | with_reducible refine below_drew ?_ | with_reducible refine below_drewN ?_ _ | with_reducible refine below_alloc ?_ (Nat.le_refl _) _ | with_reducible refine Below.setCell ?_ (by first | exact Nat.le_refl _ | (simp only []; omega)) _ | with_reducible assumption))⟩
end Go.Proofs.Ythgoffbfgdgkpaa

namespace Go.Proofs.Ythgoffbfgdgkpaa
open Go.RowKit
set_option linter.unusedVariables false
set_option linter.unusedSimpArgs false
set_option linter.unusedSimpArgs false
set_option maxHeartbeats 4000000
set_option maxRecDepth 100000

theorem isCat2 {W0 : World} {g n1 c1 n2 c2 cc : Nat} {A1 A2 : Option Addr} {l1 l2 : List UInt8} {T : TypeId} (G : Blk W0 g #[.slice A1 n1 c1, .slice A2 n2 c2] T) (k1 : Bs W0 A1 n1 c1 l1) (k2 : Bs W0 A2 n2 c2 l2) (h : n1 + n2 ≤ 200000000000000) :
    isCat (.slice (some ⟨g, 0, none⟩) 2 cc) (l1 ++ l2) W0 := by
  intro W hB
  have G' := G.below hB
  have gc := G'.cell.1
  have := concat_any g 2 cc (fun j => if j = 0 then A1 else A2) (fun j => if j = 0 then n1 else n2) (fun j => if j = 0 then c1 else c2) (fun j => if j = 0 then l1 else l2) (by omega) W G'.lt (fun j hj => by
      rw [gc]
      have : j = 0 ∨ j = 1 := by omega
      rcases this with rfl | rfl <;> rfl) (fun j hj => by
      have : j = 0 ∨ j = 1 := by omega
      rcases this with rfl | rfl
      · exact k1.below hB
      · exact k2.below hB) (by simp [catN]; omega)
  exact this
end Go.Proofs.Ythgoffbfgdgkpaa

namespace Go.Proofs.Ythgoffbfgdgkpaa
open Go.RowKit
set_option linter.unusedVariables false
set_option linter.unusedSimpArgs false
set_option maxHeartbeats 4000000
set_option maxRecDepth 100000

def gH (f : Frm) : List UInt8 := grB f.hs f.ha ++ two ((f.dat.length : Int) % 65536) ++ two f.call ++ (if f.hs then four f.seq else []) ++ (if f.ha then four f.ack else [])
def gL (f : Frm) : List UInt8 := gH f ++ f.dat
def gN (f : Frm) : Nat := 8 + (if f.hs then 4 else 0) + (if f.ha then 4 else 0) + f.dat.length
theorem gL_len (f : Frm) : (gL f).length = gN f := by
  unfold gL gH gN grB two four
  cases f.hs <;> cases f.ha <;> simp <;> omega
def gBad (f : Frm) : Bool := (!f.hs && f.seq != 0) || (!f.ha && f.ack != 0)
def bgE (p : Pkt) (f : Frm) : Int := if gBad f then 4 else wiE p (gN f)
def bgP (p : Pkt) (f : Frm) : Pkt := if gBad f then zP else withP p 47 (gL f)
theorem app_first (w : World) (g : Nat) (a b : Int) (a0 : 0 ≤ a) (a1 : a ≤ 255) (b0 : 0 ≤ b) (b1 : b ≤ 255) (G : Blk w g #[.int .u8 a, .int .u8 b, .int .u8 136, .int .u8 11] 120) :
    ∃ A c w', (Builtin.append_ #[24, 3] 24 #[.slice (some ⟨g, 0, none⟩) 4 4, .int .i64 4]).run Try.prog w = .ok (.slice A 8 c) w' ∧ Own w' w.heap.size 5 A 8 c ([ub a, ub b, ub 136, ub 11] ++ [0, 0, 0, 0]) ∧ Below w.heap.size w w' := by
  obtain ⟨i8, hi8, hz8, hs8, hb8⟩ := info_parts info_u8
  have gc := G.cell.1
  have hold : (Builtin.firstCells i8.size 4 (.slice (some ⟨g, 0, none⟩) 4 4)).run Try.prog w.drew = .ok [Value.int .u8 a, .int .u8 b, .int .u8 136, .int .u8 11].toArray w.drew := by
    refine run_firstCells_some (P := Try.prog) w.drew i8.size 4 ⟨g, 0, none⟩ 4 4 [.int .u8 a, .int .u8 b, .int .u8 136, .int .u8 11] (by rw [hs8]; rfl) fun j u hj => ?_
    have hc : w.drew.cell? ((⟨g, 0, none⟩ : Addr).add j) = w.cell? ⟨g, j, none⟩ := by
      have : (⟨g, 0, none⟩ : Addr).add j = ⟨g, j, none⟩ := by unfold Addr.add; split <;> simp_all
      rw [this]; rfl
    rw [hc, gc]
    simpa using hj
  have hr := Lib.run_append_grow_zeros (P := Try.prog) w 24 3 24 5 i8 (.int .u8 0) .i64 .i64 Try.underlying24 Try.underlying3 hi8 hz8 (some ⟨g, 0, none⟩) 4 4 _ hold 4 (by omega) (by omega) (by omega) (by omega) (by omega) (growslice_fits_wide (by omega) (by rw [hb8]; omega))
  have hge : 8 ≤ grownCap w 8 4 5 := grownCap_ge w 8 4 5
  have hcu : ([Value.int .u8 a, .int .u8 b, .int .u8 136, .int .u8 11] ++ [.int .u8 0, .int .u8 0, .int .u8 0, .int .u8 0]) = cu ([ub a, ub b, ub 136, ub 11] ++ [0, 0, 0, 0]) := by
    simp [cu, ub_val]; omega
  refine ⟨_, _, _, hr, ⟨rfl, by omega, ⟨by rw [cu_length]; rfl, .inr ⟨w.heap.size, _, _, rfl, Nat.le_refl _, heap_alloc_new w.drew _, hge, grownCap_le_maxLen w (4 + 4) 4 5 (by simp only [maxLen]; omega), ?_, ?_⟩⟩⟩, (Below.drew (Below.refl _ w)).alloc (Nat.le_refl _) _⟩
  · simp [Array.size_append, size_zeroCells, Value.cells]; omega
  · rw [← hcu]
    have hz4 : Builtin.zeroCells (Value.int .u8 0).cells 4 = #[.int .u8 0, .int .u8 0, .int .u8 0, .int .u8 0] := by
      apply Array.ext'
      simp [Builtin.zeroCells, Value.cells, Nat.mod_one, Array.toList_range, List.range_succ]
    simp only [hz4, Array.toList_append, List.append_assoc]
    rfl
theorem b0F_bd (s : Bool) : 0 ≤ b0F s ∧ b0F s ≤ 255 := by cases s <;> decide
theorem b1F_bd (s : Bool) : 0 ≤ b1F s ∧ b1F s ≤ 255 := by cases s <;> decide
theorem bg_bad' (p : Pkt) (A1 : Option Addr) (n1 c1 : Nat) (A2 : Option Addr) (n2 c2 : Nat) (call : Int) (hs ha : Bool) (seq ack : Int) (dat : List UInt8) (B1 : Option Addr) (m1 d1 : Nat) (w : World) (k1 : Bs w A1 n1 c1 p.opt) (j1 : Bs w B1 m1 d1 dat)
    (h : (hs = false ∧ (seq != 0) = true) ∨ ((hs = true ∨ (seq != 0) = false) ∧ ha = false ∧ (ack != 0) = true)) :
    Calls Try.prog 74 #[(.agg #[.int .u8 (p).tos, .int .u16 (p).id, .bool (p).keep, .int .u8 (p).ttl, .int .u8 (p).proto, .int .u32 (p).src, .int .u32 (p).dst, .slice A1 n1 c1, .slice A2 n2 c2]), .agg #[.int .u16 call, .bool hs, .bool ha, .int .u32 seq, .int .u32 ack, .slice B1 m1 d1]] w (WiPost w zP 4) := by
  obtain ⟨k, hk⟩ : ∃ k : Nat, w.heap.size = k := ⟨_, rfl⟩
  obtain ⟨w1, hw1⟩ : ∃ w1, ((w.alloc (.cells #[.int .u8 (p).tos, .int .u16 (p).id, .bool (p).keep, .int .u8 (p).ttl, .int .u8 (p).proto, .int .u32 (p).src, .int .u32 (p).dst, .slice A1 n1 c1, .slice A2 n2 c2] 26)).alloc (.cells #[.int .u16 call, .bool hs, .bool ha, .int .u32 seq, .int .u32 ack, .slice B1 m1 d1] 52)).alloc (.cells #[.int .u8 0, .int .u16 0, .bool false, .int .u8 0, .int .u8 0, .int .u32 0, .int .u32 0, .slice none 0 0, .slice none 0 0] 26) = w1 := ⟨_, rfl⟩
  have P1 : Blk w1 k #[.int .u8 (p).tos, .int .u16 (p).id, .bool (p).keep, .int .u8 (p).ttl, .int .u8 (p).proto, .int .u32 (p).src, .int .u32 (p).dst, .slice A1 n1 c1, .slice A2 n2 c2] 26 := by rw [← hw1]; exact ((blk_new w _ _ k hk).alloc _).alloc _
  have F1 : Blk w1 (k + 1) #[.int .u16 call, .bool hs, .bool ha, .int .u32 seq, .int .u32 ack, .slice B1 m1 d1] 52 := by rw [← hw1]; exact (blk_new _ _ _ (k + 1) (by simp [hk])).alloc _
  have Z1 : Blk w1 (k + 1 + 1) #[.int .u8 0, .int .u16 0, .bool false, .int .u8 0, .int .u8 0, .int .u32 0, .int .u32 0, .slice none 0 0, .slice none 0 0] 26 := by rw [← hw1]; exact blk_new _ _ _ (k + 1 + 1) (by simp [hk])
  have R1 : Below w.heap.size w w1 := by rw [← hw1]; (repeat (first | with_reducible exact Below.refl _ _ | with_reducible refine below_drew ?_ | with_reducible refine below_drewN ?_ _ | with_reducible refine below_alloc ?_ (Nat.le_refl _) _ | with_reducible refine Below.setCell ?_ (by first | exact Nat.le_refl _ | (simp only []; omega)) _ | with_reducible assumption))
  have x1 := k1.below R1
  have y1 := j1.below R1
  have pc := P1.cell
  have mc := F1.cell
  have zc := Z1.cell
  have kl1 := P1.lt
  have ml1 := F1.lt
  obtain ⟨wf, hwf, Sf⟩ := store9 Z1 (.int .u8 0) (.int .u16 0) (.bool false) (.int .u8 0) (.int .u8 0) (.int .u32 0) (.int .u32 0) (.slice none 0 0) (.slice none 0 0)
  have pf := Sf.blk.cell
  have Tf := Sf.bel R1 (by omega)
  have h0 : hs = false ∨ hs = true := by cases hs <;> simp
  rcases h with ⟨h1, h2⟩ | ⟨h1 | h1, h2, h3⟩
  · subst h1
    go_enter Try.func74, Try.ntmps74
    go_wp2_with fail
    exact bodyPost_ret (by simp [results, Try.results74, go_sem, pf]) rfl (wiPost_no Tf)
  · subst h1 h2
    go_enter Try.func74, Try.ntmps74
    go_wp2_with fail
    exact bodyPost_ret (by simp [results, Try.results74, go_sem, pf]) rfl (wiPost_no Tf)
  · subst h2
    rcases h0 with h0 | h0
    all_goals subst h0
    all_goals go_enter Try.func74, Try.ntmps74
    all_goals go_wp2_with fail
    all_goals exact bodyPost_ret (by simp [results, Try.results74, go_sem, pf]) rfl (wiPost_no Tf)
theorem gBad_iff {f : Frm} (h : gBad f = true) : (f.hs = false ∧ (f.seq != 0) = true) ∨ ((f.hs = true ∨ (f.seq != 0) = false) ∧ f.ha = false ∧ (f.ack != 0) = true) := by
  unfold gBad at h
  revert h
  cases f.hs <;> cases f.ha <;> cases (f.seq != 0) <;> cases (f.ack != 0) <;> simp
theorem bg_bad (p : Pkt) (A1 : Option Addr) (n1 c1 : Nat) (A2 : Option Addr) (n2 c2 : Nat) (f : Frm) (B1 : Option Addr) (m1 d1 : Nat) (w : World) (k1 : Bs w A1 n1 c1 p.opt) (j1 : Bs w B1 m1 d1 f.dat) (h : gBad f = true) :
    Calls Try.prog 74 #[(.agg #[.int .u8 (p).tos, .int .u16 (p).id, .bool (p).keep, .int .u8 (p).ttl, .int .u8 (p).proto, .int .u32 (p).src, .int .u32 (p).dst, .slice A1 n1 c1, .slice A2 n2 c2]), (.agg #[.int .u16 (f).call, .bool (f).hs, .bool (f).ha, .int .u32 (f).seq, .int .u32 (f).ack, .slice B1 m1 d1])] w (WiPost w zP 4) :=
  bg_bad' p A1 n1 c1 A2 n2 c2 f.call f.hs f.ha f.seq f.ack f.dat B1 m1 d1 w k1 j1 (gBad_iff h)
end Go.Proofs.Ythgoffbfgdgkpaa

