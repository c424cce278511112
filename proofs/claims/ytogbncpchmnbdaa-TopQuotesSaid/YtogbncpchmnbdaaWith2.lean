/- ctrl.with: a packet with other data. -/
import Derived.Test.YtogbncpchmnbdaaWith
namespace Go.Proofs.Ytogbncpchmnbdaa
open Go.RowKit
set_option linter.unusedVariables false
set_option linter.unusedSimpArgs false
set_option maxHeartbeats 4000000
set_option maxRecDepth 100000

theorem store478 {W : World} {r : Nat} {c0 c1 c2 c3 c4 c5 c6 c7 c8 : Value} {t : TypeId} (R : Blk W r #[c0, c1, c2, c3, c4, c5, c6, c7, c8] t) (v4 v7 v8 : Value) :
    ∃ wf, (((W.setCell ⟨r, 4, none⟩ v4).setCell ⟨r, 7, none⟩ v7).setCell ⟨r, 8, none⟩ v8) = wf ∧ Sto W r wf #[c0, c1, c2, c3, v4, c5, c6, v7, v8] t := by
  have h := (((Sto.nil R).set 4 v4).set 7 v7).set 8 v8
  simp only [List.setIfInBounds_toArray, List.set_cons_zero, List.set_cons_succ] at h
  exact ⟨_, rfl, h⟩
def isCat (lv : Value) (d : List UInt8) (w : World) : Prop := ∀ W, Below w.heap.size w W → Calls Try.prog 60 #[lv] W fun e w' => ∃ A n c, e = .returned (.slice A n c) ∧ Own w' W.heap.size 5 A n c d ∧ Below W.heap.size W w'
theorem with_no (fn : List UInt8) (p : Pkt) (A1 : Option Addr) (n1 c1 : Nat) (A2 : Option Addr) (n2 c2 : Nat) (pr : Int) (lv : Value) (d : List UInt8) (nd : Nat) (hd : d.length = nd) (w : World) (k1 : Bs w A1 n1 c1 p.opt) (hcc : isCat lv d w) (b3 : nd ≤ 200000000000000) (E : Int)
    (h : (E = 4 ∧ 40 < (n1 : Int)) ∨ (E = 4 ∧ (n1 : Int) ≤ 40 ∧ ((n1 : Int) % 4 != 0) = true) ∨ (E = 8 ∧ (n1 : Int) ≤ 40 ∧ ((n1 : Int) % 4 != 0) = false ∧ rightP { p with proto := pr, dat := d } = false)) :
    Calls Try.prog 38 #[(.agg #[.int .u8 (p).tos, .int .u16 (p).id, .bool (p).keep, .int .u8 (p).ttl, .int .u8 (p).proto, .int .u32 (p).src, .int .u32 (p).dst, .slice A1 n1 c1, .slice A2 n2 c2]), .int .u8 pr, lv] w (WiPost w zP E) := by
  have b1 := k1.max
  have HD := Lib.hid hd
  have hc2 : ∀ W, Below w.heap.size w W → Calls Try.prog 60 #[lv] W fun e w' => ∃ A n c, e = .returned (.slice A n c) ∧ Own w' W.heap.size 5 A n c d ∧ Below W.heap.size W w' := hcc
  clear hd hcc
  obtain ⟨k, hk⟩ : ∃ k : Nat, w.heap.size = k := ⟨_, rfl⟩
  obtain ⟨w1, hw1⟩ : ∃ w1, (w.alloc (.cells #[.int .u8 (p).tos, .int .u16 (p).id, .bool (p).keep, .int .u8 (p).ttl, .int .u8 (p).proto, .int .u32 (p).src, .int .u32 (p).dst, .slice A1 n1 c1, .slice A2 n2 c2] 26)).alloc (.cells #[.int .u8 0, .int .u16 0, .bool false, .int .u8 0, .int .u8 0, .int .u32 0, .int .u32 0, .slice none 0 0, .slice none 0 0] 26) = w1 := ⟨_, rfl⟩
  have P1 : Blk w1 k #[.int .u8 (p).tos, .int .u16 (p).id, .bool (p).keep, .int .u8 (p).ttl, .int .u8 (p).proto, .int .u32 (p).src, .int .u32 (p).dst, .slice A1 n1 c1, .slice A2 n2 c2] 26 := by rw [← hw1]; exact (blk_new w _ _ k hk).alloc _
  have Z1 : Blk w1 (k + 1) #[.int .u8 0, .int .u16 0, .bool false, .int .u8 0, .int .u8 0, .int .u32 0, .int .u32 0, .slice none 0 0, .slice none 0 0] 26 := by rw [← hw1]; exact blk_new _ _ _ (k + 1) (by simp [hk])
  have R1 : Below w.heap.size w w1 := by rw [← hw1]; (repeat (first | with_reducible exact Below.refl _ _ | with_reducible refine below_drew ?_ | with_reducible refine below_drewN ?_ _ | with_reducible refine below_alloc ?_ (Nat.le_refl _) _ | with_reducible refine Below.setCell ?_ (by first | exact Nat.le_refl _ | (simp only []; omega)) _ | with_reducible assumption))
  have x1 := k1.below R1
  have pc := P1.cell
  rcases h with ⟨rfl, h1⟩ | ⟨rfl, h1, h2⟩ | ⟨rfl, h1, h2, h3⟩
  · go_enter Try.func38, Try.ntmps38
    have HR : Hid (rightP { p with proto := pr, dat := d } = rightP { p with proto := pr, dat := d }) := rfl
    go_wp2_with (first
    | (go_at_call 51; ((with_reducible refine (clone_any A1 n1 c1 p.opt _ x1).mono ?_); rintro e w2 ⟨A4, c4, rfl, ho4, hB2⟩); have s2 := hB2.size; have T2 := below_then R1 hB2)
    | (go_at_call 60; ((with_reducible refine (hc2 _ T2).mono ?_); rintro e w3 ⟨A6, n6, c6, rfl, ho6, hB3⟩); have u6 : n6 = nd := (by rw [← ho6.len]; exact HD.out); subst u6; have P3 := (P1.below hB2).below hB3; have pc3 := P3.cell; have Z3 := (Z1.below hB2).below hB3; have O4 := ho4.below hB3; (obtain ⟨w5, hw5, S5⟩ := store478 P3 (.int .u8 pr) (.slice A4 n1 c4) (.slice A6 n6 c6)); have pc5 := S5.blk.cell; have T5 := S5.bel (below_then T2 hB3) (by omega); have Z5 := S5.other (by omega) Z3; have zc5 := Z5.cell; have O5 := S5.own O4 (fun a e => by have := O4.ge a e; have := P1.lt; omega); have D5 := S5.own ho6 (fun a e => by have := ho6.ge a e; have := P1.lt; omega))
    | (go_at_call 61; ((with_reducible refine (right_any { p with proto := pr, dat := d } A4 n1 c4 A6 n6 c6 w5 O5.bs D5.bs).mono ?_); rintro e w6 ⟨he6, hB6⟩); rw [HR.out] at he6; subst he6; have pc6 := (S5.blk.below hB6).cell; have Z6 := Z5.below hB6; have zc6 := Z6.cell; have T6 := below_then T5 hB6))
    obtain ⟨wf, hwf, Sf⟩ := store9 Z5 (.int .u8 0) (.int .u16 0) (.bool false) (.int .u8 0) (.int .u8 0) (.int .u32 0) (.int .u32 0) (.slice none 0 0) (.slice none 0 0)
    rw [hwf]
    have pf := Sf.blk.cell
    exact bodyPost_ret (by simp [results, Try.results38, go_sem, pf]) rfl (wiPost_no (Sf.bel T5 (by omega)))
  · go_enter Try.func38, Try.ntmps38
    have HR : Hid (rightP { p with proto := pr, dat := d } = rightP { p with proto := pr, dat := d }) := rfl
    go_wp2_with (first
    | (go_at_call 51; ((with_reducible refine (clone_any A1 n1 c1 p.opt _ x1).mono ?_); rintro e w2 ⟨A4, c4, rfl, ho4, hB2⟩); have s2 := hB2.size; have T2 := below_then R1 hB2)
    | (go_at_call 60; ((with_reducible refine (hc2 _ T2).mono ?_); rintro e w3 ⟨A6, n6, c6, rfl, ho6, hB3⟩); have u6 : n6 = nd := (by rw [← ho6.len]; exact HD.out); subst u6; have P3 := (P1.below hB2).below hB3; have pc3 := P3.cell; have Z3 := (Z1.below hB2).below hB3; have O4 := ho4.below hB3; (obtain ⟨w5, hw5, S5⟩ := store478 P3 (.int .u8 pr) (.slice A4 n1 c4) (.slice A6 n6 c6)); have pc5 := S5.blk.cell; have T5 := S5.bel (below_then T2 hB3) (by omega); have Z5 := S5.other (by omega) Z3; have zc5 := Z5.cell; have O5 := S5.own O4 (fun a e => by have := O4.ge a e; have := P1.lt; omega); have D5 := S5.own ho6 (fun a e => by have := ho6.ge a e; have := P1.lt; omega))
    | (go_at_call 61; ((with_reducible refine (right_any { p with proto := pr, dat := d } A4 n1 c4 A6 n6 c6 w5 O5.bs D5.bs).mono ?_); rintro e w6 ⟨he6, hB6⟩); rw [HR.out] at he6; subst he6; have pc6 := (S5.blk.below hB6).cell; have Z6 := Z5.below hB6; have zc6 := Z6.cell; have T6 := below_then T5 hB6))
    obtain ⟨wf, hwf, Sf⟩ := store9 Z5 (.int .u8 0) (.int .u16 0) (.bool false) (.int .u8 0) (.int .u8 0) (.int .u32 0) (.int .u32 0) (.slice none 0 0) (.slice none 0 0)
    rw [hwf]
    have pf := Sf.blk.cell
    exact bodyPost_ret (by simp [results, Try.results38, go_sem, pf]) rfl (wiPost_no (Sf.bel T5 (by omega)))
  · go_enter Try.func38, Try.ntmps38
    have HR := Lib.hid h3
    clear h3
    go_wp2_with (first
    | (go_at_call 51; ((with_reducible refine (clone_any A1 n1 c1 p.opt _ x1).mono ?_); rintro e w2 ⟨A4, c4, rfl, ho4, hB2⟩); have s2 := hB2.size; have T2 := below_then R1 hB2)
    | (go_at_call 60; ((with_reducible refine (hc2 _ T2).mono ?_); rintro e w3 ⟨A6, n6, c6, rfl, ho6, hB3⟩); have u6 : n6 = nd := (by rw [← ho6.len]; exact HD.out); subst u6; have P3 := (P1.below hB2).below hB3; have pc3 := P3.cell; have Z3 := (Z1.below hB2).below hB3; have O4 := ho4.below hB3; (obtain ⟨w5, hw5, S5⟩ := store478 P3 (.int .u8 pr) (.slice A4 n1 c4) (.slice A6 n6 c6)); have pc5 := S5.blk.cell; have T5 := S5.bel (below_then T2 hB3) (by omega); have Z5 := S5.other (by omega) Z3; have zc5 := Z5.cell; have O5 := S5.own O4 (fun a e => by have := O4.ge a e; have := P1.lt; omega); have D5 := S5.own ho6 (fun a e => by have := ho6.ge a e; have := P1.lt; omega))
    | (go_at_call 61; ((with_reducible refine (right_any { p with proto := pr, dat := d } A4 n1 c4 A6 n6 c6 w5 O5.bs D5.bs).mono ?_); rintro e w6 ⟨he6, hB6⟩); rw [HR.out] at he6; subst he6; have pc6 := (S5.blk.below hB6).cell; have Z6 := Z5.below hB6; have zc6 := Z6.cell; have T6 := below_then T5 hB6))
    obtain ⟨wf, hwf, Sf⟩ := store9 Z6 (.int .u8 0) (.int .u16 0) (.bool false) (.int .u8 0) (.int .u8 0) (.int .u32 0) (.int .u32 0) (.slice none 0 0) (.slice none 0 0)
    rw [hwf]
    have pf := Sf.blk.cell
    exact bodyPost_ret (by simp [results, Try.results38, go_sem, pf]) rfl (wiPost_no (Sf.bel T6 (by omega)))
theorem with_ok (p : Pkt) (A1 : Option Addr) (n1 c1 : Nat) (A2 : Option Addr) (n2 c2 : Nat) (pr : Int) (lv : Value) (d : List UInt8) (nd : Nat) (hd : d.length = nd) (w : World) (k1 : Bs w A1 n1 c1 p.opt) (hcc : isCat lv d w) (b3 : nd ≤ 200000000000000)
    (h1 : (n1 : Int) ≤ 40) (h2 : ((n1 : Int) % 4 != 0) = false) (h3 : rightP { p with proto := pr, dat := d } = true) :
    Calls Try.prog 38 #[(.agg #[.int .u8 (p).tos, .int .u16 (p).id, .bool (p).keep, .int .u8 (p).ttl, .int .u8 (p).proto, .int .u32 (p).src, .int .u32 (p).dst, .slice A1 n1 c1, .slice A2 n2 c2]), .int .u8 pr, lv] w (WiPost w { p with proto := pr, dat := d } 0) := by
  have b1 := k1.max
  have HD := Lib.hid hd
  have hc2 : ∀ W, Below w.heap.size w W → Calls Try.prog 60 #[lv] W fun e w' => ∃ A n c, e = .returned (.slice A n c) ∧ Own w' W.heap.size 5 A n c d ∧ Below W.heap.size W w' := hcc
  clear hd hcc
  obtain ⟨k, hk⟩ : ∃ k : Nat, w.heap.size = k := ⟨_, rfl⟩
  obtain ⟨w1, hw1⟩ : ∃ w1, (w.alloc (.cells #[.int .u8 (p).tos, .int .u16 (p).id, .bool (p).keep, .int .u8 (p).ttl, .int .u8 (p).proto, .int .u32 (p).src, .int .u32 (p).dst, .slice A1 n1 c1, .slice A2 n2 c2] 26)).alloc (.cells #[.int .u8 0, .int .u16 0, .bool false, .int .u8 0, .int .u8 0, .int .u32 0, .int .u32 0, .slice none 0 0, .slice none 0 0] 26) = w1 := ⟨_, rfl⟩
  have P1 : Blk w1 k #[.int .u8 (p).tos, .int .u16 (p).id, .bool (p).keep, .int .u8 (p).ttl, .int .u8 (p).proto, .int .u32 (p).src, .int .u32 (p).dst, .slice A1 n1 c1, .slice A2 n2 c2] 26 := by rw [← hw1]; exact (blk_new w _ _ k hk).alloc _
  have Z1 : Blk w1 (k + 1) #[.int .u8 0, .int .u16 0, .bool false, .int .u8 0, .int .u8 0, .int .u32 0, .int .u32 0, .slice none 0 0, .slice none 0 0] 26 := by rw [← hw1]; exact blk_new _ _ _ (k + 1) (by simp [hk])
  have R1 : Below w.heap.size w w1 := by rw [← hw1]; (repeat (first | with_reducible exact Below.refl _ _ | with_reducible refine below_drew ?_ | with_reducible refine below_drewN ?_ _ | with_reducible refine below_alloc ?_ (Nat.le_refl _) _ | with_reducible refine Below.setCell ?_ (by first | exact Nat.le_refl _ | (simp only []; omega)) _ | with_reducible assumption))
  have x1 := k1.below R1
  have pc := P1.cell
  go_enter Try.func38, Try.ntmps38
  have HR := Lib.hid h3
  clear h3
  go_wp2_with (first
    | (go_at_call 51; ((with_reducible refine (clone_any A1 n1 c1 p.opt _ x1).mono ?_); rintro e w2 ⟨A4, c4, rfl, ho4, hB2⟩); have s2 := hB2.size; have T2 := below_then R1 hB2)
    | (go_at_call 60; ((with_reducible refine (hc2 _ T2).mono ?_); rintro e w3 ⟨A6, n6, c6, rfl, ho6, hB3⟩); have u6 : n6 = nd := (by rw [← ho6.len]; exact HD.out); subst u6; have P3 := (P1.below hB2).below hB3; have pc3 := P3.cell; have Z3 := (Z1.below hB2).below hB3; have O4 := ho4.below hB3; (obtain ⟨w5, hw5, S5⟩ := store478 P3 (.int .u8 pr) (.slice A4 n1 c4) (.slice A6 n6 c6)); have pc5 := S5.blk.cell; have T5 := S5.bel (below_then T2 hB3) (by omega); have Z5 := S5.other (by omega) Z3; have zc5 := Z5.cell; have O5 := S5.own O4 (fun a e => by have := O4.ge a e; have := P1.lt; omega); have D5 := S5.own ho6 (fun a e => by have := ho6.ge a e; have := P1.lt; omega))
    | (go_at_call 61; ((with_reducible refine (right_any { p with proto := pr, dat := d } A4 n1 c4 A6 n6 c6 w5 O5.bs D5.bs).mono ?_); rintro e w6 ⟨he6, hB6⟩); rw [HR.out] at he6; subst he6; have pc6 := (S5.blk.below hB6).cell; have Z6 := Z5.below hB6; have zc6 := Z6.cell; have T6 := below_then T5 hB6))
  obtain ⟨wf, hwf, Sf⟩ := store9 Z6 (.int .u8 p.tos) (.int .u16 p.id) (.bool p.keep) (.int .u8 p.ttl) (.int .u8 pr) (.int .u32 p.src) (.int .u32 p.dst) (.slice A4 n1 c4) (.slice A6 n6 c6)
  rw [hwf]
  have pf := Sf.blk.cell
  have zl := Z1.lt
  have O6 := O5.below hB6
  have D6 := D5.below hB6
  have Of := Sf.own O6 (fun a e => by have := O6.ge a e; omega)
  have Df := Sf.own D6 (fun a e => by have := D6.ge a e; omega)
  have r1 := R1.size
  refine bodyPost_ret (v := .tuple #[.agg #[.int .u8 p.tos, .int .u16 p.id, .bool p.keep, .int .u8 p.ttl, .int .u8 pr, .int .u32 p.src, .int .u32 p.dst, .slice A4 n1 c4, .slice A6 n6 c6], .int .i64 0]) (by simp [results, Try.results38, go_sem, pf]) rfl ⟨A4, n1, c4, A6, n6, c6, rfl, Of.mono (by omega), Df.mono (by omega), Sf.bel T6 (by omega)⟩
theorem with_any (p : Pkt) (A1 : Option Addr) (n1 c1 : Nat) (A2 : Option Addr) (n2 c2 : Nat) (pr : Int) (lv : Value) (d : List UInt8) (w : World) (k1 : Bs w A1 n1 c1 p.opt) (hcc : isCat lv d w) (b3 : d.length ≤ 200000000000000) :
    Calls Try.prog 38 #[(.agg #[.int .u8 (p).tos, .int .u16 (p).id, .bool (p).keep, .int .u8 (p).ttl, .int .u8 (p).proto, .int .u32 (p).src, .int .u32 (p).dst, .slice A1 n1 c1, .slice A2 n2 c2]), .int .u8 pr, lv] w (WiPost w (withP p pr d) (wiE p d.length)) := by
  have l1 := k1.len
  unfold withP
  by_cases h1 : (n1 : Int) ≤ 40
  · by_cases h2 : n1 % 4 = 0
    · by_cases h3 : 20 + (n1 : Int) + (d.length : Int) ≤ 65535
      · rw [wiE_0 l1 h1 h2 h3, if_pos rfl]
        exact with_ok p A1 n1 c1 A2 n2 c2 pr lv d d.length rfl w k1 hcc b3 h1 (m4_no h2) (by unfold rightP; simp [l1]; omega)
      · rw [wiE_8 l1 h1 h2 (by omega), if_neg (by decide)]
        exact with_no [] p A1 n1 c1 A2 n2 c2 pr lv d d.length rfl w k1 hcc b3 8 (.inr (.inr ⟨rfl, h1, m4_no h2, by unfold rightP; simp [l1]; omega⟩))
    · rw [wiE_4 l1 (.inr h2), if_neg (by decide)]
      exact with_no [] p A1 n1 c1 A2 n2 c2 pr lv d d.length rfl w k1 hcc b3 4 (.inr (.inl ⟨rfl, h1, m4_yes h2⟩))
  · rw [wiE_4 l1 (.inl (by omega)), if_neg (by decide)]
    exact with_no [] p A1 n1 c1 A2 n2 c2 pr lv d d.length rfl w k1 hcc b3 4 (.inl ⟨rfl, by omega⟩)
/-- A packet and an error; a packet: with rows of the call's own. -/
def isTup (B : Nat) (P : Pkt) (E : Int) : World → Value → Prop := fun W v => ∃ C1 e1 f1 C2 e2 f2, v = .tuple #[(.agg #[.int .u8 (P).tos, .int .u16 (P).id, .bool (P).keep, .int .u8 (P).ttl, .int .u8 (P).proto, .int .u32 (P).src, .int .u32 (P).dst, .slice C1 e1 f1, .slice C2 e2 f2]), .int .i64 E] ∧ Own W B 5 C1 e1 f1 P.opt ∧ Own W B 5 C2 e2 f2 P.dat
theorem st_isTup {B : Nat} {P : Pkt} {E : Int} : ∀ w w' v, isTup B P E w v → Below w.heap.size w w' → isTup B P E w' v := fun _ _ _ ⟨A, b, c, d, e, f, h, k, l⟩ hb => ⟨A, b, c, d, e, f, h, k.below hb, l.below hb⟩
def isPk (B : Nat) (P : Pkt) : World → Value → Prop := fun W v => ∃ C1 e1 f1 C2 e2 f2, v = (.agg #[.int .u8 (P).tos, .int .u16 (P).id, .bool (P).keep, .int .u8 (P).ttl, .int .u8 (P).proto, .int .u32 (P).src, .int .u32 (P).dst, .slice C1 e1 f1, .slice C2 e2 f2]) ∧ Own W B 5 C1 e1 f1 P.opt ∧ Own W B 5 C2 e2 f2 P.dat
theorem st_isPk {B : Nat} {P : Pkt} : ∀ w w' v, isPk B P w v → Below w.heap.size w w' → isPk B P w' v := fun _ _ _ ⟨A, b, c, d, e, f, h, k, l⟩ hb => ⟨A, b, c, d, e, f, h, k.below hb, l.below hb⟩
theorem goes_pk {B : Nat} {P : Pkt} {C1 C2 : Option Addr} {e1 f1 e2 f2 : Nat} {w : World} (h1 : Own w B 5 C1 e1 f1 P.opt) (h2 : Own w B 5 C2 e2 f2 P.dat) :
    OpGoes Try.prog (fun v w' => (Kd.p (isPk B P)).holds w' v ∧ Below w.heap.size w w') (.ok (.value (.agg #[.int .u8 (P).tos, .int .u16 (P).id, .bool (P).keep, .int .u8 (P).ttl, .int .u8 (P).proto, .int .u32 (P).src, .int .u32 (P).dst, .slice C1 e1 f1, .slice C2 e2 f2])) w) := ⟨⟨_, _, _, _, _, _, rfl, h1, h2⟩, Below.refl _ _⟩
theorem ret_tup {B : Nat} {P : Pkt} {E : Int} {C1 C2 : Option Addr} {e1 f1 e2 f2 : Nat} {w w' : World} (h1 : Own w' B 5 C1 e1 f1 P.opt) (h2 : Own w' B 5 C2 e2 f2 P.dat) (hB : Below w.heap.size w w') :
    ∃ v, Ending.returned (.tuple #[(.agg #[.int .u8 (P).tos, .int .u16 (P).id, .bool (P).keep, .int .u8 (P).ttl, .int .u8 (P).proto, .int .u32 (P).src, .int .u32 (P).dst, .slice C1 e1 f1, .slice C2 e2 f2]), .int .i64 E]) = .returned v ∧ (Kd.p (isTup B P E)).holds w' v ∧ Below w.heap.size w w' := ⟨_, rfl, ⟨_, _, _, _, _, _, rfl, h1, h2⟩, hB⟩
end Go.Proofs.Ytogbncpchmnbdaa
