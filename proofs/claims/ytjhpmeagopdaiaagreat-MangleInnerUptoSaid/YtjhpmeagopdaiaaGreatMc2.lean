/- Parts of the proofs of this seat, laid together. -/
import Derived.Sort.QuietTacIn
import Derived.ScopeJumps
import Derived.WalkMore
import Derived.BigRegionIn
import Derived.OwnWalkIn
import Derived.Lib.AppendZerosOnto
import Derived.Laws.CopyRow
import Derived.ChangeKeysEq
import Derived.MapKept
import Derived.Test.YtjhpmeagopdaiaaGreatMc1
namespace Go.Proofs.YtjhpmeagopdaiaaGreat
open Go.RowKit Go.Shelf
set_option linter.unusedVariables false
set_option linter.unusedSimpArgs false
attribute [local go_sem] Oper.semAt_some
set_option linter.unusedVariables false
set_option linter.unusedSimpArgs false
set_option maxHeartbeats 4000000
set_option maxRecDepth 100000
theorem allZ_at {l : List UInt8} {j : Nat} (h : j < l.length) (hx : bt l j ≠ 0) : allZ l = false := by
  unfold allZ
  rw [List.all_eq_false]
  refine ⟨l[j], List.getElem_mem h, ?_⟩
  intro e
  simp only [beq_iff_eq] at e
  apply hx
  unfold bt
  rw [List.getD_eq_getElem?_getD, List.getElem?_eq_getElem h, Option.getD_some, e]
  rfl
theorem allZ_all {l : List UInt8} (h : ∀ j, j < l.length → bt l j = 0) : allZ l = true := by
  unfold allZ
  rw [List.all_eq_true]
  intro x hx
  obtain ⟨j, hj, rfl⟩ := List.mem_iff_getElem.1 hx
  have := h j hj
  unfold bt at this
  rw [List.getD_eq_getElem?_getD, List.getElem?_eq_getElem hj, Option.getD_some] at this
  simp only [beq_iff_eq]
  exact UInt8.toNat_inj.1 (by simpa using this)
structure SpX where
  o : Opt
  A : Option Addr
  n : Nat
  c : Nat
  ok : Bool
structure SpS where
  os : List Opt
  v : Value
  pd : Option SpX
  bad : Bool
def SplI (w : World) (B : Nat) (C : List Opt → World → Prop) (s : SpS) (W : World) : Prop :=
  C s.os W ∧ W.cell? ⟨B, 0, none⟩ = some s.v ∧ W.frozen? ⟨B, 0, none⟩ = false ∧ Below w.heap.size w W ∧ s.bad = false ∧ ∀ x, s.pd = some x → x.ok = true → Own W w.heap.size 5 x.A x.n x.c x.o.dat
theorem SplI.below {w : World} {B : Nat} {C : List Opt → World → Prop} (hC : ∀ os W W', C os W → Below W.heap.size W W' → C os W') {s : SpS} {W W' : World} (h : SplI w B C s W) (hb : Below W.heap.size W W') : SplI w B C s W' := by
  obtain ⟨h1, h2, h3, h4, h5, h6⟩ := h
  have hlt := World.block_lt_of_cell? W _ h2
  exact ⟨hC _ _ _ h1 hb, (hb.cell hlt).trans h2, (hb.frozen hlt).trans h3, below_then h4 hb, h5, fun x hx ho => (h6 x hx ho).below hb⟩
end Go.Proofs.YtjhpmeagopdaiaaGreat
namespace Go.Proofs.YtjhpmeagopdaiaaGreat
open Go.RowKit Go.Shelf
set_option linter.unusedVariables false
set_option linter.unusedSimpArgs false
attribute [local go_sem] Oper.semAt_some
set_option linter.unusedVariables false
set_option linter.unusedSimpArgs false
set_option maxHeartbeats 8000000
set_option maxRecDepth 100000
theorem wrap_i64 {x : Int} (h0 : 0 ≤ x) (h1 : x ≤ 255) : IntKind.i64.wrap x = x := by
  simp [IntKind.wrap, IntKind.signed, IntKind.bits]
  split <;> omega
end Go.Proofs.YtjhpmeagopdaiaaGreat
namespace Go.Proofs.YtjhpmeagopdaiaaGreat
open Go.RowKit Go.Shelf
set_option linter.unusedVariables false
set_option linter.unusedSimpArgs false
section
variable {Q : Exit → Act → World → Prop} {a : Act} {w : World} {J : Act → World → Prop} {l : Nat}
theorem jump_normal : Exit.jump l J Q .normal a w = Q .normal a w := rfl
theorem jump_exit (id : Nat) : Exit.jump l J Q (.exit id) a w = Q (.exit id) a w := rfl
theorem jump_ret : Exit.jump l J Q .ret a w = Q .ret a w := rfl
theorem jump_panic (ch : List PanicEntry) : Exit.jump l J Q (.panic ch) a w = Q (.panic ch) a w := rfl
theorem jump_goto : Exit.jump l J Q (.goto l) a w = J a w := by simp [Exit.jump]
end
end Go.Proofs.YtjhpmeagopdaiaaGreat
namespace Go.Proofs.YtjhpmeagopdaiaaGreat
open Go.RowKit
set_option linter.unusedVariables false
set_option linter.unusedSimpArgs false
set_option maxHeartbeats 4000000
set_option maxRecDepth 100000
theorem store478 {W : World} {r : Nat} {c0 c1 c2 c3 c4 c5 c6 c7 c8 : Value} {t : TypeId} (R : Blk W r #[c0, c1, c2, c3, c4, c5, c6, c7, c8] t) (v4 v7 v8 : Value) :
    ∃ wf, (((W.setCell ⟨r, 4, none⟩ v4).setCell ⟨r, 7, none⟩ v7).setCell ⟨r, 8, none⟩ v8) = wf ∧ Sto W r wf #[c0, c1, c2, c3, v4, c5, c6, v7, v8] t := by
  have h := (((Sto.nil R).set 4 v4).set 7 v7).set 8 v8
  simp only [List.setIfInBounds_toArray, List.set_cons_zero, List.set_cons_succ] at h
  exact ⟨_, rfl, h⟩
def isCat (lv : Value) (d : List UInt8) (w : World) : Prop := ∀ W, Below w.heap.size w W → Calls Tryz.prog 92 #[lv] W fun e w' => ∃ A n c, e = .returned (.slice A n c) ∧ Own w' W.heap.size 5 A n c d ∧ Below W.heap.size W w'
theorem with_no (fn : List UInt8) (p : Pkt) (A1 : Option Addr) (n1 c1 : Nat) (A2 : Option Addr) (n2 c2 : Nat) (pr : Int) (lv : Value) (d : List UInt8) (nd : Nat) (hd : d.length = nd) (w : World) (k1 : Bs w A1 n1 c1 p.opt) (hcc : isCat lv d w) (b3 : nd ≤ 200000000000000) (E : Int)
    (h : (E = 4 ∧ 40 < (n1 : Int)) ∨ (E = 4 ∧ (n1 : Int) ≤ 40 ∧ ((n1 : Int) % 4 != 0) = true) ∨ (E = 8 ∧ (n1 : Int) ≤ 40 ∧ ((n1 : Int) % 4 != 0) = false ∧ rightP { p with proto := pr, dat := d } = false)) :
    Calls Tryz.prog 61 #[(.agg #[.int .u8 (p).tos, .int .u16 (p).id, .bool (p).keep, .int .u8 (p).ttl, .int .u8 (p).proto, .int .u32 (p).src, .int .u32 (p).dst, .slice A1 n1 c1, .slice A2 n2 c2]), .int .u8 pr, lv] w (WiPost w zP E) := by
  have b1 := k1.max
  have HD := Lib.hid hd
  have hc2 : ∀ W, Below w.heap.size w W → Calls Tryz.prog 92 #[lv] W fun e w' => ∃ A n c, e = .returned (.slice A n c) ∧ Own w' W.heap.size 5 A n c d ∧ Below W.heap.size W w' := hcc
  clear hd hcc
  obtain ⟨k, hk⟩ : ∃ k : Nat, w.heap.size = k := ⟨_, rfl⟩
  obtain ⟨w1, hw1⟩ : ∃ w1, (w.alloc (.cells #[.int .u8 (p).tos, .int .u16 (p).id, .bool (p).keep, .int .u8 (p).ttl, .int .u8 (p).proto, .int .u32 (p).src, .int .u32 (p).dst, .slice A1 n1 c1, .slice A2 n2 c2] 26)).alloc (.cells #[.int .u8 0, .int .u16 0, .bool false, .int .u8 0, .int .u8 0, .int .u32 0, .int .u32 0, .slice none 0 0, .slice none 0 0] 26) = w1 := ⟨_, rfl⟩
  have P1 : Blk w1 k #[.int .u8 (p).tos, .int .u16 (p).id, .bool (p).keep, .int .u8 (p).ttl, .int .u8 (p).proto, .int .u32 (p).src, .int .u32 (p).dst, .slice A1 n1 c1, .slice A2 n2 c2] 26 := by rw [← hw1]; exact (blk_new w _ _ k hk).alloc _
  have Z1 : Blk w1 (k + 1) #[.int .u8 0, .int .u16 0, .bool false, .int .u8 0, .int .u8 0, .int .u32 0, .int .u32 0, .slice none 0 0, .slice none 0 0] 26 := by rw [← hw1]; exact blk_new _ _ _ (k + 1) (by simp [hk])
  have R1 : Below w.heap.size w w1 := by first | exact bw1 hw1 | exact bw2 hw1 | exact bw3 hw1 | exact bw4 hw1
  have x1 := k1.below R1
  have pc := P1.cell
  rcases h with ⟨rfl, h1⟩ | ⟨rfl, h1, h2⟩ | ⟨rfl, h1, h2, h3⟩
  · go_enter Tryz.func61, Tryz.ntmps61
    have HR : Hid (rightP { p with proto := pr, dat := d } = rightP { p with proto := pr, dat := d }) := rfl
    go_wp2_with (first
    | (go_at_call 53; ((with_reducible refine (clone_any A1 n1 c1 p.opt _ x1).mono ?_); rintro e w2 ⟨A4, c4, rfl, ho4, hB2⟩); have s2 := hB2.size; have T2 := below_then R1 hB2)
    | (go_at_call 92; ((with_reducible refine (hc2 _ T2).mono ?_); rintro e w3 ⟨A6, n6, c6, rfl, ho6, hB3⟩); have u6 : n6 = nd := (by rw [← ho6.len]; exact HD.out); subst u6; have P3 := (P1.below hB2).below hB3; have pc3 := P3.cell; have Z3 := (Z1.below hB2).below hB3; have O4 := ho4.below hB3; (obtain ⟨w5, hw5, S5⟩ := store478 P3 (.int .u8 pr) (.slice A4 n1 c4) (.slice A6 n6 c6)); have pc5 := S5.blk.cell; have T5 := S5.bel (below_then T2 hB3) (by omega); have Z5 := S5.other (by omega) Z3; have zc5 := Z5.cell; have O5 := S5.own O4 (fun a e => by have := O4.ge a e; have := P1.lt; omega); have D5 := S5.own ho6 (fun a e => by have := ho6.ge a e; have := P1.lt; omega))
    | (go_at_call 93; ((with_reducible refine (right_any { p with proto := pr, dat := d } A4 n1 c4 A6 n6 c6 w5 O5.bs D5.bs).mono ?_); rintro e w6 ⟨he6, hB6⟩); rw [HR.out] at he6; subst he6; have pc6 := (S5.blk.below hB6).cell; have Z6 := Z5.below hB6; have zc6 := Z6.cell; have T6 := below_then T5 hB6))
    obtain ⟨wf, hwf, Sf⟩ := store9 Z5 (.int .u8 0) (.int .u16 0) (.bool false) (.int .u8 0) (.int .u8 0) (.int .u32 0) (.int .u32 0) (.slice none 0 0) (.slice none 0 0)
    rw [hwf]
    have pf := Sf.blk.cell
    exact bodyPost_ret (by simp [results, Tryz.results61, go_sem, pf]) rfl (wiPost_no (Sf.bel T5 (by omega)))
  · go_enter Tryz.func61, Tryz.ntmps61
    have HR : Hid (rightP { p with proto := pr, dat := d } = rightP { p with proto := pr, dat := d }) := rfl
    go_wp2_with (first
    | (go_at_call 53; ((with_reducible refine (clone_any A1 n1 c1 p.opt _ x1).mono ?_); rintro e w2 ⟨A4, c4, rfl, ho4, hB2⟩); have s2 := hB2.size; have T2 := below_then R1 hB2)
    | (go_at_call 92; ((with_reducible refine (hc2 _ T2).mono ?_); rintro e w3 ⟨A6, n6, c6, rfl, ho6, hB3⟩); have u6 : n6 = nd := (by rw [← ho6.len]; exact HD.out); subst u6; have P3 := (P1.below hB2).below hB3; have pc3 := P3.cell; have Z3 := (Z1.below hB2).below hB3; have O4 := ho4.below hB3; (obtain ⟨w5, hw5, S5⟩ := store478 P3 (.int .u8 pr) (.slice A4 n1 c4) (.slice A6 n6 c6)); have pc5 := S5.blk.cell; have T5 := S5.bel (below_then T2 hB3) (by omega); have Z5 := S5.other (by omega) Z3; have zc5 := Z5.cell; have O5 := S5.own O4 (fun a e => by have := O4.ge a e; have := P1.lt; omega); have D5 := S5.own ho6 (fun a e => by have := ho6.ge a e; have := P1.lt; omega))
    | (go_at_call 93; ((with_reducible refine (right_any { p with proto := pr, dat := d } A4 n1 c4 A6 n6 c6 w5 O5.bs D5.bs).mono ?_); rintro e w6 ⟨he6, hB6⟩); rw [HR.out] at he6; subst he6; have pc6 := (S5.blk.below hB6).cell; have Z6 := Z5.below hB6; have zc6 := Z6.cell; have T6 := below_then T5 hB6))
    obtain ⟨wf, hwf, Sf⟩ := store9 Z5 (.int .u8 0) (.int .u16 0) (.bool false) (.int .u8 0) (.int .u8 0) (.int .u32 0) (.int .u32 0) (.slice none 0 0) (.slice none 0 0)
    rw [hwf]
    have pf := Sf.blk.cell
    exact bodyPost_ret (by simp [results, Tryz.results61, go_sem, pf]) rfl (wiPost_no (Sf.bel T5 (by omega)))
  · go_enter Tryz.func61, Tryz.ntmps61
    have HR := Lib.hid h3
    clear h3
    go_wp2_with (first
    | (go_at_call 53; ((with_reducible refine (clone_any A1 n1 c1 p.opt _ x1).mono ?_); rintro e w2 ⟨A4, c4, rfl, ho4, hB2⟩); have s2 := hB2.size; have T2 := below_then R1 hB2)
    | (go_at_call 92; ((with_reducible refine (hc2 _ T2).mono ?_); rintro e w3 ⟨A6, n6, c6, rfl, ho6, hB3⟩); have u6 : n6 = nd := (by rw [← ho6.len]; exact HD.out); subst u6; have P3 := (P1.below hB2).below hB3; have pc3 := P3.cell; have Z3 := (Z1.below hB2).below hB3; have O4 := ho4.below hB3; (obtain ⟨w5, hw5, S5⟩ := store478 P3 (.int .u8 pr) (.slice A4 n1 c4) (.slice A6 n6 c6)); have pc5 := S5.blk.cell; have T5 := S5.bel (below_then T2 hB3) (by omega); have Z5 := S5.other (by omega) Z3; have zc5 := Z5.cell; have O5 := S5.own O4 (fun a e => by have := O4.ge a e; have := P1.lt; omega); have D5 := S5.own ho6 (fun a e => by have := ho6.ge a e; have := P1.lt; omega))
    | (go_at_call 93; ((with_reducible refine (right_any { p with proto := pr, dat := d } A4 n1 c4 A6 n6 c6 w5 O5.bs D5.bs).mono ?_); rintro e w6 ⟨he6, hB6⟩); rw [HR.out] at he6; subst he6; have pc6 := (S5.blk.below hB6).cell; have Z6 := Z5.below hB6; have zc6 := Z6.cell; have T6 := below_then T5 hB6))
    obtain ⟨wf, hwf, Sf⟩ := store9 Z6 (.int .u8 0) (.int .u16 0) (.bool false) (.int .u8 0) (.int .u8 0) (.int .u32 0) (.int .u32 0) (.slice none 0 0) (.slice none 0 0)
    rw [hwf]
    have pf := Sf.blk.cell
    exact bodyPost_ret (by simp [results, Tryz.results61, go_sem, pf]) rfl (wiPost_no (Sf.bel T6 (by omega)))
theorem with_ok (p : Pkt) (A1 : Option Addr) (n1 c1 : Nat) (A2 : Option Addr) (n2 c2 : Nat) (pr : Int) (lv : Value) (d : List UInt8) (nd : Nat) (hd : d.length = nd) (w : World) (k1 : Bs w A1 n1 c1 p.opt) (hcc : isCat lv d w) (b3 : nd ≤ 200000000000000)
    (h1 : (n1 : Int) ≤ 40) (h2 : ((n1 : Int) % 4 != 0) = false) (h3 : rightP { p with proto := pr, dat := d } = true) :
    Calls Tryz.prog 61 #[(.agg #[.int .u8 (p).tos, .int .u16 (p).id, .bool (p).keep, .int .u8 (p).ttl, .int .u8 (p).proto, .int .u32 (p).src, .int .u32 (p).dst, .slice A1 n1 c1, .slice A2 n2 c2]), .int .u8 pr, lv] w (WiPost w { p with proto := pr, dat := d } 0) := by
  have b1 := k1.max
  have HD := Lib.hid hd
  have hc2 : ∀ W, Below w.heap.size w W → Calls Tryz.prog 92 #[lv] W fun e w' => ∃ A n c, e = .returned (.slice A n c) ∧ Own w' W.heap.size 5 A n c d ∧ Below W.heap.size W w' := hcc
  clear hd hcc
  obtain ⟨k, hk⟩ : ∃ k : Nat, w.heap.size = k := ⟨_, rfl⟩
  obtain ⟨w1, hw1⟩ : ∃ w1, (w.alloc (.cells #[.int .u8 (p).tos, .int .u16 (p).id, .bool (p).keep, .int .u8 (p).ttl, .int .u8 (p).proto, .int .u32 (p).src, .int .u32 (p).dst, .slice A1 n1 c1, .slice A2 n2 c2] 26)).alloc (.cells #[.int .u8 0, .int .u16 0, .bool false, .int .u8 0, .int .u8 0, .int .u32 0, .int .u32 0, .slice none 0 0, .slice none 0 0] 26) = w1 := ⟨_, rfl⟩
  have P1 : Blk w1 k #[.int .u8 (p).tos, .int .u16 (p).id, .bool (p).keep, .int .u8 (p).ttl, .int .u8 (p).proto, .int .u32 (p).src, .int .u32 (p).dst, .slice A1 n1 c1, .slice A2 n2 c2] 26 := by rw [← hw1]; exact (blk_new w _ _ k hk).alloc _
  have Z1 : Blk w1 (k + 1) #[.int .u8 0, .int .u16 0, .bool false, .int .u8 0, .int .u8 0, .int .u32 0, .int .u32 0, .slice none 0 0, .slice none 0 0] 26 := by rw [← hw1]; exact blk_new _ _ _ (k + 1) (by simp [hk])
  have R1 : Below w.heap.size w w1 := by first | exact bw1 hw1 | exact bw2 hw1 | exact bw3 hw1 | exact bw4 hw1
  have x1 := k1.below R1
  have pc := P1.cell
  go_enter Tryz.func61, Tryz.ntmps61
  have HR := Lib.hid h3
  clear h3
  go_wp2_with (first
    | (go_at_call 53; ((with_reducible refine (clone_any A1 n1 c1 p.opt _ x1).mono ?_); rintro e w2 ⟨A4, c4, rfl, ho4, hB2⟩); have s2 := hB2.size; have T2 := below_then R1 hB2)
    | (go_at_call 92; ((with_reducible refine (hc2 _ T2).mono ?_); rintro e w3 ⟨A6, n6, c6, rfl, ho6, hB3⟩); have u6 : n6 = nd := (by rw [← ho6.len]; exact HD.out); subst u6; have P3 := (P1.below hB2).below hB3; have pc3 := P3.cell; have Z3 := (Z1.below hB2).below hB3; have O4 := ho4.below hB3; (obtain ⟨w5, hw5, S5⟩ := store478 P3 (.int .u8 pr) (.slice A4 n1 c4) (.slice A6 n6 c6)); have pc5 := S5.blk.cell; have T5 := S5.bel (below_then T2 hB3) (by omega); have Z5 := S5.other (by omega) Z3; have zc5 := Z5.cell; have O5 := S5.own O4 (fun a e => by have := O4.ge a e; have := P1.lt; omega); have D5 := S5.own ho6 (fun a e => by have := ho6.ge a e; have := P1.lt; omega))
    | (go_at_call 93; ((with_reducible refine (right_any { p with proto := pr, dat := d } A4 n1 c4 A6 n6 c6 w5 O5.bs D5.bs).mono ?_); rintro e w6 ⟨he6, hB6⟩); rw [HR.out] at he6; subst he6; have pc6 := (S5.blk.below hB6).cell; have Z6 := Z5.below hB6; have zc6 := Z6.cell; have T6 := below_then T5 hB6))
  obtain ⟨wf, hwf, Sf⟩ := store9 Z6 (.int .u8 p.tos) (.int .u16 p.id) (.bool p.keep) (.int .u8 p.ttl) (.int .u8 pr) (.int .u32 p.src) (.int .u32 p.dst) (.slice A4 n1 c4) (.slice A6 n6 c6)
  rw [hwf]
  have pf := Sf.blk.cell
  have zl := Z1.lt
  have O6 := O5.below hB6
  have D6 := D5.below hB6
  have Of := Sf.own O6 (fun a e => by have := O6.ge a e; omega)
  have Df := Sf.own D6 (fun a e => by have := D6.ge a e; omega)
  have r1 := R1.size
  refine bodyPost_ret (v := .tuple #[.agg #[.int .u8 p.tos, .int .u16 p.id, .bool p.keep, .int .u8 p.ttl, .int .u8 pr, .int .u32 p.src, .int .u32 p.dst, .slice A4 n1 c4, .slice A6 n6 c6], .int .i64 0]) (by simp [results, Tryz.results61, go_sem, pf]) rfl ⟨A4, n1, c4, A6, n6, c6, rfl, Of.mono (by omega), Df.mono (by omega), Sf.bel T6 (by omega)⟩
theorem with_any (p : Pkt) (A1 : Option Addr) (n1 c1 : Nat) (A2 : Option Addr) (n2 c2 : Nat) (pr : Int) (lv : Value) (d : List UInt8) (w : World) (k1 : Bs w A1 n1 c1 p.opt) (hcc : isCat lv d w) (b3 : d.length ≤ 200000000000000) :
    Calls Tryz.prog 61 #[(.agg #[.int .u8 (p).tos, .int .u16 (p).id, .bool (p).keep, .int .u8 (p).ttl, .int .u8 (p).proto, .int .u32 (p).src, .int .u32 (p).dst, .slice A1 n1 c1, .slice A2 n2 c2]), .int .u8 pr, lv] w (WiPost w (withP p pr d) (wiE p d.length)) := by
  have l1 := k1.len
  unfold withP
  by_cases h1 : (n1 : Int) ≤ 40
  · by_cases h2 : n1 % 4 = 0
    · by_cases h3 : 20 + (n1 : Int) + (d.length : Int) ≤ 65535
      · rw [wiE_0 l1 h1 h2 h3, if_pos rfl]
        exact with_ok p A1 n1 c1 A2 n2 c2 pr lv d d.length rfl w k1 hcc b3 h1 (m4_no h2) (by unfold rightP; simp [l1]; omega)
      · rw [wiE_8 l1 h1 h2 (by omega), if_neg (by decide)]
        exact with_no [] p A1 n1 c1 A2 n2 c2 pr lv d d.length rfl w k1 hcc b3 8 (.inr (.inr ⟨rfl, h1, m4_no h2, by unfold rightP; simp [l1]; omega⟩))
    · rw [wiE_4 l1 (.inr h2), if_neg (by decide)]
      exact with_no [] p A1 n1 c1 A2 n2 c2 pr lv d d.length rfl w k1 hcc b3 4 (.inr (.inl ⟨rfl, h1, m4_yes h2⟩))
  · rw [wiE_4 l1 (.inl (by omega)), if_neg (by decide)]
    exact with_no [] p A1 n1 c1 A2 n2 c2 pr lv d d.length rfl w k1 hcc b3 4 (.inl ⟨rfl, by omega⟩)
def isTup (B : Nat) (P : Pkt) (E : Int) : World → Value → Prop := fun W v => ∃ C1 e1 f1 C2 e2 f2, v = .tuple #[(.agg #[.int .u8 (P).tos, .int .u16 (P).id, .bool (P).keep, .int .u8 (P).ttl, .int .u8 (P).proto, .int .u32 (P).src, .int .u32 (P).dst, .slice C1 e1 f1, .slice C2 e2 f2]), .int .i64 E] ∧ Own W B 5 C1 e1 f1 P.opt ∧ Own W B 5 C2 e2 f2 P.dat
theorem st_isTup {B : Nat} {P : Pkt} {E : Int} : ∀ w w' v, isTup B P E w v → Below w.heap.size w w' → isTup B P E w' v := fun _ _ _ ⟨A, b, c, d, e, f, h, k, l⟩ hb => ⟨A, b, c, d, e, f, h, k.below hb, l.below hb⟩
def isPk (B : Nat) (P : Pkt) : World → Value → Prop := fun W v => ∃ C1 e1 f1 C2 e2 f2, v = (.agg #[.int .u8 (P).tos, .int .u16 (P).id, .bool (P).keep, .int .u8 (P).ttl, .int .u8 (P).proto, .int .u32 (P).src, .int .u32 (P).dst, .slice C1 e1 f1, .slice C2 e2 f2]) ∧ Own W B 5 C1 e1 f1 P.opt ∧ Own W B 5 C2 e2 f2 P.dat
theorem st_isPk {B : Nat} {P : Pkt} : ∀ w w' v, isPk B P w v → Below w.heap.size w w' → isPk B P w' v := fun _ _ _ ⟨A, b, c, d, e, f, h, k, l⟩ hb => ⟨A, b, c, d, e, f, h, k.below hb, l.below hb⟩
theorem goes_pk {B : Nat} {P : Pkt} {C1 C2 : Option Addr} {e1 f1 e2 f2 : Nat} {w : World} (h1 : Own w B 5 C1 e1 f1 P.opt) (h2 : Own w B 5 C2 e2 f2 P.dat) :
    OpGoes Tryz.prog (fun v w' => (Kd.p (isPk B P)).holds w' v ∧ Below w.heap.size w w') (.ok (.value (.agg #[.int .u8 (P).tos, .int .u16 (P).id, .bool (P).keep, .int .u8 (P).ttl, .int .u8 (P).proto, .int .u32 (P).src, .int .u32 (P).dst, .slice C1 e1 f1, .slice C2 e2 f2])) w) := ⟨⟨_, _, _, _, _, _, rfl, h1, h2⟩, Below.refl _ _⟩
theorem ret_tup {B : Nat} {P : Pkt} {E : Int} {C1 C2 : Option Addr} {e1 f1 e2 f2 : Nat} {w w' : World} (h1 : Own w' B 5 C1 e1 f1 P.opt) (h2 : Own w' B 5 C2 e2 f2 P.dat) (hB : Below w.heap.size w w') :
    ∃ v, Ending.returned (.tuple #[(.agg #[.int .u8 (P).tos, .int .u16 (P).id, .bool (P).keep, .int .u8 (P).ttl, .int .u8 (P).proto, .int .u32 (P).src, .int .u32 (P).dst, .slice C1 e1 f1, .slice C2 e2 f2]), .int .i64 E]) = .returned v ∧ (Kd.p (isTup B P E)).holds w' v ∧ Below w.heap.size w w' := ⟨_, rfl, ⟨_, _, _, _, _, _, rfl, h1, h2⟩, hB⟩
structure isC (L : List UInt8) (W : World) (v : Value) : Prop where
  out : ∀ W', Below W.heap.size W W' → Calls Tryz.prog 92 #[v] W' fun e w' => ∃ A n c, e = .returned (.slice A n c) ∧ Own w' W'.heap.size 5 A n c L ∧ Below W'.heap.size W' w'
theorem st_isC {L : List UInt8} : ∀ w w' v, isC L w v → Below w.heap.size w w' → isC L w' v := fun w w' v h hb => ⟨fun W hB => h.out W (below_then hb hB)⟩
theorem isCat3 {W0 : World} {g n1 c1 n2 c2 n3 c3 cc : Nat} {A1 A2 A3 : Option Addr} {l1 l2 l3 : List UInt8} {T : TypeId} (G : Blk W0 g #[.slice A1 n1 c1, .slice A2 n2 c2, .slice A3 n3 c3] T) (k1 : Bs W0 A1 n1 c1 l1) (k2 : Bs W0 A2 n2 c2 l2) (k3 : Bs W0 A3 n3 c3 l3) (h : n1 + n2 + n3 ≤ 200000000000000) :
    isCat (.slice (some ⟨g, 0, none⟩) 3 cc) (l1 ++ l2 ++ l3) W0 := by
  intro W hB
  have G' := G.below hB
  have gc := G'.cell.1
  have := concat_any g 3 cc (fun j => if j = 0 then A1 else if j = 1 then A2 else A3) (fun j => if j = 0 then n1 else if j = 1 then n2 else n3) (fun j => if j = 0 then c1 else if j = 1 then c2 else c3) (fun j => if j = 0 then l1 else if j = 1 then l2 else l3) (by omega) W G'.lt (fun j hj => by
      rw [gc]
      have : j = 0 ∨ j = 1 ∨ j = 2 := by omega
      rcases this with rfl | rfl | rfl <;> rfl) (fun j hj => by
      have : j = 0 ∨ j = 1 ∨ j = 2 := by omega
      rcases this with rfl | rfl | rfl
      · exact k1.below hB
      · exact k2.below hB
      · exact k3.below hB) (by simp [catN]; omega)
  exact this
theorem isCat2' {W0 : World} {g n1 c1 n2 c2 cc : Nat} {A1 A2 : Option Addr} {l1 l2 : List UInt8} {T : TypeId} (G : Blk W0 g #[.slice A1 n1 c1, .slice A2 n2 c2] T) (k1 : Bs W0 A1 n1 c1 l1) (k2 : Bs W0 A2 n2 c2 l2) (h : n1 + n2 ≤ 200000000000000) :
    isCat (.slice (some ⟨g, 0, none⟩) 2 cc) (l1 ++ l2) W0 := by
  intro W hB
  have G' := G.below hB
  have gc := G'.cell.1
  have := concat_any g 2 cc (fun j => if j = 0 then A1 else A2) (fun j => if j = 0 then n1 else n2) (fun j => if j = 0 then c1 else c2) (fun j => if j = 0 then l1 else l2) (by omega) W G'.lt (fun j hj => by
      rw [gc]
      have : j = 0 ∨ j = 1 := by omega
      rcases this with rfl | rfl <;> rfl) (fun j hj => by
      have : j = 0 ∨ j = 1 := by omega
      rcases this with rfl | rfl
      · exact k1.below hB
      · exact k2.below hB) (by simp [catN]; omega)
  exact this
theorem goes_cat3 {W : World} {n1 c1 n2 c2 n3 c3 : Nat} {A1 A2 A3 : Option Addr} {l1 l2 l3 : List UInt8} {T : TypeId} (k1 : Bs W A1 n1 c1 l1) (k2 : Bs W A2 n2 c2 l2) (k3 : Bs W A3 n3 c3 l3) (h : n1 + n2 + n3 ≤ 200000000000000) :
    OpGoes Tryz.prog (fun v w' => (Kd.p (isC (l1 ++ (l2 ++ l3)))).holds w' v ∧ Below W.heap.size W w') (.ok (.value (.slice (some ⟨W.heap.size, 0, none⟩) 3 3)) (W.alloc (.cells #[.slice A1 n1 c1, .slice A2 n2 c2, .slice A3 n3 c3] T))) :=
  ⟨⟨by rw [← List.append_assoc]; exact isCat3 (blk_new W _ T _ rfl) (k1.alloc _) (k2.alloc _) (k3.alloc _) h⟩, (Below.refl _ W).alloc (Nat.le_refl _) _⟩
theorem goes_mkb {W : World} {z : Nat} (hz : z ≤ 200000000000000) :
    OpGoes Tryz.prog (fun v w' => (Kd.b z (zs z)).holds w' v ∧ Below W.heap.size W w') (.ok (.value (.slice (some ⟨W.heap.size, 0, none⟩) z z)) (W.alloc (.cells (cu (zs z)).toArray 5))) :=
  ⟨⟨_, _, rfl, bs_lit (zs z) z (zs_length z) hz⟩, (Below.refl _ W).alloc (Nat.le_refl _) _⟩
theorem psum_more (p : Pkt) (pr : Int) (b : List UInt8) (k : Nat) : csum (pseudo p.src p.dst pr b.length ++ b ++ zs k) = psum p pr b := by rw [csum_behind]; rfl
theorem fits_any (p : Pkt) (hp : p.Ok) (A1 : Option Addr) (n1 c1 : Nat) (A2 : Option Addr) (n2 c2 : Nat) (pr : Int) (p0 : 0 ≤ pr) (p1 : pr ≤ 255) (w : World) (k2 : Bs w A2 n2 c2 p.dat) (hn2 : n2 ≤ 140737488400000) :
    Calls Tryz.prog 106 #[(.agg #[.int .u8 (p).tos, .int .u16 (p).id, .bool (p).keep, .int .u8 (p).ttl, .int .u8 (p).proto, .int .u32 (p).src, .int .u32 (p).dst, .slice A1 n1 c1, .slice A2 n2 c2]), .int .u8 pr] w fun e w' => e = .returned (.bool (psum p pr p.dat == 0)) ∧ Below w.heap.size w w' := by
  have l2 := k2.len
  have HS : Hid (csum (pseudo p.src p.dst pr n2 ++ (p.dat ++ zs (n2 % 2))) = psum p pr p.dat) := by unfold Hid; rw [← l2, ← List.append_assoc]; exact psum_more p pr p.dat _
  obtain ⟨-, -, -, -, ⟨o5, o5'⟩, ⟨o6, o6'⟩⟩ := hp
  have hrem : ((n2 : Int)).tmod 2 = ((n2 % 2 : Nat) : Int) := by rw [Int.tmod_eq_emod_of_nonneg (by omega)]; omega
  obtain ⟨z, hz⟩ : ∃ z : Nat, n2 % 2 = z := ⟨_, rfl⟩
  rw [hz] at hrem HS
  have hz1 : z ≤ 1 := by omega
  have hmk : ∀ W, (Instr.makeSlice 24 (.int .i64 (z : Int)) (.int .i64 (z : Int))).run Tryz.prog W = .ok (.slice (some ⟨W.heap.size, 0, none⟩) z z) (W.alloc (.cells (cu (zs z)).toArray 5)) := fun W => by
    obtain ⟨i, hi, hz', hs, hb⟩ := info_parts info_u8
    have hr := run_make (P := Tryz.prog) W 24 5 i (.int .u8 0) Tryz.underlying24 hi hz' .i64 .i64 z z (by omega) (by omega) (by rw [hb]; omega) (by omega)
    simp only [hs, Nat.mul_one] at hr
    rw [hr, cu_zs]
    rfl
  clear l2 hz
  obtain ⟨k, hk, w1, hw1, P1, R1⟩ := nwI1 w #[.int .u8 (p).tos, .int .u16 (p).id, .bool (p).keep, .int .u8 (p).ttl, .int .u8 (p).proto, .int .u32 (p).src, .int .u32 (p).dst, .slice A1 n1 c1, .slice A2 n2 c2] 26
  have Pc1 := P1.cell
  have Pl1 := P1.lt
  have x1 := (k2).below R1
  clear k2
  go_enter Tryz.func106, Tryz.ntmps106
  go_wp2_with fail
  refine region_txt 19 (by kernel_rfl) (by kernel_rfl) ?_; (iterate 19 (first | (apply ObsK.skip (by rfl)) | (apply ObsK.v (by rfl); (intro wo hT; (repeat (first | (intro v hv; ((first | (obtain ⟨A7, n7, c7, rfl, o7⟩ := hv; have ob7 := o7.bs) | (have hcat := hv.out)))) | (intro _ _ k; try have hcv := cv k))); (have pc := (P1.below hT).cell; have xo := x1.below hT; have hsz : w1.heap.size ≤ wo.heap.size := hT.size); refine Goes.mk ?_; go_simp; first | exact goes_v | exact goes_b (by assumption) | (first | exact goes_mkb (by omega) | exact goes_cat3 (by assumption) (by assumption) (by assumption) (by omega)) | (refine goes_enter ?_; first | (go_at_call 115; ((with_reducible refine (pseudo_any p.src p.dst pr n2 o5 o5' o6 o6' p0 p1 (by omega) (by omega) wo).mono ?_); rintro e w9 ⟨A9, c9, rfl, ho9, hB9⟩); exact ret_b ho9.bs hB9) | (go_at_call 92; ((with_reducible refine (hcat wo (Below.refl _ _)).mono ?_); rintro e w9 ⟨A9, n9, c9, rfl, ho9, hB9⟩); exact ret_p (own_isW ho9 hsz) hB9) | (go_at_call 51; ((with_reducible refine (good_any A7 n7 c7 _ wo ob7).mono ?_); rintro e w9 ⟨rfl, hB9⟩); exact ret_v hB9)))) | (apply ObsK.b (by rfl); (intro wo hT; (repeat (first | (intro v hv; ((first | (obtain ⟨A7, n7, c7, rfl, o7⟩ := hv; have ob7 := o7.bs) | (have hcat := hv.out)))) | (intro _ _ k; try have hcv := cv k))); (have pc := (P1.below hT).cell; have xo := x1.below hT; have hsz : w1.heap.size ≤ wo.heap.size := hT.size); refine Goes.mk ?_; go_simp; first | exact goes_v | exact goes_b (by assumption) | (first | exact goes_mkb (by omega) | exact goes_cat3 (by assumption) (by assumption) (by assumption) (by omega)) | (refine goes_enter ?_; first | (go_at_call 115; ((with_reducible refine (pseudo_any p.src p.dst pr n2 o5 o5' o6 o6' p0 p1 (by omega) (by omega) wo).mono ?_); rintro e w9 ⟨A9, c9, rfl, ho9, hB9⟩); exact ret_b ho9.bs hB9) | (go_at_call 92; ((with_reducible refine (hcat wo (Below.refl _ _)).mono ?_); rintro e w9 ⟨A9, n9, c9, rfl, ho9, hB9⟩); exact ret_p (own_isW ho9 hsz) hB9) | (go_at_call 51; ((with_reducible refine (good_any A7 n7 c7 _ wo ob7).mono ?_); rintro e w9 ⟨rfl, hB9⟩); exact ret_v hB9)))) | (apply ObsK.p (q := isC (pseudo p.src p.dst pr n2 ++ (p.dat ++ zs z))) (by rfl) st_isC; (intro wo hT; (repeat (first | (intro v hv; ((first | (obtain ⟨A7, n7, c7, rfl, o7⟩ := hv; have ob7 := o7.bs) | (have hcat := hv.out)))) | (intro _ _ k; try have hcv := cv k))); (have pc := (P1.below hT).cell; have xo := x1.below hT; have hsz : w1.heap.size ≤ wo.heap.size := hT.size); refine Goes.mk ?_; go_simp; first | exact goes_v | exact goes_b (by assumption) | (first | exact goes_mkb (by omega) | exact goes_cat3 (by assumption) (by assumption) (by assumption) (by omega)) | (refine goes_enter ?_; first | (go_at_call 115; ((with_reducible refine (pseudo_any p.src p.dst pr n2 o5 o5' o6 o6' p0 p1 (by omega) (by omega) wo).mono ?_); rintro e w9 ⟨A9, c9, rfl, ho9, hB9⟩); exact ret_b ho9.bs hB9) | (go_at_call 92; ((with_reducible refine (hcat wo (Below.refl _ _)).mono ?_); rintro e w9 ⟨A9, n9, c9, rfl, ho9, hB9⟩); exact ret_p (own_isW ho9 hsz) hB9) | (go_at_call 51; ((with_reducible refine (good_any A7 n7 c7 _ wo ob7).mono ?_); rintro e w9 ⟨rfl, hB9⟩); exact ret_v hB9)))) | (apply ObsK.p (q := isW w1.heap.size (pseudo p.src p.dst pr n2 ++ (p.dat ++ zs z))) (by rfl) st_isW; (intro wo hT; (repeat (first | (intro v hv; ((first | (obtain ⟨A7, n7, c7, rfl, o7⟩ := hv; have ob7 := o7.bs) | (have hcat := hv.out)))) | (intro _ _ k; try have hcv := cv k))); (have pc := (P1.below hT).cell; have xo := x1.below hT; have hsz : w1.heap.size ≤ wo.heap.size := hT.size); refine Goes.mk ?_; go_simp; first | exact goes_v | exact goes_b (by assumption) | (first | exact goes_mkb (by omega) | exact goes_cat3 (by assumption) (by assumption) (by assumption) (by omega)) | (refine goes_enter ?_; first | (go_at_call 115; ((with_reducible refine (pseudo_any p.src p.dst pr n2 o5 o5' o6 o6' p0 p1 (by omega) (by omega) wo).mono ?_); rintro e w9 ⟨A9, c9, rfl, ho9, hB9⟩); exact ret_b ho9.bs hB9) | (go_at_call 92; ((with_reducible refine (hcat wo (Below.refl _ _)).mono ?_); rintro e w9 ⟨A9, n9, c9, rfl, ho9, hB9⟩); exact ret_p (own_isW ho9 hsz) hB9) | (go_at_call 51; ((with_reducible refine (good_any A7 n7 c7 _ wo ob7).mono ?_); rintro e w9 ⟨rfl, hB9⟩); exact ret_v hB9)))))); refine ObsK.nil ?_; intro wz hBz; simp only [finOn, List.drop_succ_cons, List.drop_zero, List.drop_nil]
  rintro v7 ⟨A7, n7, c7, rfl, o7⟩ v8 hv8 A5 c5 k5 A6 c6 k6
  go_simp
  go_wp2_with fail
  go_ret
  exact ⟨congrArg (fun z => Ending.returned (.bool (z == 0))) HS.out, below_then R1 hBz⟩
theorem ssum_any (p : Pkt) (hp : p.Ok) (A1 : Option Addr) (n1 c1 : Nat) (A2 : Option Addr) (n2 c2 : Nat) (pr : Int) (p0 : 0 ≤ pr) (p1 : pr ≤ 255) (A3 : Option Addr) (n3 c3 : Nat) (b : List UInt8) (w : World) (k3 : Bs w A3 n3 c3 b) (hn3 : n3 ≤ 140737488400000) :
    Calls Tryz.prog 112 #[(.agg #[.int .u8 (p).tos, .int .u16 (p).id, .bool (p).keep, .int .u8 (p).ttl, .int .u8 (p).proto, .int .u32 (p).src, .int .u32 (p).dst, .slice A1 n1 c1, .slice A2 n2 c2]), .int .u8 pr, .slice A3 n3 c3] w fun e w' => e = .returned (.int .u16 (psum p pr b)) ∧ Below w.heap.size w w' := by
  have l3 := k3.len
  have HS : Hid (csum (pseudo p.src p.dst pr n3 ++ b) = psum p pr b) := by unfold Hid psum; rw [l3]
  obtain ⟨-, -, -, -, ⟨o5, o5'⟩, ⟨o6, o6'⟩⟩ := hp
  clear l3
  obtain ⟨k, hk, w1, hw1, P1, R1⟩ := nwI1 w #[.int .u8 (p).tos, .int .u16 (p).id, .bool (p).keep, .int .u8 (p).ttl, .int .u8 (p).proto, .int .u32 (p).src, .int .u32 (p).dst, .slice A1 n1 c1, .slice A2 n2 c2] 26
  have Pc1 := P1.cell
  have Pl1 := P1.lt
  have x1 := (k3).below R1
  clear k3
  go_enter Tryz.func112, Tryz.ntmps112
  go_wp2_with (first
    | (go_at_call 115; ((with_reducible refine (pseudo_any p.src p.dst pr n3 o5 o5' o6 o6' p0 p1 (by omega) (by omega) _).mono ?_); rintro e w2 ⟨A2, c2, rfl, o2, hB2⟩); have y2 := o2.bs; have P2 := P1.below hB2; have Pc2 := P2.cell; clear Pc1; have x2 := x1.below hB2; have R2 := below_then R1 hB2; have G := isC.mk (isCat2' (cc := 2) (blk_new w2 #[.slice A2 12 c2, .slice A3 n3 c3] 24 _ rfl) (y2.alloc _) (x2.alloc _) (by omega)))
    | (go_at_call 92; ((with_reducible refine (G.out _ (Below.refl _ _)).mono ?_); rintro e w3 ⟨A9, n9, c9, rfl, ho9, hB9⟩); have R3 := below_then (below_alloc R2 (Nat.le_refl _) _) hB9)
    | (go_at_call 21; ((with_reducible refine (sum_any A9 n9 c9 _ _ ho9.bs).mono ?_); rintro e w4 ⟨rfl, hB4⟩)))
  go_ret
  exact ⟨congrArg (fun z => Ending.returned (.int .u16 z)) HS.out, below_then R3 hB4⟩
theorem rssum_any (p : Pkt) (hp : p.Ok) (A1 : Option Addr) (n1 c1 : Nat) (A2 : Option Addr) (n2 c2 : Nat) (pr : Int) (p0 : 0 ≤ pr) (p1 : pr ≤ 255) (A3 : Option Addr) (n3 c3 : Nat) (b : List UInt8) (w : World) (k3 : Bs w A3 n3 c3 b) (hn3 : n3 ≤ 17592186044400) :
    Calls Tryz.prog 71 #[(.agg #[.int .u8 (p).tos, .int .u16 (p).id, .bool (p).keep, .int .u8 (p).ttl, .int .u8 (p).proto, .int .u32 (p).src, .int .u32 (p).dst, .slice A1 n1 c1, .slice A2 n2 c2]), .int .u8 pr, .slice A3 n3 c3] w fun e w' => e = .returned (.int .u16 (psum p pr b)) ∧ Below w.heap.size w w' := by
  have l3 := k3.len
  have HS : Hid (csum (pseudo p.src p.dst pr n3 ++ b) = psum p pr b) := by unfold Hid psum; rw [l3]
  obtain ⟨-, -, -, -, ⟨o5, o5'⟩, ⟨o6, o6'⟩⟩ := hp
  clear l3
  obtain ⟨k, hk, w1, hw1, P1, R1⟩ := nwI1 w #[.int .u8 (p).tos, .int .u16 (p).id, .bool (p).keep, .int .u8 (p).ttl, .int .u8 (p).proto, .int .u32 (p).src, .int .u32 (p).dst, .slice A1 n1 c1, .slice A2 n2 c2] 26
  have Pc1 := P1.cell
  have Pl1 := P1.lt
  have x1 := (k3).below R1
  clear k3
  go_enter Tryz.func71, Tryz.ntmps71
  go_wp2_with (first
    | (go_at_call 94; ((with_reducible refine (rpseudo_any p.src p.dst pr n3 o5 o5' o6 o6' p0 p1 (by omega) (by omega) _).mono ?_); rintro e w2 ⟨A2, c2, rfl, o2, hB2⟩); have y2 := o2; have P2 := P1.below hB2; have Pc2 := P2.cell; clear Pc1; have x2 := x1.below hB2; have R2 := below_then R1 hB2)
    | (at_builtin; refine wpList_append_bs (w0 := w1) _ rfl _ _ _ rfl w1.heap.size 5 Tryz.underlying24 info_u8 A2 12 c2 _ rfl y2 A3 n3 c3 b rfl x2 hB2 (by omega) (by first | exact Nat.le_refl _ | exact Below.size hB2 | omega | (simp <;> omega)) ?_; intro A9 n9 c9 w9 ho9 hB9 _ hz9; have u9 : n9 = 12 + n3 := (by have := ho9.len; have := x2.len; simp [pseudo, four, two] at *; omega); subst u9)
    | (go_at_call 27; ((with_reducible refine (rsum_any A9 (12 + n3) c9 _ (by omega) _ ho9.bs).mono ?_); rintro e w4 ⟨rfl, hB4⟩)))
  go_ret
  exact ⟨congrArg (fun z => Ending.returned (.int .u16 z)) HS.out, below_then (below_then R1 hB9) hB4⟩
structure SwPost (w : World) (p : Pkt) (pr : Int) (A3 : Option Addr) (n3 c3 : Nat) (e : Ending) (w' : World) : Prop where
  out : ∃ A4 n4 c4, e = .returned (.tuple #[.agg #[.int .u8 p.tos, .int .u16 p.id, .bool p.keep, .int .u8 p.ttl, .int .u8 pr, .int .u32 p.src, .int .u32 p.dst, .slice A4 n4 c4, .slice A3 n3 c3], .int .i64 0]) ∧ Own w' w.heap.size 5 A4 n4 c4 p.opt ∧ Below w.heap.size w w'
theorem swith_no (p : Pkt) (A1 : Option Addr) (n1 c1 : Nat) (A2 : Option Addr) (n2 c2 : Nat) (pr : Int) (A3 : Option Addr) (n3 c3 : Nat) (d : List UInt8) (w : World) (k1 : Bs w A1 n1 c1 p.opt) (k3 : Bs w A3 n3 c3 d) (E : Int)
    (h : (E = 4 ∧ 40 < (n1 : Int)) ∨ (E = 4 ∧ (n1 : Int) ≤ 40 ∧ ((n1 : Int) % 4 != 0) = true) ∨ (E = 8 ∧ (n1 : Int) ≤ 40 ∧ ((n1 : Int) % 4 != 0) = false ∧ rightP { p with proto := pr, dat := d } = false)) :
    Calls Tryz.prog 111 #[(.agg #[.int .u8 (p).tos, .int .u16 (p).id, .bool (p).keep, .int .u8 (p).ttl, .int .u8 (p).proto, .int .u32 (p).src, .int .u32 (p).dst, .slice A1 n1 c1, .slice A2 n2 c2]), .int .u8 pr, .slice A3 n3 c3] w (WiPost w zP E) := by
  have b1 := k1.max
  have hr := fun W A4 c4 k k3 => right_any { p with proto := pr, dat := d } A4 n1 c4 A3 n3 c3 W k k3
  obtain ⟨k, hk, w1, hw1, P1, Z1, R1⟩ := nwI2 w #[.int .u8 (p).tos, .int .u16 (p).id, .bool (p).keep, .int .u8 (p).ttl, .int .u8 (p).proto, .int .u32 (p).src, .int .u32 (p).dst, .slice A1 n1 c1, .slice A2 n2 c2] 26 #[.int .u8 0, .int .u16 0, .bool false, .int .u8 0, .int .u8 0, .int .u32 0, .int .u32 0, .slice none 0 0, .slice none 0 0] 26
  have Pc1 := P1.cell
  have Zc1 := Z1.cell
  have Pl1 := P1.lt
  have Zl1 := Z1.lt
  have x1 := (k1).below R1
  have y1 := (k3).below R1
  clear k1
  rcases h with ⟨rfl, h1⟩ | ⟨rfl, h1, h2⟩ | ⟨rfl, h1, h2, h3⟩
  · go_enter Tryz.func111, Tryz.ntmps111
    go_wp2_with (first
      | (go_at_call 53; ((with_reducible refine (clone_any A1 n1 c1 p.opt _ x1).mono ?_); rintro e w2 ⟨A4, c4, rfl, ho4, hB2⟩); have P2 := P1.below hB2; have Pc2 := P2.cell; have Z2 := Z1.below hB2; (obtain ⟨w5, hw5, S5⟩ := store478 P2 (.int .u8 pr) (.slice A4 n1 c4) (.slice A3 n3 c3)); have pc5 := S5.blk.cell; have T5 := S5.bel (below_then R1 hB2) (by omega); have Z5 := S5.other (by omega) Z2; have zc5 := Z5.cell)
      | fail)
    obtain ⟨wf, hwf, Sf⟩ := store9 Z5 (.int .u8 0) (.int .u16 0) (.bool false) (.int .u8 0) (.int .u8 0) (.int .u32 0) (.int .u32 0) (.slice none 0 0) (.slice none 0 0)
    rw [hwf]
    have pf := Sf.blk.cell
    exact bodyPost_ret (by simp [results, Tryz.results111, go_sem, pf]) rfl (wiPost_no (Sf.bel T5 (by omega)))
  · go_enter Tryz.func111, Tryz.ntmps111
    go_wp2_with (first
      | (go_at_call 53; ((with_reducible refine (clone_any A1 n1 c1 p.opt _ x1).mono ?_); rintro e w2 ⟨A4, c4, rfl, ho4, hB2⟩); have P2 := P1.below hB2; have Pc2 := P2.cell; have Z2 := Z1.below hB2; (obtain ⟨w5, hw5, S5⟩ := store478 P2 (.int .u8 pr) (.slice A4 n1 c4) (.slice A3 n3 c3)); have pc5 := S5.blk.cell; have T5 := S5.bel (below_then R1 hB2) (by omega); have Z5 := S5.other (by omega) Z2; have zc5 := Z5.cell)
      | fail)
    obtain ⟨wf, hwf, Sf⟩ := store9 Z5 (.int .u8 0) (.int .u16 0) (.bool false) (.int .u8 0) (.int .u8 0) (.int .u32 0) (.int .u32 0) (.slice none 0 0) (.slice none 0 0)
    rw [hwf]
    have pf := Sf.blk.cell
    exact bodyPost_ret (by simp [results, Tryz.results111, go_sem, pf]) rfl (wiPost_no (Sf.bel T5 (by omega)))
  · rw [h3] at hr
    clear h3
    go_enter Tryz.func111, Tryz.ntmps111
    go_wp2_with (first
      | (go_at_call 53; ((with_reducible refine (clone_any A1 n1 c1 p.opt _ x1).mono ?_); rintro e w2 ⟨A4, c4, rfl, ho4, hB2⟩); have P2 := P1.below hB2; have Pc2 := P2.cell; have Z2 := Z1.below hB2; (obtain ⟨w5, hw5, S5⟩ := store478 P2 (.int .u8 pr) (.slice A4 n1 c4) (.slice A3 n3 c3)); have pc5 := S5.blk.cell; have T5 := S5.bel (below_then R1 hB2) (by omega); have Z5 := S5.other (by omega) Z2; have zc5 := Z5.cell; have O5 := S5.own ho4 (fun a e => by have := ho4.ge a e; omega); have y5 := k3.below T5)
      | (go_at_call 93; ((with_reducible refine (hr w5 A4 c4 O5.bs y5).mono ?_); rintro e w6 ⟨rfl, hB6⟩); have Z6 := Z5.below hB6; have zc6 := Z6.cell; have T6 := below_then T5 hB6))
    obtain ⟨wf, hwf, Sf⟩ := store9 Z6 (.int .u8 0) (.int .u16 0) (.bool false) (.int .u8 0) (.int .u8 0) (.int .u32 0) (.int .u32 0) (.slice none 0 0) (.slice none 0 0)
    rw [hwf]
    have pf := Sf.blk.cell
    exact bodyPost_ret (by simp [results, Tryz.results111, go_sem, pf]) rfl (wiPost_no (Sf.bel T6 (by omega)))
theorem swith_ok (p : Pkt) (A1 : Option Addr) (n1 c1 : Nat) (A2 : Option Addr) (n2 c2 : Nat) (pr : Int) (A3 : Option Addr) (n3 c3 : Nat) (d : List UInt8) (w : World) (k1 : Bs w A1 n1 c1 p.opt) (k3 : Bs w A3 n3 c3 d) (h : wiE p n3 = 0) :
    Calls Tryz.prog 111 #[(.agg #[.int .u8 (p).tos, .int .u16 (p).id, .bool (p).keep, .int .u8 (p).ttl, .int .u8 (p).proto, .int .u32 (p).src, .int .u32 (p).dst, .slice A1 n1 c1, .slice A2 n2 c2]), .int .u8 pr, .slice A3 n3 c3] w (SwPost w p pr A3 n3 c3) := by
  have b1 := k1.max
  have l1 := k1.len
  have l3 := k3.len
  have hq : p.opt.length ≤ 40 ∧ p.opt.length % 4 = 0 ∧ 20 + p.opt.length + n3 ≤ 65535 := by
    unfold wiE at h
    split at h
    · omega
    · split at h <;> omega
  have hr := fun W A4 c4 k k3 => right_any { p with proto := pr, dat := d } A4 n1 c4 A3 n3 c3 W k k3
  rw [show rightP { p with proto := pr, dat := d } = true from by unfold rightP; simp [l3]; omega] at hr
  have h1 : (n1 : Int) ≤ 40 := by omega
  have h2 : ((n1 : Int) % 4 != 0) = false := by simp; omega
  clear hq h l1 l3
  obtain ⟨k, hk, w1, hw1, P1, Z1, R1⟩ := nwI2 w #[.int .u8 (p).tos, .int .u16 (p).id, .bool (p).keep, .int .u8 (p).ttl, .int .u8 (p).proto, .int .u32 (p).src, .int .u32 (p).dst, .slice A1 n1 c1, .slice A2 n2 c2] 26 #[.int .u8 0, .int .u16 0, .bool false, .int .u8 0, .int .u8 0, .int .u32 0, .int .u32 0, .slice none 0 0, .slice none 0 0] 26
  have Pc1 := P1.cell
  have Zc1 := Z1.cell
  have Pl1 := P1.lt
  have Zl1 := Z1.lt
  have x1 := (k1).below R1
  have y1 := (k3).below R1
  clear k1
  go_enter Tryz.func111, Tryz.ntmps111
  go_wp2_with (first
    | (go_at_call 53; ((with_reducible refine (clone_any A1 n1 c1 p.opt _ x1).mono ?_); rintro e w2 ⟨A4, c4, rfl, ho4, hB2⟩); have P2 := P1.below hB2; have Pc2 := P2.cell; have Z2 := Z1.below hB2; (obtain ⟨w5, hw5, S5⟩ := store478 P2 (.int .u8 pr) (.slice A4 n1 c4) (.slice A3 n3 c3)); have pc5 := S5.blk.cell; have T5 := S5.bel (below_then R1 hB2) (by omega); have Z5 := S5.other (by omega) Z2; have zc5 := Z5.cell; have O5 := S5.own ho4 (fun a e => by have := ho4.ge a e; omega); have y5 := k3.below T5)
    | (go_at_call 93; ((with_reducible refine (hr w5 A4 c4 O5.bs y5).mono ?_); rintro e w6 ⟨rfl, hB6⟩); have P6 := (S5.blk).below hB6; have pc6 := P6.cell; have Z6 := Z5.below hB6; have zc6 := Z6.cell; have T6 := below_then T5 hB6; have O6 := O5.below hB6))
  obtain ⟨wf, hwf, Sf⟩ := store9 Z6 (.int .u8 p.tos) (.int .u16 p.id) (.bool p.keep) (.int .u8 p.ttl) (.int .u8 pr) (.int .u32 p.src) (.int .u32 p.dst) (.slice A4 n1 c4) (.slice A3 n3 c3)
  rw [hwf]
  have pf := Sf.blk.cell
  have Of := Sf.own O6 (fun a e => by have := ho4.ge a e; omega)
  have r1 := R1.size
  exact bodyPost_ret (v := .tuple #[.agg #[.int .u8 p.tos, .int .u16 p.id, .bool p.keep, .int .u8 p.ttl, .int .u8 pr, .int .u32 p.src, .int .u32 p.dst, .slice A4 n1 c4, .slice A3 n3 c3], .int .i64 0]) (by simp [results, Tryz.results111, go_sem, pf]) rfl ⟨A4, n1, c4, rfl, Of.mono (by omega), Sf.bel T6 (by omega)⟩
theorem swith_bad (p : Pkt) (A1 : Option Addr) (n1 c1 : Nat) (A2 : Option Addr) (n2 c2 : Nat) (pr : Int) (A3 : Option Addr) (n3 c3 : Nat) (d : List UInt8) (w : World) (k1 : Bs w A1 n1 c1 p.opt) (k3 : Bs w A3 n3 c3 d) (h : wiE p n3 ≠ 0) :
    Calls Tryz.prog 111 #[(.agg #[.int .u8 (p).tos, .int .u16 (p).id, .bool (p).keep, .int .u8 (p).ttl, .int .u8 (p).proto, .int .u32 (p).src, .int .u32 (p).dst, .slice A1 n1 c1, .slice A2 n2 c2]), .int .u8 pr, .slice A3 n3 c3] w (WiPost w zP (wiE p n3)) := by
  have l1 := k1.len
  have l3 := k3.len
  by_cases h1 : (n1 : Int) ≤ 40
  · by_cases h2 : n1 % 4 = 0
    · by_cases h3 : 20 + (n1 : Int) + (n3 : Int) ≤ 65535
      · exact absurd (wiE_0 l1 h1 h2 h3) h
      · rw [wiE_8 l1 h1 h2 (by omega)]
        exact swith_no p A1 n1 c1 A2 n2 c2 pr A3 n3 c3 d w k1 k3 8 (.inr (.inr ⟨rfl, h1, m4_no h2, by unfold rightP; simp [l1, l3]; omega⟩))
    · rw [wiE_4 l1 (.inr h2)]
      exact swith_no p A1 n1 c1 A2 n2 c2 pr A3 n3 c3 d w k1 k3 4 (.inr (.inl ⟨rfl, h1, m4_yes h2⟩))
  · rw [wiE_4 l1 (.inl (by omega))]
    exact swith_no p A1 n1 c1 A2 n2 c2 pr A3 n3 c3 d w k1 k3 4 (.inl ⟨rfl, by omega⟩)
end Go.Proofs.YtjhpmeagopdaiaaGreat
namespace Go.Proofs.YtjhpmeagopdaiaaGreat
open Go.RowKit Go.Shelf
set_option linter.unusedVariables false
set_option linter.unusedSimpArgs false
attribute [local go_sem] Oper.semAt_some jump_normal jump_exit jump_ret jump_panic jump_goto
set_option linter.unusedVariables false
set_option linter.unusedSimpArgs false
set_option maxHeartbeats 8000000
set_option maxRecDepth 100000
structure TcPost (w : World) (s : Seg) (E : Int) (e : Ending) (w' : World) : Prop where
  out : ∃ OA on oc DA dn dc, e = .returned (.tuple #[(.agg #[.int .u16 (s).src, .int .u16 (s).dst, .int .u32 (s).seq, .int .u32 (s).ack, .int .u8 (s).flags, .int .u16 (s).win, .int .u16 (s).urg, .slice OA on oc, .slice DA dn dc]), .int .i64 E]) ∧ OsO w' w.heap.size OA on oc s.opts ∧ on ≤ 40 ∧ Own w' w.heap.size 5 DA dn dc s.dat ∧ Below w.heap.size w w'
theorem tcPost_no {w w' : World} {E : Int} (hB : Below w.heap.size w w') : TcPost w zS E (.returned (.tuple #[.agg #[.int .u16 0, .int .u16 0, .int .u32 0, .int .u32 0, .int .u8 0, .int .u16 0, .int .u16 0, .slice none 0 0, .slice none 0 0], .int .i64 E])) w' :=
  ⟨none, 0, 0, none, 0, 0, rfl, osO_nil _ _, by omega, own_nil _ _ _, hB⟩
end Go.Proofs.YtjhpmeagopdaiaaGreat
namespace Go.Proofs.YtjhpmeagopdaiaaGreat
open Go.RowKit Go.Shelf
set_option linter.unusedVariables false
set_option linter.unusedSimpArgs false

set_option maxHeartbeats 1000000
def NotOf (e : TypeId) (W : World) (j : Nat) : Prop := ∀ o, W.heap[j]? = some o → ∀ cur f, o ≠ .cells cur e f
theorem Own.apart {w w' : World} {base : Nat} {e : TypeId} {A : Option Addr} {n c : Nat} {l : List UInt8} {row : Option Nat} (h : Own w base e A n c l) (hg : w.grownBy w' row) (hr : ∀ j, row = some j → NotOf e w j) : Own w' base e A n c l :=
  h.kept hg (by
    rcases h.row.2 with ⟨hv, _⟩ | ⟨g, cap, cur, hv, _, hg2, _⟩
    · rw [hv]; exact .inl rfl
    · injection hv with h1 h2 h3
      subst h1 h3
      refine .inr fun he => ?_
      simp only [Value.ownBlock] at he
      exact hr g he.symm _ hg2 _ _ rfl)
theorem OwnG.apart {w w' : World} {base : Nat} {e : TypeId} {s : Nat} {A : Option Addr} {n c : Nat} {xs : List Value} {row : Option Nat} (h : OwnG w base e s A n c xs) (hg : w.grownBy w' row) (hr : ∀ j, row = some j → NotOf e w j) : OwnG w' base e s A n c xs :=
  h.kept hg (by
    rcases h.row.2 with ⟨hv, _⟩ | ⟨g, cap, cur, hv, _, hg2, _⟩
    · rw [hv]; exact .inl rfl
    · injection hv with h1 h2 h3
      subst h1 h3
      refine .inr fun he => ?_
      simp only [Value.ownBlock] at he
      exact hr g he.symm _ hg2 _ _ rfl)
theorem OsO.apart {w w' : World} {base : Nat} {A : Option Addr} {n c : Nat} {os : List Opt} {row : Option Nat} (h : OsO w base A n c os) (hg : w.grownBy w' row) (hr : ∀ j, row = some j → NotOf 5 w j ∧ NotOf 122 w j) : OsO w' base A n c os := by
  obtain ⟨xs, hx, hj⟩ := h.own
  refine ⟨h.len, xs, hx.apart hg (fun j e => (hr j e).2), fun j hjn => ?_⟩
  obtain ⟨h1, B, m, d, h2, h3⟩ := hj j hjn
  exact ⟨h1, B, m, d, h2, h3.apart hg (fun j e => (hr j e).1)⟩
theorem Blk.notOf {w : World} {k : Nat} {cs : Array Value} {t : TypeId} (h : Blk w k cs t) {e : TypeId} (he : t ≠ e) : NotOf e w k := by
  intro o ho cur f e2
  rw [h.rd] at ho
  subst e2
  simp only [Option.some.injEq, Obj.cells.injEq] at ho
  exact he ho.2.1
theorem OwnG.ne_blk {w : World} {base : Nat} {e : TypeId} {s : Nat} {A : Option Addr} {n c : Nat} {xs : List Value} (h : OwnG w base e s A n c xs) {k : Nat} {cs : Array Value} {t : TypeId} (b : Blk w k cs t) (he : t ≠ e) : (Value.slice A n c).ownBlock ≠ some k := by
  rcases h.row.2 with ⟨hv, _⟩ | ⟨g, cap, cur, hv, _, hg, _⟩
  · rw [hv]; simp [Value.ownBlock]
  · injection hv with h1 h2 h3
    subst h1 h3
    simp only [Value.ownBlock, ne_eq, Option.some.injEq]
    intro e2
    subst e2
    exact b.notOf he _ hg _ _ rfl
theorem OwnG.cells {w : World} {base : Nat} {e : TypeId} {s : Nat} {A : Option Addr} {n c : Nat} {xs : List Value} (h : OwnG w base e s A n c xs) : ∀ (j : Nat) (o : Obj), (Value.slice A n c).ownBlock = some j → w.heap[j]? = some o → o.isCells = true := by
  intro j o hj ho
  rcases h.row.2 with ⟨hv, _⟩ | ⟨g, cap, cur, hv, _, hg, _⟩
  · rw [hv] at hj; simp [Value.ownBlock] at hj
  · injection hv with h1 h2 h3
    subst h1 h3
    simp only [Value.ownBlock, Option.some.injEq] at hj
    subst hj
    rw [hg] at ho
    simp only [Option.some.injEq] at ho
    subst ho
    rfl
def NoCells (W : World) (j : Nat) : Prop := ∃ o, W.heap[j]? = some o ∧ o.isCells = false
theorem NoCells.notOf {W : World} {j : Nat} (h : NoCells W j) (e : TypeId) : NotOf e W j := by
  obtain ⟨o, ho, hc⟩ := h
  intro o' ho' cur f e2
  rw [ho] at ho'
  simp only [Option.some.injEq] at ho'
  subst ho' e2
  simp [Obj.isCells] at hc
theorem NoCells.lt {W : World} {j : Nat} (h : NoCells W j) : j < W.heap.size := by
  obtain ⟨o, ho, _⟩ := h
  exact (Array.getElem?_eq_some_iff.1 ho).1
theorem NoCells.below {W W' : World} {j : Nat} (h : NoCells W j) (hb : Below W.heap.size W W') : NoCells W' j := by
  have hl := h.lt
  obtain ⟨o, ho, hc⟩ := h
  exact ⟨o, (hb.block j hl).trans ho, hc⟩
theorem NoCells.set {W : World} {j : Nat} (h : NoCells W j) (p : Addr) (v : Value) : NoCells (W.setCell p v) j := by
  obtain ⟨o, ho, hc⟩ := h
  refine ⟨o, ?_, hc⟩
  simp only [World.setCell, Array.getElem?_modify, ho, Option.map_some]
  split
  · cases o <;> simp_all [Obj.isCells]
  · rfl
theorem NoCells.put {W : World} {j : Nat} (h : NoCells W j) (l : Nat) (o' : Obj) (ho' : o'.isCells = false) : NoCells (W.putObj l o') j := by
  have hl := h.lt
  by_cases e : j = l
  · subst e
    exact ⟨o', World.putObj_heap_same hl, ho'⟩
  · obtain ⟨o, ho, hc⟩ := h
    exact ⟨o, (World.putObj_heap_other e).trans ho, hc⟩
theorem Blk.put {W : World} {k : Nat} {cs : Array Value} {t : TypeId} (h : Blk W k cs t) {l : Nat} (hn : NoCells W l) (o' : Obj) : Blk (W.putObj l o') k cs t := by
  refine ⟨(World.putObj_heap_other fun e => ?_).trans h.rd⟩
  subst e
  obtain ⟨o, ho, hc⟩ := hn
  rw [h.rd] at ho
  simp only [Option.some.injEq] at ho
  subst ho
  simp [Obj.isCells] at hc
theorem new2 (w : World) (x y : Value) (t : TypeId) : ∀ (q : Nat) u, [x, y][q]? = some u → (w.alloc (.cells #[x, y] t)).cell? ((⟨w.heap.size, 0, none⟩ : Addr).add q) = some u := by
  intro q u h
  have h1 := (blk_new w #[x, y] t _ rfl).cell.1 q
  have h2 : (⟨w.heap.size, 0, none⟩ : Addr).add q = ⟨w.heap.size, q, none⟩ := by cases q <;> simp [Addr.add]
  rw [h2, h1]
  simpa using h
theorem info_opt : (Tryz.prog.info? 122).map (fun i => (i.zero, i.size, i.bytes)) = some (some (.agg #[.int .u8 0, .slice none 0 0]), 2, 32) := by kernel_rfl
attribute [local go_sem] Oper.semAt_some jump_normal jump_exit jump_ret jump_panic jump_goto
set_option linter.unusedVariables false
set_option linter.unusedSimpArgs false
set_option linter.unusedSimpArgs false
set_option maxHeartbeats 8000000
set_option maxRecDepth 100000
theorem optsK_len : ∀ (k : Nat) (l : List UInt8) (os : List Opt), optsK k l = some os → os.length ≤ l.length
  | 0, l, os, h => by cases h
  | k + 1, l, os, h => by
    unfold optsK at h
    cases hx : nx l with
    | none => rw [hx] at h; cases h
    | some x =>
      cases x with
      | none =>
        rw [hx] at h
        simp only [Option.some.injEq] at h
        subst h
        simp
      | some y =>
        obtain ⟨o, n⟩ := y
        rw [hx] at h
        simp only [Option.map_eq_some_iff] at h
        obtain ⟨r, hr, rfl⟩ := h
        have := optsK_len k _ r hr
        have := nx_some hx
        simp only [List.length_drop, List.length_cons] at *
        omega
theorem optsP_len {l : List UInt8} {os : List Opt} (h : optsP l = some os) : os.length ≤ l.length := optsK_len _ l os h
structure SO (W : World) (base r : Nat) (t : TypeId) (A : Option Addr) (n c : Nat) (os : List Opt) : Prop where
  o : OsO W base A n c os
  b : ∃ cs, Blk W r cs t
theorem SO.set {W : World} {base r : Nat} {t : TypeId} {A : Option Addr} {n c : Nat} {os : List Opt} (h : SO W base r t A n c os) (h1 : t ≠ 5) (h2 : t ≠ 122) (j : Nat) (v : Value) : SO (W.setCell ⟨r, j, none⟩ v) base r t A n c os := by
  obtain ⟨h3, cs, h4⟩ := h
  exact ⟨h3.apart (grownBy_setCell _ _ _) (fun j e => by cases e; exact ⟨h4.notOf h1, h4.notOf h2⟩), _, h4.set_ j v⟩
theorem SO.below {W W' : World} {base r : Nat} {t : TypeId} {A : Option Addr} {n c : Nat} {os : List Opt} (h : SO W base r t A n c os) (hb : Below W.heap.size W W') : SO W' base r t A n c os := by
  obtain ⟨h3, cs, h4⟩ := h
  exact ⟨h3.below hb, cs, h4.below hb⟩
structure TcC (w : World) (k kB D : Nat) (os : List Opt) (W : World) : Prop where
  s : ∃ OA oc, Blk W (k + 1) #[.int .u16 0, .int .u16 0, .int .u32 0, .int .u32 0, .int .u8 0, .int .u16 0, .int .u16 0, .slice OA os.length oc, .slice none 0 0] 60 ∧ OsO W w.heap.size OA os.length oc os
  e : Blk W (k + 1 + 1) #[.int .i64 3] 30
  b : ∃ v, Blk W kB #[v] 24
  d : NoCells W (D + 1)
theorem TcC.below {w : World} {k kB D : Nat} {os : List Opt} {W W' : World} (h : TcC w k kB D os W) (hb : Below W.heap.size W W') : TcC w k kB D os W' := by
  obtain ⟨⟨OA, oc, h1, h2⟩, h3, ⟨v, h4⟩, h5⟩ := h
  exact ⟨⟨OA, oc, h1.below hb, h2.below hb⟩, h3.below hb, ⟨v, h4.below hb⟩, h5.below hb⟩
theorem TcC.put {w : World} {k kB D : Nat} {os : List Opt} {W : World} (h : TcC w k kB D os W) (o : Obj) (ho : o.isCells = false) : TcC w k kB D os (W.putObj (D + 1) o) := by
  obtain ⟨⟨OA, oc, k1, k2⟩, k3, ⟨v, k4⟩, k5⟩ := h
  exact ⟨⟨OA, oc, k1.put k5 o, k2.apart (grownBy_putObj' _ _ _) (fun j e => by cases e; exact ⟨k5.notOf _, k5.notOf _⟩)⟩, k3.put k5 o, ⟨v, k4.put k5 o⟩, k5.put _ _ ho⟩
end Go.Proofs.YtjhpmeagopdaiaaGreat
namespace Go.Proofs.YtjhpmeagopdaiaaGreat
open Go.RowKit
set_option linter.unusedVariables false
set_option linter.unusedSimpArgs false
set_option maxHeartbeats 4000000
theorem tc_ways (p : Pkt) (n2 : Nat) (l2 : p.dat.length = n2) (x : Int) (hx : bt p.dat 12 = x) (hd : Nat) (hh : hdS p.dat = hd) :
    (tcE p ≠ 0 ∧ ((tcE p = 12 ∧ (p.proto != 6) = true) ∨ (tcE p = 3 ∧ (p.proto != 6) = false ∧ (n2 : Int) < 20) ∨ (tcE p = 4 ∧ (p.proto != 6) = false ∧ 20 ≤ (n2 : Int) ∧ (hd : Int) < 20) ∨ (tcE p = 4 ∧ (p.proto != 6) = false ∧ 20 ≤ (n2 : Int) ∧ 20 ≤ (hd : Int) ∧ (x % 16 != 0) = true) ∨
      (tcE p = 3 ∧ (p.proto != 6) = false ∧ 20 ≤ (n2 : Int) ∧ 20 ≤ (hd : Int) ∧ (x % 16 != 0) = false ∧ (n2 : Int) < (hd : Int)) ∨ (tcE p = 5 ∧ (p.proto != 6) = false ∧ 20 ≤ (n2 : Int) ∧ 20 ≤ (hd : Int) ∧ (x % 16 != 0) = false ∧ (hd : Int) ≤ (n2 : Int) ∧ (psum p 6 p.dat == 0) = false))) ∨
    ((p.proto != 6) = false ∧ 20 ≤ (n2 : Int) ∧ 20 ≤ (hd : Int) ∧ (x % 16 != 0) = false ∧ (hd : Int) ≤ (n2 : Int) ∧ (psum p 6 p.dat == 0) = true ∧ (optsP ((p.dat.take hd).drop 20) = none → tcE p = 4) ∧ (∀ os, optsP ((p.dat.take hd).drop 20) = some os → tcE p = 0)) := by
  unfold tcE
  rw [l2, hh, hx]
  by_cases h1 : p.proto = 6
  · by_cases h2 : n2 < 20
    · have h2' : (n2 : Int) < 20 := by omega
      simp [h1, h2, h2']
    · have h2' : 20 ≤ (n2 : Int) := by omega
      by_cases h3 : hd < 20
      · have h3' : (hd : Int) < 20 := by omega
        simp [h1, h2, h2', h3, h3']
      · have h3' : 20 ≤ (hd : Int) := by omega
        by_cases h4 : x % 16 = 0
        · by_cases h5 : n2 < hd
          · have h5' : (n2 : Int) < hd := by omega
            simp [h1, h2, h2', h3, h3', h4, h5, h5']
          · have h5' : (hd : Int) ≤ n2 := by omega
            by_cases h6 : psum p 6 p.dat = 0
            · right
              refine ⟨by simp [h1], h2', h3', by simp [h4], h5', by simp [h6], fun h => ?_, fun os h => ?_⟩
              · simp [h1, h2, h3, h4, h5, h6, h]
              · simp [h1, h2, h3, h4, h5, h6, h]
            · left
              have h6' : (psum p 6 p.dat == 0) = false := by simp [h6]
              rw [if_neg (by simp [h1]), if_neg h2, if_neg (by simp [h3, h4]), if_neg h5, if_pos h6]
              exact ⟨by decide, .inr (.inr (.inr (.inr (.inr ⟨rfl, by simp [h1], h2', h3', by simp [h4], h5', h6'⟩))))⟩
        · left
          rw [if_neg (by simp [h1]), if_neg h2, if_pos (.inr h4)]
          exact ⟨by decide, .inr (.inr (.inr (.inl ⟨rfl, by simp [h1], h2', h3', by simp [h4]⟩)))⟩
  · left
    rw [if_pos h1]
    exact ⟨by decide, .inl ⟨rfl, by simp [h1]⟩⟩
set_option maxRecDepth 100000

def Kd.OkN (Rl : World → World → Prop) : Kd → Prop
  | .v _ => True
  | .b _ _ => False
  | .p q => ∀ w w' u, q w u → Rl w w' → q w' u
structure GoesN (P : Program) (K : Kd) (Rl : World → World → Prop) (J : World → Prop) (o : Oper) (W : World) (a : Act) : Prop where
  out : OpGoes P (fun v w' => K.holds w' v ∧ Rl W w' ∧ J w') ((execOp a.eval o).run P W)
def Ob1N (P : Program) (ops : Array Oper) (a0 : Act) (w0 : World) (Rl : World → World → Prop) (J : Nat → World → Prop) (c : Nat) (x : Bool) (nz ks : List (Tmp × Kd)) (o : Oper) (K : Kd) : Prop :=
  (x = false ∧ wantK ops ks o.guard = some true ∧ ∀ W, Rl w0 W → leanOn ks W o.op.operands.toList (Goes P K o W) a0) ∨
  (x = true ∧ wantK ops ks o.guard = some true ∧ ∀ W, Rl w0 W → J c W → leanOn (nz ++ ks) W o.op.operands.toList (GoesN P K Rl (J (c + 1)) o W) a0) ∨
  (x = false ∧ wantK ops ks o.guard = some false ∧ K = .v undef)
def kT : Kd := .p fun _ _ => True
def ObsN (P : Program) (ops : Array Oper) (a0 : Act) (w0 : World) (Rl : World → World → Prop) (J : Nat → World → Prop) (exs : List Nat) (fin : List (Tmp × Kd) → Prop) : Nat → Nat → List (Tmp × Kd) → List (Tmp × Kd) → List Oper → Prop
  | _, _, _, ks, [] => fin ks
  | i, c, nz, ks, o :: rest => ∃ K K' t, o.dst = some t ∧ (K.Ok ∧ (K' = K ∨ K' = kT) ∧ (lastX exs i = true ∨ K'.OkN Rl)) ∧ Ob1N P ops a0 w0 Rl J c (exs.elem i) nz ks o K ∧
      ObsN P ops a0 w0 Rl J exs fin (i + 1) (bif exs.elem i then c + 1 else c) (bif exs.elem i then [(t, K)] else (bif c == 0 then (t, K) :: nz else nz)) ((t, K') :: ks) rest
section
variable {P : Program} {ops : Array Oper} {a0 : Act} {w0 : World} {Rl : World → World → Prop} {J : Nat → World → Prop} {exs : List Nat} {fin : List (Tmp × Kd) → Prop} {i c : Nat} {nz ks : List (Tmp × Kd)} {rest : List Oper}
  {t : Tmp} {op : Op} {ty : TypeId} {pos : String} {after : Array Edge} {gd : Option (Nat × Bool)}
theorem ObsN.v {x : Value} (hx : exs.elem i = false) (hg : wantK ops ks gd = some true) (ho : ∀ W, Rl w0 W → leanOn ks W op.operands.toList (Goes P (.v x) ⟨some t, op, ty, pos, after, gd⟩ W) a0)
    (hr : ObsN P ops a0 w0 Rl J exs fin (i + 1) c (bif c == 0 then (t, .v x) :: nz else nz) ((t, .v x) :: ks) rest) : ObsN P ops a0 w0 Rl J exs fin i c nz ks (⟨some t, op, ty, pos, after, gd⟩ :: rest) :=
  ⟨.v x, .v x, t, rfl, ⟨trivial, .inl rfl, .inr trivial⟩, .inl ⟨hx, hg, ho⟩, by rw [hx]; exact hr⟩
theorem ObsN.l {q : World → Value → Prop} (hx : exs.elem i = false) (hg : wantK ops ks gd = some true) (hkb : ∀ w w' v, q w v → Below w.heap.size w w' → q w' v) (ho : ∀ W, Rl w0 W → leanOn ks W op.operands.toList (Goes P (.p q) ⟨some t, op, ty, pos, after, gd⟩ W) a0)
    (hr : ObsN P ops a0 w0 Rl J exs fin (i + 1) c (bif c == 0 then (t, .p q) :: nz else nz) ((t, kT) :: ks) rest) : ObsN P ops a0 w0 Rl J exs fin i c nz ks (⟨some t, op, ty, pos, after, gd⟩ :: rest) :=
  ⟨.p q, kT, t, rfl, ⟨hkb, .inr rfl, .inr fun _ _ _ _ _ => trivial⟩, .inl ⟨hx, hg, ho⟩, by rw [hx]; exact hr⟩
theorem ObsN.p {q : World → Value → Prop} (hx : exs.elem i = false) (hg : wantK ops ks gd = some true) (hkb : ∀ w w' v, q w v → Below w.heap.size w w' → q w' v) (hk : ∀ w w' v, q w v → Rl w w' → q w' v) (ho : ∀ W, Rl w0 W → leanOn ks W op.operands.toList (Goes P (.p q) ⟨some t, op, ty, pos, after, gd⟩ W) a0)
    (hr : ObsN P ops a0 w0 Rl J exs fin (i + 1) c (bif c == 0 then (t, .p q) :: nz else nz) ((t, .p q) :: ks) rest) : ObsN P ops a0 w0 Rl J exs fin i c nz ks (⟨some t, op, ty, pos, after, gd⟩ :: rest) :=
  ⟨.p q, .p q, t, rfl, ⟨hkb, .inl rfl, .inr hk⟩, .inl ⟨hx, hg, ho⟩, by rw [hx]; exact hr⟩
theorem ObsN.ev {x : Value} (hx : exs.elem i = true) (hg : wantK ops ks gd = some true) (ho : ∀ W, Rl w0 W → J c W → leanOn (nz ++ ks) W op.operands.toList (GoesN P (.v x) Rl (J (c + 1)) ⟨some t, op, ty, pos, after, gd⟩ W) a0)
    (hr : ObsN P ops a0 w0 Rl J exs fin (i + 1) (c + 1) [(t, .v x)] ((t, .v x) :: ks) rest) : ObsN P ops a0 w0 Rl J exs fin i c nz ks (⟨some t, op, ty, pos, after, gd⟩ :: rest) :=
  ⟨.v x, .v x, t, rfl, ⟨trivial, .inl rfl, .inr trivial⟩, .inr (.inl ⟨hx, hg, ho⟩), by rw [hx]; exact hr⟩
theorem ObsN.ep {q : World → Value → Prop} (hx : exs.elem i = true) (hg : wantK ops ks gd = some true) (hl : lastX exs i = true) (hkb : ∀ w w' v, q w v → Below w.heap.size w w' → q w' v) (ho : ∀ W, Rl w0 W → J c W → leanOn (nz ++ ks) W op.operands.toList (GoesN P (.p q) Rl (J (c + 1)) ⟨some t, op, ty, pos, after, gd⟩ W) a0)
    (hr : ObsN P ops a0 w0 Rl J exs fin (i + 1) (c + 1) [(t, .p q)] ((t, .p q) :: ks) rest) : ObsN P ops a0 w0 Rl J exs fin i c nz ks (⟨some t, op, ty, pos, after, gd⟩ :: rest) :=
  ⟨.p q, .p q, t, rfl, ⟨hkb, .inl rfl, .inl hl⟩, .inr (.inl ⟨hx, hg, ho⟩), by rw [hx]; exact hr⟩
theorem ObsN.skip (hx : exs.elem i = false) (hg : wantK ops ks gd = some false) (hr : ObsN P ops a0 w0 Rl J exs fin (i + 1) c (bif c == 0 then (t, .v undef) :: nz else nz) ((t, .v undef) :: ks) rest) : ObsN P ops a0 w0 Rl J exs fin i c nz ks (⟨some t, op, ty, pos, after, gd⟩ :: rest) :=
  ⟨.v undef, .v undef, t, rfl, ⟨trivial, .inl rfl, .inr trivial⟩, .inr (.inr ⟨hx, hg, rfl⟩), by rw [hx]; exact hr⟩
theorem ObsN.nil (h : fin ks) : ObsN P ops a0 w0 Rl J exs fin i c nz ks [] := h
end
theorem ObsN.out {P : Program} {ops : Array Oper} {a0 : Act} {w0 : World} {Rl : World → World → Prop} {J : Nat → World → Prop} {exs : List Nat} {fin : List (Tmp × Kd) → Prop} : ∀ {l : List Oper} {i0 : Nat} {nz ks : List (Tmp × Kd)}, ObsN P ops a0 w0 Rl J exs fin i0 (czX exs i0) nz ks l →
    ∃ Kt Ks : Nat → Kd, ∃ kn kz : Nat → List (Tmp × Kd), kz 0 = ks ∧ kn 0 = nz ∧ fin (kz l.length) ∧ ∀ i o, l[i]? = some o → ∃ t, o.dst = some t ∧ ((Kt i).Ok ∧ (Ks i = Kt i ∨ Ks i = kT) ∧ (lastX exs (i0 + i) = true ∨ (Ks i).OkN Rl)) ∧ Ob1N P ops a0 w0 Rl J (czX exs (i0 + i)) (exs.elem (i0 + i)) (kn i) (kz i) o (Kt i) ∧ kz (i + 1) = (t, Ks i) :: kz i ∧
      kn (i + 1) = (bif exs.elem (i0 + i) then [(t, Kt i)] else (bif czX exs (i0 + i) == 0 then (t, Kt i) :: kn i else kn i))
  | [], i0, nz, ks, h => ⟨fun _ => .v undef, fun _ => .v undef, fun _ => nz, fun _ => ks, rfl, rfl, h, fun i o ho => by simp at ho⟩
  | o :: rest, i0, nz, ks, ⟨K, K', t, hd, hk, hob, hr⟩ => by
    have hr' : ObsN P ops a0 w0 Rl J exs fin (i0 + 1) (czX exs (i0 + 1)) (bif exs.elem i0 then [(t, K)] else (bif czX exs i0 == 0 then (t, K) :: nz else nz)) ((t, K') :: ks) rest := hr
    obtain ⟨Kt, Ks, kn, kz, h0, hn0, hf, hall⟩ := ObsN.out hr'
    refine ⟨fun i => match i with | 0 => K | i + 1 => Kt i, fun i => match i with | 0 => K' | i + 1 => Ks i, fun i => match i with | 0 => nz | i + 1 => kn i, fun i => match i with | 0 => ks | i + 1 => kz i, rfl, rfl, hf, fun i o' ho' => ?_⟩
    cases i with
    | zero =>
      simp only [List.getElem?_cons_zero, Option.some.injEq] at ho'
      subst ho'
      exact ⟨t, hd, hk, hob, h0, hn0⟩
    | succ i =>
      have := hall i o' (by simpa using ho')
      rw [show i0 + 1 + i = i0 + (i + 1) from by omega] at this
      exact this
section
variable {P : Program} {Q : Exit → Act → World → Prop}
end
structure KeepR (B : Nat) (W W' : World) : Prop where
  below : Below (min B W.heap.size) W W'
  ty : ∀ k cs t, t ≠ 5 → Blk W k cs t → Blk W' k cs t
theorem KeepR.of (B : Nat) : ∀ a b, Below a.heap.size a b → KeepR B a b := fun a b h => ⟨h.mono (Nat.min_le_right _ _), fun k cs t _ bl => bl.below h⟩
theorem KeepR.trans (B : Nat) : ∀ a b c, KeepR B a b → KeepR B b c → KeepR B a c := fun a b c h k => ⟨h.below.trans (k.below.mono (by have := h.below.size; omega)), fun i cs t ht bl => k.ty i cs t ht (h.ty i cs t ht bl)⟩
theorem KeepR.bel {B : Nat} {a b c : World} (h : Below B a b) (k : KeepR B b c) (hB : B ≤ b.heap.size) : Below B a c := h.trans (k.below.mono (by omega))

set_option maxHeartbeats 1000000
def isExt : Op → Bool
  | .extract .. => true
  | _ => false
def lateL (m z s : Nat) : Array Bool := Array.ofFn fun i : Fin s => decide (i.val < m) && i.val != z
def upZ (ops : Array Oper) (lo hi z j : Nat) : Bool := (List.range (hi + 1 - lo)).any fun k => lo + k != z && match ops[lo + k]? with
  | some o => hasOn o j
  | none => false
def regZ (ops : Array Oper) (m z n : Nat) : Bool :=
  decide (m ≤ ops.size) && decide (z < m) && (List.range m).all (mainB ops m n) && (List.range ops.size).all (downB ops) &&
    ((List.range m).all fun j => j == z || upZ ops (j + 1) m z j) && ((List.range (ops.size - 1 - m)).all fun k => upB ops (m + k + 1) (m + k + 1) (m + k)) &&
    Region.noSelect ops && Region.free .any ops (lateL m z ops.size) z && (Region.ready .any ops (lateL m z ops.size)).contains z &&
    (match ops[z]? with
      | some o => isExt o.op && o.guard.isNone
      | none => false)
structure RegOkZ (ops : Array Oper) (m z n : Nat) : Prop where
  le : m ≤ ops.size
  zlt : z < m
  main : ∀ i o, i < m → ops[i]? = some o → ∃ t, o.dst = some t ∧ t < n ∧ (∀ j, j < i → dstOf ops j ≠ some t) ∧ isSel o.op = false ∧
    (∀ s, .tmp s ∈ o.op.operands → ∀ j, j < m → dstOf ops j = some s → hasOn o j = true ∧ j < i) ∧ (∀ g b, o.guard = some (g, b) → hasOn o g = true ∧ g < i)
  down : ∀ i o, ops[i]? = some o → ∀ e ∈ o.after, Region.binds .any e = true → e.on < i
  up : ∀ j, j < m → j ≠ z → ∃ k o, j < k ∧ k ≤ m ∧ k ≠ z ∧ ops[k]? = some o ∧ hasOn o j = true
  tail : ∀ k, m ≤ k → k + 1 < ops.size → ∃ o, ops[k + 1]? = some o ∧ hasOn o k = true
  nosel : Region.noSelect ops = true
  free : Region.free .any ops (lateL m z ops.size) z = true
  rdy : (Region.ready .any ops (lateL m z ops.size)).contains z = true
  ext : ∀ o, ops[z]? = some o → isExt o.op = true ∧ o.guard = none
theorem upZ_out {ops : Array Oper} {lo hi z j : Nat} (h : upZ ops lo hi z j = true) : ∃ k o, lo ≤ k ∧ k ≤ hi ∧ k ≠ z ∧ ops[k]? = some o ∧ hasOn o j = true := by
  obtain ⟨k, hk, hh⟩ := List.any_eq_true.1 h
  have := List.mem_range.1 hk
  simp only [Bool.and_eq_true, bne_iff_ne, ne_eq] at hh
  obtain ⟨hz, hh⟩ := hh
  cases ho : ops[lo + k]? with
  | none => rw [ho] at hh; cases hh
  | some o => rw [ho] at hh; exact ⟨lo + k, o, by omega, by omega, hz, ho, hh⟩
theorem regZ_out {ops : Array Oper} {m z n : Nat} (h : regZ ops m z n = true) : RegOkZ ops m z n := by
  unfold regZ at h
  simp only [Bool.and_eq_true, decide_eq_true_eq, List.all_eq_true, List.mem_range, Bool.or_eq_true, beq_iff_eq] at h
  obtain ⟨⟨⟨⟨⟨⟨⟨⟨⟨h1, hz⟩, h2⟩, h3⟩, h4⟩, h5⟩, h6⟩, h7⟩, h8⟩, h9⟩ := h
  refine ⟨h1, hz, fun i o hi ho => ?_, fun i o ho e he hb => ?_, fun j hj hjz => ?_, fun k hk hk1 => ?_, h6, h7, h8, fun o ho => ?_⟩
  · have := h2 i hi
    unfold mainB at this
    rw [ho] at this
    simp only [Bool.and_eq_true] at this
    obtain ⟨⟨⟨a1, a2⟩, a3⟩, a4⟩ := this
    cases ht : o.dst with
    | none => rw [ht] at a1; cases a1
    | some t =>
      rw [ht] at a1
      simp only [Bool.and_eq_true, decide_eq_true_eq, List.all_eq_true, List.mem_range, bne_iff_ne, ne_eq] at a1
      refine ⟨t, rfl, a1.1, a1.2, by simpa using a2, fun s hs j hj hd => ?_, fun g b hg => ?_⟩
      · rw [Array.all_eq_true] at a3
        obtain ⟨q, hq, hqs⟩ := Array.mem_iff_getElem.1 hs
        have := a3 q hq
        rw [hqs] at this
        simp only [List.all_eq_true, List.mem_range, Bool.or_eq_true, bne_iff_ne, ne_eq, Bool.and_eq_true, decide_eq_true_eq] at this
        exact (this j hj).resolve_left (fun h => h hd)
      · rw [hg] at a4
        simpa using a4
  · have hi : i < ops.size := (Array.getElem?_eq_some_iff.1 ho).1
    have := h3 i hi
    unfold downB at this
    rw [ho] at this
    simp only [Array.all_eq_true] at this
    obtain ⟨k, hk, rfl⟩ := Array.mem_iff_getElem.1 he
    have := this k hk
    rw [hb] at this
    simpa using this
  · obtain ⟨k, o, k1, k2, kz, k3, k4⟩ := upZ_out ((h4 j hj).resolve_left hjz)
    exact ⟨k, o, by omega, k2, kz, k3, k4⟩
  · have := h5 (k - m) (by omega)
    rw [show m + (k - m) = k from by omega] at this
    obtain ⟨q, o, k1, k2, k3, k4⟩ := upB_out this
    obtain rfl : q = k + 1 := by omega
    exact ⟨o, k3, k4⟩
  · rw [ho] at h9
    simp only [Bool.and_eq_true, Option.isNone_iff_eq_none] at h9
    exact h9
theorem dst_injZ {ops : Array Oper} {m z n : Nat} (h : RegOkZ ops m z n) {i j : Nat} {t : Tmp} (im : i < m) (jm : j < m) (hi : dstOf ops i = some t) (hj : dstOf ops j = some t) : i = j := by
  have key : ∀ i j, j < m → dstOf ops i = some t → dstOf ops j = some t → i < j → False := by
    intro i j jm hi hj hlt
    obtain ⟨o, ho, hd⟩ := dstOf_some hj
    obtain ⟨s, hs, _, hne, _⟩ := h.main j o jm ho
    rw [hd] at hs
    injection hs with hs
    subst hs
    exact hne i hlt hi
  rcases Nat.lt_trichotomy i j with hlt | heq | hlt
  · exact (key i j jm hi hj hlt).elim
  · exact heq
  · exact (key j i im hj hi hlt).elim
theorem all_beforeZ {ops : Array Oper} {m z n : Nat} (h : RegOkZ ops m z n) {listed : Array Bool} (hd : ∀ i o, ops[i]? = some o → listed.getD i false = true → ∀ e ∈ o.after, Region.binds .any e = true → listed.getD e.on false = true)
    {k : Nat} {ok : Oper} (hk : m ≤ k) (hok : ops[k]? = some ok) (hr : ∀ e ∈ ok.after, Region.binds .any e = true → listed.getD e.on false = true) : ∀ d j, j + d + 1 = k → j ≠ z → listed.getD j false = true := by
  have hks : k < ops.size := (Array.getElem?_eq_some_iff.1 hok).1
  intro d
  induction d using Nat.strongRecOn with
  | _ d ih =>
    intro j hj hjz
    have zlt := h.zlt
    have : ∃ q o, j < q ∧ q ≤ k ∧ q ≠ z ∧ ops[q]? = some o ∧ hasOn o j = true := by
      by_cases jm : j < m
      · obtain ⟨q, o, q1, q2, qz, q3⟩ := h.up j jm hjz
        exact ⟨q, o, q1, by omega, qz, q3⟩
      · obtain ⟨o, ho, hh⟩ := h.tail j (by omega) (by omega)
        exact ⟨j + 1, o, by omega, by omega, by omega, ho, hh⟩
    obtain ⟨q, o, q1, q2, qz, q3, q4⟩ := this
    obtain ⟨e, he, heo, heb⟩ := hasOn_mem q4
    rw [← heo]
    by_cases e1 : q = k
    · subst e1
      rw [hok] at q3
      injection q3 with q3
      subst q3
      exact hr e he heb
    · exact hd q o q3 (ih (k - q - 1) (by omega) q (by omega) qz) e he heb
section
variable {P : Program} {Q : Exit → Act → World → Prop}
theorem tail_anyZ {ops : Array Oper} {m z n : Nat} (h : RegOkZ ops m z n) : ∀ (fuel k : Nat) (listed : Array Bool) (a : Act) (w : World), m ≤ k → k ≤ ops.size → listed.size = ops.size →
    (∀ i, i < ops.size → listed.getD i false = decide (i < k)) → ops.size - k ≤ fuel → wpList P ops Q (ops.toList.drop k) a w → wpAny P .any ops Q fuel listed a w := by
  intro fuel
  have hnil : ∀ (k : Nat) (listed : Array Bool), listed.size = ops.size → (∀ i, i < ops.size → listed.getD i false = decide (i < k)) → k ≤ ops.size → Region.ready .any ops listed = [] → k = ops.size := by
    intro k listed hs hl hk hr
    rcases Nat.lt_or_ge k ops.size with hlt | hge
    · exfalso
      have hm : k ∈ Region.ready .any ops listed := by
        rw [mem_ready]
        refine ⟨by rw [getD_ff (by omega), hl k hlt]; simp, ops[k], Array.getElem?_eq_getElem hlt, fun e he hb => ?_⟩
        have := h.down k _ (Array.getElem?_eq_getElem hlt) e he hb
        rw [hl _ (by omega)]
        simpa using this
      rw [hr] at hm
      cases hm
    · omega
  induction fuel with
  | zero =>
    intro k listed a w hmk hk hs hl hf hw
    obtain rfl : k = ops.size := by omega
    have hd : ops.toList.drop ops.size = [] := by simp
    rw [hd] at hw
    refine ⟨?_, hw⟩
    unfold Region.ready
    rw [List.filter_eq_nil_iff]
    intro i hi
    have hi := List.mem_range.1 hi
    rw [getD_ff (by omega), hl i hi]
    simp [hi]
  | succ fuel ih =>
    intro k listed a w hmk hk hs hl hf hw
    refine ⟨fun hr => ?_, fun i hi => ?_⟩
    · obtain rfl := hnil k listed hs hl hk hr
      have hd : ops.toList.drop ops.size = [] := by simp
      rw [hd] at hw
      exact hw
    · rw [mem_ready] at hi
      obtain ⟨hn, o, ho, hall⟩ := hi
      have his : i < ops.size := (Array.getElem?_eq_some_iff.1 ho).1
      rw [getD_ff (by omega), hl i his] at hn
      have hik : k ≤ i := by simpa using hn
      have hki : i ≤ k := by
        rcases Nat.lt_or_ge k i with hlt | hge
        · exfalso
          have := all_beforeZ h (listed := listed) (fun q oq hq hlq e he hb => by
            have hqs : q < ops.size := (Array.getElem?_eq_some_iff.1 hq).1
            have h1 := h.down q oq hq e he hb
            rw [hl q hqs] at hlq
            rw [hl _ (by omega)]
            simp only [decide_eq_true_eq] at hlq ⊢
            omega) (by omega) ho hall (i - k - 1) k (by omega) (by have := h.zlt; omega)
          rw [hl k (by omega)] at this
          simp at this
        · exact hge
      obtain rfl : i = k := by omega
      have hdrop : ops.toList.drop i = o :: ops.toList.drop (i + 1) := by
        have : ops.toList[i]? = some o := by simpa using ho
        rw [List.drop_eq_getElem_cons (by simpa using his)]
        congr 1
        have e2 := (List.getElem?_eq_some_iff.1 this).2
        exact e2
      rw [hdrop] at hw
      have hnext : ∀ a w, wpList P ops Q (ops.toList.drop (i + 1)) a w → wpAny P .any ops Q fuel (listed.setIfInBounds i true) a w := by
        intro a w hw
        refine ih (i + 1) _ a w (by omega) (by omega) (by simpa using hs) (fun j hj => ?_) (by omega) hw
        rw [getD_set (by omega), hl j hj]
        by_cases e : j = i
        · subst e; simp
        · simp [e]; omega
      unfold wpOp
      rw [ho]
      simp only
      unfold wpList at hw
      split
      · rename_i hwant
        rw [if_pos hwant] at hw
        exact hw.imp (Oper.wp_mono hnext) id
      · rename_i hwant
        rw [if_neg hwant] at hw
        exact hnext _ _ hw
theorem extract_ways {ρ : Operand → Value} {o : Oper} (h : isExt o.op = true) : (∃ v, ∀ w, (execOp ρ o).run P w = .ok (.value v) w) ∨ ∀ w n w', (execOp ρ o).run P w ≠ .ok n w' := by
  obtain ⟨dst, op, ty, pos, after, g⟩ := o
  cases op <;> simp only [isExt] at h <;> try cases h
  rename_i t ix
  simp only [execOp, Instr.extract]
  cases hv : ρ t
  case tuple vs =>
    cases hx : vs[ix]? with
    | none => right; intro w n w'; simp [hx]
    | some v => left; exact ⟨v, fun w => by simp [hx]⟩
  all_goals right; intro w n w'; simp
theorem region_z {id : Nat} {l : List Oper} {a : Act} {w : World} (m z : Nat) (hm : P.follows .mixedOrders = true) (hchk : regZ l.toArray m z a.tmps.size = true) (hQ : ∀ (t : Tmp) v c a w, Q (.panic c) (Act.put a (some t) v) w → Q (.panic c) a w)
    (hobs : ObsK P l.toArray a w (fun ks => ∀ W, Below w.heap.size w W → finOn W ks (fun a' => wpList P l.toArray Q (l.drop m) a' W) a) [] (l.take m)) :
    (Code.region id l.toArray true).wp P Q a w := by
  have R := regZ_out hchk
  obtain ⟨ops, hops⟩ : ∃ ops, l.toArray = ops := ⟨_, rfl⟩
  have hl' : l = ops.toList := by rw [← hops]
  rw [hops] at hobs R ⊢
  rw [hl'] at hobs
  clear hops hl' hchk
  obtain ⟨Ks, kz, hz0, hfin, hall⟩ := hobs.out
  have hmlen : (ops.toList.take m).length = m := by simp [R.le]
  rw [hmlen] at hfin
  have hat : ∀ i o, i < m → ops[i]? = some o → (ops.toList.take m)[i]? = some o := fun i o hi ho => by
    rw [List.getElem?_take, if_pos hi]; simpa using ho
  have hta : ∀ i o, (ops.toList.take m)[i]? = some o → i < m ∧ ops[i]? = some o := fun i o ho => by
    rw [List.getElem?_take] at ho
    split at ho
    · exact ⟨‹_›, by simpa using ho⟩
    · cases ho
  have hall2 : ∀ i o, (ops.toList.take m)[i]? = some o → ∃ t, o.dst = some t ∧ kz (i + 1) = (t, Ks i) :: kz i := fun i o ho => by
    obtain ⟨t, h1, _, _, h2⟩ := hall i o ho
    exact ⟨t, h1, h2⟩
  have hmem : ∀ i, i ≤ m → ∀ t K, (t, K) ∈ kz i → ∃ j, j < i ∧ dstOf ops j = some t ∧ K = Ks j := fun i hi t K hm => by
    obtain ⟨j, o, h1, h2, h3, h4⟩ := kz_mem hz0 hall2 i (by omega) t K hm
    obtain ⟨_, ho⟩ := hta j o h2
    exact ⟨j, h1, by unfold dstOf; rw [ho]; exact h3, h4⟩
  refine wp_region_any hm ?_
  have hd : ∀ i o, ops[i]? = some o → dstOf ops i = o.dst := fun i o ho => by unfold dstOf; rw [ho]; rfl
  have hend : ∀ (listed : Array Bool) (a' : Act) (w' : World), RInv ops a w Ks m listed a' w' → (∀ j, j < m → listed.getD j false = true) → wpList P ops Q (ops.toList.drop m) a' w' := by
    intro listed a' w' hI hlst
    obtain ⟨b, hb, e1, e2, e3, e4⟩ := finOn.out (a' := a') (hfin w' hI.below) hI.size.symm (fun t K hm => by
      obtain ⟨j, hj, hdj, rfl⟩ := hmem m (Nat.le_refl _) t K hm
      obtain ⟨o, ho, hod⟩ := dstOf_some hdj
      obtain ⟨s, hs, hsn, _⟩ := R.main j o hj ho
      rw [hod] at hs
      injection hs with hs
      subst hs
      exact ⟨by rw [hI.size]; exact hsn, hI.val j t hj (hlst j hj) hdj⟩)
    have : b = a' := by
      cases b with
      | mk bt bd =>
        cases a' with
        | mk at' ad =>
          simp only at e1 e2 e3 e4
          have hdf : bd = ad := by rw [e2]; exact hI.defers.symm
          have htm : bt = at' := by
            apply Array.ext
            · rw [e1]; exact hI.size.symm
            · intro t t1 t2
              have : bt.getD t undef = at'.getD t undef := by
                by_cases hx : ∃ K, (t, K) ∈ kz m
                · exact e4 t hx
                · rw [e3 t (fun K hm => hx ⟨K, hm⟩)]
                  refine (hI.other t fun j hj hdj => hx ?_).symm
                  obtain ⟨o, ho, hod⟩ := dstOf_some hdj
                  exact ⟨Ks j, kz_all hall2 m (by omega) j o t hj (hat j o hj ho) hod⟩
              simpa only [Array.getD_eq_getD_getElem?, Array.getElem?_eq_getElem t1, Array.getElem?_eq_getElem t2, Option.getD_some] using this
          subst hdf htm
          rfl
    rw [this] at hb
    exact hb
  have key : ∀ (fuel : Nat) (listed : Array Bool) (a' : Act) (w' : World), RInv ops a w Ks m listed a' w' → (∀ i, m ≤ i → i < ops.size → listed.getD i false = false) →
      ((List.range ops.size).filter fun i => !listed.getD i true).length ≤ fuel → wpAny P .any ops Q fuel listed a' w' := by
    intro fuel
    have hprefix : ∀ (listed : Array Bool), listed.size = ops.size → (∀ j, j < m → listed.getD j false = true) → (∀ i, m ≤ i → i < ops.size → listed.getD i false = false) → ∀ i, i < ops.size → listed.getD i false = decide (i < m) := by
      intro listed hs h1 h2 i hi
      by_cases e : i < m
      · rw [h1 i e]; simp [e]
      · rw [h2 i (by omega) hi]; simp [e]
    induction fuel with
    | zero =>
      intro listed a' w' hI hno hc
      have h0 : ((List.range ops.size).filter fun i => !listed.getD i true) = [] := List.eq_nil_of_length_eq_zero (by omega)
      have hal : ∀ i, i < ops.size → listed.getD i false = true := by
        intro i hi
        rw [List.filter_eq_nil_iff] at h0
        have := h0 i (List.mem_range.2 hi)
        rw [← getD_ff (by rw [hI.lsize]; exact hi)]
        simpa using this
      have hms : m = ops.size := by
        rcases Nat.lt_or_ge m ops.size with hlt | hge
        · have := hno m (Nat.le_refl _) hlt
          rw [hal m hlt] at this
          cases this
        · have := R.le; omega
      have := hend listed a' w' hI (fun j hj => hal j (by omega))
      rw [hms] at this
      have hdr : ops.toList.drop ops.size = [] := by simp
      rw [hdr] at this
      refine ⟨?_, this⟩
      unfold Region.ready
      rw [List.filter_eq_nil_iff] at h0 ⊢
      intro i hi
      have := h0 i hi
      simp only [Bool.not_eq_true] at this ⊢
      rw [this]
      rfl
    | succ fuel ih =>
      intro listed a' w' hI hno hc
      by_cases hdone : ∀ j, j < m → listed.getD j false = true
      · refine tail_anyZ R (fuel + 1) m listed a' w' (Nat.le_refl _) R.le hI.lsize (hprefix listed hI.lsize hdone hno) ?_ (hend listed a' w' hI hdone)
        have hlen : ops.size - m ≤ ((List.range ops.size).filter fun i => !listed.getD i true).length := by
          have hsub : (List.range ops.size).filter (fun i => decide (m ≤ i)) = (List.range ops.size).filter fun i => !listed.getD i true := by
            apply List.filter_congr
            intro i hi
            have hi := List.mem_range.1 hi
            rw [getD_ff (by rw [hI.lsize]; exact hi), hprefix listed hI.lsize hdone hno i hi]
            by_cases e : i < m <;> simp [e] <;> omega
          rw [← hsub]
          have : ∀ N, m ≤ N → ((List.range N).filter fun i => decide (m ≤ i)).length = N - m := by
            intro N hN
            induction N with
            | zero => simp
            | succ N ihN =>
              rw [List.range_succ, List.filter_append, List.length_append]
              by_cases e : m ≤ N
              · rw [ihN e]; simp [e]; omega
              · have : m = N + 1 := by omega
                subst this
                have : (List.range N).filter (fun i => decide (N + 1 ≤ i)) = [] := by
                  rw [List.filter_eq_nil_iff]
                  intro i hi
                  have := List.mem_range.1 hi
                  simp; omega
                rw [this]
                simp
          rw [this _ R.le]
          exact Nat.le_refl _
        omega
      · by_cases hzz : ∀ j, j < m → j ≠ z → listed.getD j false = true
        · have zlt := R.zlt
          have zs : z < ops.size := by have := R.le; omega
          have hlz : listed.getD z false = false := by
            cases hlz : listed.getD z false with
            | false => rfl
            | true => exact absurd (fun j hj => by by_cases e : j = z; · rw [e]; exact hlz
                                                   · exact hzz j hj e) hdone
          have hlst : listed = lateL m z ops.size := by
            apply Array.ext
            · rw [hI.lsize]; simp [lateL]
            · intro q q1 q2
              have qs : q < ops.size := by rw [← hI.lsize]; exact q1
              have e1 : listed[q] = listed.getD q false := by simp [Array.getD_eq_getD_getElem?, Array.getElem?_eq_getElem q1]
              rw [e1]
              simp only [lateL, Array.getElem_ofFn]
              by_cases qm : q < m
              · by_cases qz : q = z
                · subst qz; rw [hlz]; simp
                · rw [hzz q qm qz]; simp [qm, qz]
              · rw [hno q (by omega) qs]; simp [qm]
          have ho : ops[z]? = some ops[z] := Array.getElem?_eq_getElem zs
          obtain ⟨o, hoo⟩ : ∃ o, ops[z] = o := ⟨_, rfl⟩
          rw [hoo] at ho
          have hnl' : listed.getD z true = false := by rw [getD_ff (by rw [hI.lsize]; exact zs)]; exact hlz
          have hrd0 : z ∈ Region.ready .any ops listed := by have := R.rdy; rw [← hlst] at this; simpa using this
          obtain ⟨_, o', ho', haf⟩ := mem_ready.1 hrd0
          rw [ho] at ho'
          injection ho' with ho'
          subst ho'
          obtain ⟨hext, hgn⟩ := R.ext o ho
          have him := zlt
          have his := zs
          have hsi : z < listed.size := by rw [hI.lsize]; exact zs
          obtain ⟨t, ht, htn, hne, hsel, hrd, hgd⟩ := R.main z o him ho
          obtain ⟨t', ht', hok, hob, hkz⟩ := hall z o (hat z o him ho)
          have hon : ∀ j, hasOn o j = true → listed.getD j false = true := fun j hj => by
            obtain ⟨e, he, heo, heb⟩ := hasOn_mem hj
            rw [← heo]
            exact haf e he heb
          have hnext : ∀ v w'', (Ks z).holds w'' v → Below w'.heap.size w' w'' → wpAny P .any ops Q fuel (listed.setIfInBounds z true) (a'.put o.dst v) w'' := by
            intro v w'' hv hb
            refine ih _ _ _ ⟨by simpa using hI.lsize, ?_, ?_, below_then hI.below hb, ?_, ?_, ?_⟩ ?_ ?_
            · rw [ht]; exact hI.defers
            · rw [ht]; simpa [Act.put] using hI.size
            · intro s hs
              have hst : s ≠ t := fun e => hs z him (by rw [hd z _ ho, ht, e])
              rw [ht, put_getD (by rw [hI.size]; exact htn), if_neg hst]
              exact hI.other s hs
            · intro j s hjm hj hdj
              rw [getD_set hsi] at hj
              rw [ht, put_getD (by rw [hI.size]; exact htn)]
              by_cases e : j = z
              · subst e
                have : s = t := by rw [hd j _ ho, ht] at hdj; injection hdj with hdj; exact hdj.symm
                rw [if_pos this]
                exact hv
              · rw [if_neg e] at hj
                have hst : s ≠ t := fun e2 => e (dst_injZ R hjm him hdj (by rw [hd z _ ho, ht, e2]))
                rw [if_neg hst]
                obtain ⟨oj, hoj, hdoj⟩ := dstOf_some hdj
                obtain ⟨_, _, hokj, _, _⟩ := hall j oj (hat j oj hjm hoj)
                exact Kd.keep hokj (hI.val j s hjm hj hdj) hb
            · intro q oq hq hlq e he hb
              rw [getD_set hsi] at hlq ⊢
              by_cases e1 : q = z
              · subst e1
                rw [ho] at hq
                injection hq with hq
                subst hq
                split
                · rfl
                · exact haf e he hb
              · rw [if_neg e1] at hlq
                split
                · rfl
                · exact hI.down q oq hq hlq e he hb
            · intro q hq hqs
              rw [getD_set hsi, if_neg (by omega)]
              exact hno q hq hqs
            · have hnl : (!listed.getD z true) = true := by rw [hnl']; rfl
              have hlt : ((List.range ops.size).filter fun k => !(listed.setIfInBounds z true).getD k true).length < ((List.range ops.size).filter fun k => !listed.getD k true).length := by
                have hsub : ((List.range ops.size).filter fun k => !(listed.setIfInBounds z true).getD k true) = (((List.range ops.size).filter fun k => !listed.getD k true).filter fun k => k != z) := by
                  rw [List.filter_filter]
                  apply List.filter_congr
                  intro k _
                  rw [getD_set hsi]
                  by_cases e : k = z
                  · subst e; simp
                  · simp [e]
                rw [hsub]
                exact List.length_filter_lt_length_iff_exists.2 ⟨z, List.mem_filter.2 ⟨List.mem_range.2 his, hnl⟩, by simp⟩
              omega
          have hlook : ∀ s K, lookK (kz z) s = some K → ∃ j, j < z ∧ dstOf ops j = some s ∧ K = Ks j := fun s K hK => hmem z (by omega) s K (lookK_some hK)
          have hgo : ∀ W, Below w.heap.size w W → leanOn (kz z) W o.op.operands.toList (Goes P (Ks z) o W) a := by
            rcases hob with ⟨_, hgo⟩ | ⟨hwk, _⟩
            · exact hgo
            · rw [hgn] at hwk; cases hwk
          obtain ⟨b, hb, b1, b2, b3, b4⟩ := leanOn.out (a' := a') (hgo w' hI.below) hI.size.symm (fun s K hs hK => by
            obtain ⟨j, hj, hdj, rfl⟩ := hlook s K hK
            obtain ⟨o2, ho2, hod2⟩ := dstOf_some hdj
            obtain ⟨s2, hs2, hsn, _⟩ := R.main j o2 (by omega) ho2
            rw [hod2] at hs2
            injection hs2 with hs2
            subst hs2
            obtain ⟨ha, _⟩ := hrd s (by simpa using hs) j (by omega) hdj
            exact ⟨by rw [hI.size]; exact hsn, hI.val j s (by omega) (hon j ha) hdj⟩)
          have heq : execOp a'.eval o = execOp b.eval o := by
            refine execOp_congr o (fun cs bb hc => by rw [hc] at hsel; cases hsel) fun x hx => ?_
            cases x with
            | tmp s =>
              show a'.tmps.getD s undef = b.tmps.getD s undef
              by_cases hks : ∃ K, lookK (kz z) s = some K
              · obtain ⟨K, hK⟩ := hks
                exact (b4 s ⟨K, hK, by simpa using hx⟩).symm
              · have ho2 : ∀ j, j < m → dstOf ops j ≠ some s := by
                  intro j hj hdj
                  obtain ⟨_, hji⟩ := hrd s hx j hj hdj
                  obtain ⟨oj, hoj, hdoj⟩ := dstOf_some hdj
                  have := kz_all hall2 z (by omega) j oj s hji (hat j oj hj hoj) hdoj
                  cases hl : lookK (kz z) s with
                  | some K => exact hks ⟨K, hl⟩
                  | none => exact lookK_none hl _ this
                have e0 := hI.other s ho2
                rcases b3 s with e | e
                · rw [e, e0]
                · exact e.symm
            | const _ => rfl
            | global _ => rfl
            | func _ => rfl
          have hgoes := hb.out
          have hy : ∃ v, (∀ w, (execOp b.eval o).run P w = .ok (.value v) w) ∧ (Ks z).holds w' v := by
            rcases extract_ways (P := P) (ρ := b.eval) hext with ⟨v, hall'⟩ | hnone
            · rw [hall' w'] at hgoes
              exact ⟨v, hall', hgoes.1⟩
            · exfalso
              cases hr : (execOp b.eval o).run P w' with
              | ok n w'' => exact hnone _ _ _ hr
              | halt x w'' => rw [hr] at hgoes; exact hgoes.elim
          obtain ⟨v, hrun, hv⟩ := hy
          refine wpAny_take ho R.nosel (by rw [hlst]; exact R.free) (by rw [hlst]; exact R.rdy) (fun c a w h => hQ t _ c a w (by rw [← ht]; exact h)) (v := v) (.inl ⟨by unfold Region.wanted; rw [hgn], fun w => by rw [heq]; exact hrun w⟩) ?_
          exact hnext v w' hv (Below.refl _ _)
        · refine ⟨fun hr => ?_, fun i hi => ?_⟩
          · exfalso
            refine hdone ?_
            intro j
            induction j using Nat.strongRecOn with
            | _ j ihj =>
              intro hj
              cases hlj : listed.getD j false with
              | true => rfl
              | false =>
                exfalso
                have hjs : j < ops.size := by have := R.le; omega
                have hmem : j ∈ Region.ready .any ops listed := by
                  rw [mem_ready]
                  refine ⟨by rw [getD_ff (by rw [hI.lsize]; exact hjs)]; exact hlj, ops[j], Array.getElem?_eq_getElem hjs, fun e he hb => ?_⟩
                  have := R.down j _ (Array.getElem?_eq_getElem hjs) e he hb
                  exact ihj _ this (by omega)
                rw [hr] at hmem
                cases hmem
          · have hi0 := hi
            rw [mem_ready] at hi
            obtain ⟨hnl', o, ho, haf⟩ := hi
            have his : i < ops.size := (Array.getElem?_eq_some_iff.1 ho).1
            have hsi : i < listed.size := by rw [hI.lsize]; exact his
            have him : i < m := by
              rcases Nat.lt_or_ge i m with hlt | hge
              · exact hlt
              · exact absurd (fun j hj hjz => all_beforeZ R hI.down hge ho haf (i - j - 1) j (by omega) hjz) hzz
            obtain ⟨t, ht, htn, hne, hsel, hrd, hgd⟩ := R.main i o him ho
            obtain ⟨t', ht', hok, hob, hkz⟩ := hall i o (hat i o him ho)
            have hon : ∀ j, hasOn o j = true → listed.getD j false = true := fun j hj => by
              obtain ⟨e, he, heo, heb⟩ := hasOn_mem hj
              rw [← heo]
              exact haf e he heb
            have hnext : ∀ v w'', (Ks i).holds w'' v → Below w'.heap.size w' w'' → wpAny P .any ops Q fuel (listed.setIfInBounds i true) (a'.put o.dst v) w'' := by
              intro v w'' hv hb
              refine ih _ _ _ ⟨by simpa using hI.lsize, ?_, ?_, below_then hI.below hb, ?_, ?_, ?_⟩ ?_ ?_
              · rw [ht]; exact hI.defers
              · rw [ht]; simpa [Act.put] using hI.size
              · intro s hs
                have hst : s ≠ t := fun e => hs i him (by rw [hd i _ ho, ht, e])
                rw [ht, put_getD (by rw [hI.size]; exact htn), if_neg hst]
                exact hI.other s hs
              · intro j s hjm hj hdj
                rw [getD_set hsi] at hj
                rw [ht, put_getD (by rw [hI.size]; exact htn)]
                by_cases e : j = i
                · subst e
                  have : s = t := by rw [hd j _ ho, ht] at hdj; injection hdj with hdj; exact hdj.symm
                  rw [if_pos this]
                  exact hv
                · rw [if_neg e] at hj
                  have hst : s ≠ t := fun e2 => e (dst_injZ R hjm him hdj (by rw [hd i _ ho, ht, e2]))
                  rw [if_neg hst]
                  obtain ⟨oj, hoj, hdoj⟩ := dstOf_some hdj
                  obtain ⟨_, _, hokj, _, _⟩ := hall j oj (hat j oj hjm hoj)
                  exact Kd.keep hokj (hI.val j s hjm hj hdj) hb
              · intro q oq hq hlq e he hb
                rw [getD_set hsi] at hlq ⊢
                by_cases e1 : q = i
                · subst e1
                  rw [ho] at hq
                  injection hq with hq
                  subst hq
                  split
                  · rfl
                  · exact haf e he hb
                · rw [if_neg e1] at hlq
                  split
                  · rfl
                  · exact hI.down q oq hq hlq e he hb
              · intro q hq hqs
                rw [getD_set hsi, if_neg (by omega)]
                exact hno q hq hqs
              · have hnl : (!listed.getD i true) = true := by rw [hnl']; rfl
                have hlt : ((List.range ops.size).filter fun k => !(listed.setIfInBounds i true).getD k true).length < ((List.range ops.size).filter fun k => !listed.getD k true).length := by
                  have hsub : ((List.range ops.size).filter fun k => !(listed.setIfInBounds i true).getD k true) = (((List.range ops.size).filter fun k => !listed.getD k true).filter fun k => k != i) := by
                    rw [List.filter_filter]
                    apply List.filter_congr
                    intro k _
                    rw [getD_set hsi]
                    by_cases e : k = i
                    · subst e; simp
                    · simp [e]
                  rw [hsub]
                  exact List.length_filter_lt_length_iff_exists.2 ⟨i, List.mem_filter.2 ⟨List.mem_range.2 his, hnl⟩, by simp⟩
                omega
            have hlook : ∀ s K, lookK (kz i) s = some K → ∃ j, j < i ∧ dstOf ops j = some s ∧ K = Ks j := fun s K hK => hmem i (by omega) s K (lookK_some hK)
            unfold wpOp
            rw [ho]
            rcases hob with ⟨hwk, hgo⟩ | ⟨hwk, hskip⟩
            · have hw : Region.wanted o (yielded ops a'.tmps) = true := by
                unfold Region.wanted
                cases hg : o.guard with
                | none => rfl
                | some gb =>
                  obtain ⟨g, b⟩ := gb
                  rw [hg] at hwk
                  unfold wantK at hwk
                  simp only at hwk
                  cases hdg : dstOf ops g with
                  | none => rw [hdg] at hwk; cases hwk
                  | some s =>
                    rw [hdg] at hwk
                    cases hlk : lookK (kz i) s with
                    | none => simp only [hlk] at hwk; cases hwk
                    | some K =>
                      simp only [hlk] at hwk
                      split at hwk
                      · rename_i hKe
                        injection hKe with hKe
                        subst hKe
                        rename_i c
                        obtain ⟨j, hj, hdj, hKj⟩ := hlook s _ hlk
                        obtain ⟨hong, hgi⟩ := hgd g b hg
                        obtain rfl := dst_injZ R (by omega) (by omega) hdj hdg
                        have hv := hI.val j s (by omega) (hon j hong) hdj
                        rw [← hKj] at hv
                        have hy : yielded ops a'.tmps j = some c := by
                          have hv' : a'.tmps.getD s undef = .bool c := hv
                          unfold yielded
                          unfold dstOf at hdj
                          rw [hdj]
                          rw [Array.getD_eq_getD_getElem?] at hv'
                          cases hx : a'.tmps[s]? with
                          | none => rw [hx] at hv'; exact absurd hv' (by simp [undef])
                          | some x =>
                            rw [hx] at hv'
                            simp only [Option.getD_some] at hv'
                            subst hv'
                            simp [hx]
                        simp only [hy]
                        injection hwk
                      · cases hwk
              simp only [hw, if_true]
              refine .inl ?_
              obtain ⟨b, hb, b1, b2, b3, b4⟩ := leanOn.out (a' := a') (hgo w' hI.below) hI.size.symm (fun s K hs hK => by
                obtain ⟨j, hj, hdj, rfl⟩ := hlook s K hK
                obtain ⟨o2, ho2, hod2⟩ := dstOf_some hdj
                obtain ⟨s2, hs2, hsn, _⟩ := R.main j o2 (by omega) ho2
                rw [hod2] at hs2
                injection hs2 with hs2
                subst hs2
                obtain ⟨ha, _⟩ := hrd s (by simpa using hs) j (by omega) hdj
                exact ⟨by rw [hI.size]; exact hsn, hI.val j s (by omega) (hon j ha) hdj⟩)
              have heq : execOp a'.eval o = execOp b.eval o := by
                refine execOp_congr o (fun cs bb hc => by rw [hc] at hsel; cases hsel) fun x hx => ?_
                cases x with
                | tmp s =>
                  show a'.tmps.getD s undef = b.tmps.getD s undef
                  by_cases hks : ∃ K, lookK (kz i) s = some K
                  · obtain ⟨K, hK⟩ := hks
                    exact (b4 s ⟨K, hK, by simpa using hx⟩).symm
                  · have ho2 : ∀ j, j < m → dstOf ops j ≠ some s := by
                      intro j hj hdj
                      obtain ⟨_, hji⟩ := hrd s hx j hj hdj
                      obtain ⟨oj, hoj, hdoj⟩ := dstOf_some hdj
                      have := kz_all hall2 i (by omega) j oj s hji (hat j oj hj hoj) hdoj
                      cases hl : lookK (kz i) s with
                      | some K => exact hks ⟨K, hl⟩
                      | none => exact lookK_none hl _ this
                    have e0 := hI.other s ho2
                    rcases b3 s with e | e
                    · rw [e, e0]
                    · exact e.symm
                | const _ => rfl
                | global _ => rfl
                | func _ => rfl
              have hgoes := hb.out
              unfold Oper.wp
              rw [heq]
              generalize (execOp b.eval o).run P w' = r at hgoes
              cases r with
              | ok n w'' =>
                cases n <;> simp only [OpGoes] at hgoes <;> try exact hgoes.elim
                case value v => exact hnext v w'' hgoes.1 hgoes.2
                case enter f args =>
                  refine Calls.mono hgoes ?_
                  rintro e w3 ⟨v, rfl, hv, hb⟩
                  exact hnext v w3 hv hb
              | halt x w'' => exact hgoes.elim
            · have hw : Region.wanted o (yielded ops a'.tmps) = false := by
                unfold Region.wanted
                cases hg : o.guard with
                | none => rw [hg] at hwk; cases hwk
                | some gb =>
                  obtain ⟨g, b⟩ := gb
                  rw [hg] at hwk
                  unfold wantK at hwk
                  simp only at hwk
                  cases hdg : dstOf ops g with
                  | none => rw [hdg] at hwk; cases hwk
                  | some s =>
                    rw [hdg] at hwk
                    cases hlk : lookK (kz i) s with
                    | none => simp only [hlk] at hwk; cases hwk
                    | some K =>
                      simp only [hlk] at hwk
                      split at hwk
                      · rename_i hKe
                        injection hKe with hKe
                        subst hKe
                        rename_i c
                        obtain ⟨j, hj, hdj, hKj⟩ := hlook s _ hlk
                        obtain ⟨hong, hgi⟩ := hgd g b hg
                        obtain rfl := dst_injZ R (by omega) (by omega) hdj hdg
                        have hv := hI.val j s (by omega) (hon j hong) hdj
                        rw [← hKj] at hv
                        have hy : yielded ops a'.tmps j = some c := by
                          have hv' : a'.tmps.getD s undef = .bool c := hv
                          unfold yielded
                          unfold dstOf at hdj
                          rw [hdj]
                          rw [Array.getD_eq_getD_getElem?] at hv'
                          cases hx : a'.tmps[s]? with
                          | none => rw [hx] at hv'; exact absurd hv' (by simp [undef])
                          | some x =>
                            rw [hx] at hv'
                            simp only [Option.getD_some] at hv'
                            subst hv'
                            simp [hx]
                        simp only [hy]
                        injection hwk
                      · cases hwk
              simp only [hw]
              exact hnext _ _ (by rw [hskip]; rfl) (Below.refl _ _)
  refine key ops.size _ a _ ⟨by simp, rfl, rfl, Below.drew (Below.refl _ _), fun _ _ => rfl, fun j t _ hj => ?_, fun i o _ hj => ?_⟩ ?_ ?_
  · exfalso
    revert hj
    simp only [Array.getD_eq_getD_getElem?, Array.getElem?_replicate]
    split <;> simp
  · exfalso
    revert hj
    simp only [Array.getD_eq_getD_getElem?, Array.getElem?_replicate]
    split <;> simp
  · intro i _ hi
    simp [Array.getD_eq_getD_getElem?, Array.getElem?_replicate, hi]
  · exact Nat.le_trans (List.length_filter_le _ _) (by simp)
end
set_option maxHeartbeats 4000000
def sS (p : Pkt) (s : Seg) : List UInt8 := put16 (sL s) 16 (psum p 6 (sL s))
def sbE (p : Pkt) (s : Seg) : Int := if okOs s.opts then wiE p (sN s) else 4
def sbP (p : Pkt) (s : Seg) : Pkt := if sbE p s = 0 then { p with proto := 6, dat := sS p s } else zP
theorem sS_len (p : Pkt) (s : Seg) : (sS p s).length = sN s := by unfold sS; rw [put16_length, sL_len]
theorem goes_tup {B : Nat} {P : Pkt} {E : Int} {C1 C2 : Option Addr} {e1 f1 e2 f2 : Nat} {w : World} (h1 : Own w B 5 C1 e1 f1 P.opt) (h2 : Own w B 5 C2 e2 f2 P.dat) :
    OpGoes Tryz.prog (fun v w' => (Kd.p (isTup B P E)).holds w' v ∧ Below w.heap.size w w') (.ok (.value (.tuple #[(.agg #[.int .u8 (P).tos, .int .u16 (P).id, .bool (P).keep, .int .u8 (P).ttl, .int .u8 (P).proto, .int .u32 (P).src, .int .u32 (P).dst, .slice C1 e1 f1, .slice C2 e2 f2]), .int .i64 E])) w) := ⟨⟨_, _, _, _, _, _, rfl, h1, h2⟩, Below.refl _ _⟩
theorem swith_all (p : Pkt) (A1 : Option Addr) (n1 c1 : Nat) (A2 : Option Addr) (n2 c2 : Nat) (pr : Int) (d : List UInt8) (P : Pkt) (E : Int) (hE : wiE p d.length = E) (hP : P = withP p pr d) (base : Nat) (A3 : Option Addr) (n3 c3 : Nat) (w : World) (k1 : Bs w A1 n1 c1 p.opt) (k3 : Own w base 5 A3 n3 c3 d) (hb : base ≤ w.heap.size) :
    Calls Tryz.prog 111 #[(.agg #[.int .u8 (p).tos, .int .u16 (p).id, .bool (p).keep, .int .u8 (p).ttl, .int .u8 (p).proto, .int .u32 (p).src, .int .u32 (p).dst, .slice A1 n1 c1, .slice A2 n2 c2]), .int .u8 pr, .slice A3 n3 c3] w (fun e w' => ∃ C1 e1 f1 C2 e2 f2, e = .returned (.tuple #[(.agg #[.int .u8 (P).tos, .int .u16 (P).id, .bool (P).keep, .int .u8 (P).ttl, .int .u8 (P).proto, .int .u32 (P).src, .int .u32 (P).dst, .slice C1 e1 f1, .slice C2 e2 f2]), .int .i64 E]) ∧ Own w' base 5 C1 e1 f1 P.opt ∧ Own w' base 5 C2 e2 f2 P.dat ∧ Below w.heap.size w w') := by
  have l3 := k3.len
  by_cases h : E = 0
  · have hp : P = { p with proto := pr, dat := d } := by rw [hP]; unfold withP; rw [hE, if_pos h]
    refine (swith_ok p A1 n1 c1 A2 n2 c2 pr A3 n3 c3 d w k1 k3.bs (by rw [← l3, hE, h])).mono ?_
    rintro e w' ⟨A4, n4, c4, rfl, O4, hB⟩
    rw [hp, h]
    exact ⟨A4, n4, c4, A3, n3, c3, rfl, O4.mono hb, k3.below hB, hB⟩
  · have hp : P = zP := by rw [hP]; unfold withP; rw [hE, if_neg h]
    refine (swith_bad p A1 n1 c1 A2 n2 c2 pr A3 n3 c3 d w k1 k3.bs (by rw [← l3, hE]; exact h)).mono ?_
    rintro e w' ⟨B1, m1, d1, B2, m2, d2, rfl, O1, O2, hB⟩
    rw [hp, ← hE, l3]
    exact ⟨B1, m1, d1, B2, m2, d2, rfl, O1.mono hb, O2.mono hb, hB⟩

theorem rdsame_any (m n : Dgm) (A1 : Option Addr) (n1 c1 : Nat) (B1 : Option Addr) (m1 d1 : Nat) (w : World) (k1 : Bs w A1 n1 c1 m.dat) (j1 : Bs w B1 m1 d1 n.dat) :
    Calls Tryz.prog 45 #[(.agg #[.int .u16 (m).src, .int .u16 (m).dst, .bool (m).bare, .slice A1 n1 c1]), (.agg #[.int .u16 (n).src, .int .u16 (n).dst, .bool (n).bare, .slice B1 m1 d1])] w fun e w' => e = .returned (.bool (sameD m n)) ∧ Below w.heap.size w w' := by
  have x1 := fun o o' => cv ((k1.alloc o).alloc o')
  have y1 := fun o o' => cv ((j1.alloc o).alloc o')
  have s1 := str_beqS m.dat n.dat
  go_enter Tryz.func45, Tryz.ntmps45
  go_wp2_with fail
  all_goals go_ret
  all_goals refine ⟨?_, by (repeat (first | with_reducible exact Below.refl _ _ | with_reducible refine below_drew ?_ | with_reducible refine below_drewN ?_ _ | with_reducible refine below_alloc ?_ (Nat.le_refl _) _ | with_reducible refine Below.setCell ?_ (by first | exact Nat.le_refl _ | (simp only []; omega)) _ | with_reducible assumption))⟩
  all_goals simp_all [sameD]
def udE (p : Pkt) : Int := if p.proto ≠ 17 then 12 else if p.dat.length < 8 then 3 else if get16 p.dat 4 ≠ p.dat.length then 4 else if get16 p.dat 6 ≠ 0 ∧ psum p 17 p.dat ≠ 0 then 5 else 0
def rdD (l : List UInt8) : Dgm := ⟨get16 l 0, get16 l 2, get16 l 6 == 0, l.drop 8⟩
def udD (p : Pkt) : Dgm := if udE p = 0 then rdD p.dat else zD
structure DgPost (w : World) (D : Dgm) (E : Int) (e : Ending) (w' : World) : Prop where
  out : ∃ A n c, e = .returned (.tuple #[(.agg #[.int .u16 (D).src, .int .u16 (D).dst, .bool (D).bare, .slice A n c]), .int .i64 E]) ∧ Own w' w.heap.size 5 A n c D.dat ∧ Below w.heap.size w w'
theorem dgPost_no {w w' : World} {E : Int} (hB : Below w.heap.size w w') : DgPost w zD E (.returned (.tuple #[.agg #[.int .u16 0, .int .u16 0, .bool false, .slice none 0 0], .int .i64 E])) w' :=
  ⟨none, 0, 0, rfl, own_nil _ _ _, hB⟩
theorem udp_no (p : Pkt) (hp : p.Ok) (A1 : Option Addr) (n1 c1 : Nat) (A2 : Option Addr) (n2 c2 : Nat) (w : World) (k2 : Bs w A2 n2 c2 p.dat) (E q4 : Int) (b6 : Bool) (hq4 : get16 p.dat 4 = q4) (hb6 : (get16 p.dat 6 == 0) = b6)
    (h : (E = 12 ∧ (p.proto != 17) = true) ∨ (E = 3 ∧ (p.proto != 17) = false ∧ (n2 : Int) < 8) ∨ (E = 4 ∧ (p.proto != 17) = false ∧ 8 ≤ (n2 : Int) ∧ (q4 != (n2 : Int)) = true) ∨ (E = 5 ∧ (p.proto != 17) = false ∧ 8 ≤ (n2 : Int) ∧ (q4 != (n2 : Int)) = false ∧ b6 = false ∧ (psum p 17 p.dat == 0) = false)) :
    Calls Tryz.prog 97 #[(.agg #[.int .u8 (p).tos, .int .u16 (p).id, .bool (p).keep, .int .u8 (p).ttl, .int .u8 (p).proto, .int .u32 (p).src, .int .u32 (p).dst, .slice A1 n1 c1, .slice A2 n2 c2])] w (DgPost w zD E) := by
  have b2 := k2.max
  have q0 : 0 ≤ q4 := by rw [← hq4]; exact get16_lo _ _
  have q1 : q4 ≤ 65535 := by rw [← hq4]; exact get16_hi _ _
  have hw4 : IntKind.i64.wrap q4 = q4 := by rw [IntKind.wrap_i64]; omega
  have g4 : ∀ W, Bs W A2 n2 c2 p.dat → Calls Tryz.prog 60 #[.slice A2 n2 c2, .int .i64 4] W fun e w' => e = .returned (.int .u16 q4) ∧ Drawn W w' := fun W k => by have := get16_any A2 n2 c2 p.dat 4 W k; rw [hq4] at this; exact this
  obtain ⟨q6, hq6⟩ : ∃ q, get16 p.dat 6 = q := ⟨_, rfl⟩
  have g6 : ∀ W, Bs W A2 n2 c2 p.dat → Calls Tryz.prog 60 #[.slice A2 n2 c2, .int .i64 6] W fun e w' => e = .returned (.int .u16 q6) ∧ Drawn W w' := fun W k => by have := get16_any A2 n2 c2 p.dat 6 W k; rw [hq6] at this; exact this
  rw [hq6] at hb6
  clear hq4 hq6
  obtain ⟨k, hk, w1, hw1, P1, Z1, R1⟩ := nwI2 w #[.int .u8 (p).tos, .int .u16 (p).id, .bool (p).keep, .int .u8 (p).ttl, .int .u8 (p).proto, .int .u32 (p).src, .int .u32 (p).dst, .slice A1 n1 c1, .slice A2 n2 c2] 26 #[.int .u16 0, .int .u16 0, .bool false, .slice none 0 0] 57
  have Pc1 := P1.cell
  have Zc1 := Z1.cell
  have Pl1 := P1.lt
  have Zl1 := Z1.lt
  have x1 := (k2).below R1
  rcases h with ⟨rfl, h1⟩ | ⟨rfl, h1, h2⟩ | ⟨rfl, h1, h2, h3⟩ | ⟨rfl, h1, h2, h3, rfl, h5⟩
  · go_enter Tryz.func97, Tryz.ntmps97
    go_wp2_with (go_at_call 60; ((with_reducible refine (g6 w1 x1).mono ?_); rintro e w2 ⟨rfl, hD2⟩); have hB2 := hD2.bel; have P2 := P1.below hB2; have Pc2 := P2.cell; clear Pc1; have Z2 := Z1.below hB2; have Zc2 := Z2.cell; clear Zc1; have x2 := x1.below hB2; have R2 := below_then R1 hB2)
    obtain ⟨wf, hwf, Sf⟩ := store4 Z2 (.int .u16 0) (.int .u16 0) (.bool false) (.slice none 0 0)
    rw [hwf]
    have pf := Sf.blk.cell
    exact bodyPost_ret (by simp [results, Tryz.results97, go_sem, pf]) rfl (dgPost_no (Sf.bel R2 (by omega)))
  · go_enter Tryz.func97, Tryz.ntmps97
    go_wp2_with (go_at_call 60; ((with_reducible refine (g6 w1 x1).mono ?_); rintro e w2 ⟨rfl, hD2⟩); have hB2 := hD2.bel; have P2 := P1.below hB2; have Pc2 := P2.cell; clear Pc1; have Z2 := Z1.below hB2; have Zc2 := Z2.cell; clear Zc1; have x2 := x1.below hB2; have R2 := below_then R1 hB2)
    obtain ⟨wf, hwf, Sf⟩ := store4 Z2 (.int .u16 0) (.int .u16 0) (.bool false) (.slice none 0 0)
    rw [hwf]
    have pf := Sf.blk.cell
    exact bodyPost_ret (by simp [results, Tryz.results97, go_sem, pf]) rfl (dgPost_no (Sf.bel R2 (by omega)))
  · go_enter Tryz.func97, Tryz.ntmps97
    go_wp2_with (first
      | (go_at_call 60; ((with_reducible refine (g6 w1 x1).mono ?_); rintro e w2 ⟨rfl, hD2⟩); have hB2 := hD2.bel; have P2 := P1.below hB2; have Pc2 := P2.cell; clear Pc1; have Z2 := Z1.below hB2; have Zc2 := Z2.cell; clear Zc1; have x2 := x1.below hB2; have R2 := below_then R1 hB2)
      | (go_at_call 60; ((with_reducible refine (g4 w2 x2).mono ?_); rintro e w3 ⟨rfl, hD3⟩); have hB3 := hD3.bel; have P3 := P2.below hB3; have Pc3 := P3.cell; clear Pc2; have Z3 := Z2.below hB3; have Zc3 := Z3.cell; clear Zc2; have x3 := x2.below hB3; have R3 := below_then R2 hB3))
    obtain ⟨wf, hwf, Sf⟩ := store4 Z3 (.int .u16 0) (.int .u16 0) (.bool false) (.slice none 0 0)
    rw [hwf]
    have pf := Sf.blk.cell
    exact bodyPost_ret (by simp [results, Tryz.results97, go_sem, pf]) rfl (dgPost_no (Sf.bel R3 (by omega)))
  · have n2b : n2 ≤ 140737488400000 := by have : q4 = n2 := by simpa using h3
                                          omega
    go_enter Tryz.func97, Tryz.ntmps97
    go_wp2_with (first
      | (go_at_call 60; ((with_reducible refine (g6 w1 x1).mono ?_); rintro e w2 ⟨rfl, hD2⟩); have hB2 := hD2.bel; have P2 := P1.below hB2; have Pc2 := P2.cell; clear Pc1; have Z2 := Z1.below hB2; have Zc2 := Z2.cell; clear Zc1; have x2 := x1.below hB2; have R2 := below_then R1 hB2)
      | (go_at_call 60; ((with_reducible refine (g4 w2 x2).mono ?_); rintro e w3 ⟨rfl, hD3⟩); have hB3 := hD3.bel; have P3 := P2.below hB3; have Pc3 := P3.cell; clear Pc2; have Z3 := Z2.below hB3; have Zc3 := Z3.cell; clear Zc2; have x3 := x2.below hB3; have R3 := below_then R2 hB3)
      | (go_at_call 106; ((with_reducible refine (fits_any p hp A1 n1 c1 A2 n2 c2 17 (by omega) (by omega) w3 x3 n2b).mono ?_); rintro e w4 ⟨he4, hB4⟩); (try rw [h5] at he4); subst he4; have P4 := P3.below hB4; have Pc4 := P4.cell; clear Pc3; have Z4 := Z3.below hB4; have Zc4 := Z4.cell; clear Zc3; have x4 := x3.below hB4; have R4 := below_then R3 hB4))
    obtain ⟨wf, hwf, Sf⟩ := store4 Z4 (.int .u16 0) (.int .u16 0) (.bool false) (.slice none 0 0)
    rw [hwf]
    have pf := Sf.blk.cell
    exact bodyPost_ret (by simp [results, Tryz.results97, go_sem, pf]) rfl (dgPost_no (Sf.bel R4 (by omega)))
theorem udp_ok (p : Pkt) (hp : p.Ok) (A1 : Option Addr) (n1 c1 : Nat) (A2 : Option Addr) (n2 c2 : Nat) (w : World) (k2 : Bs w A2 n2 c2 p.dat) (q4 : Int) (b6 : Bool) (hq4 : get16 p.dat 4 = q4) (hb6 : (get16 p.dat 6 == 0) = b6)
    (h1 : (p.proto != 17) = false) (h2 : 8 ≤ (n2 : Int)) (h3 : (q4 != (n2 : Int)) = false) (h : b6 = true ∨ (b6 = false ∧ (psum p 17 p.dat == 0) = true)) :
    Calls Tryz.prog 97 #[(.agg #[.int .u8 (p).tos, .int .u16 (p).id, .bool (p).keep, .int .u8 (p).ttl, .int .u8 (p).proto, .int .u32 (p).src, .int .u32 (p).dst, .slice A1 n1 c1, .slice A2 n2 c2])] w (DgPost w (rdD p.dat) 0) := by
  have hlL : p.dat.take n2 = p.dat := List.take_of_length_le (by rw [k2.len]; exact Nat.le_refl _)
  obtain ⟨i8, hi8, -, hs8, -⟩ := info_parts info_u8
  have b2 := k2.max
  have hcap := k2.cap
  obtain ⟨b, off, rfl⟩ := k2.some_ (by omega)
  have hcut : ∀ W, (Instr.slice 24 (.slice (some ⟨b, off, none⟩) n2 c2) (some (.int .i64 8)) none none).run Tryz.prog W = _ := fun W => cut_l Tryz.underlying24 hi8 hs8 (some ⟨b, off, none⟩) n2 c2 .i64 8 (by omega) (by omega) W
  obtain ⟨A', n', c', eA, en, ec, hbD⟩ := k2.cutE (lo := 8) (hi := n2) (by omega) (Nat.le_refl _)
  simp only [show (8 : Int).toNat = 8 from rfl, eA, en, ec] at hcut
  rw [hlL] at hbD
  have hn' : n' ≤ n2 := by omega
  clear eA en ec hlL
  have q0 : 0 ≤ q4 := by rw [← hq4]; exact get16_lo _ _
  have q1 : q4 ≤ 65535 := by rw [← hq4]; exact get16_hi _ _
  have hw4 : IntKind.i64.wrap q4 = q4 := by rw [IntKind.wrap_i64]; omega
  have g4 : ∀ W, Bs W (some ⟨b, off, none⟩) n2 c2 p.dat → Calls Tryz.prog 60 #[.slice (some ⟨b, off, none⟩) n2 c2, .int .i64 4] W fun e w' => e = .returned (.int .u16 q4) ∧ Drawn W w' := fun W k => by have := get16_any (some ⟨b, off, none⟩) n2 c2 p.dat 4 W k; rw [hq4] at this; exact this
  obtain ⟨q6, hq6⟩ : ∃ q, get16 p.dat 6 = q := ⟨_, rfl⟩
  have g6 : ∀ W, Bs W (some ⟨b, off, none⟩) n2 c2 p.dat → Calls Tryz.prog 60 #[.slice (some ⟨b, off, none⟩) n2 c2, .int .i64 6] W fun e w' => e = .returned (.int .u16 q6) ∧ Drawn W w' := fun W k => by have := get16_any (some ⟨b, off, none⟩) n2 c2 p.dat 6 W k; rw [hq6] at this; exact this
  rw [hq6] at hb6
  have HQ6 := Lib.hid hq6
  clear hq4 hq6
  obtain ⟨v0, hv0⟩ : ∃ q, get16 p.dat 0 = q := ⟨_, rfl⟩
  obtain ⟨v2, hv2⟩ : ∃ q, get16 p.dat 2 = q := ⟨_, rfl⟩
  have g0 : ∀ W, Bs W (some ⟨b, off, none⟩) n2 c2 p.dat → Calls Tryz.prog 60 #[.slice (some ⟨b, off, none⟩) n2 c2, .int .i64 0] W fun e w' => e = .returned (.int .u16 v0) ∧ Drawn W w' := fun W k => by have := get16_any (some ⟨b, off, none⟩) n2 c2 p.dat 0 W k; rw [hv0] at this; exact this
  have g2 : ∀ W, Bs W (some ⟨b, off, none⟩) n2 c2 p.dat → Calls Tryz.prog 60 #[.slice (some ⟨b, off, none⟩) n2 c2, .int .i64 2] W fun e w' => e = .returned (.int .u16 v2) ∧ Drawn W w' := fun W k => by have := get16_any (some ⟨b, off, none⟩) n2 c2 p.dat 2 W k; rw [hv2] at this; exact this
  have HD : Hid (rdD p.dat = ⟨v0, v2, b6, p.dat.drop 8⟩) := by unfold Hid rdD; rw [hv0, hv2, HQ6.out, hb6]
  clear hv0 hv2
  have n2b : n2 ≤ 100000 := by have : q4 = n2 := by simpa using h3
                               omega
  obtain ⟨k, hk, w1, hw1, P1, Z1, R1⟩ := nwI2 w #[.int .u8 (p).tos, .int .u16 (p).id, .bool (p).keep, .int .u8 (p).ttl, .int .u8 (p).proto, .int .u32 (p).src, .int .u32 (p).dst, .slice A1 n1 c1, .slice (some ⟨b, off, none⟩) n2 c2] 26 #[.int .u16 0, .int .u16 0, .bool false, .slice none 0 0] 57
  have Pc1 := P1.cell
  have Zc1 := Z1.cell
  have Pl1 := P1.lt
  have Zl1 := Z1.lt
  have x1 := (k2).below R1
  rcases h with rfl | ⟨rfl, h5⟩
  · go_enter Tryz.func97, Tryz.ntmps97
    go_wp2_with (first
      | (go_at_call 60; ((with_reducible refine (g6 w1 x1).mono ?_); rintro e w2 ⟨rfl, hD2⟩); have hB2 := hD2.bel; have P2 := P1.below hB2; have Pc2 := P2.cell; clear Pc1; have Z2 := Z1.below hB2; have Zc2 := Z2.cell; clear Zc1; have x2 := x1.below hB2; have R2 := below_then R1 hB2)
      | (go_at_call 60; ((with_reducible refine (g4 w2 x2).mono ?_); rintro e w3 ⟨rfl, hD3⟩); have hB3 := hD3.bel; have P3 := P2.below hB3; have Pc3 := P3.cell; clear Pc2; have Z3 := Z2.below hB3; have Zc3 := Z3.cell; clear Zc2; have x3 := x2.below hB3; have R3 := below_then R2 hB3))
    have D3 := hbD.below R3
    have r3s := R3.size
    refine region_txt 8 (by kernel_rfl) (by kernel_rfl) ?_; (iterate 8 (first | (apply ObsK.skip (by rfl)) | (apply ObsK.v (by rfl); (intro wo hT; (repeat (first | (intro v hv; (skip)) | (intro _ _ k; try have hcv := cv k))); (have bo := x3.below hT; have hsz : w3.heap.size ≤ wo.heap.size := hT.size); refine Goes.mk ?_; go_simp; first | exact goes_v | exact goes_b (by assumption) | (refine goes_enter ?_; first | (go_at_call 60; ((with_reducible refine (g0 wo bo).mono ?_); rintro e w9 ⟨rfl, hD9⟩); exact ret_v hD9.bel) | (go_at_call 60; ((with_reducible refine (g2 wo bo).mono ?_); rintro e w9 ⟨rfl, hD9⟩); exact ret_v hD9.bel) | (go_at_call 53; ((with_reducible refine (clone_any A' n' c' _ wo (D3.below hT)).mono ?_); rintro e w9 ⟨A9, c9, rfl, ho9, hB9⟩); exact ret_p (own_isW ho9 hsz) hB9)))) | (apply ObsK.b (by rfl); (intro wo hT; (repeat (first | (intro v hv; (skip)) | (intro _ _ k; try have hcv := cv k))); (have bo := x3.below hT; have hsz : w3.heap.size ≤ wo.heap.size := hT.size); refine Goes.mk ?_; go_simp; first | exact goes_v | exact goes_b (by assumption) | (refine goes_enter ?_; first | (go_at_call 60; ((with_reducible refine (g0 wo bo).mono ?_); rintro e w9 ⟨rfl, hD9⟩); exact ret_v hD9.bel) | (go_at_call 60; ((with_reducible refine (g2 wo bo).mono ?_); rintro e w9 ⟨rfl, hD9⟩); exact ret_v hD9.bel) | (go_at_call 53; ((with_reducible refine (clone_any A' n' c' _ wo (D3.below hT)).mono ?_); rintro e w9 ⟨A9, c9, rfl, ho9, hB9⟩); exact ret_p (own_isW ho9 hsz) hB9)))) | (apply ObsK.p (q := isW w3.heap.size _) (by rfl) st_isW; (intro wo hT; (repeat (first | (intro v hv; (skip)) | (intro _ _ k; try have hcv := cv k))); (have bo := x3.below hT; have hsz : w3.heap.size ≤ wo.heap.size := hT.size); refine Goes.mk ?_; go_simp; first | exact goes_v | exact goes_b (by assumption) | (refine goes_enter ?_; first | (go_at_call 60; ((with_reducible refine (g0 wo bo).mono ?_); rintro e w9 ⟨rfl, hD9⟩); exact ret_v hD9.bel) | (go_at_call 60; ((with_reducible refine (g2 wo bo).mono ?_); rintro e w9 ⟨rfl, hD9⟩); exact ret_v hD9.bel) | (go_at_call 53; ((with_reducible refine (clone_any A' n' c' _ wo (D3.below hT)).mono ?_); rintro e w9 ⟨A9, c9, rfl, ho9, hB9⟩); exact ret_p (own_isW ho9 hsz) hB9)))))); refine ObsK.nil ?_; intro wz hBz; simp only [finOn, List.drop_succ_cons, List.drop_zero, List.drop_nil]
    rintro v9 ⟨A9, n9, c9, rfl, O9⟩
    go_simp
    have Zz := Z3.below hBz
    have zcz := Zz.cell
    have zl := Z3.lt
    obtain ⟨wf, hwf, Sf⟩ := store4 Zz (.int .u16 v0) (.int .u16 v2) (.bool true) (.slice A9 n9 c9)
    have pf := Sf.blk.cell
    have Tf := Sf.bel (below_then R3 hBz) (by omega)
    have Of := Sf.own O9 (fun a e => by have := O9.ge a e; omega)
    go_wp2_with fail
    refine bodyPost_ret (v := .tuple #[.agg #[.int .u16 v0, .int .u16 v2, .bool true, .slice A9 n9 c9], .int .i64 0]) (by simp [results, Tryz.results97, go_sem, pf]) rfl (by rw [HD.out]; exact ⟨A9, n9, c9, rfl, Of.mono r3s, Tf⟩)
  · go_enter Tryz.func97, Tryz.ntmps97
    go_wp2_with (first
      | (go_at_call 60; ((with_reducible refine (g6 w1 x1).mono ?_); rintro e w2 ⟨rfl, hD2⟩); have hB2 := hD2.bel; have P2 := P1.below hB2; have Pc2 := P2.cell; clear Pc1; have Z2 := Z1.below hB2; have Zc2 := Z2.cell; clear Zc1; have x2 := x1.below hB2; have R2 := below_then R1 hB2)
      | (go_at_call 60; ((with_reducible refine (g4 w2 x2).mono ?_); rintro e w3 ⟨rfl, hD3⟩); have hB3 := hD3.bel; have P3 := P2.below hB3; have Pc3 := P3.cell; clear Pc2; have Z3 := Z2.below hB3; have Zc3 := Z3.cell; clear Zc2; have x3 := x2.below hB3; have R3 := below_then R2 hB3)
      | (go_at_call 106; ((with_reducible refine (fits_any p hp A1 n1 c1 (some ⟨b, off, none⟩) n2 c2 17 (by omega) (by omega) w3 x3 (by omega)).mono ?_); rintro e w4 ⟨he4, hB4⟩); (try rw [h5] at he4); subst he4; have P4 := P3.below hB4; have Pc4 := P4.cell; clear Pc3; have Z4 := Z3.below hB4; have Zc4 := Z4.cell; clear Zc3; have x4 := x3.below hB4; have R4 := below_then R3 hB4))
    have D4 := hbD.below R4
    have r4s := R4.size
    refine region_txt 8 (by kernel_rfl) (by kernel_rfl) ?_; (iterate 8 (first | (apply ObsK.skip (by rfl)) | (apply ObsK.v (by rfl); (intro wo hT; (repeat (first | (intro v hv; (skip)) | (intro _ _ k; try have hcv := cv k))); (have bo := x4.below hT; have hsz : w4.heap.size ≤ wo.heap.size := hT.size); refine Goes.mk ?_; go_simp; first | exact goes_v | exact goes_b (by assumption) | (refine goes_enter ?_; first | (go_at_call 60; ((with_reducible refine (g0 wo bo).mono ?_); rintro e w9 ⟨rfl, hD9⟩); exact ret_v hD9.bel) | (go_at_call 60; ((with_reducible refine (g2 wo bo).mono ?_); rintro e w9 ⟨rfl, hD9⟩); exact ret_v hD9.bel) | (go_at_call 53; ((with_reducible refine (clone_any A' n' c' _ wo (D4.below hT)).mono ?_); rintro e w9 ⟨A9, c9, rfl, ho9, hB9⟩); exact ret_p (own_isW ho9 hsz) hB9)))) | (apply ObsK.b (by rfl); (intro wo hT; (repeat (first | (intro v hv; (skip)) | (intro _ _ k; try have hcv := cv k))); (have bo := x4.below hT; have hsz : w4.heap.size ≤ wo.heap.size := hT.size); refine Goes.mk ?_; go_simp; first | exact goes_v | exact goes_b (by assumption) | (refine goes_enter ?_; first | (go_at_call 60; ((with_reducible refine (g0 wo bo).mono ?_); rintro e w9 ⟨rfl, hD9⟩); exact ret_v hD9.bel) | (go_at_call 60; ((with_reducible refine (g2 wo bo).mono ?_); rintro e w9 ⟨rfl, hD9⟩); exact ret_v hD9.bel) | (go_at_call 53; ((with_reducible refine (clone_any A' n' c' _ wo (D4.below hT)).mono ?_); rintro e w9 ⟨A9, c9, rfl, ho9, hB9⟩); exact ret_p (own_isW ho9 hsz) hB9)))) | (apply ObsK.p (q := isW w4.heap.size _) (by rfl) st_isW; (intro wo hT; (repeat (first | (intro v hv; (skip)) | (intro _ _ k; try have hcv := cv k))); (have bo := x4.below hT; have hsz : w4.heap.size ≤ wo.heap.size := hT.size); refine Goes.mk ?_; go_simp; first | exact goes_v | exact goes_b (by assumption) | (refine goes_enter ?_; first | (go_at_call 60; ((with_reducible refine (g0 wo bo).mono ?_); rintro e w9 ⟨rfl, hD9⟩); exact ret_v hD9.bel) | (go_at_call 60; ((with_reducible refine (g2 wo bo).mono ?_); rintro e w9 ⟨rfl, hD9⟩); exact ret_v hD9.bel) | (go_at_call 53; ((with_reducible refine (clone_any A' n' c' _ wo (D4.below hT)).mono ?_); rintro e w9 ⟨A9, c9, rfl, ho9, hB9⟩); exact ret_p (own_isW ho9 hsz) hB9)))))); refine ObsK.nil ?_; intro wz hBz; simp only [finOn, List.drop_succ_cons, List.drop_zero, List.drop_nil]
    rintro v9 ⟨A9, n9, c9, rfl, O9⟩
    go_simp
    have Zz := Z4.below hBz
    have zcz := Zz.cell
    have zl := Z4.lt
    obtain ⟨wf, hwf, Sf⟩ := store4 Zz (.int .u16 v0) (.int .u16 v2) (.bool false) (.slice A9 n9 c9)
    have pf := Sf.blk.cell
    have Tf := Sf.bel (below_then R4 hBz) (by omega)
    have Of := Sf.own O9 (fun a e => by have := O9.ge a e; omega)
    go_wp2_with fail
    refine bodyPost_ret (v := .tuple #[.agg #[.int .u16 v0, .int .u16 v2, .bool false, .slice A9 n9 c9], .int .i64 0]) (by simp [results, Tryz.results97, go_sem, pf]) rfl (by rw [HD.out]; exact ⟨A9, n9, c9, rfl, Of.mono r4s, Tf⟩)
theorem ud_ways (p : Pkt) (n2 : Nat) (l2 : p.dat.length = n2) :
    (udE p ≠ 0 ∧ ((udE p = 12 ∧ (p.proto != 17) = true) ∨ (udE p = 3 ∧ (p.proto != 17) = false ∧ (n2 : Int) < 8) ∨ (udE p = 4 ∧ (p.proto != 17) = false ∧ 8 ≤ (n2 : Int) ∧ (get16 p.dat 4 != (n2 : Int)) = true) ∨ (udE p = 5 ∧ (p.proto != 17) = false ∧ 8 ≤ (n2 : Int) ∧ (get16 p.dat 4 != (n2 : Int)) = false ∧ (get16 p.dat 6 == 0) = false ∧ (psum p 17 p.dat == 0) = false))) ∨
    (udE p = 0 ∧ (p.proto != 17) = false ∧ 8 ≤ (n2 : Int) ∧ (get16 p.dat 4 != (n2 : Int)) = false ∧ ((get16 p.dat 6 == 0) = true ∨ ((get16 p.dat 6 == 0) = false ∧ (psum p 17 p.dat == 0) = true))) := by
  unfold udE
  rw [l2]
  by_cases h1 : p.proto = 17
  · by_cases h2 : n2 < 8
    · have h2' : (n2 : Int) < 8 := by omega
      simp [h1, h2, h2']
    · have h2' : 8 ≤ (n2 : Int) := by omega
      by_cases h3 : get16 p.dat 4 = n2
      · by_cases h6 : get16 p.dat 6 = 0
        · simp [h1, h2, h2', h3, h6]
        · by_cases h5 : psum p 17 p.dat = 0
          · simp [h1, h2, h2', h3, h6, h5]
          · simp [h1, h2, h2', h3, h6, h5]
      · simp [h1, h2, h2', h3]
  · simp [h1]
theorem udp_any (p : Pkt) (hp : p.Ok) (A1 : Option Addr) (n1 c1 : Nat) (A2 : Option Addr) (n2 c2 : Nat) (w : World) (k2 : Bs w A2 n2 c2 p.dat) :
    Calls Tryz.prog 97 #[(.agg #[.int .u8 (p).tos, .int .u16 (p).id, .bool (p).keep, .int .u8 (p).ttl, .int .u8 (p).proto, .int .u32 (p).src, .int .u32 (p).dst, .slice A1 n1 c1, .slice A2 n2 c2])] w (DgPost w (udD p) (udE p)) := by
  unfold udD
  rcases ud_ways p n2 k2.len with ⟨h0, h⟩ | ⟨h0, h1, h2, h3, h⟩
  · rw [if_neg h0]
    exact udp_no p hp A1 n1 c1 A2 n2 c2 w k2 _ _ _ rfl rfl h
  · rw [if_pos h0, h0]
    exact udp_ok p hp A1 n1 c1 A2 n2 c2 w k2 _ _ rfl rfl h1 h2 h3 h
theorem rudp_no (p : Pkt) (hp : p.Ok) (A1 : Option Addr) (n1 c1 : Nat) (A2 : Option Addr) (n2 c2 : Nat) (w : World) (k2 : Bs w A2 n2 c2 p.dat) (E q4 : Int) (b6 : Bool) (hq4 : get16 p.dat 4 = q4) (hb6 : (get16 p.dat 6 == 0) = b6)
    (h : (E = 12 ∧ (p.proto != 17) = true) ∨ (E = 3 ∧ (p.proto != 17) = false ∧ (n2 : Int) < 8) ∨ (E = 4 ∧ (p.proto != 17) = false ∧ 8 ≤ (n2 : Int) ∧ (q4 != (n2 : Int)) = true) ∨ (E = 5 ∧ (p.proto != 17) = false ∧ 8 ≤ (n2 : Int) ∧ (q4 != (n2 : Int)) = false ∧ b6 = false ∧ (psum p 17 p.dat == 0) = false)) :
    Calls Tryz.prog 33 #[(.agg #[.int .u8 (p).tos, .int .u16 (p).id, .bool (p).keep, .int .u8 (p).ttl, .int .u8 (p).proto, .int .u32 (p).src, .int .u32 (p).dst, .slice A1 n1 c1, .slice A2 n2 c2])] w (DgPost w zD E) := by
  have b2 := k2.max
  have q0 : 0 ≤ q4 := by rw [← hq4]; exact get16_lo _ _
  have q1 : q4 ≤ 65535 := by rw [← hq4]; exact get16_hi _ _
  have hw4 : IntKind.i64.wrap q4 = q4 := by rw [IntKind.wrap_i64]; omega
  have g4 : ∀ W, Bs W A2 n2 c2 p.dat → Calls Tryz.prog 64 #[.slice A2 n2 c2, .int .i64 4] W fun e w' => e = .returned (.int .u16 q4) ∧ Drawn W w' := fun W k => by have := rget16_any A2 n2 c2 p.dat 4 W k; rw [hq4] at this; exact this
  obtain ⟨q6, hq6⟩ : ∃ q, get16 p.dat 6 = q := ⟨_, rfl⟩
  have g6 : ∀ W, Bs W A2 n2 c2 p.dat → Calls Tryz.prog 64 #[.slice A2 n2 c2, .int .i64 6] W fun e w' => e = .returned (.int .u16 q6) ∧ Drawn W w' := fun W k => by have := rget16_any A2 n2 c2 p.dat 6 W k; rw [hq6] at this; exact this
  rw [hq6] at hb6
  clear hq4 hq6
  obtain ⟨k, hk, w1, hw1, P1, Z1, R1⟩ := nwI2 w #[.int .u8 (p).tos, .int .u16 (p).id, .bool (p).keep, .int .u8 (p).ttl, .int .u8 (p).proto, .int .u32 (p).src, .int .u32 (p).dst, .slice A1 n1 c1, .slice A2 n2 c2] 26 #[.int .u16 0, .int .u16 0, .bool false, .slice none 0 0] 57
  have Pc1 := P1.cell
  have Zc1 := Z1.cell
  have Pl1 := P1.lt
  have Zl1 := Z1.lt
  have x1 := (k2).below R1
  rcases h with ⟨rfl, h1⟩ | ⟨rfl, h1, h2⟩ | ⟨rfl, h1, h2, h3⟩ | ⟨rfl, h1, h2, h3, rfl, h5⟩
  · go_enter Tryz.func33, Tryz.ntmps33
    go_wp2_with fail
    obtain ⟨wf, hwf, Sf⟩ := store4 Z1 (.int .u16 0) (.int .u16 0) (.bool false) (.slice none 0 0)
    rw [hwf]
    have pf := Sf.blk.cell
    exact bodyPost_ret (by simp [results, Tryz.results33, go_sem, pf]) rfl (dgPost_no (Sf.bel R1 (by omega)))
  · go_enter Tryz.func33, Tryz.ntmps33
    go_wp2_with fail
    obtain ⟨wf, hwf, Sf⟩ := store4 Z1 (.int .u16 0) (.int .u16 0) (.bool false) (.slice none 0 0)
    rw [hwf]
    have pf := Sf.blk.cell
    exact bodyPost_ret (by simp [results, Tryz.results33, go_sem, pf]) rfl (dgPost_no (Sf.bel R1 (by omega)))
  · go_enter Tryz.func33, Tryz.ntmps33
    go_wp2_with (go_at_call 64; ((with_reducible refine (g4 w1 x1).mono ?_); rintro e w2 ⟨rfl, hD2⟩); have hB2 := hD2.bel; have P2 := P1.below hB2; have Pc2 := P2.cell; clear Pc1; have Z2 := Z1.below hB2; have Zc2 := Z2.cell; clear Zc1; have x2 := x1.below hB2; have R2 := below_then R1 hB2)
    obtain ⟨wf, hwf, Sf⟩ := store4 Z2 (.int .u16 0) (.int .u16 0) (.bool false) (.slice none 0 0)
    rw [hwf]
    have pf := Sf.blk.cell
    exact bodyPost_ret (by simp [results, Tryz.results33, go_sem, pf]) rfl (dgPost_no (Sf.bel R2 (by omega)))
  · have n2b : n2 ≤ 17592186044400 := by have : q4 = n2 := by simpa using h3
                                         omega
    have h6 : ∀ z : Int, (z == 0) = false → (z != 0) = true := fun z h => by simpa using h
    have h5' := h6 _ h5
    go_enter Tryz.func33, Tryz.ntmps33
    go_wp2_with (first
      | (go_at_call 64; ((with_reducible refine (g4 w1 x1).mono ?_); rintro e w2 ⟨rfl, hD2⟩); have hB2 := hD2.bel; have P2 := P1.below hB2; have Pc2 := P2.cell; clear Pc1; have Z2 := Z1.below hB2; have Zc2 := Z2.cell; clear Zc1; have x2 := x1.below hB2; have R2 := below_then R1 hB2)
      | (go_at_call 64; ((with_reducible refine (g6 w2 x2).mono ?_); rintro e w3 ⟨rfl, hD3⟩); have hB3 := hD3.bel; have P3 := P2.below hB3; have Pc3 := P3.cell; clear Pc2; have Z3 := Z2.below hB3; have Zc3 := Z3.cell; clear Zc2; have x3 := x2.below hB3; have R3 := below_then R2 hB3)
      | (go_at_call 71; ((with_reducible refine (rssum_any p hp A1 n1 c1 A2 n2 c2 17 (by omega) (by omega) A2 n2 c2 p.dat w3 x3 n2b).mono ?_); rintro e w4 ⟨rfl, hB4⟩); have P4 := P3.below hB4; have Pc4 := P4.cell; clear Pc3; have Z4 := Z3.below hB4; have Zc4 := Z4.cell; clear Zc3; have x4 := x3.below hB4; have R4 := below_then R3 hB4))
    obtain ⟨wf, hwf, Sf⟩ := store4 Z4 (.int .u16 0) (.int .u16 0) (.bool false) (.slice none 0 0)
    rw [hwf]
    have pf := Sf.blk.cell
    exact bodyPost_ret (by simp [results, Tryz.results33, go_sem, pf]) rfl (dgPost_no (Sf.bel R4 (by omega)))
theorem rudp_ok (p : Pkt) (hp : p.Ok) (A1 : Option Addr) (n1 c1 : Nat) (A2 : Option Addr) (n2 c2 : Nat) (w : World) (k2 : Bs w A2 n2 c2 p.dat) (q4 : Int) (b6 : Bool) (hq4 : get16 p.dat 4 = q4) (hb6 : (get16 p.dat 6 == 0) = b6)
    (h1 : (p.proto != 17) = false) (h2 : 8 ≤ (n2 : Int)) (h3 : (q4 != (n2 : Int)) = false) (h : b6 = true ∨ (b6 = false ∧ (psum p 17 p.dat == 0) = true)) :
    Calls Tryz.prog 33 #[(.agg #[.int .u8 (p).tos, .int .u16 (p).id, .bool (p).keep, .int .u8 (p).ttl, .int .u8 (p).proto, .int .u32 (p).src, .int .u32 (p).dst, .slice A1 n1 c1, .slice A2 n2 c2])] w (DgPost w (rdD p.dat) 0) := by
  have hlL : p.dat.take n2 = p.dat := List.take_of_length_le (by rw [k2.len]; exact Nat.le_refl _)
  obtain ⟨i8, hi8, -, hs8, -⟩ := info_parts info_u8
  have b2 := k2.max
  have hcap := k2.cap
  obtain ⟨b, off, rfl⟩ := k2.some_ (by omega)
  have hcut : ∀ W, (Instr.slice 24 (.slice (some ⟨b, off, none⟩) n2 c2) (some (.int .i64 8)) none none).run Tryz.prog W = _ := fun W => cut_l Tryz.underlying24 hi8 hs8 (some ⟨b, off, none⟩) n2 c2 .i64 8 (by omega) (by omega) W
  obtain ⟨A', n', c', eA, en, ec, hbD⟩ := k2.cutE (lo := 8) (hi := n2) (by omega) (Nat.le_refl _)
  simp only [show (8 : Int).toNat = 8 from rfl, eA, en, ec] at hcut
  rw [hlL] at hbD
  have hn' : n' ≤ n2 := by omega
  clear eA en ec hlL
  have q0 : 0 ≤ q4 := by rw [← hq4]; exact get16_lo _ _
  have q1 : q4 ≤ 65535 := by rw [← hq4]; exact get16_hi _ _
  have hw4 : IntKind.i64.wrap q4 = q4 := by rw [IntKind.wrap_i64]; omega
  have g4 : ∀ W, Bs W (some ⟨b, off, none⟩) n2 c2 p.dat → Calls Tryz.prog 64 #[.slice (some ⟨b, off, none⟩) n2 c2, .int .i64 4] W fun e w' => e = .returned (.int .u16 q4) ∧ Drawn W w' := fun W k => by have := rget16_any (some ⟨b, off, none⟩) n2 c2 p.dat 4 W k; rw [hq4] at this; exact this
  obtain ⟨q6, hq6⟩ : ∃ q, get16 p.dat 6 = q := ⟨_, rfl⟩
  have g6 : ∀ W, Bs W (some ⟨b, off, none⟩) n2 c2 p.dat → Calls Tryz.prog 64 #[.slice (some ⟨b, off, none⟩) n2 c2, .int .i64 6] W fun e w' => e = .returned (.int .u16 q6) ∧ Drawn W w' := fun W k => by have := rget16_any (some ⟨b, off, none⟩) n2 c2 p.dat 6 W k; rw [hq6] at this; exact this
  rw [hq6] at hb6
  have HQ6 := Lib.hid hq6
  clear hq4 hq6
  obtain ⟨v0, hv0⟩ : ∃ q, get16 p.dat 0 = q := ⟨_, rfl⟩
  obtain ⟨v2, hv2⟩ : ∃ q, get16 p.dat 2 = q := ⟨_, rfl⟩
  have g0 : ∀ W, Bs W (some ⟨b, off, none⟩) n2 c2 p.dat → Calls Tryz.prog 64 #[.slice (some ⟨b, off, none⟩) n2 c2, .int .i64 0] W fun e w' => e = .returned (.int .u16 v0) ∧ Drawn W w' := fun W k => by have := rget16_any (some ⟨b, off, none⟩) n2 c2 p.dat 0 W k; rw [hv0] at this; exact this
  have g2 : ∀ W, Bs W (some ⟨b, off, none⟩) n2 c2 p.dat → Calls Tryz.prog 64 #[.slice (some ⟨b, off, none⟩) n2 c2, .int .i64 2] W fun e w' => e = .returned (.int .u16 v2) ∧ Drawn W w' := fun W k => by have := rget16_any (some ⟨b, off, none⟩) n2 c2 p.dat 2 W k; rw [hv2] at this; exact this
  have HD : Hid (rdD p.dat = ⟨v0, v2, b6, p.dat.drop 8⟩) := by unfold Hid rdD; rw [hv0, hv2, HQ6.out, hb6]
  clear hv0 hv2
  have n2b : n2 ≤ 100000 := by have : q4 = n2 := by simpa using h3
                               omega
  obtain ⟨k, hk, w1, hw1, P1, Z1, R1⟩ := nwI2 w #[.int .u8 (p).tos, .int .u16 (p).id, .bool (p).keep, .int .u8 (p).ttl, .int .u8 (p).proto, .int .u32 (p).src, .int .u32 (p).dst, .slice A1 n1 c1, .slice (some ⟨b, off, none⟩) n2 c2] 26 #[.int .u16 0, .int .u16 0, .bool false, .slice none 0 0] 57
  have Pc1 := P1.cell
  have Zc1 := Z1.cell
  have Pl1 := P1.lt
  have Zl1 := Z1.lt
  have x1 := (k2).below R1
  rcases h with rfl | ⟨rfl, h5⟩
  · go_enter Tryz.func33, Tryz.ntmps33
    go_wp2_with (first
      | (go_at_call 64; ((with_reducible refine (g4 w1 x1).mono ?_); rintro e w2 ⟨rfl, hD2⟩); have hB2 := hD2.bel; have P2 := P1.below hB2; have Pc2 := P2.cell; clear Pc1; have Z2 := Z1.below hB2; have Zc2 := Z2.cell; clear Zc1; have x2 := x1.below hB2; have R2 := below_then R1 hB2)
      | (go_at_call 64; ((with_reducible refine (g6 w2 x2).mono ?_); rintro e w3 ⟨rfl, hD3⟩); have hB3 := hD3.bel; have P3 := P2.below hB3; have Pc3 := P3.cell; clear Pc2; have Z3 := Z2.below hB3; have Zc3 := Z3.cell; clear Zc2; have x3 := x2.below hB3; have R3 := below_then R2 hB3)
      | (go_at_call 64; ((with_reducible refine (g0 w3 x3).mono ?_); rintro e w4 ⟨rfl, hD4⟩); have hB4 := hD4.bel; have P4 := P3.below hB4; have Pc4 := P4.cell; clear Pc3; have Z4 := Z3.below hB4; have Zc4 := Z4.cell; clear Zc3; have x4 := x3.below hB4; have R4 := below_then R3 hB4)
      | (go_at_call 64; ((with_reducible refine (g2 w4 x4).mono ?_); rintro e w5 ⟨rfl, hD5⟩); have hB5 := hD5.bel; have P5 := P4.below hB5; have Pc5 := P5.cell; clear Pc4; have Z5 := Z4.below hB5; have Zc5 := Z5.cell; clear Zc4; have x5 := x4.below hB5; have R5 := below_then R4 hB5))
    obtain ⟨wq, hwq⟩ : ∃ W, w5.alloc (.cells #[.int .u16 v0, .int .u16 v2, .bool true, .slice none 0 0] 57) = W := ⟨_, rfl⟩
    have G := blk_new w5 #[.int .u16 v0, .int .u16 v2, .bool true, .slice none 0 0] 57 _ rfl
    have Vq : Below w5.heap.size w5 wq := by first | exact bw1 hwq | exact bw2 hwq | exact bw3 hwq | exact bw4 hwq
    rw [hwq] at G ⊢
    have Zq := Z5.below Vq
    have Tq := below_then R5 Vq
    have Dq := hbD.below Tq
    have zl := Z5.lt
    have rs := R5.size
    have hg : w.heap.size ≤ w5.heap.size := rs
    clear hwq
    refine region_txt 4 (by kernel_rfl) (by kernel_rfl) ?_; (iterate 4 (first | (apply ObsK.skip (by rfl)) | (apply ObsK.v (by rfl); (intro wo hT; (repeat (first | (intro _ _ k; try have hcv := cv k))); (have gc := (G.below hT).cell); refine Goes.mk ?_; go_simp; first | exact goes_v | exact goes_b (by assumption) | (refine goes_enter ?_; first | fail))) | (apply ObsK.b (by rfl); (intro wo hT; (repeat (first | (intro _ _ k; try have hcv := cv k))); (have gc := (G.below hT).cell); refine Goes.mk ?_; go_simp; first | exact goes_v | exact goes_b (by assumption) | (refine goes_enter ?_; first | fail))))); refine ObsK.nil ?_; intro wz hBz; simp only [finOn, List.drop_succ_cons, List.drop_zero, List.drop_nil]
    go_simp
    have G5 := G.below hBz
    have Z5 := Zq.below hBz
    have T5 := below_then Tq hBz
    have D5 := Dq.below hBz
    have gs := hBz.size
    have gl := G.lt
    go_wp2_with (first
      | (at_builtin; refine wpList_append_bs (w0 := wz) _ rfl _ _ _ rfl wz.heap.size 5 Tryz.underlying24 info_u8 none 0 0 [] rfl (own_nil _ _ _) A' n' c' _ rfl D5 (Below.refl _ _) (by omega) (by first | exact Nat.le_refl _ | exact Below.size (Below.refl _ _) | omega | (simp <;> omega)) ?_; intro A7 n7 c7 w7 ho7 hB7 _ hz7; have u7 : n7 = n' := (by have := ho7.len; have := D5.len; simp at *; omega); subst u7; replace ho7 : Own w7 wz.heap.size 5 A7 n7 c7 (p.dat.drop 8) := ho7; have G7 := G5.below hB7; have gc7 := G7.cell; (obtain ⟨w8, hw8, S8⟩ := store1 G7 3 (.slice A7 n7 c7)); simp only [List.setIfInBounds_toArray, List.set_cons_zero, List.set_cons_succ] at S8; have gc8 := S8.blk.cell; have Z8 := S8.other (by omega) (Z5.below hB7); have zc8 := Z8.cell; have T8 := S8.bel (below_then T5 hB7) (by omega); have O8 := S8.own ho7 (fun a e => by have := ho7.ge a e; omega)))
    obtain ⟨wf, hwf, Sf⟩ := store4 Z8 (.int .u16 v0) (.int .u16 v2) (.bool true) (.slice A7 n7 c7)
    rw [hwf]
    have pf := Sf.blk.cell
    have Of := Sf.own O8 (fun a e => by have := ho7.ge a e; omega)
    have s5 := T5.size
    refine bodyPost_ret (v := .tuple #[.agg #[.int .u16 v0, .int .u16 v2, .bool true, .slice A7 n7 c7], .int .i64 0]) (by simp [results, Tryz.results33, go_sem, pf]) rfl (by rw [HD.out]; exact ⟨A7, n7, c7, rfl, Of.mono s5, Sf.bel T8 (by omega)⟩)
  · have h6 : ∀ z : Int, (z == 0) = true → (z != 0) = false := fun z h => by simpa using h
    have h5' := h6 _ h5
    go_enter Tryz.func33, Tryz.ntmps33
    go_wp2_with (first
      | (go_at_call 64; ((with_reducible refine (g4 w1 x1).mono ?_); rintro e w2 ⟨rfl, hD2⟩); have hB2 := hD2.bel; have P2 := P1.below hB2; have Pc2 := P2.cell; clear Pc1; have Z2 := Z1.below hB2; have Zc2 := Z2.cell; clear Zc1; have x2 := x1.below hB2; have R2 := below_then R1 hB2)
      | (go_at_call 64; ((with_reducible refine (g6 w2 x2).mono ?_); rintro e w3 ⟨rfl, hD3⟩); have hB3 := hD3.bel; have P3 := P2.below hB3; have Pc3 := P3.cell; clear Pc2; have Z3 := Z2.below hB3; have Zc3 := Z3.cell; clear Zc2; have x3 := x2.below hB3; have R3 := below_then R2 hB3)
      | (go_at_call 71; ((with_reducible refine (rssum_any p hp A1 n1 c1 (some ⟨b, off, none⟩) n2 c2 17 (by omega) (by omega) (some ⟨b, off, none⟩) n2 c2 p.dat w3 x3 (by omega)).mono ?_); rintro e w4 ⟨rfl, hB4⟩); have P4 := P3.below hB4; have Pc4 := P4.cell; clear Pc3; have Z4 := Z3.below hB4; have Zc4 := Z4.cell; clear Zc3; have x4 := x3.below hB4; have R4 := below_then R3 hB4)
      | (go_at_call 64; ((with_reducible refine (g0 w4 x4).mono ?_); rintro e w5 ⟨rfl, hD5⟩); have hB5 := hD5.bel; have P5 := P4.below hB5; have Pc5 := P5.cell; clear Pc4; have Z5 := Z4.below hB5; have Zc5 := Z5.cell; clear Zc4; have x5 := x4.below hB5; have R5 := below_then R4 hB5)
      | (go_at_call 64; ((with_reducible refine (g2 w5 x5).mono ?_); rintro e w6 ⟨rfl, hD6⟩); have hB6 := hD6.bel; have P6 := P5.below hB6; have Pc6 := P6.cell; clear Pc5; have Z6 := Z5.below hB6; have Zc6 := Z6.cell; clear Zc5; have x6 := x5.below hB6; have R6 := below_then R5 hB6))
    obtain ⟨wq, hwq⟩ : ∃ W, w6.alloc (.cells #[.int .u16 v0, .int .u16 v2, .bool false, .slice none 0 0] 57) = W := ⟨_, rfl⟩
    have G := blk_new w6 #[.int .u16 v0, .int .u16 v2, .bool false, .slice none 0 0] 57 _ rfl
    have Vq : Below w6.heap.size w6 wq := by first | exact bw1 hwq | exact bw2 hwq | exact bw3 hwq | exact bw4 hwq
    rw [hwq] at G ⊢
    have Zq := Z6.below Vq
    have Tq := below_then R6 Vq
    have Dq := hbD.below Tq
    have zl := Z6.lt
    have rs := R6.size
    have hg : w.heap.size ≤ w6.heap.size := rs
    clear hwq
    refine region_txt 4 (by kernel_rfl) (by kernel_rfl) ?_; (iterate 4 (first | (apply ObsK.skip (by rfl)) | (apply ObsK.v (by rfl); (intro wo hT; (repeat (first | (intro _ _ k; try have hcv := cv k))); (have gc := (G.below hT).cell); refine Goes.mk ?_; go_simp; first | exact goes_v | exact goes_b (by assumption) | (refine goes_enter ?_; first | fail))) | (apply ObsK.b (by rfl); (intro wo hT; (repeat (first | (intro _ _ k; try have hcv := cv k))); (have gc := (G.below hT).cell); refine Goes.mk ?_; go_simp; first | exact goes_v | exact goes_b (by assumption) | (refine goes_enter ?_; first | fail))))); refine ObsK.nil ?_; intro wz hBz; simp only [finOn, List.drop_succ_cons, List.drop_zero, List.drop_nil]
    go_simp
    have G5 := G.below hBz
    have Z5 := Zq.below hBz
    have T5 := below_then Tq hBz
    have D5 := Dq.below hBz
    have gs := hBz.size
    have gl := G.lt
    go_wp2_with (first
      | (at_builtin; refine wpList_append_bs (w0 := wz) _ rfl _ _ _ rfl wz.heap.size 5 Tryz.underlying24 info_u8 none 0 0 [] rfl (own_nil _ _ _) A' n' c' _ rfl D5 (Below.refl _ _) (by omega) (by first | exact Nat.le_refl _ | exact Below.size (Below.refl _ _) | omega | (simp <;> omega)) ?_; intro A7 n7 c7 w7 ho7 hB7 _ hz7; have u7 : n7 = n' := (by have := ho7.len; have := D5.len; simp at *; omega); subst u7; replace ho7 : Own w7 wz.heap.size 5 A7 n7 c7 (p.dat.drop 8) := ho7; have G7 := G5.below hB7; have gc7 := G7.cell; (obtain ⟨w8, hw8, S8⟩ := store1 G7 3 (.slice A7 n7 c7)); simp only [List.setIfInBounds_toArray, List.set_cons_zero, List.set_cons_succ] at S8; have gc8 := S8.blk.cell; have Z8 := S8.other (by omega) (Z5.below hB7); have zc8 := Z8.cell; have T8 := S8.bel (below_then T5 hB7) (by omega); have O8 := S8.own ho7 (fun a e => by have := ho7.ge a e; omega)))
    obtain ⟨wf, hwf, Sf⟩ := store4 Z8 (.int .u16 v0) (.int .u16 v2) (.bool false) (.slice A7 n7 c7)
    rw [hwf]
    have pf := Sf.blk.cell
    have Of := Sf.own O8 (fun a e => by have := ho7.ge a e; omega)
    have s5 := T5.size
    refine bodyPost_ret (v := .tuple #[.agg #[.int .u16 v0, .int .u16 v2, .bool false, .slice A7 n7 c7], .int .i64 0]) (by simp [results, Tryz.results33, go_sem, pf]) rfl (by rw [HD.out]; exact ⟨A7, n7, c7, rfl, Of.mono s5, Sf.bel T8 (by omega)⟩)
theorem rudp_any (p : Pkt) (hp : p.Ok) (A1 : Option Addr) (n1 c1 : Nat) (A2 : Option Addr) (n2 c2 : Nat) (w : World) (k2 : Bs w A2 n2 c2 p.dat) :
    Calls Tryz.prog 33 #[(.agg #[.int .u8 (p).tos, .int .u16 (p).id, .bool (p).keep, .int .u8 (p).ttl, .int .u8 (p).proto, .int .u32 (p).src, .int .u32 (p).dst, .slice A1 n1 c1, .slice A2 n2 c2])] w (DgPost w (udD p) (udE p)) := by
  unfold udD
  rcases ud_ways p n2 k2.len with ⟨h0, h⟩ | ⟨h0, h1, h2, h3, h⟩
  · rw [if_neg h0]
    exact rudp_no p hp A1 n1 c1 A2 n2 c2 w k2 _ _ _ rfl rfl h
  · rw [if_pos h0, h0]
    exact rudp_ok p hp A1 n1 c1 A2 n2 c2 w k2 _ _ rfl rfl h1 h2 h3 h
structure Msg where
  ty : Int
  code : Int
  rest : Int
  dat : List UInt8
structure Msg.Ok (m : Msg) : Prop where
  ty : 0 ≤ m.ty ∧ m.ty ≤ 255
  code : 0 ≤ m.code ∧ m.code ≤ 255
  rest : 0 ≤ m.rest ∧ m.rest ≤ 4294967295
def zM : Msg := ⟨0, 0, 0, []⟩
def sameM (m n : Msg) : Bool := m.ty == n.ty && m.code == n.code && m.rest == n.rest && m.dat == n.dat
theorem sameM_self (m : Msg) : sameM m m = true := by simp [sameM]
def isErrM (m : Msg) : Bool := m.ty == 3 || m.ty == 11 || m.ty == 12
def isEchoM (m : Msg) : Bool := (m.ty == 8 || m.ty == 0) && m.code == 0
theorem rmsame_any (m n : Msg) (A1 : Option Addr) (n1 c1 : Nat) (B1 : Option Addr) (m1 d1 : Nat) (w : World) (k1 : Bs w A1 n1 c1 m.dat) (j1 : Bs w B1 m1 d1 n.dat) :
    Calls Tryz.prog 46 #[(.agg #[.int .u8 (m).ty, .int .u8 (m).code, .int .u32 (m).rest, .slice A1 n1 c1]), (.agg #[.int .u8 (n).ty, .int .u8 (n).code, .int .u32 (n).rest, .slice B1 m1 d1])] w fun e w' => e = .returned (.bool (sameM m n)) ∧ Below w.heap.size w w' := by
  have x1 := fun o o' => cv ((k1.alloc o).alloc o')
  have y1 := fun o o' => cv ((j1.alloc o).alloc o')
  have s1 := str_beqS m.dat n.dat
  go_enter Tryz.func46, Tryz.ntmps46
  go_wp2_with fail
  all_goals go_ret
  all_goals refine ⟨?_, by (repeat (first | with_reducible exact Below.refl _ _ | with_reducible refine below_drew ?_ | with_reducible refine below_drewN ?_ _ | with_reducible refine below_alloc ?_ (Nat.le_refl _) _ | with_reducible refine Below.setCell ?_ (by first | exact Nat.le_refl _ | (simp only []; omega)) _ | with_reducible assumption))⟩
  all_goals simp_all [sameM]
theorem risecho_any (m : Msg) (A1 : Option Addr) (n1 c1 : Nat) (w : World) :
    Calls Tryz.prog 34 #[(.agg #[.int .u8 (m).ty, .int .u8 (m).code, .int .u32 (m).rest, .slice A1 n1 c1])] w fun e w' => e = .returned (.bool (isEchoM m)) ∧ Below w.heap.size w w' := by
  go_enter Tryz.func34, Tryz.ntmps34
  go_wp2_with fail
  all_goals go_ret
  all_goals refine ⟨?_, by (repeat (first | with_reducible exact Below.refl _ _ | with_reducible refine below_drew ?_ | with_reducible refine below_drewN ?_ _ | with_reducible refine below_alloc ?_ (Nat.le_refl _) _ | with_reducible refine Below.setCell ?_ (by first | exact Nat.le_refl _ | (simp only []; omega)) _ | with_reducible assumption))⟩
  all_goals simp_all [isEchoM]
theorem andNot8_tab : ∀ a : Fin 256, (bits .andNot .u8 (a.val : Int) 8 == 0) = ((a.val : Int) == 8 || (a.val : Int) == 0) := by decide +kernel
theorem andNot8 {x : Int} (h0 : 0 ≤ x) (h1 : x ≤ 255) : (bits .andNot .u8 x 8 == 0) = (x == 8 || x == 0) := by
  have h := andNot8_tab ⟨x.toNat, by omega⟩
  have e : ((x.toNat : Nat) : Int) = x := by omega
  simp only [e] at h
  exact h
theorem isecho_any (m : Msg) (hm : m.Ok) (A1 : Option Addr) (n1 c1 : Nat) (w : World) :
    Calls Tryz.prog 102 #[(.agg #[.int .u8 (m).ty, .int .u8 (m).code, .int .u32 (m).rest, .slice A1 n1 c1])] w fun e w' => e = .returned (.bool (isEchoM m)) ∧ Below w.heap.size w w' := by
  have hn := andNot8 hm.ty.1 hm.ty.2
  go_enter Tryz.func102, Tryz.ntmps102
  go_wp2_with fail
  all_goals go_ret
  all_goals refine ⟨?_, by (repeat (first | with_reducible exact Below.refl _ _ | with_reducible refine below_drew ?_ | with_reducible refine below_drewN ?_ _ | with_reducible refine below_alloc ?_ (Nat.le_refl _) _ | with_reducible refine Below.setCell ?_ (by first | exact Nat.le_refl _ | (simp only []; omega)) _ | with_reducible assumption))⟩
  all_goals simp_all [isEchoM]
def icE (p : Pkt) : Int := if p.proto ≠ 1 then 12 else if (p.dat.length : Int) < 8 then 3 else if csum p.dat ≠ 0 then 5 else 0
def icM (p : Pkt) : Msg := if icE p = 0 then ⟨bt p.dat 0, bt p.dat 1, get32 p.dat 4, p.dat.drop 8⟩ else zM
theorem icM_ok (p : Pkt) : (icM p).Ok := by
  unfold icM; split
  · exact ⟨⟨bt_lo _ _, bt_hi _ _⟩, ⟨bt_lo _ _, bt_hi _ _⟩, ⟨get32_lo _ _, get32_hi _ _⟩⟩
  · exact ⟨⟨by decide, by decide⟩, ⟨by decide, by decide⟩, ⟨by decide, by decide⟩⟩
structure MsPost (w : World) (M : Msg) (E : Int) (e : Ending) (w' : World) : Prop where
  out : ∃ B m d, e = .returned (.tuple #[(.agg #[.int .u8 (M).ty, .int .u8 (M).code, .int .u32 (M).rest, .slice B m d]), .int .i64 E]) ∧ Own w' w.heap.size 5 B m d M.dat ∧ Below w.heap.size w w'
theorem msPost_no {w w' : World} {E : Int} (hB : Below w.heap.size w w') : MsPost w zM E (.returned (.tuple #[.agg #[.int .u8 0, .int .u8 0, .int .u32 0, .slice none 0 0], .int .i64 E])) w' :=
  ⟨none, 0, 0, rfl, own_nil _ _ _, hB⟩
theorem icmp_no (p : Pkt) (A1 : Option Addr) (n1 c1 : Nat) (A2 : Option Addr) (n2 c2 : Nat) (w : World) (k2 : Bs w A2 n2 c2 p.dat) (E : Int)
    (h : (E = 12 ∧ (p.proto != 1) = true) ∨ (E = 3 ∧ (p.proto != 1) = false ∧ (n2 : Int) < 8) ∨ (E = 5 ∧ (p.proto != 1) = false ∧ 8 ≤ (n2 : Int) ∧ (csum p.dat == 0) = false)) :
    Calls Tryz.prog 17 #[(.agg #[.int .u8 (p).tos, .int .u16 (p).id, .bool (p).keep, .int .u8 (p).ttl, .int .u8 (p).proto, .int .u32 (p).src, .int .u32 (p).dst, .slice A1 n1 c1, .slice A2 n2 c2])] w (MsPost w zM E) := by
  have b2 := k2.max
  obtain ⟨k, hk⟩ : ∃ k : Nat, w.heap.size = k := ⟨_, rfl⟩
  obtain ⟨w1, hw1⟩ : ∃ w1, (w.alloc (.cells #[.int .u8 (p).tos, .int .u16 (p).id, .bool (p).keep, .int .u8 (p).ttl, .int .u8 (p).proto, .int .u32 (p).src, .int .u32 (p).dst, .slice A1 n1 c1, .slice A2 n2 c2] 26)).alloc (.cells #[.int .u8 0, .int .u8 0, .int .u32 0, .slice none 0 0] 42) = w1 := ⟨_, rfl⟩
  have P1 : Blk w1 k #[.int .u8 (p).tos, .int .u16 (p).id, .bool (p).keep, .int .u8 (p).ttl, .int .u8 (p).proto, .int .u32 (p).src, .int .u32 (p).dst, .slice A1 n1 c1, .slice A2 n2 c2] 26 := by rw [← hw1]; exact (blk_new w _ _ k hk).alloc _
  have Z1 : Blk w1 (k + 1) #[.int .u8 0, .int .u8 0, .int .u32 0, .slice none 0 0] 42 := by rw [← hw1]; exact blk_new _ _ _ (k + 1) (by simp [hk])
  have R1 : Below w.heap.size w w1 := by first | exact bw1 hw1 | exact bw2 hw1 | exact bw3 hw1 | exact bw4 hw1
  have x2 := k2.below R1
  have pc := P1.cell
  have zc := Z1.cell
  obtain ⟨wf, hwf, Sf⟩ := store4 Z1 (.int .u8 0) (.int .u8 0) (.int .u32 0) (.slice none 0 0)
  have pf := Sf.blk.cell
  have Tf := Sf.bel R1 (by omega)
  rcases h with ⟨rfl, h1⟩ | ⟨rfl, h1, h2⟩ | ⟨rfl, h1, h2, h3⟩
  · go_enter Tryz.func17, Tryz.ntmps17
    go_wp2_with fail
    exact bodyPost_ret (by simp [results, Tryz.results17, go_sem, pf]) rfl (msPost_no Tf)
  · go_enter Tryz.func17, Tryz.ntmps17
    go_wp2_with fail
    exact bodyPost_ret (by simp [results, Tryz.results17, go_sem, pf]) rfl (msPost_no Tf)
  · go_enter Tryz.func17, Tryz.ntmps17
    clear hwf Sf pf Tf
    go_wp2_with (go_at_call 51; ((with_reducible refine (good_any A2 n2 c2 p.dat _ x2).mono ?_); rintro e w2 ⟨he2, hB2⟩); (try rw [h3] at he2); subst he2; have Z2 := Z1.below hB2; have zc2 := Z2.cell)
    obtain ⟨wf, hwf, Sf⟩ := store4 Z2 (.int .u8 0) (.int .u8 0) (.int .u32 0) (.slice none 0 0)
    rw [hwf]
    have pf := Sf.blk.cell
    exact bodyPost_ret (by simp [results, Tryz.results17, go_sem, pf]) rfl (msPost_no (Sf.bel (below_then R1 hB2) (by omega)))
theorem ricmp_no (p : Pkt) (A1 : Option Addr) (n1 c1 : Nat) (A2 : Option Addr) (n2 c2 : Nat) (w : World) (k2 : Bs w A2 n2 c2 p.dat) (hn2 : n2 ≤ 17592186044416) (E : Int)
    (h : (E = 12 ∧ (p.proto != 1) = true) ∨ (E = 3 ∧ (p.proto != 1) = false ∧ (n2 : Int) < 8) ∨ (E = 5 ∧ (p.proto != 1) = false ∧ 8 ≤ (n2 : Int) ∧ (csum p.dat == 0) = false)) :
    Calls Tryz.prog 12 #[(.agg #[.int .u8 (p).tos, .int .u16 (p).id, .bool (p).keep, .int .u8 (p).ttl, .int .u8 (p).proto, .int .u32 (p).src, .int .u32 (p).dst, .slice A1 n1 c1, .slice A2 n2 c2])] w (MsPost w zM E) := by
  have b2 := k2.max
  obtain ⟨k, hk⟩ : ∃ k : Nat, w.heap.size = k := ⟨_, rfl⟩
  obtain ⟨w1, hw1⟩ : ∃ w1, (w.alloc (.cells #[.int .u8 (p).tos, .int .u16 (p).id, .bool (p).keep, .int .u8 (p).ttl, .int .u8 (p).proto, .int .u32 (p).src, .int .u32 (p).dst, .slice A1 n1 c1, .slice A2 n2 c2] 26)).alloc (.cells #[.int .u8 0, .int .u8 0, .int .u32 0, .slice none 0 0] 42) = w1 := ⟨_, rfl⟩
  have P1 : Blk w1 k #[.int .u8 (p).tos, .int .u16 (p).id, .bool (p).keep, .int .u8 (p).ttl, .int .u8 (p).proto, .int .u32 (p).src, .int .u32 (p).dst, .slice A1 n1 c1, .slice A2 n2 c2] 26 := by rw [← hw1]; exact (blk_new w _ _ k hk).alloc _
  have Z1 : Blk w1 (k + 1) #[.int .u8 0, .int .u8 0, .int .u32 0, .slice none 0 0] 42 := by rw [← hw1]; exact blk_new _ _ _ (k + 1) (by simp [hk])
  have R1 : Below w.heap.size w w1 := by first | exact bw1 hw1 | exact bw2 hw1 | exact bw3 hw1 | exact bw4 hw1
  have x2 := k2.below R1
  have pc := P1.cell
  have zc := Z1.cell
  obtain ⟨wf, hwf, Sf⟩ := store4 Z1 (.int .u8 0) (.int .u8 0) (.int .u32 0) (.slice none 0 0)
  have pf := Sf.blk.cell
  have Tf := Sf.bel R1 (by omega)
  rcases h with ⟨rfl, h1⟩ | ⟨rfl, h1, h2⟩ | ⟨rfl, h1, h2, h3⟩
  · go_enter Tryz.func12, Tryz.ntmps12
    go_wp2_with fail
    exact bodyPost_ret (by simp [results, Tryz.results12, go_sem, pf]) rfl (msPost_no Tf)
  · go_enter Tryz.func12, Tryz.ntmps12
    go_wp2_with fail
    exact bodyPost_ret (by simp [results, Tryz.results12, go_sem, pf]) rfl (msPost_no Tf)
  · go_enter Tryz.func12, Tryz.ntmps12
    clear hwf Sf pf Tf
    go_wp2_with (go_at_call 39; ((with_reducible refine (rgood_any A2 n2 c2 p.dat hn2 _ x2).mono ?_); rintro e w2 ⟨he2, hB2⟩); (try rw [h3] at he2); subst he2; have Z2 := Z1.below hB2; have zc2 := Z2.cell)
    obtain ⟨wf, hwf, Sf⟩ := store4 Z2 (.int .u8 0) (.int .u8 0) (.int .u32 0) (.slice none 0 0)
    rw [hwf]
    have pf := Sf.blk.cell
    exact bodyPost_ret (by simp [results, Tryz.results12, go_sem, pf]) rfl (msPost_no (Sf.bel (below_then R1 hB2) (by omega)))
theorem icmp_ok (p : Pkt) (A1 : Option Addr) (n1 c1 : Nat) (A2 : Option Addr) (n2 c2 : Nat) (w : World) (k2 : Bs w A2 n2 c2 p.dat) 
    (h1 : (p.proto != 1) = false) (h2 : 8 ≤ (n2 : Int)) (h3 : (csum p.dat == 0) = true) :
    Calls Tryz.prog 17 #[(.agg #[.int .u8 (p).tos, .int .u16 (p).id, .bool (p).keep, .int .u8 (p).ttl, .int .u8 (p).proto, .int .u32 (p).src, .int .u32 (p).dst, .slice A1 n1 c1, .slice A2 n2 c2])] w (MsPost w ⟨bt p.dat 0, bt p.dat 1, get32 p.dat 4, p.dat.drop 8⟩ 0) := by
  have hlL : p.dat.take n2 = p.dat := List.take_of_length_le (by rw [k2.len]; exact Nat.le_refl _)
  obtain ⟨i8, hi8, -, hs8, -⟩ := info_parts info_u8
  have b2 := k2.max
  have hcap := k2.cap
  obtain ⟨b, off, rfl⟩ := k2.some_ (by omega)
  have hcut : ∀ W, (Instr.slice 24 (.slice (some ⟨b, off, none⟩) n2 c2) (some (.int .i64 8)) none none).run Tryz.prog W = _ := fun W => cut_l Tryz.underlying24 hi8 hs8 (some ⟨b, off, none⟩) n2 c2 .i64 8 (by omega) (by omega) W
  obtain ⟨A', n', c', eA, en, ec, hbD⟩ := k2.cutE (lo := 8) (hi := n2) (by omega) (Nat.le_refl _)
  simp only [show (8 : Int).toNat = 8 from rfl, eA, en, ec] at hcut
  rw [hlL] at hbD
  have hn' : n' ≤ n2 := by omega
  clear eA en ec hlL
  obtain ⟨k, hk⟩ : ∃ k : Nat, w.heap.size = k := ⟨_, rfl⟩
  obtain ⟨w1, hw1⟩ : ∃ w1, (w.alloc (.cells #[.int .u8 (p).tos, .int .u16 (p).id, .bool (p).keep, .int .u8 (p).ttl, .int .u8 (p).proto, .int .u32 (p).src, .int .u32 (p).dst, .slice A1 n1 c1, .slice (some ⟨b, off, none⟩) n2 c2] 26)).alloc (.cells #[.int .u8 0, .int .u8 0, .int .u32 0, .slice none 0 0] 42) = w1 := ⟨_, rfl⟩
  have P1 : Blk w1 k #[.int .u8 (p).tos, .int .u16 (p).id, .bool (p).keep, .int .u8 (p).ttl, .int .u8 (p).proto, .int .u32 (p).src, .int .u32 (p).dst, .slice A1 n1 c1, .slice (some ⟨b, off, none⟩) n2 c2] 26 := by rw [← hw1]; exact (blk_new w _ _ k hk).alloc _
  have Z1 : Blk w1 (k + 1) #[.int .u8 0, .int .u8 0, .int .u32 0, .slice none 0 0] 42 := by rw [← hw1]; exact blk_new _ _ _ (k + 1) (by simp [hk])
  have R1 : Below w.heap.size w w1 := by first | exact bw1 hw1 | exact bw2 hw1 | exact bw3 hw1 | exact bw4 hw1
  have x2 := k2.below R1
  have pc := P1.cell
  have zc := Z1.cell
  go_enter Tryz.func17, Tryz.ntmps17
  go_wp2_with (go_at_call 51; ((with_reducible refine (good_any (some ⟨b, off, none⟩) n2 c2 p.dat _ x2).mono ?_); rintro e w2 ⟨he2, hB2⟩); (try rw [h3] at he2); subst he2; have Z2 := Z1.below hB2; have zc2 := Z2.cell)
  have x3 := x2.below hB2
  have T2 := below_then R1 hB2
  have hD := hbD.below T2
  have s2 := T2.size
  have q0 : 0 < n2 := by omega
  have q0' : (0 : Int) < n2 := by omega
  have q1 : (1 : Int) < n2 := by omega
  refine region_txt 11 (by kernel_rfl) (by kernel_rfl) ?_; (iterate 11 (first | (apply ObsK.skip (by rfl)) | (apply ObsK.v (by rfl); (intro wo hT; (repeat (first | (intro v hv; (skip)) | (intro _ _ k; try have hcv := cv k))); (have bo := x3.below hT; have c0 := bo.at_ (j := 0) (by omega); rw [Nat.add_zero] at c0; have c1 := bo.at_ (j := 1) (by omega); have hsz : w2.heap.size ≤ wo.heap.size := hT.size); refine Goes.mk ?_; go_simp; first | exact goes_v | exact goes_b (by assumption) | (refine goes_enter ?_; first | (go_at_call 52; ((with_reducible refine (get32_any (some ⟨b, off, none⟩) n2 c2 p.dat 4 wo bo).mono ?_); rintro e w5 ⟨rfl, hD5⟩); exact ret_v hD5.bel) | (go_at_call 53; ((with_reducible refine (clone_any A' n' c' _ wo (hD.below hT)).mono ?_); rintro e w5 ⟨A9, c9, rfl, ho9, hB9⟩); exact ret_p (own_isW ho9 hsz) hB9)))) | (apply ObsK.b (by rfl); (intro wo hT; (repeat (first | (intro v hv; (skip)) | (intro _ _ k; try have hcv := cv k))); (have bo := x3.below hT; have c0 := bo.at_ (j := 0) (by omega); rw [Nat.add_zero] at c0; have c1 := bo.at_ (j := 1) (by omega); have hsz : w2.heap.size ≤ wo.heap.size := hT.size); refine Goes.mk ?_; go_simp; first | exact goes_v | exact goes_b (by assumption) | (refine goes_enter ?_; first | (go_at_call 52; ((with_reducible refine (get32_any (some ⟨b, off, none⟩) n2 c2 p.dat 4 wo bo).mono ?_); rintro e w5 ⟨rfl, hD5⟩); exact ret_v hD5.bel) | (go_at_call 53; ((with_reducible refine (clone_any A' n' c' _ wo (hD.below hT)).mono ?_); rintro e w5 ⟨A9, c9, rfl, ho9, hB9⟩); exact ret_p (own_isW ho9 hsz) hB9)))) | (apply ObsK.p (q := isW w2.heap.size _) (by rfl) st_isW; (intro wo hT; (repeat (first | (intro v hv; (skip)) | (intro _ _ k; try have hcv := cv k))); (have bo := x3.below hT; have c0 := bo.at_ (j := 0) (by omega); rw [Nat.add_zero] at c0; have c1 := bo.at_ (j := 1) (by omega); have hsz : w2.heap.size ≤ wo.heap.size := hT.size); refine Goes.mk ?_; go_simp; first | exact goes_v | exact goes_b (by assumption) | (refine goes_enter ?_; first | (go_at_call 52; ((with_reducible refine (get32_any (some ⟨b, off, none⟩) n2 c2 p.dat 4 wo bo).mono ?_); rintro e w5 ⟨rfl, hD5⟩); exact ret_v hD5.bel) | (go_at_call 53; ((with_reducible refine (clone_any A' n' c' _ wo (hD.below hT)).mono ?_); rintro e w5 ⟨A9, c9, rfl, ho9, hB9⟩); exact ret_p (own_isW ho9 hsz) hB9)))))); refine ObsK.nil ?_; intro wz hBz; simp only [finOn, List.drop_succ_cons, List.drop_zero, List.drop_nil]
  rintro v9 ⟨A9, n9, c9, rfl, O9⟩
  go_simp
  have Z3 := Z2.below hBz
  have zc3 := Z3.cell
  obtain ⟨wf, hwf, Sf⟩ := store4 Z3 (.int .u8 (bt p.dat 0)) (.int .u8 (bt p.dat 1)) (.int .u32 (get32 p.dat 4)) (.slice A9 n9 c9)
  have pf := Sf.blk.cell
  have Tf := Sf.bel (below_then T2 hBz) (by omega)
  have zl := Z2.lt
  have Of := Sf.own O9 (fun a e => by have := O9.ge a e; omega)
  go_wp2_with fail
  refine bodyPost_ret (v := .tuple #[.agg #[.int .u8 (bt p.dat 0), .int .u8 (bt p.dat 1), .int .u32 (get32 p.dat 4), .slice A9 n9 c9], .int .i64 0]) (by simp [results, Tryz.results17, go_sem, pf]) rfl ⟨A9, n9, c9, rfl, Of.mono s2, Tf⟩
theorem ricmp_ok (p : Pkt) (A1 : Option Addr) (n1 c1 : Nat) (A2 : Option Addr) (n2 c2 : Nat) (w : World) (k2 : Bs w A2 n2 c2 p.dat) (hn2 : n2 ≤ 17592186044416)
    (h1 : (p.proto != 1) = false) (h2 : 8 ≤ (n2 : Int)) (h3 : (csum p.dat == 0) = true) :
    Calls Tryz.prog 12 #[(.agg #[.int .u8 (p).tos, .int .u16 (p).id, .bool (p).keep, .int .u8 (p).ttl, .int .u8 (p).proto, .int .u32 (p).src, .int .u32 (p).dst, .slice A1 n1 c1, .slice A2 n2 c2])] w (MsPost w ⟨bt p.dat 0, bt p.dat 1, get32 p.dat 4, p.dat.drop 8⟩ 0) := by
  have hlL : p.dat.take n2 = p.dat := List.take_of_length_le (by rw [k2.len]; exact Nat.le_refl _)
  obtain ⟨i8, hi8, -, hs8, -⟩ := info_parts info_u8
  have b2 := k2.max
  have hcap := k2.cap
  obtain ⟨b, off, rfl⟩ := k2.some_ (by omega)
  have hcut : ∀ W, (Instr.slice 24 (.slice (some ⟨b, off, none⟩) n2 c2) (some (.int .i64 8)) none none).run Tryz.prog W = _ := fun W => cut_l Tryz.underlying24 hi8 hs8 (some ⟨b, off, none⟩) n2 c2 .i64 8 (by omega) (by omega) W
  obtain ⟨A', n', c', eA, en, ec, hbD⟩ := k2.cutE (lo := 8) (hi := n2) (by omega) (Nat.le_refl _)
  simp only [show (8 : Int).toNat = 8 from rfl, eA, en, ec] at hcut
  rw [hlL] at hbD
  have hn' : n' ≤ n2 := by omega
  clear eA en ec hlL
  obtain ⟨k, hk⟩ : ∃ k : Nat, w.heap.size = k := ⟨_, rfl⟩
  obtain ⟨w1, hw1⟩ : ∃ w1, (w.alloc (.cells #[.int .u8 (p).tos, .int .u16 (p).id, .bool (p).keep, .int .u8 (p).ttl, .int .u8 (p).proto, .int .u32 (p).src, .int .u32 (p).dst, .slice A1 n1 c1, .slice (some ⟨b, off, none⟩) n2 c2] 26)).alloc (.cells #[.int .u8 0, .int .u8 0, .int .u32 0, .slice none 0 0] 42) = w1 := ⟨_, rfl⟩
  have P1 : Blk w1 k #[.int .u8 (p).tos, .int .u16 (p).id, .bool (p).keep, .int .u8 (p).ttl, .int .u8 (p).proto, .int .u32 (p).src, .int .u32 (p).dst, .slice A1 n1 c1, .slice (some ⟨b, off, none⟩) n2 c2] 26 := by rw [← hw1]; exact (blk_new w _ _ k hk).alloc _
  have Z1 : Blk w1 (k + 1) #[.int .u8 0, .int .u8 0, .int .u32 0, .slice none 0 0] 42 := by rw [← hw1]; exact blk_new _ _ _ (k + 1) (by simp [hk])
  have R1 : Below w.heap.size w w1 := by first | exact bw1 hw1 | exact bw2 hw1 | exact bw3 hw1 | exact bw4 hw1
  have x2 := k2.below R1
  have pc := P1.cell
  have zc := Z1.cell
  go_enter Tryz.func12, Tryz.ntmps12
  go_wp2_with (go_at_call 39; ((with_reducible refine (rgood_any (some ⟨b, off, none⟩) n2 c2 p.dat hn2 _ x2).mono ?_); rintro e w2 ⟨he2, hB2⟩); (try rw [h3] at he2); subst he2; have Z2 := Z1.below hB2; have zc2 := Z2.cell)
  have x3 := x2.below hB2
  have T2 := below_then R1 hB2
  have hD := hbD.below T2
  have s2 := T2.size
  have q0 : 0 < n2 := by omega
  have q0' : (0 : Int) < n2 := by omega
  have q1 : (1 : Int) < n2 := by omega
  refine region_txt 10 (by kernel_rfl) (by kernel_rfl) ?_; (iterate 10 (first | (apply ObsK.skip (by rfl)) | (apply ObsK.v (by rfl); (intro wo hT; (repeat (first | (intro v hv; (skip)) | (intro _ _ k; try have hcv := cv k))); (have bo := x3.below hT; have c0 := bo.at_ (j := 0) (by omega); rw [Nat.add_zero] at c0; have c1 := bo.at_ (j := 1) (by omega); have hsz : w2.heap.size ≤ wo.heap.size := hT.size); refine Goes.mk ?_; go_simp; first | exact goes_v | exact goes_b (by assumption) | exact goes_new hsz | (refine goes_enter ?_; first | (go_at_call 40; ((with_reducible refine (rget32_any (some ⟨b, off, none⟩) n2 c2 p.dat 4 wo bo).mono ?_); rintro e w5 ⟨rfl, hD5⟩); exact ret_v hD5.bel)))) | (apply ObsK.b (by rfl); (intro wo hT; (repeat (first | (intro v hv; (skip)) | (intro _ _ k; try have hcv := cv k))); (have bo := x3.below hT; have c0 := bo.at_ (j := 0) (by omega); rw [Nat.add_zero] at c0; have c1 := bo.at_ (j := 1) (by omega); have hsz : w2.heap.size ≤ wo.heap.size := hT.size); refine Goes.mk ?_; go_simp; first | exact goes_v | exact goes_b (by assumption) | exact goes_new hsz | (refine goes_enter ?_; first | (go_at_call 40; ((with_reducible refine (rget32_any (some ⟨b, off, none⟩) n2 c2 p.dat 4 wo bo).mono ?_); rintro e w5 ⟨rfl, hD5⟩); exact ret_v hD5.bel)))) | (apply ObsK.p (q := isNew w2.heap.size _ _) (by rfl) st_isNew; (intro wo hT; (repeat (first | (intro v hv; (skip)) | (intro _ _ k; try have hcv := cv k))); (have bo := x3.below hT; have c0 := bo.at_ (j := 0) (by omega); rw [Nat.add_zero] at c0; have c1 := bo.at_ (j := 1) (by omega); have hsz : w2.heap.size ≤ wo.heap.size := hT.size); refine Goes.mk ?_; go_simp; first | exact goes_v | exact goes_b (by assumption) | exact goes_new hsz | (refine goes_enter ?_; first | (go_at_call 40; ((with_reducible refine (rget32_any (some ⟨b, off, none⟩) n2 c2 p.dat 4 wo bo).mono ?_); rintro e w5 ⟨rfl, hD5⟩); exact ret_v hD5.bel)))))); refine ObsK.nil ?_; intro wz hBz; simp only [finOn, List.drop_succ_cons, List.drop_zero, List.drop_nil]
  rintro vp ⟨g, rfl, gw, G⟩
  go_simp
  obtain ⟨w4, hw4, S4⟩ := store4 G (.int .u8 (bt p.dat 0)) (.int .u8 (bt p.dat 1)) (.int .u32 (get32 p.dat 4)) (.slice none 0 0)
  have zl2 := Z2.lt
  have k2l : w.heap.size ≤ w2.heap.size := s2
  have gc0 := G.cell
  have G4 := S4.blk
  have T4 := S4.bel (below_then T2 hBz) (by omega)
  have Z4 := S4.other (by omega) (Z2.below hBz)
  have D4 := hbD.below T4
  go_wp2_with fail
  clear hw4 S4 gc0 G hBz
  refine region_txt 4 (by kernel_rfl) (by kernel_rfl) ?_; (iterate 4 (first | (apply ObsK.skip (by rfl)) | (apply ObsK.v (by rfl); (intro wo hT; (repeat (first | (intro _ _ k; try have hcv := cv k))); (have gc := (G4.below hT).cell); refine Goes.mk ?_; go_simp; first | exact goes_v | exact goes_b (by assumption) | (refine goes_enter ?_; first | fail))) | (apply ObsK.b (by rfl); (intro wo hT; (repeat (first | (intro _ _ k; try have hcv := cv k))); (have gc := (G4.below hT).cell); refine Goes.mk ?_; go_simp; first | exact goes_v | exact goes_b (by assumption) | (refine goes_enter ?_; first | fail))))); refine ObsK.nil ?_; intro wz hBz; simp only [finOn, List.drop_succ_cons, List.drop_zero, List.drop_nil]
  go_simp
  have G5 := G4.below hBz
  have Z5 := Z4.below hBz
  have T5 := below_then T4 hBz
  have D5 := D4.below hBz
  have gl := G4.lt
  have gs := hBz.size
  go_wp2_with (first
    | (at_builtin; refine wpList_append_bs (w0 := wz) _ rfl _ _ _ rfl wz.heap.size 5 Tryz.underlying24 info_u8 none 0 0 [] rfl (own_nil _ _ _) A' n' c' _ rfl D5 (Below.refl _ _) (by omega) (by first | exact Nat.le_refl _ | exact Below.size (Below.refl _ _) | omega | (simp <;> omega)) ?_; intro A7 n7 c7 w7 ho7 hB7 _ hz7; have u7 : n7 = n' := (by have := ho7.len; have := D5.len; simp at *; omega); subst u7; replace ho7 : Own w7 wz.heap.size 5 A7 n7 c7 (p.dat.drop 8) := ho7; have G7 := G5.below hB7; have gc7 := G7.cell; (obtain ⟨w8, hw8, S8⟩ := store1 G7 3 (.slice A7 n7 c7)); simp only [List.setIfInBounds_toArray, List.set_cons_zero, List.set_cons_succ] at S8; have gc8 := S8.blk.cell; have Z8 := S8.other (by omega) (Z5.below hB7); have zc8 := Z8.cell; have T8 := S8.bel (below_then T5 hB7) (by omega); have O8 := S8.own ho7 (fun a e => by have := ho7.ge a e; omega)))
  obtain ⟨wf, hwf, Sf⟩ := store4 Z8 (.int .u8 (bt p.dat 0)) (.int .u8 (bt p.dat 1)) (.int .u32 (get32 p.dat 4)) (.slice A7 n7 c7)
  rw [hwf]
  have pf := Sf.blk.cell
  have Of := Sf.own O8 (fun a e => by have := ho7.ge a e; omega)
  have s5 := T5.size
  refine bodyPost_ret (v := .tuple #[.agg #[.int .u8 (bt p.dat 0), .int .u8 (bt p.dat 1), .int .u32 (get32 p.dat 4), .slice A7 n7 c7], .int .i64 0]) (by simp [results, Tryz.results12, go_sem, pf]) rfl ⟨A7, n7, c7, rfl, Of.mono s5, Sf.bel T8 (by omega)⟩
theorem icE_12 {p : Pkt} (h : p.proto ≠ 1) : icE p = 12 := by unfold icE; rw [if_pos h]
theorem icE_3 {p : Pkt} (h : p.proto = 1) (h2 : (p.dat.length : Int) < 8) : icE p = 3 := by unfold icE; rw [if_neg (by simp [h]), if_pos h2]
theorem icE_5 {p : Pkt} (h : p.proto = 1) (h2 : 8 ≤ (p.dat.length : Int)) (h3 : csum p.dat ≠ 0) : icE p = 5 := by unfold icE; rw [if_neg (by simp [h]), if_neg (by omega), if_pos h3]
theorem icE_0 {p : Pkt} (h : p.proto = 1) (h2 : 8 ≤ (p.dat.length : Int)) (h3 : csum p.dat = 0) : icE p = 0 := by unfold icE; rw [if_neg (by simp [h]), if_neg (by omega), if_neg (by simp [h3])]
theorem icmp_any (p : Pkt) (A1 : Option Addr) (n1 c1 : Nat) (A2 : Option Addr) (n2 c2 : Nat) (w : World) (k2 : Bs w A2 n2 c2 p.dat) :
    Calls Tryz.prog 17 #[(.agg #[.int .u8 (p).tos, .int .u16 (p).id, .bool (p).keep, .int .u8 (p).ttl, .int .u8 (p).proto, .int .u32 (p).src, .int .u32 (p).dst, .slice A1 n1 c1, .slice A2 n2 c2])] w (MsPost w (icM p) (icE p)) := by
  have l2 := k2.len
  unfold icM
  by_cases h1 : p.proto = 1
  · by_cases h2 : (n2 : Int) < 8
    · rw [icE_3 h1 (by omega), if_neg (by decide)]
      exact icmp_no p A1 n1 c1 A2 n2 c2 w k2 3 (.inr (.inl ⟨rfl, by simp [h1], h2⟩))
    · by_cases h3 : csum p.dat = 0
      · rw [icE_0 h1 (by omega) h3, if_pos rfl]
        exact icmp_ok p A1 n1 c1 A2 n2 c2 w k2 (by simp [h1]) (by omega) (by simp [h3])
      · rw [icE_5 h1 (by omega) h3, if_neg (by decide)]
        exact icmp_no p A1 n1 c1 A2 n2 c2 w k2 5 (.inr (.inr ⟨rfl, by simp [h1], by omega, by simpa using h3⟩))
  · rw [icE_12 h1, if_neg (by decide)]
    exact icmp_no p A1 n1 c1 A2 n2 c2 w k2 12 (.inl ⟨rfl, by simpa using h1⟩)
theorem ricmp_any (p : Pkt) (A1 : Option Addr) (n1 c1 : Nat) (A2 : Option Addr) (n2 c2 : Nat) (w : World) (k2 : Bs w A2 n2 c2 p.dat) (hn2 : n2 ≤ 17592186044416) :
    Calls Tryz.prog 12 #[(.agg #[.int .u8 (p).tos, .int .u16 (p).id, .bool (p).keep, .int .u8 (p).ttl, .int .u8 (p).proto, .int .u32 (p).src, .int .u32 (p).dst, .slice A1 n1 c1, .slice A2 n2 c2])] w (MsPost w (icM p) (icE p)) := by
  have l2 := k2.len
  unfold icM
  by_cases h1 : p.proto = 1
  · by_cases h2 : (n2 : Int) < 8
    · rw [icE_3 h1 (by omega), if_neg (by decide)]
      exact ricmp_no p A1 n1 c1 A2 n2 c2 w k2 hn2 3 (.inr (.inl ⟨rfl, by simp [h1], h2⟩))
    · by_cases h3 : csum p.dat = 0
      · rw [icE_0 h1 (by omega) h3, if_pos rfl]
        exact ricmp_ok p A1 n1 c1 A2 n2 c2 w k2 hn2 (by simp [h1]) (by omega) (by simp [h3])
      · rw [icE_5 h1 (by omega) h3, if_neg (by decide)]
        exact ricmp_no p A1 n1 c1 A2 n2 c2 w k2 hn2 5 (.inr (.inr ⟨rfl, by simp [h1], by omega, by simpa using h3⟩))
  · rw [icE_12 h1, if_neg (by decide)]
    exact ricmp_no p A1 n1 c1 A2 n2 c2 w k2 hn2 12 (.inl ⟨rfl, by simpa using h1⟩)
structure Frm where
  call : Int
  hs : Bool
  ha : Bool
  seq : Int
  ack : Int
  dat : List UInt8
structure Frm.Ok (f : Frm) : Prop where
  call : 0 ≤ f.call ∧ f.call ≤ 65535
  seq : 0 ≤ f.seq ∧ f.seq ≤ 4294967295
  ack : 0 ≤ f.ack ∧ f.ack ≤ 4294967295
def zF : Frm := ⟨0, false, false, 0, 0, []⟩
theorem zF_ok : zF.Ok := ⟨by decide, by decide, by decide⟩
def sameF (f g : Frm) : Bool := f.call == g.call && f.hs == g.hs && f.ha == g.ha && f.seq == g.seq && f.ack == g.ack && f.dat == g.dat
theorem sameF_self (f : Frm) : sameF f f = true := by simp [sameF]
theorem sameF_iff (f g : Frm) : sameF f g = true ↔ f = g := by
  unfold sameF
  cases f; cases g
  simp only [Bool.and_eq_true, beq_iff_eq, Frm.mk.injEq]
  constructor
  · rintro ⟨⟨⟨⟨⟨a, b⟩, c⟩, d⟩, e⟩, f⟩; exact ⟨a, b, c, d, e, f⟩
  · rintro ⟨a, b, c, d, e, f⟩; exact ⟨⟨⟨⟨⟨a, b⟩, c⟩, d⟩, e⟩, f⟩
theorem rgsame_any (f g : Frm) (A1 : Option Addr) (n1 c1 : Nat) (B1 : Option Addr) (m1 d1 : Nat) (w : World) (k1 : Bs w A1 n1 c1 f.dat) (j1 : Bs w B1 m1 d1 g.dat) :
    Calls Tryz.prog 47 #[(.agg #[.int .u16 (f).call, .bool (f).hs, .bool (f).ha, .int .u32 (f).seq, .int .u32 (f).ack, .slice A1 n1 c1]), (.agg #[.int .u16 (g).call, .bool (g).hs, .bool (g).ha, .int .u32 (g).seq, .int .u32 (g).ack, .slice B1 m1 d1])] w fun e w' => e = .returned (.bool (sameF f g)) ∧ Below w.heap.size w w' := by
  have x1 := fun o o' => cv ((k1.alloc o).alloc o')
  have y1 := fun o o' => cv ((j1.alloc o).alloc o')
  have s1 := str_beqS f.dat g.dat
  go_enter Tryz.func47, Tryz.ntmps47
  go_wp2_with fail
  all_goals go_ret
  all_goals refine ⟨?_, by (repeat (first | with_reducible exact Below.refl _ _ | with_reducible refine below_drew ?_ | with_reducible refine below_drewN ?_ _ | with_reducible refine below_alloc ?_ (Nat.le_refl _) _ | with_reducible refine Below.setCell ?_ (by first | exact Nat.le_refl _ | (simp only []; omega)) _ | with_reducible assumption))⟩
  all_goals simp_all [sameF]
def b0F (s : Bool) : Int := if s then 48 else 32
def b1F (a : Bool) : Int := if a then 129 else 1
def grB (s a : Bool) : List UInt8 := [ub (b0F s), ub (b1F a), ub 136, ub 11]
theorem begin_any (s a : Bool) (w : World) :
    Calls Tryz.prog 113 #[.bool s, .bool a] w fun e w' => e = .returned (.agg #[.int .u8 (b0F s), .int .u8 (b1F a), .int .u8 136, .int .u8 11]) ∧ Below w.heap.size w w' := by
  have h1 : bits .or .u8 32 16 = 48 := by decide
  have h2 : bits .or .u8 1 128 = 129 := by decide
  cases s <;> cases a
  all_goals go_enter Tryz.func113, Tryz.ntmps113
  all_goals go_wp2_with fail
  all_goals first
    | exact bodyPost_ret (v := .agg #[.int .u8 32, .int .u8 1, .int .u8 136, .int .u8 11]) (by simp [results, Tryz.results113, go_sem]) rfl ⟨rfl, by (repeat (first | with_reducible exact Below.refl _ _ | with_reducible refine below_drew ?_ | with_reducible refine below_drewN ?_ _ | with_reducible refine below_alloc ?_ (Nat.le_refl _) _ | with_reducible refine Below.setCell ?_ (by first | exact Nat.le_refl _ | (simp only []; omega)) _ | with_reducible assumption))⟩
    | exact bodyPost_ret (v := .agg #[.int .u8 48, .int .u8 1, .int .u8 136, .int .u8 11]) (by simp [results, Tryz.results113, go_sem]) rfl ⟨rfl, by (repeat (first | with_reducible exact Below.refl _ _ | with_reducible refine below_drew ?_ | with_reducible refine below_drewN ?_ _ | with_reducible refine below_alloc ?_ (Nat.le_refl _) _ | with_reducible refine Below.setCell ?_ (by first | exact Nat.le_refl _ | (simp only []; omega)) _ | with_reducible assumption))⟩
    | exact bodyPost_ret (v := .agg #[.int .u8 32, .int .u8 129, .int .u8 136, .int .u8 11]) (by simp [results, Tryz.results113, go_sem]) rfl ⟨rfl, by (repeat (first | with_reducible exact Below.refl _ _ | with_reducible refine below_drew ?_ | with_reducible refine below_drewN ?_ _ | with_reducible refine below_alloc ?_ (Nat.le_refl _) _ | with_reducible refine Below.setCell ?_ (by first | exact Nat.le_refl _ | (simp only []; omega)) _ | with_reducible assumption))⟩
    | exact bodyPost_ret (v := .agg #[.int .u8 48, .int .u8 129, .int .u8 136, .int .u8 11]) (by simp [results, Tryz.results113, go_sem]) rfl ⟨rfl, by (repeat (first | with_reducible exact Below.refl _ _ | with_reducible refine below_drew ?_ | with_reducible refine below_drewN ?_ _ | with_reducible refine below_alloc ?_ (Nat.le_refl _) _ | with_reducible refine Below.setCell ?_ (by first | exact Nat.le_refl _ | (simp only []; omega)) _ | with_reducible assumption))⟩
def mL (m : Msg) : List UInt8 := [ub m.ty, ub m.code, 0, 0] ++ four m.rest ++ m.dat
def mS (m : Msg) : List UInt8 := put16 (mL m) 2 (csum (mL m))
theorem mL_len (m : Msg) : (mL m).length = 8 + m.dat.length := by unfold mL four; simp; omega
theorem mS_len (m : Msg) : (mS m).length = 8 + m.dat.length := by unfold mS; rw [put16_length, mL_len]
theorem head8 (m : Msg) : put32 [ub m.ty, ub m.code, 0, 0, 0, 0, 0, 0] 4 m.rest = [ub m.ty, ub m.code, 0, 0] ++ four m.rest := by
  simp [put32, putK, four]
theorem lit8 {e : TypeId} {x y : Int} (x0 : 0 ≤ x) (x1 : x ≤ 255) (y0 : 0 ≤ y) (y1 : y ≤ 255) (W : World) : Own (W.alloc (.cells #[.int .u8 x, .int .u8 y, .int .u8 0, .int .u8 0, .int .u8 0, .int .u8 0, .int .u8 0, .int .u8 0] e)) W.heap.size e (some ⟨W.heap.size, 0, none⟩) 8 8 [ub x, ub y, 0, 0, 0, 0, 0, 0] := by
  have h : (cu [ub x, ub y, 0, 0, 0, 0, 0, 0]).toArray = #[.int .u8 x, .int .u8 y, .int .u8 0, .int .u8 0, .int .u8 0, .int .u8 0, .int .u8 0, .int .u8 0] := by
    simp [cu, ub_val]; omega
  rw [← h]; exact own_lit W _ e _ 8 rfl (by omega) (Nat.le_refl _)
theorem isCat2 {W0 : World} {g n1 c1 n2 c2 cc : Nat} {A1 A2 : Option Addr} {l1 l2 : List UInt8} {T : TypeId} (G : Blk W0 g #[.slice A1 n1 c1, .slice A2 n2 c2] T) (k1 : Bs W0 A1 n1 c1 l1) (k2 : Bs W0 A2 n2 c2 l2) (h : n1 + n2 ≤ 200000000000000) :
    isCat (.slice (some ⟨g, 0, none⟩) 2 cc) (l1 ++ l2) W0 := by
  intro W hB
  have G' := G.below hB
  have gc := G'.cell.1
  have := concat_any g 2 cc (fun j => if j = 0 then A1 else A2) (fun j => if j = 0 then n1 else n2) (fun j => if j = 0 then c1 else c2) (fun j => if j = 0 then l1 else l2) (by omega) W G'.lt (fun j hj => by
      rw [gc]
      have : j = 0 ∨ j = 1 := by omega
      rcases this with rfl | rfl <;> rfl) (fun j hj => by
      have : j = 0 ∨ j = 1 := by omega
      rcases this with rfl | rfl
      · exact k1.below hB
      · exact k2.below hB) (by simp [catN]; omega)
  exact this
theorem bicmp_ok (p : Pkt) (A1 : Option Addr) (n1 c1 : Nat) (A2 : Option Addr) (n2 c2 : Nat) (m : Msg) (hm : m.Ok) (B1 : Option Addr) (m1 d1 : Nat) (w : World) (k1 : Bs w A1 n1 c1 p.opt) (j1 : Bs w B1 m1 d1 m.dat)
    (hE : wiE p (8 + m1) = 0) (hm1 : m1 ≤ 140737488400000) :
    Calls Tryz.prog 23 #[(.agg #[.int .u8 (p).tos, .int .u16 (p).id, .bool (p).keep, .int .u8 (p).ttl, .int .u8 (p).proto, .int .u32 (p).src, .int .u32 (p).dst, .slice A1 n1 c1, .slice A2 n2 c2]), (.agg #[.int .u8 (m).ty, .int .u8 (m).code, .int .u32 (m).rest, .slice B1 m1 d1])] w (WiPost w { p with proto := 1, dat := mS m } 0) := by
  have b1 := j1.max
  have jl := j1.len
  obtain ⟨⟨t0, t1⟩, ⟨u0, u1⟩, ⟨r0, r1⟩⟩ := hm
  have L8 := fun W => lit8 (e := 5) t0 t1 u0 u1 W
  have H8 := Lib.hid (head8 m)
  have hcl : ([ub m.ty, ub m.code, 0, 0] ++ four m.rest ++ m.dat).length = 8 + m1 := by rw [show [ub m.ty, ub m.code, 0, 0] ++ four m.rest ++ m.dat = mL m from rfl, mL_len, jl]
  have HC := Lib.hid hcl
  have HS : Hid (put16 (mL m) 2 (csum (mL m)) = mS m) := rfl
  have hw2 : ∀ W lv, isCat lv (mL m) W → Bs W A1 n1 c1 p.opt → Calls Tryz.prog 61 #[(.agg #[.int .u8 (p).tos, .int .u16 (p).id, .bool (p).keep, .int .u8 (p).ttl, .int .u8 (p).proto, .int .u32 (p).src, .int .u32 (p).dst, .slice A1 n1 c1, .slice A2 n2 c2]), .int .u8 1, lv] W (WiPost W { p with proto := 1, dat := mL m } 0) := fun W lv hc kk => by
    have hh := with_any p A1 n1 c1 A2 n2 c2 1 lv (mL m) W kk hc (by rw [mL_len]; omega)
    unfold withP at hh
    rw [mL_len, jl, hE, if_pos rfl] at hh
    exact hh
  clear hcl jl hE
  obtain ⟨k, hk⟩ : ∃ k : Nat, w.heap.size = k := ⟨_, rfl⟩
  obtain ⟨w1, hw1⟩ : ∃ w1, ((w.alloc (.cells #[.int .u8 (p).tos, .int .u16 (p).id, .bool (p).keep, .int .u8 (p).ttl, .int .u8 (p).proto, .int .u32 (p).src, .int .u32 (p).dst, .slice A1 n1 c1, .slice A2 n2 c2] 26)).alloc (.cells #[.int .u8 (m).ty, .int .u8 (m).code, .int .u32 (m).rest, .slice B1 m1 d1] 42)).alloc (.cells #[.int .u8 0, .int .u16 0, .bool false, .int .u8 0, .int .u8 0, .int .u32 0, .int .u32 0, .slice none 0 0, .slice none 0 0] 26) = w1 := ⟨_, rfl⟩
  have P1 : Blk w1 k #[.int .u8 (p).tos, .int .u16 (p).id, .bool (p).keep, .int .u8 (p).ttl, .int .u8 (p).proto, .int .u32 (p).src, .int .u32 (p).dst, .slice A1 n1 c1, .slice A2 n2 c2] 26 := by rw [← hw1]; exact ((blk_new w _ _ k hk).alloc _).alloc _
  have M1 : Blk w1 (k + 1) #[.int .u8 (m).ty, .int .u8 (m).code, .int .u32 (m).rest, .slice B1 m1 d1] 42 := by rw [← hw1]; exact (blk_new _ _ _ (k + 1) (by simp [hk])).alloc _
  have Z1 : Blk w1 (k + 1 + 1) #[.int .u8 0, .int .u16 0, .bool false, .int .u8 0, .int .u8 0, .int .u32 0, .int .u32 0, .slice none 0 0, .slice none 0 0] 26 := by rw [← hw1]; exact blk_new _ _ _ (k + 1 + 1) (by simp [hk])
  have R1 : Below w.heap.size w w1 := by first | exact bw1 hw1 | exact bw2 hw1 | exact bw3 hw1 | exact bw4 hw1
  have x1 := k1.below R1
  have y1 := j1.below R1
  have pc := P1.cell
  have mc := M1.cell
  have kl1 := P1.lt
  have ml1 := M1.lt
  go_enter Tryz.func23, Tryz.ntmps23
  go_wp2_with (first
    | (go_at_call 19; ((with_reducible refine (put32_any _ 8 8 _ 4 m.rest r0 r1 _ (L8 w1).bs).mono ?_); rintro e w2 ⟨A6, c6, rfl, ho6, hB2⟩); rw [H8.out] at ho6; have T2 := below_then (below_alloc (Below.refl w1.heap.size w1) (Nat.le_refl _) _) hB2; have pc2 := (P1.below T2).cell; have mc2 := (M1.below T2).cell; have pl2 := (P1.below T2).lt; have ml2 := (M1.below T2).lt; have y2 := y1.below T2; have o6 := ho6.bs; (obtain ⟨w3, hw3⟩ : ∃ w3, w2.alloc (.cells #[.slice A6 8 c6, .slice B1 m1 d1] 24) = w3 := ⟨_, rfl⟩); have G3 : Blk w3 w2.heap.size #[.slice A6 8 c6, .slice B1 m1 d1] 24 := (by rw [← hw3]; exact blk_new w2 _ _ _ rfl); have V3 : Below w2.heap.size w2 w3 := (by first | exact bw1 hw3 | exact bw2 hw3 | exact bw3 hw3 | exact bw4 hw3); have T3 := below_then T2 V3; have hcat := isCat2 G3 (o6.below V3) (y2.below V3) (cc := 2) (by omega))
    | (go_at_call 61; ((with_reducible refine (hw2 w3 _ hcat (x1.below T3)).mono ?_); rintro e w4 ⟨⟨C1, e1, f1, C2, e2, f2, rfl, O1, O2, hB4⟩⟩); have T4 := below_then T3 hB4; have Z4 := Z1.below T4; (obtain ⟨w5, hw5⟩ : ∃ w5, w4.alloc (.cells #[.int .u8 p.tos, .int .u16 p.id, .bool p.keep, .int .u8 p.ttl, .int .u8 1, .int .u32 p.src, .int .u32 p.dst, .slice C1 e1 f1, .slice C2 e2 f2] 26) = w5 := ⟨_, rfl⟩); have Q5 : Blk w5 w4.heap.size #[.int .u8 p.tos, .int .u16 p.id, .bool p.keep, .int .u8 p.ttl, .int .u8 1, .int .u32 p.src, .int .u32 p.dst, .slice C1 e1 f1, .slice C2 e2 f2] 26 := (by rw [← hw5]; exact blk_new w4 _ _ _ rfl); have V5 : Below w4.heap.size w4 w5 := (by first | exact bw1 hw5 | exact bw2 hw5 | exact bw3 hw5 | exact bw4 hw5); have q5 := Q5.cell))
  have O1' := O1.below V5
  have O2' := O2.below V5
  have T5 := below_then T4 V5
  have Z5 := Z4.below V5
  have zl := Z4.lt
  have r1s := R1.size
  have t3s := T3.size
  have k2l := Z1.lt
  refine region_txt 7 (by kernel_rfl) (by kernel_rfl) ?_; (iterate 7 (first | (apply ObsK.skip (by rfl)) | (apply ObsK.v (by rfl); (intro wo hT; (repeat (first | (intro v hv; (skip)) | (intro _ _ k; try have hcv := cv k))); (have qc := (Q5.below hT).cell; have bo := O2'.bs.below hT; have hsz : w5.heap.size ≤ wo.heap.size := hT.size); refine Goes.mk ?_; go_simp; first | exact goes_v | exact goes_b (by assumption) | (refine goes_enter ?_; first | (go_at_call 21; ((with_reducible refine (sum_any C2 e2 f2 (mL m) wo bo).mono ?_); rintro e w9 ⟨rfl, hB9⟩); exact ret_v hB9) | (go_at_call 20; ((with_reducible refine (put16_any C2 e2 f2 (mL m) 2 _ (csum_lo _) (csum_hi _) wo bo).mono ?_); rintro e w9 ⟨A9, c9, rfl, ho9, hB9⟩); exact ret_p (own_isW ho9 hsz) hB9)))) | (apply ObsK.b (by rfl); (intro wo hT; (repeat (first | (intro v hv; (skip)) | (intro _ _ k; try have hcv := cv k))); (have qc := (Q5.below hT).cell; have bo := O2'.bs.below hT; have hsz : w5.heap.size ≤ wo.heap.size := hT.size); refine Goes.mk ?_; go_simp; first | exact goes_v | exact goes_b (by assumption) | (refine goes_enter ?_; first | (go_at_call 21; ((with_reducible refine (sum_any C2 e2 f2 (mL m) wo bo).mono ?_); rintro e w9 ⟨rfl, hB9⟩); exact ret_v hB9) | (go_at_call 20; ((with_reducible refine (put16_any C2 e2 f2 (mL m) 2 _ (csum_lo _) (csum_hi _) wo bo).mono ?_); rintro e w9 ⟨A9, c9, rfl, ho9, hB9⟩); exact ret_p (own_isW ho9 hsz) hB9)))) | (apply ObsK.p (q := isW w5.heap.size _) (by rfl) st_isW; (intro wo hT; (repeat (first | (intro v hv; (skip)) | (intro _ _ k; try have hcv := cv k))); (have qc := (Q5.below hT).cell; have bo := O2'.bs.below hT; have hsz : w5.heap.size ≤ wo.heap.size := hT.size); refine Goes.mk ?_; go_simp; first | exact goes_v | exact goes_b (by assumption) | (refine goes_enter ?_; first | (go_at_call 21; ((with_reducible refine (sum_any C2 e2 f2 (mL m) wo bo).mono ?_); rintro e w9 ⟨rfl, hB9⟩); exact ret_v hB9) | (go_at_call 20; ((with_reducible refine (put16_any C2 e2 f2 (mL m) 2 _ (csum_lo _) (csum_hi _) wo bo).mono ?_); rintro e w9 ⟨A9, c9, rfl, ho9, hB9⟩); exact ret_p (own_isW ho9 hsz) hB9)))))); refine ObsK.nil ?_; intro wz hBz; simp only [finOn, List.drop_succ_cons, List.drop_zero, List.drop_nil]
  rintro v9 ⟨A9, n9, c9, rfl, O9⟩
  go_simp
  have Q6 := Q5.below hBz
  have q6 := Q6.cell
  have q5l := Q5.lt
  have Z6 := Z5.below hBz
  obtain ⟨w7, hw7, S7⟩ := store1 Q6 8 (.slice A9 n9 c9)
  simp only [List.setIfInBounds_toArray, List.set_cons_zero, List.set_cons_succ] at S7
  have q7 := S7.blk.cell
  have Z7 := S7.other (by omega) Z6
  have z7 := Z7.cell
  have T7 := S7.bel (below_then R1 (below_then T5 hBz)) (by omega)
  have O7 := S7.own (O1'.below hBz) (fun a e => by
    have h1 := O1.ge a e
    have h2 : a.block < w4.heap.size := by
      rcases O1.row.2 with ⟨hv, _⟩ | ⟨g, cap, cur, hv, _, hg, _⟩
      · injection hv with hv; rw [hv] at e; cases e
      · injection hv with hv; rw [hv] at e; injection e with e; subst e; exact (Array.getElem?_eq_some_iff.1 hg).1
    omega)
  have D7 := S7.own O9 (fun a e => by have := O9.ge a e; omega)
  go_wp2_with fail
  obtain ⟨wf, hwf, Sf⟩ := store9 Z7 (.int .u8 p.tos) (.int .u16 p.id) (.bool p.keep) (.int .u8 p.ttl) (.int .u8 1) (.int .u32 p.src) (.int .u32 p.dst) (.slice C1 e1 f1) (.slice A9 n9 c9)
  rw [hwf]
  have pf := Sf.blk.cell
  have Of := Sf.own O7 (fun a e => by have := O1.ge a e; omega)
  have Df := Sf.own D7 (fun a e => by have := O9.ge a e; omega)
  refine bodyPost_ret (v := .tuple #[.agg #[.int .u8 p.tos, .int .u16 p.id, .bool p.keep, .int .u8 p.ttl, .int .u8 1, .int .u32 p.src, .int .u32 p.dst, .slice C1 e1 f1, .slice A9 n9 c9], .int .i64 0]) (by simp [results, Tryz.results23, go_sem, pf]) rfl ⟨⟨C1, e1, f1, A9, n9, c9, rfl, Of.mono (by omega), ?_, Sf.bel T7 (by omega)⟩⟩
  exact Df.mono (by omega)
theorem bicmp_no (p : Pkt) (A1 : Option Addr) (n1 c1 : Nat) (A2 : Option Addr) (n2 c2 : Nat) (m : Msg) (hm : m.Ok) (B1 : Option Addr) (m1 d1 : Nat) (w : World) (k1 : Bs w A1 n1 c1 p.opt) (j1 : Bs w B1 m1 d1 m.dat)
    (E : Int) (hE : wiE p (8 + m1) = E) (h0 : E ≠ 0) (hm1 : m1 ≤ 140737488400000) :
    Calls Tryz.prog 23 #[(.agg #[.int .u8 (p).tos, .int .u16 (p).id, .bool (p).keep, .int .u8 (p).ttl, .int .u8 (p).proto, .int .u32 (p).src, .int .u32 (p).dst, .slice A1 n1 c1, .slice A2 n2 c2]), (.agg #[.int .u8 (m).ty, .int .u8 (m).code, .int .u32 (m).rest, .slice B1 m1 d1])] w (WiPost w zP E) := by
  have b1 := j1.max
  have jl := j1.len
  obtain ⟨⟨t0, t1⟩, ⟨u0, u1⟩, ⟨r0, r1⟩⟩ := hm
  have L8 := fun W => lit8 (e := 5) t0 t1 u0 u1 W
  have H8 := Lib.hid (head8 m)
  have hw2 : ∀ W lv, isCat lv (mL m) W → Bs W A1 n1 c1 p.opt → Calls Tryz.prog 61 #[(.agg #[.int .u8 (p).tos, .int .u16 (p).id, .bool (p).keep, .int .u8 (p).ttl, .int .u8 (p).proto, .int .u32 (p).src, .int .u32 (p).dst, .slice A1 n1 c1, .slice A2 n2 c2]), .int .u8 1, lv] W (fun e w' => ∃ B1 m1 d1 B2 m2 d2, e = .returned (.tuple #[.agg #[.int .u8 0, .int .u16 0, .bool false, .int .u8 0, .int .u8 0, .int .u32 0, .int .u32 0, .slice B1 m1 d1, .slice B2 m2 d2], .int .i64 E]) ∧ Own w' W.heap.size 5 B1 m1 d1 [] ∧ Own w' W.heap.size 5 B2 m2 d2 [] ∧ Below W.heap.size W w') := fun W lv hc kk => by
    have hh := with_any p A1 n1 c1 A2 n2 c2 1 lv (mL m) W kk hc (by rw [mL_len]; omega)
    unfold withP at hh
    rw [mL_len, jl, hE, if_neg h0] at hh
    exact hh.mono fun e w' hq => hq.out
  have e0 : (E == 0) = false := by simpa using h0
  clear jl hE h0
  obtain ⟨k, hk⟩ : ∃ k : Nat, w.heap.size = k := ⟨_, rfl⟩
  obtain ⟨w1, hw1⟩ : ∃ w1, ((w.alloc (.cells #[.int .u8 (p).tos, .int .u16 (p).id, .bool (p).keep, .int .u8 (p).ttl, .int .u8 (p).proto, .int .u32 (p).src, .int .u32 (p).dst, .slice A1 n1 c1, .slice A2 n2 c2] 26)).alloc (.cells #[.int .u8 (m).ty, .int .u8 (m).code, .int .u32 (m).rest, .slice B1 m1 d1] 42)).alloc (.cells #[.int .u8 0, .int .u16 0, .bool false, .int .u8 0, .int .u8 0, .int .u32 0, .int .u32 0, .slice none 0 0, .slice none 0 0] 26) = w1 := ⟨_, rfl⟩
  have P1 : Blk w1 k #[.int .u8 (p).tos, .int .u16 (p).id, .bool (p).keep, .int .u8 (p).ttl, .int .u8 (p).proto, .int .u32 (p).src, .int .u32 (p).dst, .slice A1 n1 c1, .slice A2 n2 c2] 26 := by rw [← hw1]; exact ((blk_new w _ _ k hk).alloc _).alloc _
  have M1 : Blk w1 (k + 1) #[.int .u8 (m).ty, .int .u8 (m).code, .int .u32 (m).rest, .slice B1 m1 d1] 42 := by rw [← hw1]; exact (blk_new _ _ _ (k + 1) (by simp [hk])).alloc _
  have Z1 : Blk w1 (k + 1 + 1) #[.int .u8 0, .int .u16 0, .bool false, .int .u8 0, .int .u8 0, .int .u32 0, .int .u32 0, .slice none 0 0, .slice none 0 0] 26 := by rw [← hw1]; exact blk_new _ _ _ (k + 1 + 1) (by simp [hk])
  have R1 : Below w.heap.size w w1 := by first | exact bw1 hw1 | exact bw2 hw1 | exact bw3 hw1 | exact bw4 hw1
  have x1 := k1.below R1
  have y1 := j1.below R1
  have pc := P1.cell
  have mc := M1.cell
  have kl1 := P1.lt
  have ml1 := M1.lt
  go_enter Tryz.func23, Tryz.ntmps23
  go_wp2_with (first
    | (go_at_call 19; ((with_reducible refine (put32_any _ 8 8 _ 4 m.rest r0 r1 _ (L8 w1).bs).mono ?_); rintro e w2 ⟨A6, c6, rfl, ho6, hB2⟩); rw [H8.out] at ho6; have T2 := below_then (below_alloc (Below.refl w1.heap.size w1) (Nat.le_refl _) _) hB2; have pc2 := (P1.below T2).cell; have mc2 := (M1.below T2).cell; have pl2 := (P1.below T2).lt; have ml2 := (M1.below T2).lt; have y2 := y1.below T2; have o6 := ho6.bs; (obtain ⟨w3, hw3⟩ : ∃ w3, w2.alloc (.cells #[.slice A6 8 c6, .slice B1 m1 d1] 24) = w3 := ⟨_, rfl⟩); have G3 : Blk w3 w2.heap.size #[.slice A6 8 c6, .slice B1 m1 d1] 24 := (by rw [← hw3]; exact blk_new w2 _ _ _ rfl); have V3 : Below w2.heap.size w2 w3 := (by first | exact bw1 hw3 | exact bw2 hw3 | exact bw3 hw3 | exact bw4 hw3); have T3 := below_then T2 V3; have hcat := isCat2 G3 (o6.below V3) (y2.below V3) (cc := 2) (by omega))
    | (go_at_call 61; ((with_reducible refine (hw2 w3 _ hcat (x1.below T3)).mono ?_); rintro e w4 ⟨C1, e1, f1, C2, e2, f2, rfl, O1, O2, hB4⟩); have T4 := below_then T3 hB4; have Z4 := Z1.below T4; (obtain ⟨w5, hw5⟩ : ∃ w5, w4.alloc (.cells #[.int .u8 0, .int .u16 0, .bool false, .int .u8 0, .int .u8 0, .int .u32 0, .int .u32 0, .slice C1 e1 f1, .slice C2 e2 f2] 26) = w5 := ⟨_, rfl⟩); have Q5 : Blk w5 w4.heap.size #[.int .u8 0, .int .u16 0, .bool false, .int .u8 0, .int .u8 0, .int .u32 0, .int .u32 0, .slice C1 e1 f1, .slice C2 e2 f2] 26 := (by rw [← hw5]; exact blk_new w4 _ _ _ rfl); have V5 : Below w4.heap.size w4 w5 := (by first | exact bw1 hw5 | exact bw2 hw5 | exact bw3 hw5 | exact bw4 hw5); have q5 := Q5.cell; have Z5 := Z4.below V5; have z5 := Z5.cell))
  obtain ⟨wf, hwf, Sf⟩ := store9 Z5 (.int .u8 0) (.int .u16 0) (.bool false) (.int .u8 0) (.int .u8 0) (.int .u32 0) (.int .u32 0) (.slice C1 e1 f1) (.slice C2 e2 f2)
  rw [hwf]
  have pf := Sf.blk.cell
  have k2l := Z1.lt
  have t3s := T3.size
  have r1s := R1.size
  have Of := Sf.own (O1.below V5) (fun a e => by have := O1.ge a e; omega)
  have Df := Sf.own (O2.below V5) (fun a e => by have := O2.ge a e; omega)
  refine bodyPost_ret (v := .tuple #[.agg #[.int .u8 0, .int .u16 0, .bool false, .int .u8 0, .int .u8 0, .int .u32 0, .int .u32 0, .slice C1 e1 f1, .slice C2 e2 f2], .int .i64 E]) (by simp [results, Tryz.results23, go_sem, pf]) rfl ⟨⟨C1, e1, f1, C2, e2, f2, rfl, Of.mono (by omega), Df.mono (by omega), Sf.bel (below_then R1 (below_then T4 V5)) (by omega)⟩⟩
theorem bicmp_any (p : Pkt) (A1 : Option Addr) (n1 c1 : Nat) (A2 : Option Addr) (n2 c2 : Nat) (m : Msg) (hm : m.Ok) (B1 : Option Addr) (m1 d1 : Nat) (w : World) (k1 : Bs w A1 n1 c1 p.opt) (j1 : Bs w B1 m1 d1 m.dat) (hm1 : m1 ≤ 140737488400000) :
    Calls Tryz.prog 23 #[(.agg #[.int .u8 (p).tos, .int .u16 (p).id, .bool (p).keep, .int .u8 (p).ttl, .int .u8 (p).proto, .int .u32 (p).src, .int .u32 (p).dst, .slice A1 n1 c1, .slice A2 n2 c2]), (.agg #[.int .u8 (m).ty, .int .u8 (m).code, .int .u32 (m).rest, .slice B1 m1 d1])] w (WiPost w (withP p 1 (mS m)) (wiE p (8 + m.dat.length))) := by
  unfold withP
  rw [mS_len, j1.len]
  by_cases h : wiE p (8 + m1) = 0
  · rw [h, if_pos rfl]
    exact bicmp_ok p A1 n1 c1 A2 n2 c2 m hm B1 m1 d1 w k1 j1 h hm1
  · rw [if_neg h]
    exact bicmp_no p A1 n1 c1 A2 n2 c2 m hm B1 m1 d1 w k1 j1 _ rfl h hm1
def gH (f : Frm) : List UInt8 := grB f.hs f.ha ++ two ((f.dat.length : Int) % 65536) ++ two f.call ++ (if f.hs then four f.seq else []) ++ (if f.ha then four f.ack else [])
def gL (f : Frm) : List UInt8 := gH f ++ f.dat
def gN (f : Frm) : Nat := 8 + (if f.hs then 4 else 0) + (if f.ha then 4 else 0) + f.dat.length
theorem gL_len (f : Frm) : (gL f).length = gN f := by
  unfold gL gH gN grB two four
  cases f.hs <;> cases f.ha <;> simp <;> omega
def gBad (f : Frm) : Bool := (!f.hs && f.seq != 0) || (!f.ha && f.ack != 0)
def bgE (p : Pkt) (f : Frm) : Int := if gBad f then 4 else wiE p (gN f)
def bgP (p : Pkt) (f : Frm) : Pkt := if gBad f then zP else withP p 47 (gL f)
theorem app_first (w : World) (g : Nat) (a b : Int) (a0 : 0 ≤ a) (a1 : a ≤ 255) (b0 : 0 ≤ b) (b1 : b ≤ 255) (G : Blk w g #[.int .u8 a, .int .u8 b, .int .u8 136, .int .u8 11] 155) :
    ∃ A c w', (Builtin.append_ #[24, 3] 24 #[.slice (some ⟨g, 0, none⟩) 4 4, .int .i64 4]).run Tryz.prog w = .ok (.slice A 8 c) w' ∧ Own w' w.heap.size 5 A 8 c ([ub a, ub b, ub 136, ub 11] ++ [0, 0, 0, 0]) ∧ Below w.heap.size w w' := by
  obtain ⟨i8, hi8, hz8, hs8, hb8⟩ := info_parts info_u8
  have gc := G.cell.1
  have hold : (Builtin.firstCells i8.size 4 (.slice (some ⟨g, 0, none⟩) 4 4)).run Tryz.prog w.drew = .ok [Value.int .u8 a, .int .u8 b, .int .u8 136, .int .u8 11].toArray w.drew := by
    refine run_firstCells_some (P := Tryz.prog) w.drew i8.size 4 ⟨g, 0, none⟩ 4 4 [.int .u8 a, .int .u8 b, .int .u8 136, .int .u8 11] (by rw [hs8]; rfl) fun j u hj => ?_
    have hc : w.drew.cell? ((⟨g, 0, none⟩ : Addr).add j) = w.cell? ⟨g, j, none⟩ := by
      have : (⟨g, 0, none⟩ : Addr).add j = ⟨g, j, none⟩ := by unfold Addr.add; split <;> simp_all
      rw [this]; rfl
    rw [hc, gc]
    simpa using hj
  have hr := Lib.run_append_grow_zeros (P := Tryz.prog) w 24 3 24 5 i8 (.int .u8 0) .i64 .i64 Tryz.underlying24 Tryz.underlying3 hi8 hz8 (some ⟨g, 0, none⟩) 4 4 _ hold 4 (by omega) (by omega) (by omega) (by omega) (by omega) (growslice_fits_wide (by omega) (by rw [hb8]; omega))
  have hge : 8 ≤ grownCap w 8 4 5 := grownCap_ge w 8 4 5
  have hcu : ([Value.int .u8 a, .int .u8 b, .int .u8 136, .int .u8 11] ++ [.int .u8 0, .int .u8 0, .int .u8 0, .int .u8 0]) = cu ([ub a, ub b, ub 136, ub 11] ++ [0, 0, 0, 0]) := by
    simp [cu, ub_val]; omega
  refine ⟨_, _, _, hr, ⟨rfl, by omega, ⟨by rw [cu_length]; rfl, .inr ⟨w.heap.size, _, _, rfl, Nat.le_refl _, heap_alloc_new w.drew _, hge, grownCap_le_maxLen w (4 + 4) 4 5 (by simp only [maxLen]; omega), ?_, ?_⟩⟩⟩, (Below.drew (Below.refl _ w)).alloc (Nat.le_refl _) _⟩
  · simp [Array.size_append, size_zeroCells, Value.cells]; omega
  · rw [← hcu]
    have hz4 : Builtin.zeroCells (Value.int .u8 0).cells 4 = #[.int .u8 0, .int .u8 0, .int .u8 0, .int .u8 0] := by
      apply Array.ext'
      simp [Builtin.zeroCells, Value.cells, Nat.mod_one, Array.toList_range, List.range_succ]
    simp only [hz4, Array.toList_append, List.append_assoc]
    rfl
theorem b0F_bd (s : Bool) : 0 ≤ b0F s ∧ b0F s ≤ 255 := by cases s <;> decide
theorem b1F_bd (s : Bool) : 0 ≤ b1F s ∧ b1F s ≤ 255 := by cases s <;> decide
theorem bg_bad' (p : Pkt) (A1 : Option Addr) (n1 c1 : Nat) (A2 : Option Addr) (n2 c2 : Nat) (call : Int) (hs ha : Bool) (seq ack : Int) (dat : List UInt8) (B1 : Option Addr) (m1 d1 : Nat) (w : World) (k1 : Bs w A1 n1 c1 p.opt) (j1 : Bs w B1 m1 d1 dat)
    (h : (hs = false ∧ (seq != 0) = true) ∨ ((hs = true ∨ (seq != 0) = false) ∧ ha = false ∧ (ack != 0) = true)) :
    Calls Tryz.prog 100 #[(.agg #[.int .u8 (p).tos, .int .u16 (p).id, .bool (p).keep, .int .u8 (p).ttl, .int .u8 (p).proto, .int .u32 (p).src, .int .u32 (p).dst, .slice A1 n1 c1, .slice A2 n2 c2]), .agg #[.int .u16 call, .bool hs, .bool ha, .int .u32 seq, .int .u32 ack, .slice B1 m1 d1]] w (WiPost w zP 4) := by
  obtain ⟨k, hk⟩ : ∃ k : Nat, w.heap.size = k := ⟨_, rfl⟩
  obtain ⟨w1, hw1⟩ : ∃ w1, ((w.alloc (.cells #[.int .u8 (p).tos, .int .u16 (p).id, .bool (p).keep, .int .u8 (p).ttl, .int .u8 (p).proto, .int .u32 (p).src, .int .u32 (p).dst, .slice A1 n1 c1, .slice A2 n2 c2] 26)).alloc (.cells #[.int .u16 call, .bool hs, .bool ha, .int .u32 seq, .int .u32 ack, .slice B1 m1 d1] 68)).alloc (.cells #[.int .u8 0, .int .u16 0, .bool false, .int .u8 0, .int .u8 0, .int .u32 0, .int .u32 0, .slice none 0 0, .slice none 0 0] 26) = w1 := ⟨_, rfl⟩
  have P1 : Blk w1 k #[.int .u8 (p).tos, .int .u16 (p).id, .bool (p).keep, .int .u8 (p).ttl, .int .u8 (p).proto, .int .u32 (p).src, .int .u32 (p).dst, .slice A1 n1 c1, .slice A2 n2 c2] 26 := by rw [← hw1]; exact ((blk_new w _ _ k hk).alloc _).alloc _
  have F1 : Blk w1 (k + 1) #[.int .u16 call, .bool hs, .bool ha, .int .u32 seq, .int .u32 ack, .slice B1 m1 d1] 68 := by rw [← hw1]; exact (blk_new _ _ _ (k + 1) (by simp [hk])).alloc _
  have Z1 : Blk w1 (k + 1 + 1) #[.int .u8 0, .int .u16 0, .bool false, .int .u8 0, .int .u8 0, .int .u32 0, .int .u32 0, .slice none 0 0, .slice none 0 0] 26 := by rw [← hw1]; exact blk_new _ _ _ (k + 1 + 1) (by simp [hk])
  have R1 : Below w.heap.size w w1 := by first | exact bw1 hw1 | exact bw2 hw1 | exact bw3 hw1 | exact bw4 hw1
  have x1 := k1.below R1
  have y1 := j1.below R1
  have pc := P1.cell
  have mc := F1.cell
  have zc := Z1.cell
  have kl1 := P1.lt
  have ml1 := F1.lt
  obtain ⟨wf, hwf, Sf⟩ := store9 Z1 (.int .u8 0) (.int .u16 0) (.bool false) (.int .u8 0) (.int .u8 0) (.int .u32 0) (.int .u32 0) (.slice none 0 0) (.slice none 0 0)
  have pf := Sf.blk.cell
  have Tf := Sf.bel R1 (by omega)
  have h0 : hs = false ∨ hs = true := by cases hs <;> simp
  rcases h with ⟨h1, h2⟩ | ⟨h1 | h1, h2, h3⟩
  · subst h1
    go_enter Tryz.func100, Tryz.ntmps100
    go_wp2_with fail
    exact bodyPost_ret (by simp [results, Tryz.results100, go_sem, pf]) rfl (wiPost_no Tf)
  · subst h1 h2
    go_enter Tryz.func100, Tryz.ntmps100
    go_wp2_with fail
    exact bodyPost_ret (by simp [results, Tryz.results100, go_sem, pf]) rfl (wiPost_no Tf)
  · subst h2
    rcases h0 with h0 | h0
    all_goals subst h0
    all_goals go_enter Tryz.func100, Tryz.ntmps100
    all_goals go_wp2_with fail
    all_goals exact bodyPost_ret (by simp [results, Tryz.results100, go_sem, pf]) rfl (wiPost_no Tf)
theorem gBad_iff {f : Frm} (h : gBad f = true) : (f.hs = false ∧ (f.seq != 0) = true) ∨ ((f.hs = true ∨ (f.seq != 0) = false) ∧ f.ha = false ∧ (f.ack != 0) = true) := by
  unfold gBad at h
  revert h
  cases f.hs <;> cases f.ha <;> cases (f.seq != 0) <;> cases (f.ack != 0) <;> simp
theorem bg_bad (p : Pkt) (A1 : Option Addr) (n1 c1 : Nat) (A2 : Option Addr) (n2 c2 : Nat) (f : Frm) (B1 : Option Addr) (m1 d1 : Nat) (w : World) (k1 : Bs w A1 n1 c1 p.opt) (j1 : Bs w B1 m1 d1 f.dat) (h : gBad f = true) :
    Calls Tryz.prog 100 #[(.agg #[.int .u8 (p).tos, .int .u16 (p).id, .bool (p).keep, .int .u8 (p).ttl, .int .u8 (p).proto, .int .u32 (p).src, .int .u32 (p).dst, .slice A1 n1 c1, .slice A2 n2 c2]), (.agg #[.int .u16 (f).call, .bool (f).hs, .bool (f).ha, .int .u32 (f).seq, .int .u32 (f).ack, .slice B1 m1 d1])] w (WiPost w zP 4) :=
  bg_bad' p A1 n1 c1 A2 n2 c2 f.call f.hs f.ha f.seq f.ack f.dat B1 m1 d1 w k1 j1 (gBad_iff h)
theorem bg_ok00 (p : Pkt) (A1 : Option Addr) (n1 c1 : Nat) (A2 : Option Addr) (n2 c2 : Nat) (call : Int) (hca : 0 ≤ call ∧ call ≤ 65535) (seq ack : Int) (hse : 0 ≤ seq ∧ seq ≤ 4294967295) (hak : 0 ≤ ack ∧ ack ≤ 4294967295) (hsq : (seq != 0) = false) (hac : (ack != 0) = false) (dat : List UInt8) (B1 : Option Addr) (m1 d1 : Nat) (w : World) (k1 : Bs w A1 n1 c1 p.opt) (j1 : Bs w B1 m1 d1 dat)
    (Q : Pkt) (E : Int) (hw2 : ∀ W lv, isCat lv ((grB false false ++ two ((m1 : Int) % 65536) ++ two call) ++ dat) W → Bs W A1 n1 c1 p.opt → Calls Tryz.prog 61 #[(.agg #[.int .u8 (p).tos, .int .u16 (p).id, .bool (p).keep, .int .u8 (p).ttl, .int .u8 (p).proto, .int .u32 (p).src, .int .u32 (p).dst, .slice A1 n1 c1, .slice A2 n2 c2]), .int .u8 47, lv] W (WiPost W Q E)) (hm1 : m1 ≤ 140737488400000) :
    Calls Tryz.prog 100 #[(.agg #[.int .u8 (p).tos, .int .u16 (p).id, .bool (p).keep, .int .u8 (p).ttl, .int .u8 (p).proto, .int .u32 (p).src, .int .u32 (p).dst, .slice A1 n1 c1, .slice A2 n2 c2]), .agg #[.int .u16 call, .bool false, .bool false, .int .u32 seq, .int .u32 ack, .slice B1 m1 d1]] w (WiPost w Q E) := by
  have b1 := j1.max
  obtain ⟨ca0, ca1⟩ := hca
  obtain ⟨se0, se1⟩ := hse
  obtain ⟨ak0, ak1⟩ := hak
  obtain ⟨z, hz⟩ : ∃ z : Int, (m1 : Int) % 65536 = z := ⟨_, rfl⟩
  have z0 : 0 ≤ z := by omega
  have z1 : z ≤ 65535 := by omega
  have hzw : IntKind.u16.wrap (m1 : Int) = z := by rw [← hz]; simp [IntKind.wrap, IntKind.signed, IntKind.bits]
  rw [hz] at hw2
  have H1 : Hid (put16 ([ub (b0F false), ub (b1F false), ub 136, ub 11] ++ [0, 0, 0, 0]) 4 z = grB false false ++ two z ++ [0, 0]) := by unfold Hid; simp [put16, putK, two, grB]
  have H2 : Hid (put16 (grB false false ++ two z ++ [0, 0]) 6 call = grB false false ++ two z ++ two call) := by unfold Hid; simp [put16, putK, two, grB]
  have hl4 : (cu [0, 0, 0, 0]).toArray = #[.int .u8 0, .int .u8 0, .int .u8 0, .int .u8 0] := rfl
  obtain ⟨k, hk⟩ : ∃ k : Nat, w.heap.size = k := ⟨_, rfl⟩
  obtain ⟨w1, hw1⟩ : ∃ w1, ((w.alloc (.cells #[.int .u8 (p).tos, .int .u16 (p).id, .bool (p).keep, .int .u8 (p).ttl, .int .u8 (p).proto, .int .u32 (p).src, .int .u32 (p).dst, .slice A1 n1 c1, .slice A2 n2 c2] 26)).alloc (.cells #[.int .u16 call, .bool false, .bool false, .int .u32 seq, .int .u32 ack, .slice B1 m1 d1] 68)).alloc (.cells #[.int .u8 0, .int .u16 0, .bool false, .int .u8 0, .int .u8 0, .int .u32 0, .int .u32 0, .slice none 0 0, .slice none 0 0] 26) = w1 := ⟨_, rfl⟩
  have P1 : Blk w1 k #[.int .u8 (p).tos, .int .u16 (p).id, .bool (p).keep, .int .u8 (p).ttl, .int .u8 (p).proto, .int .u32 (p).src, .int .u32 (p).dst, .slice A1 n1 c1, .slice A2 n2 c2] 26 := by rw [← hw1]; exact ((blk_new w _ _ k hk).alloc _).alloc _
  have F1 : Blk w1 (k + 1) #[.int .u16 call, .bool false, .bool false, .int .u32 seq, .int .u32 ack, .slice B1 m1 d1] 68 := by rw [← hw1]; exact (blk_new _ _ _ (k + 1) (by simp [hk])).alloc _
  have Z1 : Blk w1 (k + 1 + 1) #[.int .u8 0, .int .u16 0, .bool false, .int .u8 0, .int .u8 0, .int .u32 0, .int .u32 0, .slice none 0 0, .slice none 0 0] 26 := by rw [← hw1]; exact blk_new _ _ _ (k + 1 + 1) (by simp [hk])
  have R1 : Below w.heap.size w w1 := by first | exact bw1 hw1 | exact bw2 hw1 | exact bw3 hw1 | exact bw4 hw1
  have x1 := k1.below R1
  have y1 := j1.below R1
  have mc := F1.cell
  have zl1 := Z1.lt
  go_enter Tryz.func100, Tryz.ntmps100
  go_wp2_with (first
    | (go_at_call 113; ((with_reducible refine (begin_any false false _).mono ?_); rintro e w2 ⟨rfl, hB2⟩); (obtain ⟨w3, hw3⟩ : ∃ w3, w2.alloc (.cells #[.int .u8 (b0F false), .int .u8 (b1F false), .int .u8 136, .int .u8 11] 155) = w3 := ⟨_, rfl⟩); have G3 : Blk w3 w2.heap.size #[.int .u8 (b0F false), .int .u8 (b1F false), .int .u8 136, .int .u8 11] 155 := (by rw [← hw3]; exact blk_new w2 _ _ _ rfl); have V3 : Below w2.heap.size w2 w3 := (by first | exact bw1 hw3 | exact bw2 hw3 | exact bw3 hw3 | exact bw4 hw3); (obtain ⟨A4, c4, w4, hrun, O4, hB4⟩ := app_first w3 w2.heap.size (b0F false) (b1F false) (b0F_bd _).1 (b0F_bd _).2 (b1F_bd _).1 (b1F_bd _).2 G3))
    | (at_builtin; refine Lib.wpList_append_run _ rfl _ _ _ _ rfl _ _ rfl rfl _ _ hrun ?_))
  have T3 := below_then hB2 V3
  have T4 := below_then T3 hB4
  have F4 := F1.below T4
  have o4 := O4.bs
  have s3 := T3.size
  have s4 := hB4.size
  have hc4 : 8 ≤ c4 := o4.cap
  refine region_txt 9 (by kernel_rfl) (by kernel_rfl) ?_; (iterate 9 (first | (apply ObsK.skip (by rfl)) | (apply ObsK.v (by rfl); (intro wo hT; (repeat (first | (intro v hv; ((obtain ⟨A5, n5, c5, rfl, o5⟩ := hv; have u5 : n5 = 8 := (by rw [← o5.len]; rfl); subst u5; have ob5 := o5.bs))) | (intro _ _ k; try have hcv := cv k))); (have mc := (F4.below hT).cell; have bo := o4.below hT; have hsz : w4.heap.size ≤ wo.heap.size := hT.size); refine Goes.mk ?_; go_simp; first | exact goes_v | exact goes_b (by assumption) | (refine goes_enter ?_; first | (go_at_call 20; ((with_reducible refine (put16_any A4 8 c4 _ 4 z z0 z1 wo bo).mono ?_); rintro e w9 ⟨A9, c9, rfl, ho9, hB9⟩); rw [H1.out] at ho9; exact ret_p (own_isW ho9 hsz) hB9) | (go_at_call 20; ((with_reducible refine (put16_any A5 8 c5 _ 6 call ca0 ca1 wo ob5).mono ?_); rintro e w9 ⟨A9, c9, rfl, ho9, hB9⟩); rw [H2.out] at ho9; exact ret_p (own_isW ho9 hsz) hB9)))) | (apply ObsK.b (by rfl); (intro wo hT; (repeat (first | (intro v hv; ((obtain ⟨A5, n5, c5, rfl, o5⟩ := hv; have u5 : n5 = 8 := (by rw [← o5.len]; rfl); subst u5; have ob5 := o5.bs))) | (intro _ _ k; try have hcv := cv k))); (have mc := (F4.below hT).cell; have bo := o4.below hT; have hsz : w4.heap.size ≤ wo.heap.size := hT.size); refine Goes.mk ?_; go_simp; first | exact goes_v | exact goes_b (by assumption) | (refine goes_enter ?_; first | (go_at_call 20; ((with_reducible refine (put16_any A4 8 c4 _ 4 z z0 z1 wo bo).mono ?_); rintro e w9 ⟨A9, c9, rfl, ho9, hB9⟩); rw [H1.out] at ho9; exact ret_p (own_isW ho9 hsz) hB9) | (go_at_call 20; ((with_reducible refine (put16_any A5 8 c5 _ 6 call ca0 ca1 wo ob5).mono ?_); rintro e w9 ⟨A9, c9, rfl, ho9, hB9⟩); rw [H2.out] at ho9; exact ret_p (own_isW ho9 hsz) hB9)))) | (apply ObsK.p (q := isW w4.heap.size _) (by rfl) st_isW; (intro wo hT; (repeat (first | (intro v hv; ((obtain ⟨A5, n5, c5, rfl, o5⟩ := hv; have u5 : n5 = 8 := (by rw [← o5.len]; rfl); subst u5; have ob5 := o5.bs))) | (intro _ _ k; try have hcv := cv k))); (have mc := (F4.below hT).cell; have bo := o4.below hT; have hsz : w4.heap.size ≤ wo.heap.size := hT.size); refine Goes.mk ?_; go_simp; first | exact goes_v | exact goes_b (by assumption) | (refine goes_enter ?_; first | (go_at_call 20; ((with_reducible refine (put16_any A4 8 c4 _ 4 z z0 z1 wo bo).mono ?_); rintro e w9 ⟨A9, c9, rfl, ho9, hB9⟩); rw [H1.out] at ho9; exact ret_p (own_isW ho9 hsz) hB9) | (go_at_call 20; ((with_reducible refine (put16_any A5 8 c5 _ 6 call ca0 ca1 wo ob5).mono ?_); rintro e w9 ⟨A9, c9, rfl, ho9, hB9⟩); rw [H2.out] at ho9; exact ret_p (own_isW ho9 hsz) hB9)))))); refine ObsK.nil ?_; intro wz hBz; simp only [finOn, List.drop_succ_cons, List.drop_zero, List.drop_nil]
  rintro v6 ⟨A6, n6, c6, rfl, O6⟩ v7 hv7
  clear hv7
  have u6 : n6 = 8 := by rw [← O6.len]; rfl
  subst u6
  go_simp
  have T6 := below_then T4 hBz
  have P6 := P1.below T6
  have F6 := F1.below T6
  have Z6 := Z1.below T6
  have x6 := x1.below T6
  have y6 := y1.below T6
  have mc6 := F6.cell
  have sz6 := hBz.size
  generalize wz = w6 at *
  clear hBz o4 O4 hrun hB4 G3 hw3 V3 T3 F4 hw1 mc T4
  obtain ⟨w9, hw9⟩ : ∃ w9, w6.alloc (.cells #[.slice A6 8 c6, .slice B1 m1 d1] 24) = w9 := ⟨_, rfl⟩
  have G9 : Blk w9 w6.heap.size #[.slice A6 8 c6, .slice B1 m1 d1] 24 := by rw [← hw9]; exact blk_new w6 _ _ _ rfl
  have V9 : Below w6.heap.size w6 w9 := by first | exact bw1 hw9 | exact bw2 hw9 | exact bw3 hw9 | exact bw4 hw9
  have o6 := O6.bs
  have hcat := isCat2 G9 (o6.below V9) (y6.below V9) (cc := 2) (by omega)
  have T9 := below_then T6 V9
  have pc6 := P6.cell
  have s9 := (below_then R1 T9).size
  have kz : k + 1 + 1 < w9.heap.size := (Z6.below V9).lt
  go_wp2_with (go_at_call 61; ((with_reducible refine (hw2 w9 _ hcat (x6.below V9)).mono ?_); rintro e w10 ⟨⟨C1, e1, f1, C2, e2, f2, rfl, O1, O2, hB10⟩⟩); have T10 := below_then T9 hB10; have Z10 := Z1.below T10; have zc10 := Z10.cell)
  obtain ⟨wf, hwf, Sf⟩ := store9 Z10 (.int .u8 Q.tos) (.int .u16 Q.id) (.bool Q.keep) (.int .u8 Q.ttl) (.int .u8 Q.proto) (.int .u32 Q.src) (.int .u32 Q.dst) (.slice C1 e1 f1) (.slice C2 e2 f2)
  rw [hwf]
  have pf := Sf.blk.cell
  have Of := Sf.own O1 (fun a e => by have := O1.ge a e; omega)
  have Df := Sf.own O2 (fun a e => by have := O2.ge a e; omega)
  refine bodyPost_ret (v := .tuple #[(.agg #[.int .u8 (Q).tos, .int .u16 (Q).id, .bool (Q).keep, .int .u8 (Q).ttl, .int .u8 (Q).proto, .int .u32 (Q).src, .int .u32 (Q).dst, .slice C1 e1 f1, .slice C2 e2 f2]), .int .i64 E]) (by simp [results, Tryz.results100, go_sem, pf]) rfl ⟨⟨C1, e1, f1, C2, e2, f2, rfl, Of.mono s9, Df.mono s9, Sf.bel (below_then R1 T10) (by omega)⟩⟩
theorem bg_ok01 (p : Pkt) (A1 : Option Addr) (n1 c1 : Nat) (A2 : Option Addr) (n2 c2 : Nat) (call : Int) (hca : 0 ≤ call ∧ call ≤ 65535) (seq ack : Int) (hse : 0 ≤ seq ∧ seq ≤ 4294967295) (hak : 0 ≤ ack ∧ ack ≤ 4294967295) (hsq : (seq != 0) = false) (dat : List UInt8) (B1 : Option Addr) (m1 d1 : Nat) (w : World) (k1 : Bs w A1 n1 c1 p.opt) (j1 : Bs w B1 m1 d1 dat)
    (Q : Pkt) (E : Int) (hw2 : ∀ W lv, isCat lv (((grB false true ++ two ((m1 : Int) % 65536) ++ two call) ++ four ack) ++ dat) W → Bs W A1 n1 c1 p.opt → Calls Tryz.prog 61 #[(.agg #[.int .u8 (p).tos, .int .u16 (p).id, .bool (p).keep, .int .u8 (p).ttl, .int .u8 (p).proto, .int .u32 (p).src, .int .u32 (p).dst, .slice A1 n1 c1, .slice A2 n2 c2]), .int .u8 47, lv] W (WiPost W Q E)) (hm1 : m1 ≤ 140737488400000) :
    Calls Tryz.prog 100 #[(.agg #[.int .u8 (p).tos, .int .u16 (p).id, .bool (p).keep, .int .u8 (p).ttl, .int .u8 (p).proto, .int .u32 (p).src, .int .u32 (p).dst, .slice A1 n1 c1, .slice A2 n2 c2]), .agg #[.int .u16 call, .bool false, .bool true, .int .u32 seq, .int .u32 ack, .slice B1 m1 d1]] w (WiPost w Q E) := by
  have b1 := j1.max
  obtain ⟨ca0, ca1⟩ := hca
  obtain ⟨se0, se1⟩ := hse
  obtain ⟨ak0, ak1⟩ := hak
  obtain ⟨z, hz⟩ : ∃ z : Int, (m1 : Int) % 65536 = z := ⟨_, rfl⟩
  have z0 : 0 ≤ z := by omega
  have z1 : z ≤ 65535 := by omega
  have hzw : IntKind.u16.wrap (m1 : Int) = z := by rw [← hz]; simp [IntKind.wrap, IntKind.signed, IntKind.bits]
  rw [hz] at hw2
  have H1 : Hid (put16 ([ub (b0F false), ub (b1F true), ub 136, ub 11] ++ [0, 0, 0, 0]) 4 z = grB false true ++ two z ++ [0, 0]) := by unfold Hid; simp [put16, putK, two, grB]
  have H2 : Hid (put16 (grB false true ++ two z ++ [0, 0]) 6 call = grB false true ++ two z ++ two call) := by unfold Hid; simp [put16, putK, two, grB]
  have hl4 : (cu [0, 0, 0, 0]).toArray = #[.int .u8 0, .int .u8 0, .int .u8 0, .int .u8 0] := rfl
  obtain ⟨k, hk⟩ : ∃ k : Nat, w.heap.size = k := ⟨_, rfl⟩
  obtain ⟨w1, hw1⟩ : ∃ w1, ((w.alloc (.cells #[.int .u8 (p).tos, .int .u16 (p).id, .bool (p).keep, .int .u8 (p).ttl, .int .u8 (p).proto, .int .u32 (p).src, .int .u32 (p).dst, .slice A1 n1 c1, .slice A2 n2 c2] 26)).alloc (.cells #[.int .u16 call, .bool false, .bool true, .int .u32 seq, .int .u32 ack, .slice B1 m1 d1] 68)).alloc (.cells #[.int .u8 0, .int .u16 0, .bool false, .int .u8 0, .int .u8 0, .int .u32 0, .int .u32 0, .slice none 0 0, .slice none 0 0] 26) = w1 := ⟨_, rfl⟩
  have P1 : Blk w1 k #[.int .u8 (p).tos, .int .u16 (p).id, .bool (p).keep, .int .u8 (p).ttl, .int .u8 (p).proto, .int .u32 (p).src, .int .u32 (p).dst, .slice A1 n1 c1, .slice A2 n2 c2] 26 := by rw [← hw1]; exact ((blk_new w _ _ k hk).alloc _).alloc _
  have F1 : Blk w1 (k + 1) #[.int .u16 call, .bool false, .bool true, .int .u32 seq, .int .u32 ack, .slice B1 m1 d1] 68 := by rw [← hw1]; exact (blk_new _ _ _ (k + 1) (by simp [hk])).alloc _
  have Z1 : Blk w1 (k + 1 + 1) #[.int .u8 0, .int .u16 0, .bool false, .int .u8 0, .int .u8 0, .int .u32 0, .int .u32 0, .slice none 0 0, .slice none 0 0] 26 := by rw [← hw1]; exact blk_new _ _ _ (k + 1 + 1) (by simp [hk])
  have R1 : Below w.heap.size w w1 := by first | exact bw1 hw1 | exact bw2 hw1 | exact bw3 hw1 | exact bw4 hw1
  have x1 := k1.below R1
  have y1 := j1.below R1
  have mc := F1.cell
  have zl1 := Z1.lt
  go_enter Tryz.func100, Tryz.ntmps100
  go_wp2_with (first
    | (go_at_call 113; ((with_reducible refine (begin_any false true _).mono ?_); rintro e w2 ⟨rfl, hB2⟩); (obtain ⟨w3, hw3⟩ : ∃ w3, w2.alloc (.cells #[.int .u8 (b0F false), .int .u8 (b1F true), .int .u8 136, .int .u8 11] 155) = w3 := ⟨_, rfl⟩); have G3 : Blk w3 w2.heap.size #[.int .u8 (b0F false), .int .u8 (b1F true), .int .u8 136, .int .u8 11] 155 := (by rw [← hw3]; exact blk_new w2 _ _ _ rfl); have V3 : Below w2.heap.size w2 w3 := (by first | exact bw1 hw3 | exact bw2 hw3 | exact bw3 hw3 | exact bw4 hw3); (obtain ⟨A4, c4, w4, hrun, O4, hB4⟩ := app_first w3 w2.heap.size (b0F false) (b1F true) (b0F_bd _).1 (b0F_bd _).2 (b1F_bd _).1 (b1F_bd _).2 G3))
    | (at_builtin; refine Lib.wpList_append_run _ rfl _ _ _ _ rfl _ _ rfl rfl _ _ hrun ?_))
  have T3 := below_then hB2 V3
  have T4 := below_then T3 hB4
  have F4 := F1.below T4
  have o4 := O4.bs
  have s3 := T3.size
  have s4 := hB4.size
  have hc4 : 8 ≤ c4 := o4.cap
  refine region_txt 9 (by kernel_rfl) (by kernel_rfl) ?_; (iterate 9 (first | (apply ObsK.skip (by rfl)) | (apply ObsK.v (by rfl); (intro wo hT; (repeat (first | (intro v hv; ((obtain ⟨A5, n5, c5, rfl, o5⟩ := hv; have u5 : n5 = 8 := (by rw [← o5.len]; rfl); subst u5; have ob5 := o5.bs))) | (intro _ _ k; try have hcv := cv k))); (have mc := (F4.below hT).cell; have bo := o4.below hT; have hsz : w4.heap.size ≤ wo.heap.size := hT.size); refine Goes.mk ?_; go_simp; first | exact goes_v | exact goes_b (by assumption) | (refine goes_enter ?_; first | (go_at_call 20; ((with_reducible refine (put16_any A4 8 c4 _ 4 z z0 z1 wo bo).mono ?_); rintro e w9 ⟨A9, c9, rfl, ho9, hB9⟩); rw [H1.out] at ho9; exact ret_p (own_isW ho9 hsz) hB9) | (go_at_call 20; ((with_reducible refine (put16_any A5 8 c5 _ 6 call ca0 ca1 wo ob5).mono ?_); rintro e w9 ⟨A9, c9, rfl, ho9, hB9⟩); rw [H2.out] at ho9; exact ret_p (own_isW ho9 hsz) hB9)))) | (apply ObsK.b (by rfl); (intro wo hT; (repeat (first | (intro v hv; ((obtain ⟨A5, n5, c5, rfl, o5⟩ := hv; have u5 : n5 = 8 := (by rw [← o5.len]; rfl); subst u5; have ob5 := o5.bs))) | (intro _ _ k; try have hcv := cv k))); (have mc := (F4.below hT).cell; have bo := o4.below hT; have hsz : w4.heap.size ≤ wo.heap.size := hT.size); refine Goes.mk ?_; go_simp; first | exact goes_v | exact goes_b (by assumption) | (refine goes_enter ?_; first | (go_at_call 20; ((with_reducible refine (put16_any A4 8 c4 _ 4 z z0 z1 wo bo).mono ?_); rintro e w9 ⟨A9, c9, rfl, ho9, hB9⟩); rw [H1.out] at ho9; exact ret_p (own_isW ho9 hsz) hB9) | (go_at_call 20; ((with_reducible refine (put16_any A5 8 c5 _ 6 call ca0 ca1 wo ob5).mono ?_); rintro e w9 ⟨A9, c9, rfl, ho9, hB9⟩); rw [H2.out] at ho9; exact ret_p (own_isW ho9 hsz) hB9)))) | (apply ObsK.p (q := isW w4.heap.size _) (by rfl) st_isW; (intro wo hT; (repeat (first | (intro v hv; ((obtain ⟨A5, n5, c5, rfl, o5⟩ := hv; have u5 : n5 = 8 := (by rw [← o5.len]; rfl); subst u5; have ob5 := o5.bs))) | (intro _ _ k; try have hcv := cv k))); (have mc := (F4.below hT).cell; have bo := o4.below hT; have hsz : w4.heap.size ≤ wo.heap.size := hT.size); refine Goes.mk ?_; go_simp; first | exact goes_v | exact goes_b (by assumption) | (refine goes_enter ?_; first | (go_at_call 20; ((with_reducible refine (put16_any A4 8 c4 _ 4 z z0 z1 wo bo).mono ?_); rintro e w9 ⟨A9, c9, rfl, ho9, hB9⟩); rw [H1.out] at ho9; exact ret_p (own_isW ho9 hsz) hB9) | (go_at_call 20; ((with_reducible refine (put16_any A5 8 c5 _ 6 call ca0 ca1 wo ob5).mono ?_); rintro e w9 ⟨A9, c9, rfl, ho9, hB9⟩); rw [H2.out] at ho9; exact ret_p (own_isW ho9 hsz) hB9)))))); refine ObsK.nil ?_; intro wz hBz; simp only [finOn, List.drop_succ_cons, List.drop_zero, List.drop_nil]
  rintro v6 ⟨A6, n6, c6, rfl, O6⟩ v7 hv7
  clear hv7
  have u6 : n6 = 8 := by rw [← O6.len]; rfl
  subst u6
  go_simp
  have T6 := below_then T4 hBz
  have P6 := P1.below T6
  have F6 := F1.below T6
  have Z6 := Z1.below T6
  have x6 := x1.below T6
  have y6 := y1.below T6
  have mc6 := F6.cell
  have sz6 := hBz.size
  generalize wz = w6 at *
  clear hBz o4 O4 hrun hB4 G3 hw3 V3 T3 F4 hw1 mc T4
  go_wp2_with fail
  obtain ⟨g7, rfl, gl7, gh7⟩ := O6.ptr (by omega)
  have H7a : Hid (put32 ((grB false true ++ two z ++ two call) ++ [0, 0, 0, 0]) 8 ack = (grB false true ++ two z ++ two call) ++ four ack) := by unfold Hid; simp [put32, putK, two, four, grB]
  have sl7 : w1.heap.size ≤ g7 := by omega
  refine regionX 8 [2] g7 (fun c W => match c with | 0 => Own W w4.heap.size 5 (some ⟨g7, 0, none⟩) 8 c6 (grB false true ++ two z ++ two call) | _ + 1 => True) (by kernel_rfl) (by kernel_rfl) (by kernel_rfl) O6 (fun c W W' hj hb => by cases c with | zero => exact Own.below hj hb | succ n => trivial) ?_; (iterate 8 (first | (apply ObsX.skip (by rfl) (by rfl)) | (apply ObsX.v (by rfl) (by rfl); (intro wo hE; (repeat (first | (intro v hv; ((first | (obtain ⟨Aq, cq, rfl, oq, oq'⟩ := hv) | (obtain ⟨Ap, np, cp, rfl, op⟩ := hv; have up : np = 12 := (by rw [← op.len]; rfl); subst up; have obp := op.bs)))) | (intro _ _ k; try have hcv := cv k))); (have mc := (F6.ext hE (by omega)).cell; have hsz := hE.size; have glx := gh7); refine Goes.mk ?_; first | (exact goes_appX _ _ rfl rfl hj (fun k e => by simp [Value.ownBlock] at e; exact e.symm) rfl oq (by omega) (by omega) (fun _ => trivial)) | (go_simp; first | exact goes_v | exact goes_litN hl4 rfl (by omega) (by omega) | (refine goes_enter ?_; first | (go_at_call 19; ((with_reducible refine (put32_any Ap 12 cp _ 8 ack ak0 ak1 wo obp).mono ?_); rintro e w9 ⟨A9, c9, rfl, ho9, hB9⟩); rw [H7a.out] at ho9; exact ret_p (own_isW ho9 hsz) hB9))))) | (apply ObsX.p (q := isN g7 4 [0, 0, 0, 0]) (by rfl) (by rfl) st_isN sx_isN; (intro wo hE; (repeat (first | (intro v hv; ((first | (obtain ⟨Aq, cq, rfl, oq, oq'⟩ := hv) | (obtain ⟨Ap, np, cp, rfl, op⟩ := hv; have up : np = 12 := (by rw [← op.len]; rfl); subst up; have obp := op.bs)))) | (intro _ _ k; try have hcv := cv k))); (have mc := (F6.ext hE (by omega)).cell; have hsz := hE.size; have glx := gh7); refine Goes.mk ?_; first | (exact goes_appX _ _ rfl rfl hj (fun k e => by simp [Value.ownBlock] at e; exact e.symm) rfl oq (by omega) (by omega) (fun _ => trivial)) | (go_simp; first | exact goes_v | exact goes_litN hl4 rfl (by omega) (by omega) | (refine goes_enter ?_; first | (go_at_call 19; ((with_reducible refine (put32_any Ap 12 cp _ 8 ack ak0 ak1 wo obp).mono ?_); rintro e w9 ⟨A9, c9, rfl, ho9, hB9⟩); rw [H7a.out] at ho9; exact ret_p (own_isW ho9 hsz) hB9))))) | (apply ObsX.p (q := isW w6.heap.size _) (by rfl) (by rfl) st_isW (sx_isW gh7); (intro wo hE; (repeat (first | (intro v hv; ((first | (obtain ⟨Aq, cq, rfl, oq, oq'⟩ := hv) | (obtain ⟨Ap, np, cp, rfl, op⟩ := hv; have up : np = 12 := (by rw [← op.len]; rfl); subst up; have obp := op.bs)))) | (intro _ _ k; try have hcv := cv k))); (have mc := (F6.ext hE (by omega)).cell; have hsz := hE.size; have glx := gh7); refine Goes.mk ?_; first | (exact goes_appX _ _ rfl rfl hj (fun k e => by simp [Value.ownBlock] at e; exact e.symm) rfl oq (by omega) (by omega) (fun _ => trivial)) | (go_simp; first | exact goes_v | exact goes_litN hl4 rfl (by omega) (by omega) | (refine goes_enter ?_; first | (go_at_call 19; ((with_reducible refine (put32_any Ap 12 cp _ 8 ack ak0 ak1 wo obp).mono ?_); rintro e w9 ⟨A9, c9, rfl, ho9, hB9⟩); rw [H7a.out] at ho9; exact ret_p (own_isW ho9 hsz) hB9))))) | (apply ObsX.ev (by rfl) (by rfl); (intro wo hE hj; (repeat (first | (intro v hv; ((first | (obtain ⟨Aq, cq, rfl, oq, oq'⟩ := hv) | (obtain ⟨Ap, np, cp, rfl, op⟩ := hv; have up : np = 12 := (by rw [← op.len]; rfl); subst up; have obp := op.bs)))) | (intro _ _ k; try have hcv := cv k))); (have mc := (F6.ext hE (by omega)).cell; have hsz := hE.size; have glx := gh7); refine GoesX.mk ?_; first | (exact goes_appX _ _ rfl rfl hj (fun k e => by simp [Value.ownBlock] at e; exact e.symm) rfl oq (by omega) (by omega) (fun _ => trivial)) | (go_simp; first | exact goes_v | exact goes_litN hl4 rfl (by omega) (by omega) | (refine goes_enter ?_; first | (go_at_call 19; ((with_reducible refine (put32_any Ap 12 cp _ 8 ack ak0 ak1 wo obp).mono ?_); rintro e w9 ⟨A9, c9, rfl, ho9, hB9⟩); rw [H7a.out] at ho9; exact ret_p (own_isW ho9 hsz) hB9))))) | (apply ObsX.ep (q := isN g7 4 [0, 0, 0, 0]) (by rfl) (by rfl) (by rfl) st_isN; (intro wo hE hj; (repeat (first | (intro v hv; ((first | (obtain ⟨Aq, cq, rfl, oq, oq'⟩ := hv) | (obtain ⟨Ap, np, cp, rfl, op⟩ := hv; have up : np = 12 := (by rw [← op.len]; rfl); subst up; have obp := op.bs)))) | (intro _ _ k; try have hcv := cv k))); (have mc := (F6.ext hE (by omega)).cell; have hsz := hE.size; have glx := gh7); refine GoesX.mk ?_; first | (exact goes_appX _ _ rfl rfl hj (fun k e => by simp [Value.ownBlock] at e; exact e.symm) rfl oq (by omega) (by omega) (fun _ => trivial)) | (go_simp; first | exact goes_v | exact goes_litN hl4 rfl (by omega) (by omega) | (refine goes_enter ?_; first | (go_at_call 19; ((with_reducible refine (put32_any Ap 12 cp _ 8 ack ak0 ak1 wo obp).mono ?_); rintro e w9 ⟨A9, c9, rfl, ho9, hB9⟩); rw [H7a.out] at ho9; exact ret_p (own_isW ho9 hsz) hB9))))) | (apply ObsX.ep (q := isW w6.heap.size _) (by rfl) (by rfl) (by rfl) st_isW; (intro wo hE hj; (repeat (first | (intro v hv; ((first | (obtain ⟨Aq, cq, rfl, oq, oq'⟩ := hv) | (obtain ⟨Ap, np, cp, rfl, op⟩ := hv; have up : np = 12 := (by rw [← op.len]; rfl); subst up; have obp := op.bs)))) | (intro _ _ k; try have hcv := cv k))); (have mc := (F6.ext hE (by omega)).cell; have hsz := hE.size; have glx := gh7); refine GoesX.mk ?_; first | (exact goes_appX _ _ rfl rfl hj (fun k e => by simp [Value.ownBlock] at e; exact e.symm) rfl oq (by omega) (by omega) (fun _ => trivial)) | (go_simp; first | exact goes_v | exact goes_litN hl4 rfl (by omega) (by omega) | (refine goes_enter ?_; first | (go_at_call 19; ((with_reducible refine (put32_any Ap 12 cp _ 8 ack ak0 ak1 wo obp).mono ?_); rintro e w9 ⟨A9, c9, rfl, ho9, hB9⟩); rw [H7a.out] at ho9; exact ret_p (own_isW ho9 hsz) hB9))))) | (apply ObsX.ep (q := isW w4.heap.size _) (by rfl) (by rfl) (by rfl) st_isW; (intro wo hE hj; (repeat (first | (intro v hv; ((first | (obtain ⟨Aq, cq, rfl, oq, oq'⟩ := hv) | (obtain ⟨Ap, np, cp, rfl, op⟩ := hv; have up : np = 12 := (by rw [← op.len]; rfl); subst up; have obp := op.bs)))) | (intro _ _ k; try have hcv := cv k))); (have mc := (F6.ext hE (by omega)).cell; have hsz := hE.size; have glx := gh7); refine GoesX.mk ?_; first | (exact goes_appX _ _ rfl rfl hj (fun k e => by simp [Value.ownBlock] at e; exact e.symm) rfl oq (by omega) (by omega) (fun _ => trivial)) | (go_simp; first | exact goes_v | exact goes_litN hl4 rfl (by omega) (by omega) | (refine goes_enter ?_; first | (go_at_call 19; ((with_reducible refine (put32_any Ap 12 cp _ 8 ack ak0 ak1 wo obp).mono ?_); rintro e w9 ⟨A9, c9, rfl, ho9, hB9⟩); rw [H7a.out] at ho9; exact ret_p (own_isW ho9 hsz) hB9))))))); refine ObsX.nil ?_; intro wz hEz hJz; simp only [finOn, List.drop_succ_cons, List.drop_zero, List.drop_nil]
  rintro v1 ⟨A7, n7, c7, rfl, O7⟩ v2 hv2 v3 hv3
  clear hv2 hv3
  have u7 : n7 = 12 := by rw [← O7.len]; rfl
  subst u7
  go_simp
  have T7 := below_ext T6 hEz sl7 T6.size
  have P7 := P6.ext hEz (by omega)
  have F7 := F6.ext hEz (by omega)
  have Z7 := Z6.ext hEz (by omega)
  have x7 := x1.below T7
  have y7 := y1.below T7
  have mc7 := F7.cell
  have sz7 : w6.heap.size ≤ wz.heap.size := hEz.size
  generalize wz = w7 at *
  clear hEz hJz mc6 O6
  obtain ⟨w9, hw9⟩ : ∃ w9, w7.alloc (.cells #[.slice A7 12 c7, .slice B1 m1 d1] 24) = w9 := ⟨_, rfl⟩
  have G9 : Blk w9 w7.heap.size #[.slice A7 12 c7, .slice B1 m1 d1] 24 := by rw [← hw9]; exact blk_new w7 _ _ _ rfl
  have V9 : Below w7.heap.size w7 w9 := by first | exact bw1 hw9 | exact bw2 hw9 | exact bw3 hw9 | exact bw4 hw9
  have o7 := O7.bs
  have hcat := isCat2 G9 (o7.below V9) (y7.below V9) (cc := 2) (by omega)
  have T9 := below_then T7 V9
  have pc7 := P7.cell
  have s9 := (below_then R1 T9).size
  have kz : k + 1 + 1 < w9.heap.size := (Z7.below V9).lt
  go_wp2_with (go_at_call 61; ((with_reducible refine (hw2 w9 _ hcat (x7.below V9)).mono ?_); rintro e w10 ⟨⟨C1, e1, f1, C2, e2, f2, rfl, O1, O2, hB10⟩⟩); have T10 := below_then T9 hB10; have Z10 := Z1.below T10; have zc10 := Z10.cell)
  obtain ⟨wf, hwf, Sf⟩ := store9 Z10 (.int .u8 Q.tos) (.int .u16 Q.id) (.bool Q.keep) (.int .u8 Q.ttl) (.int .u8 Q.proto) (.int .u32 Q.src) (.int .u32 Q.dst) (.slice C1 e1 f1) (.slice C2 e2 f2)
  rw [hwf]
  have pf := Sf.blk.cell
  have Of := Sf.own O1 (fun a e => by have := O1.ge a e; omega)
  have Df := Sf.own O2 (fun a e => by have := O2.ge a e; omega)
  refine bodyPost_ret (v := .tuple #[(.agg #[.int .u8 (Q).tos, .int .u16 (Q).id, .bool (Q).keep, .int .u8 (Q).ttl, .int .u8 (Q).proto, .int .u32 (Q).src, .int .u32 (Q).dst, .slice C1 e1 f1, .slice C2 e2 f2]), .int .i64 E]) (by simp [results, Tryz.results100, go_sem, pf]) rfl ⟨⟨C1, e1, f1, C2, e2, f2, rfl, Of.mono s9, Df.mono s9, Sf.bel (below_then R1 T10) (by omega)⟩⟩
theorem bg_ok10 (p : Pkt) (A1 : Option Addr) (n1 c1 : Nat) (A2 : Option Addr) (n2 c2 : Nat) (call : Int) (hca : 0 ≤ call ∧ call ≤ 65535) (seq ack : Int) (hse : 0 ≤ seq ∧ seq ≤ 4294967295) (hak : 0 ≤ ack ∧ ack ≤ 4294967295) (hac : (ack != 0) = false) (dat : List UInt8) (B1 : Option Addr) (m1 d1 : Nat) (w : World) (k1 : Bs w A1 n1 c1 p.opt) (j1 : Bs w B1 m1 d1 dat)
    (Q : Pkt) (E : Int) (hw2 : ∀ W lv, isCat lv (((grB true false ++ two ((m1 : Int) % 65536) ++ two call) ++ four seq) ++ dat) W → Bs W A1 n1 c1 p.opt → Calls Tryz.prog 61 #[(.agg #[.int .u8 (p).tos, .int .u16 (p).id, .bool (p).keep, .int .u8 (p).ttl, .int .u8 (p).proto, .int .u32 (p).src, .int .u32 (p).dst, .slice A1 n1 c1, .slice A2 n2 c2]), .int .u8 47, lv] W (WiPost W Q E)) (hm1 : m1 ≤ 140737488400000) :
    Calls Tryz.prog 100 #[(.agg #[.int .u8 (p).tos, .int .u16 (p).id, .bool (p).keep, .int .u8 (p).ttl, .int .u8 (p).proto, .int .u32 (p).src, .int .u32 (p).dst, .slice A1 n1 c1, .slice A2 n2 c2]), .agg #[.int .u16 call, .bool true, .bool false, .int .u32 seq, .int .u32 ack, .slice B1 m1 d1]] w (WiPost w Q E) := by
  have b1 := j1.max
  obtain ⟨ca0, ca1⟩ := hca
  obtain ⟨se0, se1⟩ := hse
  obtain ⟨ak0, ak1⟩ := hak
  obtain ⟨z, hz⟩ : ∃ z : Int, (m1 : Int) % 65536 = z := ⟨_, rfl⟩
  have z0 : 0 ≤ z := by omega
  have z1 : z ≤ 65535 := by omega
  have hzw : IntKind.u16.wrap (m1 : Int) = z := by rw [← hz]; simp [IntKind.wrap, IntKind.signed, IntKind.bits]
  rw [hz] at hw2
  have H1 : Hid (put16 ([ub (b0F true), ub (b1F false), ub 136, ub 11] ++ [0, 0, 0, 0]) 4 z = grB true false ++ two z ++ [0, 0]) := by unfold Hid; simp [put16, putK, two, grB]
  have H2 : Hid (put16 (grB true false ++ two z ++ [0, 0]) 6 call = grB true false ++ two z ++ two call) := by unfold Hid; simp [put16, putK, two, grB]
  have hl4 : (cu [0, 0, 0, 0]).toArray = #[.int .u8 0, .int .u8 0, .int .u8 0, .int .u8 0] := rfl
  obtain ⟨k, hk⟩ : ∃ k : Nat, w.heap.size = k := ⟨_, rfl⟩
  obtain ⟨w1, hw1⟩ : ∃ w1, ((w.alloc (.cells #[.int .u8 (p).tos, .int .u16 (p).id, .bool (p).keep, .int .u8 (p).ttl, .int .u8 (p).proto, .int .u32 (p).src, .int .u32 (p).dst, .slice A1 n1 c1, .slice A2 n2 c2] 26)).alloc (.cells #[.int .u16 call, .bool true, .bool false, .int .u32 seq, .int .u32 ack, .slice B1 m1 d1] 68)).alloc (.cells #[.int .u8 0, .int .u16 0, .bool false, .int .u8 0, .int .u8 0, .int .u32 0, .int .u32 0, .slice none 0 0, .slice none 0 0] 26) = w1 := ⟨_, rfl⟩
  have P1 : Blk w1 k #[.int .u8 (p).tos, .int .u16 (p).id, .bool (p).keep, .int .u8 (p).ttl, .int .u8 (p).proto, .int .u32 (p).src, .int .u32 (p).dst, .slice A1 n1 c1, .slice A2 n2 c2] 26 := by rw [← hw1]; exact ((blk_new w _ _ k hk).alloc _).alloc _
  have F1 : Blk w1 (k + 1) #[.int .u16 call, .bool true, .bool false, .int .u32 seq, .int .u32 ack, .slice B1 m1 d1] 68 := by rw [← hw1]; exact (blk_new _ _ _ (k + 1) (by simp [hk])).alloc _
  have Z1 : Blk w1 (k + 1 + 1) #[.int .u8 0, .int .u16 0, .bool false, .int .u8 0, .int .u8 0, .int .u32 0, .int .u32 0, .slice none 0 0, .slice none 0 0] 26 := by rw [← hw1]; exact blk_new _ _ _ (k + 1 + 1) (by simp [hk])
  have R1 : Below w.heap.size w w1 := by first | exact bw1 hw1 | exact bw2 hw1 | exact bw3 hw1 | exact bw4 hw1
  have x1 := k1.below R1
  have y1 := j1.below R1
  have mc := F1.cell
  have zl1 := Z1.lt
  go_enter Tryz.func100, Tryz.ntmps100
  go_wp2_with (first
    | (go_at_call 113; ((with_reducible refine (begin_any true false _).mono ?_); rintro e w2 ⟨rfl, hB2⟩); (obtain ⟨w3, hw3⟩ : ∃ w3, w2.alloc (.cells #[.int .u8 (b0F true), .int .u8 (b1F false), .int .u8 136, .int .u8 11] 155) = w3 := ⟨_, rfl⟩); have G3 : Blk w3 w2.heap.size #[.int .u8 (b0F true), .int .u8 (b1F false), .int .u8 136, .int .u8 11] 155 := (by rw [← hw3]; exact blk_new w2 _ _ _ rfl); have V3 : Below w2.heap.size w2 w3 := (by first | exact bw1 hw3 | exact bw2 hw3 | exact bw3 hw3 | exact bw4 hw3); (obtain ⟨A4, c4, w4, hrun, O4, hB4⟩ := app_first w3 w2.heap.size (b0F true) (b1F false) (b0F_bd _).1 (b0F_bd _).2 (b1F_bd _).1 (b1F_bd _).2 G3))
    | (at_builtin; refine Lib.wpList_append_run _ rfl _ _ _ _ rfl _ _ rfl rfl _ _ hrun ?_))
  have T3 := below_then hB2 V3
  have T4 := below_then T3 hB4
  have F4 := F1.below T4
  have o4 := O4.bs
  have s3 := T3.size
  have s4 := hB4.size
  have hc4 : 8 ≤ c4 := o4.cap
  refine region_txt 9 (by kernel_rfl) (by kernel_rfl) ?_; (iterate 9 (first | (apply ObsK.skip (by rfl)) | (apply ObsK.v (by rfl); (intro wo hT; (repeat (first | (intro v hv; ((obtain ⟨A5, n5, c5, rfl, o5⟩ := hv; have u5 : n5 = 8 := (by rw [← o5.len]; rfl); subst u5; have ob5 := o5.bs))) | (intro _ _ k; try have hcv := cv k))); (have mc := (F4.below hT).cell; have bo := o4.below hT; have hsz : w4.heap.size ≤ wo.heap.size := hT.size); refine Goes.mk ?_; go_simp; first | exact goes_v | exact goes_b (by assumption) | (refine goes_enter ?_; first | (go_at_call 20; ((with_reducible refine (put16_any A4 8 c4 _ 4 z z0 z1 wo bo).mono ?_); rintro e w9 ⟨A9, c9, rfl, ho9, hB9⟩); rw [H1.out] at ho9; exact ret_p (own_isW ho9 hsz) hB9) | (go_at_call 20; ((with_reducible refine (put16_any A5 8 c5 _ 6 call ca0 ca1 wo ob5).mono ?_); rintro e w9 ⟨A9, c9, rfl, ho9, hB9⟩); rw [H2.out] at ho9; exact ret_p (own_isW ho9 hsz) hB9)))) | (apply ObsK.b (by rfl); (intro wo hT; (repeat (first | (intro v hv; ((obtain ⟨A5, n5, c5, rfl, o5⟩ := hv; have u5 : n5 = 8 := (by rw [← o5.len]; rfl); subst u5; have ob5 := o5.bs))) | (intro _ _ k; try have hcv := cv k))); (have mc := (F4.below hT).cell; have bo := o4.below hT; have hsz : w4.heap.size ≤ wo.heap.size := hT.size); refine Goes.mk ?_; go_simp; first | exact goes_v | exact goes_b (by assumption) | (refine goes_enter ?_; first | (go_at_call 20; ((with_reducible refine (put16_any A4 8 c4 _ 4 z z0 z1 wo bo).mono ?_); rintro e w9 ⟨A9, c9, rfl, ho9, hB9⟩); rw [H1.out] at ho9; exact ret_p (own_isW ho9 hsz) hB9) | (go_at_call 20; ((with_reducible refine (put16_any A5 8 c5 _ 6 call ca0 ca1 wo ob5).mono ?_); rintro e w9 ⟨A9, c9, rfl, ho9, hB9⟩); rw [H2.out] at ho9; exact ret_p (own_isW ho9 hsz) hB9)))) | (apply ObsK.p (q := isW w4.heap.size _) (by rfl) st_isW; (intro wo hT; (repeat (first | (intro v hv; ((obtain ⟨A5, n5, c5, rfl, o5⟩ := hv; have u5 : n5 = 8 := (by rw [← o5.len]; rfl); subst u5; have ob5 := o5.bs))) | (intro _ _ k; try have hcv := cv k))); (have mc := (F4.below hT).cell; have bo := o4.below hT; have hsz : w4.heap.size ≤ wo.heap.size := hT.size); refine Goes.mk ?_; go_simp; first | exact goes_v | exact goes_b (by assumption) | (refine goes_enter ?_; first | (go_at_call 20; ((with_reducible refine (put16_any A4 8 c4 _ 4 z z0 z1 wo bo).mono ?_); rintro e w9 ⟨A9, c9, rfl, ho9, hB9⟩); rw [H1.out] at ho9; exact ret_p (own_isW ho9 hsz) hB9) | (go_at_call 20; ((with_reducible refine (put16_any A5 8 c5 _ 6 call ca0 ca1 wo ob5).mono ?_); rintro e w9 ⟨A9, c9, rfl, ho9, hB9⟩); rw [H2.out] at ho9; exact ret_p (own_isW ho9 hsz) hB9)))))); refine ObsK.nil ?_; intro wz hBz; simp only [finOn, List.drop_succ_cons, List.drop_zero, List.drop_nil]
  rintro v6 ⟨A6, n6, c6, rfl, O6⟩ v7 hv7
  clear hv7
  have u6 : n6 = 8 := by rw [← O6.len]; rfl
  subst u6
  go_simp
  have T6 := below_then T4 hBz
  have P6 := P1.below T6
  have F6 := F1.below T6
  have Z6 := Z1.below T6
  have x6 := x1.below T6
  have y6 := y1.below T6
  have mc6 := F6.cell
  have sz6 := hBz.size
  generalize wz = w6 at *
  clear hBz o4 O4 hrun hB4 G3 hw3 V3 T3 F4 hw1 mc T4
  go_wp2_with fail
  obtain ⟨g7, rfl, gl7, gh7⟩ := O6.ptr (by omega)
  have H7a : Hid (put32 ((grB true false ++ two z ++ two call) ++ [0, 0, 0, 0]) 8 seq = (grB true false ++ two z ++ two call) ++ four seq) := by unfold Hid; simp [put32, putK, two, four, grB]
  have sl7 : w1.heap.size ≤ g7 := by omega
  refine regionX 8 [2] g7 (fun c W => match c with | 0 => Own W w4.heap.size 5 (some ⟨g7, 0, none⟩) 8 c6 (grB true false ++ two z ++ two call) | _ + 1 => True) (by kernel_rfl) (by kernel_rfl) (by kernel_rfl) O6 (fun c W W' hj hb => by cases c with | zero => exact Own.below hj hb | succ n => trivial) ?_; (iterate 8 (first | (apply ObsX.skip (by rfl) (by rfl)) | (apply ObsX.v (by rfl) (by rfl); (intro wo hE; (repeat (first | (intro v hv; ((first | (obtain ⟨Aq, cq, rfl, oq, oq'⟩ := hv) | (obtain ⟨Ap, np, cp, rfl, op⟩ := hv; have up : np = 12 := (by rw [← op.len]; rfl); subst up; have obp := op.bs)))) | (intro _ _ k; try have hcv := cv k))); (have mc := (F6.ext hE (by omega)).cell; have hsz := hE.size; have glx := gh7); refine Goes.mk ?_; first | (exact goes_appX _ _ rfl rfl hj (fun k e => by simp [Value.ownBlock] at e; exact e.symm) rfl oq (by omega) (by omega) (fun _ => trivial)) | (go_simp; first | exact goes_v | exact goes_litN hl4 rfl (by omega) (by omega) | (refine goes_enter ?_; first | (go_at_call 19; ((with_reducible refine (put32_any Ap 12 cp _ 8 seq se0 se1 wo obp).mono ?_); rintro e w9 ⟨A9, c9, rfl, ho9, hB9⟩); rw [H7a.out] at ho9; exact ret_p (own_isW ho9 hsz) hB9))))) | (apply ObsX.p (q := isN g7 4 [0, 0, 0, 0]) (by rfl) (by rfl) st_isN sx_isN; (intro wo hE; (repeat (first | (intro v hv; ((first | (obtain ⟨Aq, cq, rfl, oq, oq'⟩ := hv) | (obtain ⟨Ap, np, cp, rfl, op⟩ := hv; have up : np = 12 := (by rw [← op.len]; rfl); subst up; have obp := op.bs)))) | (intro _ _ k; try have hcv := cv k))); (have mc := (F6.ext hE (by omega)).cell; have hsz := hE.size; have glx := gh7); refine Goes.mk ?_; first | (exact goes_appX _ _ rfl rfl hj (fun k e => by simp [Value.ownBlock] at e; exact e.symm) rfl oq (by omega) (by omega) (fun _ => trivial)) | (go_simp; first | exact goes_v | exact goes_litN hl4 rfl (by omega) (by omega) | (refine goes_enter ?_; first | (go_at_call 19; ((with_reducible refine (put32_any Ap 12 cp _ 8 seq se0 se1 wo obp).mono ?_); rintro e w9 ⟨A9, c9, rfl, ho9, hB9⟩); rw [H7a.out] at ho9; exact ret_p (own_isW ho9 hsz) hB9))))) | (apply ObsX.p (q := isW w6.heap.size _) (by rfl) (by rfl) st_isW (sx_isW gh7); (intro wo hE; (repeat (first | (intro v hv; ((first | (obtain ⟨Aq, cq, rfl, oq, oq'⟩ := hv) | (obtain ⟨Ap, np, cp, rfl, op⟩ := hv; have up : np = 12 := (by rw [← op.len]; rfl); subst up; have obp := op.bs)))) | (intro _ _ k; try have hcv := cv k))); (have mc := (F6.ext hE (by omega)).cell; have hsz := hE.size; have glx := gh7); refine Goes.mk ?_; first | (exact goes_appX _ _ rfl rfl hj (fun k e => by simp [Value.ownBlock] at e; exact e.symm) rfl oq (by omega) (by omega) (fun _ => trivial)) | (go_simp; first | exact goes_v | exact goes_litN hl4 rfl (by omega) (by omega) | (refine goes_enter ?_; first | (go_at_call 19; ((with_reducible refine (put32_any Ap 12 cp _ 8 seq se0 se1 wo obp).mono ?_); rintro e w9 ⟨A9, c9, rfl, ho9, hB9⟩); rw [H7a.out] at ho9; exact ret_p (own_isW ho9 hsz) hB9))))) | (apply ObsX.ev (by rfl) (by rfl); (intro wo hE hj; (repeat (first | (intro v hv; ((first | (obtain ⟨Aq, cq, rfl, oq, oq'⟩ := hv) | (obtain ⟨Ap, np, cp, rfl, op⟩ := hv; have up : np = 12 := (by rw [← op.len]; rfl); subst up; have obp := op.bs)))) | (intro _ _ k; try have hcv := cv k))); (have mc := (F6.ext hE (by omega)).cell; have hsz := hE.size; have glx := gh7); refine GoesX.mk ?_; first | (exact goes_appX _ _ rfl rfl hj (fun k e => by simp [Value.ownBlock] at e; exact e.symm) rfl oq (by omega) (by omega) (fun _ => trivial)) | (go_simp; first | exact goes_v | exact goes_litN hl4 rfl (by omega) (by omega) | (refine goes_enter ?_; first | (go_at_call 19; ((with_reducible refine (put32_any Ap 12 cp _ 8 seq se0 se1 wo obp).mono ?_); rintro e w9 ⟨A9, c9, rfl, ho9, hB9⟩); rw [H7a.out] at ho9; exact ret_p (own_isW ho9 hsz) hB9))))) | (apply ObsX.ep (q := isN g7 4 [0, 0, 0, 0]) (by rfl) (by rfl) (by rfl) st_isN; (intro wo hE hj; (repeat (first | (intro v hv; ((first | (obtain ⟨Aq, cq, rfl, oq, oq'⟩ := hv) | (obtain ⟨Ap, np, cp, rfl, op⟩ := hv; have up : np = 12 := (by rw [← op.len]; rfl); subst up; have obp := op.bs)))) | (intro _ _ k; try have hcv := cv k))); (have mc := (F6.ext hE (by omega)).cell; have hsz := hE.size; have glx := gh7); refine GoesX.mk ?_; first | (exact goes_appX _ _ rfl rfl hj (fun k e => by simp [Value.ownBlock] at e; exact e.symm) rfl oq (by omega) (by omega) (fun _ => trivial)) | (go_simp; first | exact goes_v | exact goes_litN hl4 rfl (by omega) (by omega) | (refine goes_enter ?_; first | (go_at_call 19; ((with_reducible refine (put32_any Ap 12 cp _ 8 seq se0 se1 wo obp).mono ?_); rintro e w9 ⟨A9, c9, rfl, ho9, hB9⟩); rw [H7a.out] at ho9; exact ret_p (own_isW ho9 hsz) hB9))))) | (apply ObsX.ep (q := isW w6.heap.size _) (by rfl) (by rfl) (by rfl) st_isW; (intro wo hE hj; (repeat (first | (intro v hv; ((first | (obtain ⟨Aq, cq, rfl, oq, oq'⟩ := hv) | (obtain ⟨Ap, np, cp, rfl, op⟩ := hv; have up : np = 12 := (by rw [← op.len]; rfl); subst up; have obp := op.bs)))) | (intro _ _ k; try have hcv := cv k))); (have mc := (F6.ext hE (by omega)).cell; have hsz := hE.size; have glx := gh7); refine GoesX.mk ?_; first | (exact goes_appX _ _ rfl rfl hj (fun k e => by simp [Value.ownBlock] at e; exact e.symm) rfl oq (by omega) (by omega) (fun _ => trivial)) | (go_simp; first | exact goes_v | exact goes_litN hl4 rfl (by omega) (by omega) | (refine goes_enter ?_; first | (go_at_call 19; ((with_reducible refine (put32_any Ap 12 cp _ 8 seq se0 se1 wo obp).mono ?_); rintro e w9 ⟨A9, c9, rfl, ho9, hB9⟩); rw [H7a.out] at ho9; exact ret_p (own_isW ho9 hsz) hB9))))) | (apply ObsX.ep (q := isW w4.heap.size _) (by rfl) (by rfl) (by rfl) st_isW; (intro wo hE hj; (repeat (first | (intro v hv; ((first | (obtain ⟨Aq, cq, rfl, oq, oq'⟩ := hv) | (obtain ⟨Ap, np, cp, rfl, op⟩ := hv; have up : np = 12 := (by rw [← op.len]; rfl); subst up; have obp := op.bs)))) | (intro _ _ k; try have hcv := cv k))); (have mc := (F6.ext hE (by omega)).cell; have hsz := hE.size; have glx := gh7); refine GoesX.mk ?_; first | (exact goes_appX _ _ rfl rfl hj (fun k e => by simp [Value.ownBlock] at e; exact e.symm) rfl oq (by omega) (by omega) (fun _ => trivial)) | (go_simp; first | exact goes_v | exact goes_litN hl4 rfl (by omega) (by omega) | (refine goes_enter ?_; first | (go_at_call 19; ((with_reducible refine (put32_any Ap 12 cp _ 8 seq se0 se1 wo obp).mono ?_); rintro e w9 ⟨A9, c9, rfl, ho9, hB9⟩); rw [H7a.out] at ho9; exact ret_p (own_isW ho9 hsz) hB9))))))); refine ObsX.nil ?_; intro wz hEz hJz; simp only [finOn, List.drop_succ_cons, List.drop_zero, List.drop_nil]
  rintro v1 ⟨A7, n7, c7, rfl, O7⟩ v2 hv2 v3 hv3
  clear hv2 hv3
  have u7 : n7 = 12 := by rw [← O7.len]; rfl
  subst u7
  go_simp
  have T7 := below_ext T6 hEz sl7 T6.size
  have P7 := P6.ext hEz (by omega)
  have F7 := F6.ext hEz (by omega)
  have Z7 := Z6.ext hEz (by omega)
  have x7 := x1.below T7
  have y7 := y1.below T7
  have mc7 := F7.cell
  have sz7 : w6.heap.size ≤ wz.heap.size := hEz.size
  generalize wz = w7 at *
  clear hEz hJz mc6 O6
  obtain ⟨w9, hw9⟩ : ∃ w9, w7.alloc (.cells #[.slice A7 12 c7, .slice B1 m1 d1] 24) = w9 := ⟨_, rfl⟩
  have G9 : Blk w9 w7.heap.size #[.slice A7 12 c7, .slice B1 m1 d1] 24 := by rw [← hw9]; exact blk_new w7 _ _ _ rfl
  have V9 : Below w7.heap.size w7 w9 := by first | exact bw1 hw9 | exact bw2 hw9 | exact bw3 hw9 | exact bw4 hw9
  have o7 := O7.bs
  have hcat := isCat2 G9 (o7.below V9) (y7.below V9) (cc := 2) (by omega)
  have T9 := below_then T7 V9
  have pc7 := P7.cell
  have s9 := (below_then R1 T9).size
  have kz : k + 1 + 1 < w9.heap.size := (Z7.below V9).lt
  go_wp2_with (go_at_call 61; ((with_reducible refine (hw2 w9 _ hcat (x7.below V9)).mono ?_); rintro e w10 ⟨⟨C1, e1, f1, C2, e2, f2, rfl, O1, O2, hB10⟩⟩); have T10 := below_then T9 hB10; have Z10 := Z1.below T10; have zc10 := Z10.cell)
  obtain ⟨wf, hwf, Sf⟩ := store9 Z10 (.int .u8 Q.tos) (.int .u16 Q.id) (.bool Q.keep) (.int .u8 Q.ttl) (.int .u8 Q.proto) (.int .u32 Q.src) (.int .u32 Q.dst) (.slice C1 e1 f1) (.slice C2 e2 f2)
  rw [hwf]
  have pf := Sf.blk.cell
  have Of := Sf.own O1 (fun a e => by have := O1.ge a e; omega)
  have Df := Sf.own O2 (fun a e => by have := O2.ge a e; omega)
  refine bodyPost_ret (v := .tuple #[(.agg #[.int .u8 (Q).tos, .int .u16 (Q).id, .bool (Q).keep, .int .u8 (Q).ttl, .int .u8 (Q).proto, .int .u32 (Q).src, .int .u32 (Q).dst, .slice C1 e1 f1, .slice C2 e2 f2]), .int .i64 E]) (by simp [results, Tryz.results100, go_sem, pf]) rfl ⟨⟨C1, e1, f1, C2, e2, f2, rfl, Of.mono s9, Df.mono s9, Sf.bel (below_then R1 T10) (by omega)⟩⟩
theorem bg_ok11 (p : Pkt) (A1 : Option Addr) (n1 c1 : Nat) (A2 : Option Addr) (n2 c2 : Nat) (call : Int) (hca : 0 ≤ call ∧ call ≤ 65535) (seq ack : Int) (hse : 0 ≤ seq ∧ seq ≤ 4294967295) (hak : 0 ≤ ack ∧ ack ≤ 4294967295) (dat : List UInt8) (B1 : Option Addr) (m1 d1 : Nat) (w : World) (k1 : Bs w A1 n1 c1 p.opt) (j1 : Bs w B1 m1 d1 dat)
    (Q : Pkt) (E : Int) (hw2 : ∀ W lv, isCat lv ((((grB true true ++ two ((m1 : Int) % 65536) ++ two call) ++ four seq) ++ four ack) ++ dat) W → Bs W A1 n1 c1 p.opt → Calls Tryz.prog 61 #[(.agg #[.int .u8 (p).tos, .int .u16 (p).id, .bool (p).keep, .int .u8 (p).ttl, .int .u8 (p).proto, .int .u32 (p).src, .int .u32 (p).dst, .slice A1 n1 c1, .slice A2 n2 c2]), .int .u8 47, lv] W (WiPost W Q E)) (hm1 : m1 ≤ 140737488400000) :
    Calls Tryz.prog 100 #[(.agg #[.int .u8 (p).tos, .int .u16 (p).id, .bool (p).keep, .int .u8 (p).ttl, .int .u8 (p).proto, .int .u32 (p).src, .int .u32 (p).dst, .slice A1 n1 c1, .slice A2 n2 c2]), .agg #[.int .u16 call, .bool true, .bool true, .int .u32 seq, .int .u32 ack, .slice B1 m1 d1]] w (WiPost w Q E) := by
  have b1 := j1.max
  obtain ⟨ca0, ca1⟩ := hca
  obtain ⟨se0, se1⟩ := hse
  obtain ⟨ak0, ak1⟩ := hak
  obtain ⟨z, hz⟩ : ∃ z : Int, (m1 : Int) % 65536 = z := ⟨_, rfl⟩
  have z0 : 0 ≤ z := by omega
  have z1 : z ≤ 65535 := by omega
  have hzw : IntKind.u16.wrap (m1 : Int) = z := by rw [← hz]; simp [IntKind.wrap, IntKind.signed, IntKind.bits]
  rw [hz] at hw2
  have H1 : Hid (put16 ([ub (b0F true), ub (b1F true), ub 136, ub 11] ++ [0, 0, 0, 0]) 4 z = grB true true ++ two z ++ [0, 0]) := by unfold Hid; simp [put16, putK, two, grB]
  have H2 : Hid (put16 (grB true true ++ two z ++ [0, 0]) 6 call = grB true true ++ two z ++ two call) := by unfold Hid; simp [put16, putK, two, grB]
  have hl4 : (cu [0, 0, 0, 0]).toArray = #[.int .u8 0, .int .u8 0, .int .u8 0, .int .u8 0] := rfl
  obtain ⟨k, hk⟩ : ∃ k : Nat, w.heap.size = k := ⟨_, rfl⟩
  obtain ⟨w1, hw1⟩ : ∃ w1, ((w.alloc (.cells #[.int .u8 (p).tos, .int .u16 (p).id, .bool (p).keep, .int .u8 (p).ttl, .int .u8 (p).proto, .int .u32 (p).src, .int .u32 (p).dst, .slice A1 n1 c1, .slice A2 n2 c2] 26)).alloc (.cells #[.int .u16 call, .bool true, .bool true, .int .u32 seq, .int .u32 ack, .slice B1 m1 d1] 68)).alloc (.cells #[.int .u8 0, .int .u16 0, .bool false, .int .u8 0, .int .u8 0, .int .u32 0, .int .u32 0, .slice none 0 0, .slice none 0 0] 26) = w1 := ⟨_, rfl⟩
  have P1 : Blk w1 k #[.int .u8 (p).tos, .int .u16 (p).id, .bool (p).keep, .int .u8 (p).ttl, .int .u8 (p).proto, .int .u32 (p).src, .int .u32 (p).dst, .slice A1 n1 c1, .slice A2 n2 c2] 26 := by rw [← hw1]; exact ((blk_new w _ _ k hk).alloc _).alloc _
  have F1 : Blk w1 (k + 1) #[.int .u16 call, .bool true, .bool true, .int .u32 seq, .int .u32 ack, .slice B1 m1 d1] 68 := by rw [← hw1]; exact (blk_new _ _ _ (k + 1) (by simp [hk])).alloc _
  have Z1 : Blk w1 (k + 1 + 1) #[.int .u8 0, .int .u16 0, .bool false, .int .u8 0, .int .u8 0, .int .u32 0, .int .u32 0, .slice none 0 0, .slice none 0 0] 26 := by rw [← hw1]; exact blk_new _ _ _ (k + 1 + 1) (by simp [hk])
  have R1 : Below w.heap.size w w1 := by first | exact bw1 hw1 | exact bw2 hw1 | exact bw3 hw1 | exact bw4 hw1
  have x1 := k1.below R1
  have y1 := j1.below R1
  have mc := F1.cell
  have zl1 := Z1.lt
  go_enter Tryz.func100, Tryz.ntmps100
  go_wp2_with (first
    | (go_at_call 113; ((with_reducible refine (begin_any true true _).mono ?_); rintro e w2 ⟨rfl, hB2⟩); (obtain ⟨w3, hw3⟩ : ∃ w3, w2.alloc (.cells #[.int .u8 (b0F true), .int .u8 (b1F true), .int .u8 136, .int .u8 11] 155) = w3 := ⟨_, rfl⟩); have G3 : Blk w3 w2.heap.size #[.int .u8 (b0F true), .int .u8 (b1F true), .int .u8 136, .int .u8 11] 155 := (by rw [← hw3]; exact blk_new w2 _ _ _ rfl); have V3 : Below w2.heap.size w2 w3 := (by first | exact bw1 hw3 | exact bw2 hw3 | exact bw3 hw3 | exact bw4 hw3); (obtain ⟨A4, c4, w4, hrun, O4, hB4⟩ := app_first w3 w2.heap.size (b0F true) (b1F true) (b0F_bd _).1 (b0F_bd _).2 (b1F_bd _).1 (b1F_bd _).2 G3))
    | (at_builtin; refine Lib.wpList_append_run _ rfl _ _ _ _ rfl _ _ rfl rfl _ _ hrun ?_))
  have T3 := below_then hB2 V3
  have T4 := below_then T3 hB4
  have F4 := F1.below T4
  have o4 := O4.bs
  have s3 := T3.size
  have s4 := hB4.size
  have hc4 : 8 ≤ c4 := o4.cap
  refine region_txt 9 (by kernel_rfl) (by kernel_rfl) ?_; (iterate 9 (first | (apply ObsK.skip (by rfl)) | (apply ObsK.v (by rfl); (intro wo hT; (repeat (first | (intro v hv; ((obtain ⟨A5, n5, c5, rfl, o5⟩ := hv; have u5 : n5 = 8 := (by rw [← o5.len]; rfl); subst u5; have ob5 := o5.bs))) | (intro _ _ k; try have hcv := cv k))); (have mc := (F4.below hT).cell; have bo := o4.below hT; have hsz : w4.heap.size ≤ wo.heap.size := hT.size); refine Goes.mk ?_; go_simp; first | exact goes_v | exact goes_b (by assumption) | (refine goes_enter ?_; first | (go_at_call 20; ((with_reducible refine (put16_any A4 8 c4 _ 4 z z0 z1 wo bo).mono ?_); rintro e w9 ⟨A9, c9, rfl, ho9, hB9⟩); rw [H1.out] at ho9; exact ret_p (own_isW ho9 hsz) hB9) | (go_at_call 20; ((with_reducible refine (put16_any A5 8 c5 _ 6 call ca0 ca1 wo ob5).mono ?_); rintro e w9 ⟨A9, c9, rfl, ho9, hB9⟩); rw [H2.out] at ho9; exact ret_p (own_isW ho9 hsz) hB9)))) | (apply ObsK.b (by rfl); (intro wo hT; (repeat (first | (intro v hv; ((obtain ⟨A5, n5, c5, rfl, o5⟩ := hv; have u5 : n5 = 8 := (by rw [← o5.len]; rfl); subst u5; have ob5 := o5.bs))) | (intro _ _ k; try have hcv := cv k))); (have mc := (F4.below hT).cell; have bo := o4.below hT; have hsz : w4.heap.size ≤ wo.heap.size := hT.size); refine Goes.mk ?_; go_simp; first | exact goes_v | exact goes_b (by assumption) | (refine goes_enter ?_; first | (go_at_call 20; ((with_reducible refine (put16_any A4 8 c4 _ 4 z z0 z1 wo bo).mono ?_); rintro e w9 ⟨A9, c9, rfl, ho9, hB9⟩); rw [H1.out] at ho9; exact ret_p (own_isW ho9 hsz) hB9) | (go_at_call 20; ((with_reducible refine (put16_any A5 8 c5 _ 6 call ca0 ca1 wo ob5).mono ?_); rintro e w9 ⟨A9, c9, rfl, ho9, hB9⟩); rw [H2.out] at ho9; exact ret_p (own_isW ho9 hsz) hB9)))) | (apply ObsK.p (q := isW w4.heap.size _) (by rfl) st_isW; (intro wo hT; (repeat (first | (intro v hv; ((obtain ⟨A5, n5, c5, rfl, o5⟩ := hv; have u5 : n5 = 8 := (by rw [← o5.len]; rfl); subst u5; have ob5 := o5.bs))) | (intro _ _ k; try have hcv := cv k))); (have mc := (F4.below hT).cell; have bo := o4.below hT; have hsz : w4.heap.size ≤ wo.heap.size := hT.size); refine Goes.mk ?_; go_simp; first | exact goes_v | exact goes_b (by assumption) | (refine goes_enter ?_; first | (go_at_call 20; ((with_reducible refine (put16_any A4 8 c4 _ 4 z z0 z1 wo bo).mono ?_); rintro e w9 ⟨A9, c9, rfl, ho9, hB9⟩); rw [H1.out] at ho9; exact ret_p (own_isW ho9 hsz) hB9) | (go_at_call 20; ((with_reducible refine (put16_any A5 8 c5 _ 6 call ca0 ca1 wo ob5).mono ?_); rintro e w9 ⟨A9, c9, rfl, ho9, hB9⟩); rw [H2.out] at ho9; exact ret_p (own_isW ho9 hsz) hB9)))))); refine ObsK.nil ?_; intro wz hBz; simp only [finOn, List.drop_succ_cons, List.drop_zero, List.drop_nil]
  rintro v6 ⟨A6, n6, c6, rfl, O6⟩ v7 hv7
  clear hv7
  have u6 : n6 = 8 := by rw [← O6.len]; rfl
  subst u6
  go_simp
  have T6 := below_then T4 hBz
  have P6 := P1.below T6
  have F6 := F1.below T6
  have Z6 := Z1.below T6
  have x6 := x1.below T6
  have y6 := y1.below T6
  have mc6 := F6.cell
  have sz6 := hBz.size
  generalize wz = w6 at *
  clear hBz o4 O4 hrun hB4 G3 hw3 V3 T3 F4 hw1 mc T4
  go_wp2_with fail
  obtain ⟨g7, rfl, gl7, gh7⟩ := O6.ptr (by omega)
  have H7a : Hid (put32 ((grB true true ++ two z ++ two call) ++ [0, 0, 0, 0]) 8 seq = (grB true true ++ two z ++ two call) ++ four seq) := by unfold Hid; simp [put32, putK, two, four, grB]
  have sl7 : w1.heap.size ≤ g7 := by omega
  refine regionX 8 [2] g7 (fun c W => match c with | 0 => Own W w4.heap.size 5 (some ⟨g7, 0, none⟩) 8 c6 (grB true true ++ two z ++ two call) | _ + 1 => True) (by kernel_rfl) (by kernel_rfl) (by kernel_rfl) O6 (fun c W W' hj hb => by cases c with | zero => exact Own.below hj hb | succ n => trivial) ?_; (iterate 8 (first | (apply ObsX.skip (by rfl) (by rfl)) | (apply ObsX.v (by rfl) (by rfl); (intro wo hE; (repeat (first | (intro v hv; ((first | (obtain ⟨Aq, cq, rfl, oq, oq'⟩ := hv) | (obtain ⟨Ap, np, cp, rfl, op⟩ := hv; have up : np = 12 := (by rw [← op.len]; rfl); subst up; have obp := op.bs)))) | (intro _ _ k; try have hcv := cv k))); (have mc := (F6.ext hE (by omega)).cell; have hsz := hE.size; have glx := gh7); refine Goes.mk ?_; first | (exact goes_appX _ _ rfl rfl hj (fun k e => by simp [Value.ownBlock] at e; exact e.symm) rfl oq (by omega) (by omega) (fun _ => trivial)) | (go_simp; first | exact goes_v | exact goes_litN hl4 rfl (by omega) (by omega) | (refine goes_enter ?_; first | (go_at_call 19; ((with_reducible refine (put32_any Ap 12 cp _ 8 seq se0 se1 wo obp).mono ?_); rintro e w9 ⟨A9, c9, rfl, ho9, hB9⟩); rw [H7a.out] at ho9; exact ret_p (own_isW ho9 hsz) hB9))))) | (apply ObsX.p (q := isN g7 4 [0, 0, 0, 0]) (by rfl) (by rfl) st_isN sx_isN; (intro wo hE; (repeat (first | (intro v hv; ((first | (obtain ⟨Aq, cq, rfl, oq, oq'⟩ := hv) | (obtain ⟨Ap, np, cp, rfl, op⟩ := hv; have up : np = 12 := (by rw [← op.len]; rfl); subst up; have obp := op.bs)))) | (intro _ _ k; try have hcv := cv k))); (have mc := (F6.ext hE (by omega)).cell; have hsz := hE.size; have glx := gh7); refine Goes.mk ?_; first | (exact goes_appX _ _ rfl rfl hj (fun k e => by simp [Value.ownBlock] at e; exact e.symm) rfl oq (by omega) (by omega) (fun _ => trivial)) | (go_simp; first | exact goes_v | exact goes_litN hl4 rfl (by omega) (by omega) | (refine goes_enter ?_; first | (go_at_call 19; ((with_reducible refine (put32_any Ap 12 cp _ 8 seq se0 se1 wo obp).mono ?_); rintro e w9 ⟨A9, c9, rfl, ho9, hB9⟩); rw [H7a.out] at ho9; exact ret_p (own_isW ho9 hsz) hB9))))) | (apply ObsX.p (q := isW w6.heap.size _) (by rfl) (by rfl) st_isW (sx_isW gh7); (intro wo hE; (repeat (first | (intro v hv; ((first | (obtain ⟨Aq, cq, rfl, oq, oq'⟩ := hv) | (obtain ⟨Ap, np, cp, rfl, op⟩ := hv; have up : np = 12 := (by rw [← op.len]; rfl); subst up; have obp := op.bs)))) | (intro _ _ k; try have hcv := cv k))); (have mc := (F6.ext hE (by omega)).cell; have hsz := hE.size; have glx := gh7); refine Goes.mk ?_; first | (exact goes_appX _ _ rfl rfl hj (fun k e => by simp [Value.ownBlock] at e; exact e.symm) rfl oq (by omega) (by omega) (fun _ => trivial)) | (go_simp; first | exact goes_v | exact goes_litN hl4 rfl (by omega) (by omega) | (refine goes_enter ?_; first | (go_at_call 19; ((with_reducible refine (put32_any Ap 12 cp _ 8 seq se0 se1 wo obp).mono ?_); rintro e w9 ⟨A9, c9, rfl, ho9, hB9⟩); rw [H7a.out] at ho9; exact ret_p (own_isW ho9 hsz) hB9))))) | (apply ObsX.ev (by rfl) (by rfl); (intro wo hE hj; (repeat (first | (intro v hv; ((first | (obtain ⟨Aq, cq, rfl, oq, oq'⟩ := hv) | (obtain ⟨Ap, np, cp, rfl, op⟩ := hv; have up : np = 12 := (by rw [← op.len]; rfl); subst up; have obp := op.bs)))) | (intro _ _ k; try have hcv := cv k))); (have mc := (F6.ext hE (by omega)).cell; have hsz := hE.size; have glx := gh7); refine GoesX.mk ?_; first | (exact goes_appX _ _ rfl rfl hj (fun k e => by simp [Value.ownBlock] at e; exact e.symm) rfl oq (by omega) (by omega) (fun _ => trivial)) | (go_simp; first | exact goes_v | exact goes_litN hl4 rfl (by omega) (by omega) | (refine goes_enter ?_; first | (go_at_call 19; ((with_reducible refine (put32_any Ap 12 cp _ 8 seq se0 se1 wo obp).mono ?_); rintro e w9 ⟨A9, c9, rfl, ho9, hB9⟩); rw [H7a.out] at ho9; exact ret_p (own_isW ho9 hsz) hB9))))) | (apply ObsX.ep (q := isN g7 4 [0, 0, 0, 0]) (by rfl) (by rfl) (by rfl) st_isN; (intro wo hE hj; (repeat (first | (intro v hv; ((first | (obtain ⟨Aq, cq, rfl, oq, oq'⟩ := hv) | (obtain ⟨Ap, np, cp, rfl, op⟩ := hv; have up : np = 12 := (by rw [← op.len]; rfl); subst up; have obp := op.bs)))) | (intro _ _ k; try have hcv := cv k))); (have mc := (F6.ext hE (by omega)).cell; have hsz := hE.size; have glx := gh7); refine GoesX.mk ?_; first | (exact goes_appX _ _ rfl rfl hj (fun k e => by simp [Value.ownBlock] at e; exact e.symm) rfl oq (by omega) (by omega) (fun _ => trivial)) | (go_simp; first | exact goes_v | exact goes_litN hl4 rfl (by omega) (by omega) | (refine goes_enter ?_; first | (go_at_call 19; ((with_reducible refine (put32_any Ap 12 cp _ 8 seq se0 se1 wo obp).mono ?_); rintro e w9 ⟨A9, c9, rfl, ho9, hB9⟩); rw [H7a.out] at ho9; exact ret_p (own_isW ho9 hsz) hB9))))) | (apply ObsX.ep (q := isW w6.heap.size _) (by rfl) (by rfl) (by rfl) st_isW; (intro wo hE hj; (repeat (first | (intro v hv; ((first | (obtain ⟨Aq, cq, rfl, oq, oq'⟩ := hv) | (obtain ⟨Ap, np, cp, rfl, op⟩ := hv; have up : np = 12 := (by rw [← op.len]; rfl); subst up; have obp := op.bs)))) | (intro _ _ k; try have hcv := cv k))); (have mc := (F6.ext hE (by omega)).cell; have hsz := hE.size; have glx := gh7); refine GoesX.mk ?_; first | (exact goes_appX _ _ rfl rfl hj (fun k e => by simp [Value.ownBlock] at e; exact e.symm) rfl oq (by omega) (by omega) (fun _ => trivial)) | (go_simp; first | exact goes_v | exact goes_litN hl4 rfl (by omega) (by omega) | (refine goes_enter ?_; first | (go_at_call 19; ((with_reducible refine (put32_any Ap 12 cp _ 8 seq se0 se1 wo obp).mono ?_); rintro e w9 ⟨A9, c9, rfl, ho9, hB9⟩); rw [H7a.out] at ho9; exact ret_p (own_isW ho9 hsz) hB9))))) | (apply ObsX.ep (q := isW w4.heap.size _) (by rfl) (by rfl) (by rfl) st_isW; (intro wo hE hj; (repeat (first | (intro v hv; ((first | (obtain ⟨Aq, cq, rfl, oq, oq'⟩ := hv) | (obtain ⟨Ap, np, cp, rfl, op⟩ := hv; have up : np = 12 := (by rw [← op.len]; rfl); subst up; have obp := op.bs)))) | (intro _ _ k; try have hcv := cv k))); (have mc := (F6.ext hE (by omega)).cell; have hsz := hE.size; have glx := gh7); refine GoesX.mk ?_; first | (exact goes_appX _ _ rfl rfl hj (fun k e => by simp [Value.ownBlock] at e; exact e.symm) rfl oq (by omega) (by omega) (fun _ => trivial)) | (go_simp; first | exact goes_v | exact goes_litN hl4 rfl (by omega) (by omega) | (refine goes_enter ?_; first | (go_at_call 19; ((with_reducible refine (put32_any Ap 12 cp _ 8 seq se0 se1 wo obp).mono ?_); rintro e w9 ⟨A9, c9, rfl, ho9, hB9⟩); rw [H7a.out] at ho9; exact ret_p (own_isW ho9 hsz) hB9))))))); refine ObsX.nil ?_; intro wz hEz hJz; simp only [finOn, List.drop_succ_cons, List.drop_zero, List.drop_nil]
  rintro v1 ⟨A7, n7, c7, rfl, O7⟩ v2 hv2 v3 hv3
  clear hv2 hv3
  have u7 : n7 = 12 := by rw [← O7.len]; rfl
  subst u7
  go_simp
  have T7 := below_ext T6 hEz sl7 T6.size
  have P7 := P6.ext hEz (by omega)
  have F7 := F6.ext hEz (by omega)
  have Z7 := Z6.ext hEz (by omega)
  have x7 := x1.below T7
  have y7 := y1.below T7
  have mc7 := F7.cell
  have sz7 : w6.heap.size ≤ wz.heap.size := hEz.size
  generalize wz = w7 at *
  clear hEz hJz mc6 O6
  go_wp2_with fail
  obtain ⟨g8, rfl, gl8, gh8⟩ := O7.ptr (by omega)
  have H8a : Hid (put32 (((grB true true ++ two z ++ two call) ++ four seq) ++ [0, 0, 0, 0]) 12 ack = ((grB true true ++ two z ++ two call) ++ four seq) ++ four ack) := by unfold Hid; simp [put32, putK, two, four, grB]
  have sl8 : w1.heap.size ≤ g8 := by omega
  refine regionX 8 [2] g8 (fun c W => match c with | 0 => Own W w6.heap.size 5 (some ⟨g8, 0, none⟩) 12 c7 ((grB true true ++ two z ++ two call) ++ four seq) | _ + 1 => True) (by kernel_rfl) (by kernel_rfl) (by kernel_rfl) O7 (fun c W W' hj hb => by cases c with | zero => exact Own.below hj hb | succ n => trivial) ?_; (iterate 8 (first | (apply ObsX.skip (by rfl) (by rfl)) | (apply ObsX.v (by rfl) (by rfl); (intro wo hE; (repeat (first | (intro v hv; ((first | (obtain ⟨Aq, cq, rfl, oq, oq'⟩ := hv) | (obtain ⟨Ap, np, cp, rfl, op⟩ := hv; have up : np = 16 := (by rw [← op.len]; rfl); subst up; have obp := op.bs)))) | (intro _ _ k; try have hcv := cv k))); (have mc := (F7.ext hE (by omega)).cell; have hsz := hE.size; have glx := gh8); refine Goes.mk ?_; first | (exact goes_appX _ _ rfl rfl hj (fun k e => by simp [Value.ownBlock] at e; exact e.symm) rfl oq (by omega) (by omega) (fun _ => trivial)) | (go_simp; first | exact goes_v | exact goes_litN hl4 rfl (by omega) (by omega) | (refine goes_enter ?_; first | (go_at_call 19; ((with_reducible refine (put32_any Ap 16 cp _ 12 ack ak0 ak1 wo obp).mono ?_); rintro e w9 ⟨A9, c9, rfl, ho9, hB9⟩); rw [H8a.out] at ho9; exact ret_p (own_isW ho9 hsz) hB9))))) | (apply ObsX.p (q := isN g8 4 [0, 0, 0, 0]) (by rfl) (by rfl) st_isN sx_isN; (intro wo hE; (repeat (first | (intro v hv; ((first | (obtain ⟨Aq, cq, rfl, oq, oq'⟩ := hv) | (obtain ⟨Ap, np, cp, rfl, op⟩ := hv; have up : np = 16 := (by rw [← op.len]; rfl); subst up; have obp := op.bs)))) | (intro _ _ k; try have hcv := cv k))); (have mc := (F7.ext hE (by omega)).cell; have hsz := hE.size; have glx := gh8); refine Goes.mk ?_; first | (exact goes_appX _ _ rfl rfl hj (fun k e => by simp [Value.ownBlock] at e; exact e.symm) rfl oq (by omega) (by omega) (fun _ => trivial)) | (go_simp; first | exact goes_v | exact goes_litN hl4 rfl (by omega) (by omega) | (refine goes_enter ?_; first | (go_at_call 19; ((with_reducible refine (put32_any Ap 16 cp _ 12 ack ak0 ak1 wo obp).mono ?_); rintro e w9 ⟨A9, c9, rfl, ho9, hB9⟩); rw [H8a.out] at ho9; exact ret_p (own_isW ho9 hsz) hB9))))) | (apply ObsX.p (q := isW w7.heap.size _) (by rfl) (by rfl) st_isW (sx_isW gh8); (intro wo hE; (repeat (first | (intro v hv; ((first | (obtain ⟨Aq, cq, rfl, oq, oq'⟩ := hv) | (obtain ⟨Ap, np, cp, rfl, op⟩ := hv; have up : np = 16 := (by rw [← op.len]; rfl); subst up; have obp := op.bs)))) | (intro _ _ k; try have hcv := cv k))); (have mc := (F7.ext hE (by omega)).cell; have hsz := hE.size; have glx := gh8); refine Goes.mk ?_; first | (exact goes_appX _ _ rfl rfl hj (fun k e => by simp [Value.ownBlock] at e; exact e.symm) rfl oq (by omega) (by omega) (fun _ => trivial)) | (go_simp; first | exact goes_v | exact goes_litN hl4 rfl (by omega) (by omega) | (refine goes_enter ?_; first | (go_at_call 19; ((with_reducible refine (put32_any Ap 16 cp _ 12 ack ak0 ak1 wo obp).mono ?_); rintro e w9 ⟨A9, c9, rfl, ho9, hB9⟩); rw [H8a.out] at ho9; exact ret_p (own_isW ho9 hsz) hB9))))) | (apply ObsX.ev (by rfl) (by rfl); (intro wo hE hj; (repeat (first | (intro v hv; ((first | (obtain ⟨Aq, cq, rfl, oq, oq'⟩ := hv) | (obtain ⟨Ap, np, cp, rfl, op⟩ := hv; have up : np = 16 := (by rw [← op.len]; rfl); subst up; have obp := op.bs)))) | (intro _ _ k; try have hcv := cv k))); (have mc := (F7.ext hE (by omega)).cell; have hsz := hE.size; have glx := gh8); refine GoesX.mk ?_; first | (exact goes_appX _ _ rfl rfl hj (fun k e => by simp [Value.ownBlock] at e; exact e.symm) rfl oq (by omega) (by omega) (fun _ => trivial)) | (go_simp; first | exact goes_v | exact goes_litN hl4 rfl (by omega) (by omega) | (refine goes_enter ?_; first | (go_at_call 19; ((with_reducible refine (put32_any Ap 16 cp _ 12 ack ak0 ak1 wo obp).mono ?_); rintro e w9 ⟨A9, c9, rfl, ho9, hB9⟩); rw [H8a.out] at ho9; exact ret_p (own_isW ho9 hsz) hB9))))) | (apply ObsX.ep (q := isN g8 4 [0, 0, 0, 0]) (by rfl) (by rfl) (by rfl) st_isN; (intro wo hE hj; (repeat (first | (intro v hv; ((first | (obtain ⟨Aq, cq, rfl, oq, oq'⟩ := hv) | (obtain ⟨Ap, np, cp, rfl, op⟩ := hv; have up : np = 16 := (by rw [← op.len]; rfl); subst up; have obp := op.bs)))) | (intro _ _ k; try have hcv := cv k))); (have mc := (F7.ext hE (by omega)).cell; have hsz := hE.size; have glx := gh8); refine GoesX.mk ?_; first | (exact goes_appX _ _ rfl rfl hj (fun k e => by simp [Value.ownBlock] at e; exact e.symm) rfl oq (by omega) (by omega) (fun _ => trivial)) | (go_simp; first | exact goes_v | exact goes_litN hl4 rfl (by omega) (by omega) | (refine goes_enter ?_; first | (go_at_call 19; ((with_reducible refine (put32_any Ap 16 cp _ 12 ack ak0 ak1 wo obp).mono ?_); rintro e w9 ⟨A9, c9, rfl, ho9, hB9⟩); rw [H8a.out] at ho9; exact ret_p (own_isW ho9 hsz) hB9))))) | (apply ObsX.ep (q := isW w7.heap.size _) (by rfl) (by rfl) (by rfl) st_isW; (intro wo hE hj; (repeat (first | (intro v hv; ((first | (obtain ⟨Aq, cq, rfl, oq, oq'⟩ := hv) | (obtain ⟨Ap, np, cp, rfl, op⟩ := hv; have up : np = 16 := (by rw [← op.len]; rfl); subst up; have obp := op.bs)))) | (intro _ _ k; try have hcv := cv k))); (have mc := (F7.ext hE (by omega)).cell; have hsz := hE.size; have glx := gh8); refine GoesX.mk ?_; first | (exact goes_appX _ _ rfl rfl hj (fun k e => by simp [Value.ownBlock] at e; exact e.symm) rfl oq (by omega) (by omega) (fun _ => trivial)) | (go_simp; first | exact goes_v | exact goes_litN hl4 rfl (by omega) (by omega) | (refine goes_enter ?_; first | (go_at_call 19; ((with_reducible refine (put32_any Ap 16 cp _ 12 ack ak0 ak1 wo obp).mono ?_); rintro e w9 ⟨A9, c9, rfl, ho9, hB9⟩); rw [H8a.out] at ho9; exact ret_p (own_isW ho9 hsz) hB9))))) | (apply ObsX.ep (q := isW w6.heap.size _) (by rfl) (by rfl) (by rfl) st_isW; (intro wo hE hj; (repeat (first | (intro v hv; ((first | (obtain ⟨Aq, cq, rfl, oq, oq'⟩ := hv) | (obtain ⟨Ap, np, cp, rfl, op⟩ := hv; have up : np = 16 := (by rw [← op.len]; rfl); subst up; have obp := op.bs)))) | (intro _ _ k; try have hcv := cv k))); (have mc := (F7.ext hE (by omega)).cell; have hsz := hE.size; have glx := gh8); refine GoesX.mk ?_; first | (exact goes_appX _ _ rfl rfl hj (fun k e => by simp [Value.ownBlock] at e; exact e.symm) rfl oq (by omega) (by omega) (fun _ => trivial)) | (go_simp; first | exact goes_v | exact goes_litN hl4 rfl (by omega) (by omega) | (refine goes_enter ?_; first | (go_at_call 19; ((with_reducible refine (put32_any Ap 16 cp _ 12 ack ak0 ak1 wo obp).mono ?_); rintro e w9 ⟨A9, c9, rfl, ho9, hB9⟩); rw [H8a.out] at ho9; exact ret_p (own_isW ho9 hsz) hB9))))))); refine ObsX.nil ?_; intro wz hEz hJz; simp only [finOn, List.drop_succ_cons, List.drop_zero, List.drop_nil]
  rintro v1 ⟨A8, n8, c8, rfl, O8⟩ v2 hv2 v3 hv3
  clear hv2 hv3
  have u8 : n8 = 16 := by rw [← O8.len]; rfl
  subst u8
  go_simp
  have T8 := below_ext T7 hEz sl8 T7.size
  have P8 := P7.ext hEz (by omega)
  have F8 := F7.ext hEz (by omega)
  have Z8 := Z7.ext hEz (by omega)
  have x8 := x1.below T8
  have y8 := y1.below T8
  have mc8 := F8.cell
  have sz8 : w7.heap.size ≤ wz.heap.size := hEz.size
  generalize wz = w8 at *
  clear hEz hJz mc7 O7
  obtain ⟨w9, hw9⟩ : ∃ w9, w8.alloc (.cells #[.slice A8 16 c8, .slice B1 m1 d1] 24) = w9 := ⟨_, rfl⟩
  have G9 : Blk w9 w8.heap.size #[.slice A8 16 c8, .slice B1 m1 d1] 24 := by rw [← hw9]; exact blk_new w8 _ _ _ rfl
  have V9 : Below w8.heap.size w8 w9 := by first | exact bw1 hw9 | exact bw2 hw9 | exact bw3 hw9 | exact bw4 hw9
  have o8 := O8.bs
  have hcat := isCat2 G9 (o8.below V9) (y8.below V9) (cc := 2) (by omega)
  have T9 := below_then T8 V9
  have pc8 := P8.cell
  have s9 := (below_then R1 T9).size
  have kz : k + 1 + 1 < w9.heap.size := (Z8.below V9).lt
  go_wp2_with (go_at_call 61; ((with_reducible refine (hw2 w9 _ hcat (x8.below V9)).mono ?_); rintro e w10 ⟨⟨C1, e1, f1, C2, e2, f2, rfl, O1, O2, hB10⟩⟩); have T10 := below_then T9 hB10; have Z10 := Z1.below T10; have zc10 := Z10.cell)
  obtain ⟨wf, hwf, Sf⟩ := store9 Z10 (.int .u8 Q.tos) (.int .u16 Q.id) (.bool Q.keep) (.int .u8 Q.ttl) (.int .u8 Q.proto) (.int .u32 Q.src) (.int .u32 Q.dst) (.slice C1 e1 f1) (.slice C2 e2 f2)
  rw [hwf]
  have pf := Sf.blk.cell
  have Of := Sf.own O1 (fun a e => by have := O1.ge a e; omega)
  have Df := Sf.own O2 (fun a e => by have := O2.ge a e; omega)
  refine bodyPost_ret (v := .tuple #[(.agg #[.int .u8 (Q).tos, .int .u16 (Q).id, .bool (Q).keep, .int .u8 (Q).ttl, .int .u8 (Q).proto, .int .u32 (Q).src, .int .u32 (Q).dst, .slice C1 e1 f1, .slice C2 e2 f2]), .int .i64 E]) (by simp [results, Tryz.results100, go_sem, pf]) rfl ⟨⟨C1, e1, f1, C2, e2, f2, rfl, Of.mono s9, Df.mono s9, Sf.bel (below_then R1 T10) (by omega)⟩⟩
theorem bg_any (p : Pkt) (A1 : Option Addr) (n1 c1 : Nat) (A2 : Option Addr) (n2 c2 : Nat) (f : Frm) (hf : f.Ok) (B1 : Option Addr) (m1 d1 : Nat) (w : World) (k1 : Bs w A1 n1 c1 p.opt) (j1 : Bs w B1 m1 d1 f.dat) (hm1 : m1 ≤ 140737488400000) :
    Calls Tryz.prog 100 #[(.agg #[.int .u8 (p).tos, .int .u16 (p).id, .bool (p).keep, .int .u8 (p).ttl, .int .u8 (p).proto, .int .u32 (p).src, .int .u32 (p).dst, .slice A1 n1 c1, .slice A2 n2 c2]), (.agg #[.int .u16 (f).call, .bool (f).hs, .bool (f).ha, .int .u32 (f).seq, .int .u32 (f).ack, .slice B1 m1 d1])] w (WiPost w (bgP p f) (bgE p f)) := by
  cases hb : gBad f with
  | true =>
    unfold bgP bgE
    rw [hb, if_pos rfl, if_pos rfl]
    exact bg_bad p A1 n1 c1 A2 n2 c2 f B1 m1 d1 w k1 j1 hb
  | false =>
    have hw2 : ∀ W lv, isCat lv (gL f) W → Bs W A1 n1 c1 p.opt → Calls Tryz.prog 61 #[(.agg #[.int .u8 (p).tos, .int .u16 (p).id, .bool (p).keep, .int .u8 (p).ttl, .int .u8 (p).proto, .int .u32 (p).src, .int .u32 (p).dst, .slice A1 n1 c1, .slice A2 n2 c2]), .int .u8 47, lv] W (WiPost W (bgP p f) (bgE p f)) := fun W lv hc kk => by
      have hn : gN f ≤ 140737488400016 := by
        unfold gN; rw [j1.len]; split <;> split <;> omega
      have hh := with_any p A1 n1 c1 A2 n2 c2 47 lv (gL f) W kk hc (by rw [gL_len]; omega)
      unfold bgP bgE
      rw [hb, if_neg (by decide), if_neg (by decide)]
      rw [gL_len] at hh
      exact hh
    have jl := j1.len
    obtain ⟨call, hs, ha, seq, ack, dat⟩ := f
    simp only at jl
    subst jl
    obtain ⟨c0, s0, a0⟩ := hf
    cases hs <;> cases ha
    · have h1 : (seq != 0) = false ∧ (ack != 0) = false := by
        revert hb; unfold gBad; cases (seq != 0) <;> cases (ack != 0) <;> simp
      exact bg_ok00 p A1 n1 c1 A2 n2 c2 call c0 seq ack s0 a0 h1.1 h1.2 dat B1 _ d1 w k1 j1 _ _ (fun W lv hc kk => hw2 W lv (by simpa [gL, gH] using hc) kk) hm1
    · have h1 : (seq != 0) = false := by
        revert hb; unfold gBad; cases (seq != 0) <;> simp
      exact bg_ok01 p A1 n1 c1 A2 n2 c2 call c0 seq ack s0 a0 h1 dat B1 _ d1 w k1 j1 _ _ (fun W lv hc kk => hw2 W lv (by simpa [gL, gH] using hc) kk) hm1
    · have h1 : (ack != 0) = false := by
        revert hb; unfold gBad; cases (ack != 0) <;> simp
      exact bg_ok10 p A1 n1 c1 A2 n2 c2 call c0 seq ack s0 a0 h1 dat B1 _ d1 w k1 j1 _ _ (fun W lv hc kk => hw2 W lv (by simpa [gL, gH] using hc) kk) hm1
    · exact bg_ok11 p A1 n1 c1 A2 n2 c2 call c0 seq ack s0 a0 dat B1 _ d1 w k1 j1 _ _ (fun W lv hc kk => hw2 W lv (by simpa [gL, gH] using hc) kk) hm1
def sB (l : List UInt8) : Bool := bt l 0 == 48
def aB (l : List UInt8) : Bool := bt l 1 == 129
def begB (l : List UInt8) : Bool := (bt l 0 == 32 || bt l 0 == 48) && (bt l 1 == 1 || bt l 1 == 129) && bt l 2 == 136 && bt l 3 == 11
def hdG (l : List UInt8) : Nat := 8 + (if sB l then 4 else 0) + (if aB l then 4 else 0)
def geE (p : Pkt) : Int := if p.proto ≠ 47 then 12 else if (p.dat.length : Int) < 8 then 3 else if begB p.dat = false then 4 else if (p.dat.length : Int) < hdG p.dat + get16 p.dat 4 then 3 else if hdG p.dat + get16 p.dat 4 < (p.dat.length : Int) then 4 else 0
def rdF (l : List UInt8) : Frm := ⟨get16 l 6, sB l, aB l, if sB l then get32 l 8 else 0, if aB l then get32 l (if sB l then 12 else 8) else 0, l.drop (hdG l)⟩
def geF (p : Pkt) : Frm := if geE p = 0 then rdF p.dat else zF
theorem rdF_ok (l : List UInt8) : (rdF l).Ok := by
  refine ⟨⟨get16_lo _ _, get16_hi _ _⟩, ?_, ?_⟩
  · show 0 ≤ (if sB l then get32 l 8 else 0) ∧ (if sB l then get32 l 8 else 0) ≤ 4294967295
    split
    · exact ⟨get32_lo _ _, get32_hi _ _⟩
    · exact ⟨by decide, by decide⟩
  · show 0 ≤ (if aB l then get32 l (if sB l then 12 else 8) else 0) ∧ (if aB l then get32 l (if sB l then 12 else 8) else 0) ≤ 4294967295
    split
    · exact ⟨get32_lo _ _, get32_hi _ _⟩
    · exact ⟨by decide, by decide⟩
theorem geF_ok (p : Pkt) : (geF p).Ok := by
  unfold geF; split
  · exact rdF_ok _
  · exact zF_ok
structure FrPost (w : World) (F : Frm) (E : Int) (e : Ending) (w' : World) : Prop where
  out : ∃ B m d, e = .returned (.tuple #[(.agg #[.int .u16 (F).call, .bool (F).hs, .bool (F).ha, .int .u32 (F).seq, .int .u32 (F).ack, .slice B m d]), .int .i64 E]) ∧ Own w' w.heap.size 5 B m d F.dat ∧ Below w.heap.size w w'
theorem frPost_no {w w' : World} {E : Int} (hB : Below w.heap.size w w') : FrPost w zF E (.returned (.tuple #[.agg #[.int .u16 0, .bool false, .bool false, .int .u32 0, .int .u32 0, .slice none 0 0], .int .i64 E])) w' :=
  ⟨none, 0, 0, rfl, own_nil _ _ _, hB⟩

end Go.Proofs.YtjhpmeagopdaiaaGreat
namespace Go.Proofs.YtjhpmeagopdaiaaGreat
open Go.RowKit Go.MapKept
set_option linter.unusedVariables false
set_option linter.unusedSimpArgs false
set_option maxHeartbeats 4000000
set_option maxRecDepth 100000
def wayT : Value := .agg #[.func (.func 81) #[] #[], .func (.func 80) #[] #[]]
def wayU : Value := .agg #[.func (.func 82) #[] #[], .func (.func 80) #[] #[]]
def wayI : Value := .agg #[.func (.func 83) #[] #[], .func (.func 84) #[] #[]]
def wayG : Value := .agg #[.func (.func 85) #[] #[], .func (.func 86) #[] #[]]
def kn : Nat → Array MapEntry
  | 0 => #[]
  | 1 => #[⟨.int .u8 6, wayT, 0⟩]
  | 2 => #[⟨.int .u8 6, wayT, 0⟩, ⟨.int .u8 17, wayU, 1⟩]
  | 3 => #[⟨.int .u8 6, wayT, 0⟩, ⟨.int .u8 17, wayU, 1⟩, ⟨.int .u8 1, wayI, 2⟩]
  | _ => #[⟨.int .u8 6, wayT, 0⟩, ⟨.int .u8 17, wayU, 1⟩, ⟨.int .u8 1, wayI, 2⟩, ⟨.int .u8 47, wayG, 3⟩]
theorem push_setK {α : Type} (h : Array α) (x y : α) : (h.push x).setIfInBounds h.size y = h.push y := by
  apply Array.ext_getElem?
  intro i
  simp only [Array.getElem?_setIfInBounds, Array.getElem?_push, Array.size_push]
  by_cases e : i = h.size
  · simp [e]
  · simp [e, Ne.symm e]
theorem run_insertK {w : World} {es es' : Array MapEntry} {c : Nat} (k : Int) (v : Value) (h : Instr.findNow (.int .u8) (.int .u8 k) es.toList 0 = some none) (he : es.push ⟨.int .u8 k, v, c⟩ = es') :
    (Instr.mapUpdate 87 (.map (some w.heap.size)) (.int .u8 k) v).run Tryz.prog (w.alloc (.map es c)) = .ok () (w.alloc (.map es' (c + 1))) := by
  have hb : (w.alloc (.map es c)).heap[w.heap.size]? = some (.map es c) := (heap_alloc w _).1
  have ht := Tryz.underlying87
  have hk := Tryz.underlying5
  have hkey : IsKey (.int .u8) (.int .u8 k) := rfl
  subst he
  simp [Instr.mapUpdate, run_underlying ht, MapKept.run_getObj_map hb, run_checkKey hk hkey, run_findKey hk h, run_setObj_map _ hb, Result.andThen]
  show ({ w with heap := (w.heap.push _).setIfInBounds w.heap.size _ } : World) = _
  rw [push_setK]
  rfl
theorem known_any (w : World) :
    Calls Tryz.prog 49 #[] w fun e w' => e = .returned (.map (some w.heap.size)) ∧ w' = w.alloc (.map (kn 4) 4) := by
  have h0 : (Instr.makeMap 87 none).run Tryz.prog w = .ok (.map (some w.heap.size)) (w.alloc (.map (kn 0) 0)) := rfl
  have h1 := run_insertK (w := w) (es := kn 0) (es' := kn 1) (c := 0) 6 wayT rfl rfl
  have h2 := run_insertK (w := w) (es := kn 1) (es' := kn 2) (c := 1) 17 wayU rfl rfl
  have h3 := run_insertK (w := w) (es := kn 2) (es' := kn 3) (c := 2) 1 wayI rfl rfl
  have h4 := run_insertK (w := w) (es := kn 3) (es' := kn 4) (c := 3) 47 wayG rfl rfl
  unfold wayT at h1; unfold wayU at h2; unfold wayI at h3; unfold wayG at h4
  go_enter Tryz.func49, Tryz.ntmps49
  go_wp2_with fail
  go_ret
  exact ⟨rfl, rfl⟩
def knB (t : Int) : Bool := t == 6 || t == 17 || t == 1 || t == 47
def knV (t : Int) : Value := if t = 6 then wayT else if t = 17 then wayU else if t = 1 then wayI else if t = 47 then wayG else .agg #[.nilFunc, .nilFunc]
theorem run_known {W : World} {r : Nat} (h : W.heap[r]? = some (.map (kn 4) 4)) (t : Int) :
    (Instr.lookup 87 (.map (some r)) (.int .u8 t) true).run Tryz.prog W = .ok (.tuple #[knV t, .bool (knB t)]) W := by
  have ht := Tryz.underlying87
  have hk := Tryz.underlying5
  have hkey : IsKey (.int .u8) (.int .u8 t) := rfl
  have hz : (zeroValue 85).run Tryz.prog W = .ok (.agg #[.nilFunc, .nilFunc]) W := by rfl
  have hemp : (kn 4).isEmpty = false := rfl
  by_cases h6 : t = 6
  · subst h6
    have hf : Instr.findNow (.int .u8) (.int .u8 6) (kn 4).toList 0 = some (some (0, wayT)) := rfl
    simp [Instr.lookup, run_underlying ht, MapKept.run_getObj_map h, run_checkKey hk hkey, run_findKey hk hf, Result.andThen, knV, knB]
  by_cases h17 : t = 17
  · subst h17
    have hf : Instr.findNow (.int .u8) (.int .u8 17) (kn 4).toList 0 = some (some (1, wayU)) := rfl
    simp [Instr.lookup, run_underlying ht, MapKept.run_getObj_map h, run_checkKey hk hkey, run_findKey hk hf, Result.andThen, knV, knB]
  by_cases h1 : t = 1
  · subst h1
    have hf : Instr.findNow (.int .u8) (.int .u8 1) (kn 4).toList 0 = some (some (2, wayI)) := rfl
    simp [Instr.lookup, run_underlying ht, MapKept.run_getObj_map h, run_checkKey hk hkey, run_findKey hk hf, Result.andThen, knV, knB]
  by_cases h47 : t = 47
  · subst h47
    have hf : Instr.findNow (.int .u8) (.int .u8 47) (kn 4).toList 0 = some (some (3, wayG)) := rfl
    simp [Instr.lookup, run_underlying ht, MapKept.run_getObj_map h, run_checkKey hk hkey, run_findKey hk hf, Result.andThen, knV, knB]
  have hf : Instr.findNow (.int .u8) (.int .u8 t) (kn 4).toList 0 = some none := by
    simp [kn, Instr.findNow, Instr.sameNow, beq_eq_false_iff_ne.2 h6, beq_eq_false_iff_ne.2 h17, beq_eq_false_iff_ne.2 h1, beq_eq_false_iff_ne.2 h47]
  simp [Instr.lookup, run_underlying ht, MapKept.run_getObj_map h, run_checkKey hk hkey, run_findKey hk hf, Result.andThen, knV, knB, hz, h6, h17, h1, h47]
structure PtPost (w : World) (a b E : Int) (e : Ending) (w' : World) : Prop where
  out : e = .returned (.tuple #[.agg #[.int .u16 a, .int .u16 b], .int .i64 E]) ∧ Below w.heap.size w w'
theorem pudp_any (p : Pkt) (hp : p.Ok) (A1 : Option Addr) (n1 c1 : Nat) (A2 : Option Addr) (n2 c2 : Nat) (w : World) (k2 : Bs w A2 n2 c2 p.dat) :
    Calls Tryz.prog 82 #[(.agg #[.int .u8 (p).tos, .int .u16 (p).id, .bool (p).keep, .int .u8 (p).ttl, .int .u8 (p).proto, .int .u32 (p).src, .int .u32 (p).dst, .slice A1 n1 c1, .slice A2 n2 c2])] w (PtPost w (udD p).src (udD p).dst (udE p)) := by
  have ht := fun W (h : Bs W A2 n2 c2 p.dat) => udp_any p hp A1 n1 c1 A2 n2 c2 W h
  obtain ⟨s, hs⟩ : ∃ s, udD p = s := ⟨_, rfl⟩
  obtain ⟨E, hE⟩ : ∃ s, udE p = s := ⟨_, rfl⟩
  rw [hs, hE] at ht
  rw [hs, hE]
  clear hs hE
  obtain ⟨k, hk, w1, hw1, P1, Z1, R1⟩ := nwI2 w #[.int .u8 (p).tos, .int .u16 (p).id, .bool (p).keep, .int .u8 (p).ttl, .int .u8 (p).proto, .int .u32 (p).src, .int .u32 (p).dst, .slice A1 n1 c1, .slice A2 n2 c2] 26 #[.int .u16 0, .int .u16 0] 90
  have Pc1 := P1.cell
  have Zc1 := Z1.cell
  have Pl1 := P1.lt
  have Zl1 := Z1.lt
  have x1 := (k2).below R1
  go_enter Tryz.func82, Tryz.ntmps82
  go_wp2_with (go_at_call 97; ((with_reducible refine (ht w1 x1).mono ?_); rintro e u2 ⟨⟨DA, dn, dc, rfl, -, hB2⟩⟩); (obtain ⟨w2, hw2, V2, kS2, hkS2, S2⟩ := nw1 u2 #[.int .u16 (s).src, .int .u16 (s).dst, .bool (s).bare, .slice DA dn dc] 57); have Sc2 := S2.cell; have T2 := below_then hB2 V2; have P2 := P1.below T2; have Pc2 := P2.cell; clear Pc1; have Z2 := Z1.below T2; have Zc2 := Z2.cell; clear Zc1; have x2 := x1.below T2; have R2 := below_then R1 T2)
  obtain ⟨wf, hwf, Sf⟩ := store2 Z2 (.int .u16 s.src) (.int .u16 s.dst)
  rw [hwf]
  have pf := Sf.blk.cell
  exact bodyPost_ret (by simp [results, Tryz.results82, go_sem, pf]) rfl ⟨⟨rfl, Sf.bel R2 (by omega)⟩⟩
def picE (E : Int) (m : Msg) : Int := if E = 0 ∧ isEchoM m = false then 12 else E
structure TtPost (w : World) (T : Tup) (E : Int) (e : Ending) (w' : World) : Prop where
  out : e = .returned (.tuple #[(.agg #[.int .u8 (T).proto, .int .u32 (T).src, .int .u32 (T).dst, .int .u16 (T).sp, .int .u16 (T).dp]), .int .i64 E]) ∧ Below w.heap.size w w'
def tuP (p : Pkt) (a b E : Int) : Tup := if E ≠ 0 then zT else ⟨p.proto, p.src, p.dst, a, b⟩
theorem tupled_any (p : Pkt) (A1 : Option Addr) (n1 c1 : Nat) (A2 : Option Addr) (n2 c2 : Nat) (a b E : Int) (w : World) :
    Calls Tryz.prog 50 #[(.agg #[.int .u8 (p).tos, .int .u16 (p).id, .bool (p).keep, .int .u8 (p).ttl, .int .u8 (p).proto, .int .u32 (p).src, .int .u32 (p).dst, .slice A1 n1 c1, .slice A2 n2 c2]), .agg #[.int .u16 a, .int .u16 b], .int .i64 E] w (TtPost w (tuP p a b E) E) := by
  by_cases h0 : E = 0
  · subst h0
    go_enter Tryz.func50, Tryz.ntmps50
    go_wp2_with fail
    exact bodyPost_ret (v := .tuple #[(.agg #[.int .u8 ((⟨p.proto, p.src, p.dst, a, b⟩ : Tup)).proto, .int .u32 ((⟨p.proto, p.src, p.dst, a, b⟩ : Tup)).src, .int .u32 ((⟨p.proto, p.src, p.dst, a, b⟩ : Tup)).dst, .int .u16 ((⟨p.proto, p.src, p.dst, a, b⟩ : Tup)).sp, .int .u16 ((⟨p.proto, p.src, p.dst, a, b⟩ : Tup)).dp]), .int .i64 0]) (by simp [results, Tryz.results50, go_sem]) rfl ⟨⟨rfl, by (repeat (first | with_reducible exact Below.refl _ _ | with_reducible refine below_drew ?_ | with_reducible refine below_drewN ?_ _ | with_reducible refine below_alloc ?_ (Nat.le_refl _) _ | with_reducible refine Below.setCell ?_ (by first | exact Nat.le_refl _ | (simp only []; omega)) _ | with_reducible assumption))⟩⟩
  · have h0b : (E != 0) = true := by simpa using h0
    have hz : tuP p a b E = zT := by unfold tuP; rw [if_pos h0]
    rw [hz]
    clear h0 hz
    go_enter Tryz.func50, Tryz.ntmps50
    go_wp2_with fail
    exact bodyPost_ret (v := .tuple #[(.agg #[.int .u8 (zT).proto, .int .u32 (zT).src, .int .u32 (zT).dst, .int .u16 (zT).sp, .int .u16 (zT).dp]), .int .i64 E]) (by simp [results, Tryz.results50, go_sem, zT]) rfl ⟨⟨rfl, by (repeat (first | with_reducible exact Below.refl _ _ | with_reducible refine below_drew ?_ | with_reducible refine below_drewN ?_ _ | with_reducible refine below_alloc ?_ (Nat.le_refl _) _ | with_reducible refine Below.setCell ?_ (by first | exact Nat.le_refl _ | (simp only []; omega)) _ | with_reducible assumption))⟩⟩
end Go.Proofs.YtjhpmeagopdaiaaGreat
