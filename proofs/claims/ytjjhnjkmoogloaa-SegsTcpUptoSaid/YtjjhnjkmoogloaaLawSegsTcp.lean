/- The Go law SegsTcp: for every input of at most 1048576 values in all the call returns true and each argument reads as it did. No other condition. -/
import Derived.Test.YtjjhnjkmoogloaaK5
import Derived.Test.YtjjhnjkmoogloaaK1
import Derived.Test.YtjjhnjkmoogloaaRows
import Derived.Test.YtjjhnjkmoogloaaK2
/- The document's reader of options, walked. -/
namespace Go.Proofs.Ytjjhnjkmoogloaa
open Go.RowKit
set_option linter.unusedVariables false
set_option linter.unusedSimpArgs false
set_option maxHeartbeats 8000000
set_option maxRecDepth 100000

theorem opPost_no {w w' : World} {l : List UInt8} (h : optsP l = none) (hB : Below w.heap.size w w') : OpPost w l (.returned (.tuple #[.slice none 0 0, .bool false])) w' :=
  ⟨none, 0, 0, by rw [h]; rfl, (fun os ho => by rw [h] at ho; cases ho), hB⟩
theorem opPost_yes {w w' : World} {l : List UInt8} {os : List Opt} {A : Option Addr} {n c : Nat} (h : optsP l = some os) (hO : OsO w' w.heap.size A n c os) (hB : Below w.heap.size w w') : OpPost w l (.returned (.tuple #[.slice A n c, .bool true])) w' :=
  ⟨A, n, c, by rw [h]; rfl, (fun os' ho => by rw [h] at ho; injection ho with ho; subst ho; exact ⟨hO, by have := optsP_len h; have := hO.len; omega⟩), hB⟩
theorem roptsP_any (A : Option Addr) (n c : Nat) (l : List UInt8) (w : World) (hb : Bs w A n c l) (hn : n ≤ 40) : Calls Try.prog 42 #[.slice A n c] w (OpPost w l) := by
  have HL := Lib.hid hb.len
  have hcap := hb.cap
  obtain ⟨i8, hi8, -, hs8, -⟩ := info_parts info_u8
  go_enter Try.func42, Try.ntmps42
  go_wp2_with fail
  go_loopw [4, 5] (fun out i wr => ∃ (t : Nat) (os : List Opt) (m : Nat) (A' : Option Addr) (c' : Nat), t ≤ n ∧ m ≤ t ∧ i = .int .i64 (t : Int) ∧ out = .slice A' m c' ∧ OsO wr w.heap.size A' m c' os ∧ Below w.heap.size w wr ∧ Hid (optsAt l t os)) (fun _ i _ => n - (intOf i).toNat)
  case atStart => exact ⟨0, [], 0, none, 0, by omega, by omega, rfl, rfl, osO_nil _ _, Below.refl _ _, optsAt_0 l⟩
  case round =>
    obtain ⟨t, os, m, A', c', ht, hm, rfl, rfl, Ok, Bk, hat⟩ := hrel
    by_cases hlt : t < n
    · have hti : (t : Int) < n := by omega
      obtain ⟨b, off, rfl, hc⟩ := (hb.below Bk).rd (by omega)
      have g0 := hc t hlt
      have HC := Lib.hid hc
      obtain ⟨xs, hxs, hj⟩ := Ok.own
      have Hj := Lib.hid hj
      have bks := Bk.size
      obtain ⟨ii, hi, hz', hs', hb'⟩ := info_parts info_opt
      clear hc hj
      rcases nx_ways l t (by rw [HL.out]; exact hlt) with ⟨q0, hnx⟩ | ⟨q0, q1, hnx⟩ | ⟨q0, q1, q2, hnx⟩ | ⟨q0, q1, q2, q3, q4, hnx⟩
      · have hz0 : bt l t = 0 := by simpa using q0
        rw [hz0] at g0
        have HN := Lib.hid hnx
        clear q0 hnx hz0
        go_wp2_with fail
        go_loopw [5] (fun i wr' => ∃ j : Nat, t ≤ j ∧ j ≤ n ∧ i = .int .i64 (j : Int) ∧ wr' = wr ∧ Hid (∀ q, t ≤ q → q < j → bt l q = 0)) (fun i _ => n - (intOf i).toNat)
        case atStart => exact ⟨t, by omega, by omega, rfl, rfl, fun q h1 h2 => by omega⟩
        case round =>
          obtain ⟨j, hj1, hj2, rfl, rfl, Gj⟩ := hrel
          by_cases hlj : j < n
          · have hji : (j : Int) < n := by omega
            have gj := HC.out j hlj
            obtain ⟨x, hx⟩ : ∃ x, bt l j = x := ⟨_, rfl⟩
            rw [hx] at gj
            have HX := Lib.hid hx
            clear hx
            by_cases hq : x = 0
            · subst hq
              go_wp2_with fail
              exact ⟨⟨j + 1, by omega, by omega, by go_num, trivial, fun q h1 h2 => by
                by_cases e : q = j
                · rw [e]; exact HX.out
                · exact Gj.out q h1 (by omega)⟩, by simp [intOf]; omega⟩
            · have hq2 : (x != 0) = true := by simpa using hq
              have HO : Hid (optsP l = none) := by
                refine optsAt_none hat.out ?_
                rw [HN.out, if_neg]
                have := allZ_at (l := l.drop t) (j := j - t) (by rw [List.length_drop, HL.out]; omega) (by rw [bt_drop, show t + (j - t) = j from by omega, HX.out]; exact hq)
                rw [this]; simp
              go_wp2_with fail
              refine bodyPost_ret (v := .tuple #[.slice none 0 0, .bool false]) (by simp [results, Try.results42, go_sem]) rfl ?_
              exact opPost_no HO.out Bk
          · obtain rfl : j = n := by omega
            have HO : Hid (optsP l = some os) := by
              refine optsAt_end hat.out ?_
              rw [HN.out, if_pos]
              exact allZ_all (fun q hq => by rw [List.length_drop, HL.out] at hq; rw [bt_drop]; exact Gj.out _ (by omega) (by omega))
            go_wp2_with fail
            refine bodyPost_ret (v := .tuple #[.slice A' m c', .bool true]) (by simp [results, Try.results42, go_sem]) rfl ?_
            exact opPost_yes HO.out Ok Bk
      · have hz0 : bt l t = 1 := by simpa using q1
        rw [hz0] at g0
        have HS : Hid (optsAt l (t + 1) (os ++ [⟨1, []⟩])) := optsAt_some hat.out hnx
        clear q0 q1 hnx hz0
        go_wp2_with (at_builtin; refine wpList_appG (w0 := w) _ rfl _ _ _ rfl w.heap.size 66 ii (.agg #[.int .u8 0, .slice none 0 0]) 2 32 Try.underlying27 hi hz' hs' hb' rfl (by omega) (by omega) A' m c' xs rfl (hxs.alloc _) ⟨wr.heap.size, 0, none⟩ 1 1 [.int .u8 1, .slice none 0 0] rfl rfl (new2 _ _ _ _) (by intro u h; simp at h; rcases h with rfl | rfl <;> rfl) (below_alloc Bk (by omega) _) (by omega) (by simp; omega) ?_; intro A5 c5 w5 O5 hB5 hG5 hz5)
        have hx2 := hxs.alloc (.cells #[.int .u8 1, .slice none 0 0] 66)
        have OO := (Ok.below ((Below.refl _ wr).alloc (Nat.le_refl _) (.cells #[.int .u8 1, .slice none 0 0] 66))).snoc hx2 (fun j hj => by obtain ⟨a1, B', m', d', a2, a3⟩ := Hj.out j hj; exact ⟨a1, B', m', d', a2, a3.alloc _⟩) hG5 ⟨1, []⟩ (own_nil _ _ _) O5
        exact ⟨⟨t + 1, os ++ [⟨1, []⟩], m + 1, A5, c5, by omega, by omega, by go_num, rfl, OO, hB5, HS⟩, by simp [intOf]; omega⟩
      · have HO := Lib.hid (optsAt_none hat.out hnx)
        obtain ⟨k0, hk0⟩ : ∃ k0, bt l t = k0 := ⟨_, rfl⟩
        rw [hk0] at g0 q0 q1
        have e0 : (k0 == 0) = false := q0
        have e1 : (k0 == 1) = false := q1
        obtain ⟨t1, ht1⟩ : ∃ t1, t + 1 = t1 := ⟨_, rfl⟩
        have ht1i : (t : Int) + 1 = (t1 : Int) := by omega
        rw [ht1, HL.out, ht1i] at q2
        clear hnx hk0 q0 q1
        rcases q2 with h1 | ⟨h1, h2⟩
        · have h1' : (t1 : Int) ≥ n := h1
          clear ht1
          go_wp2_with fail
          refine bodyPost_ret (v := .tuple #[.slice none 0 0, .bool false]) (by simp [results, Try.results42, go_sem]) rfl ?_
          exact opPost_no HO.out Bk
        · have g1 := HC.out t1 (by omega)
          obtain ⟨k1, hk1⟩ : ∃ k1, bt l t1 = k1 := ⟨_, rfl⟩
          have b1 := bt_lo l t1
          have b1' := bt_hi l t1
          rw [hk1] at g1 h2 b1 b1'
          have h1' : ¬ (n : Int) ≤ t1 := by omega
          have h34 : IntKind.i64.wrap k1 = k1 := wrap_i64 b1 b1'
          obtain ⟨te, hte⟩ : ∃ te : Nat, (t : Int) + k1 = te := ⟨((t : Int) + k1).toNat, by omega⟩
          rw [hte] at h2
          have h6 : k1 < 2 ∨ (¬ k1 < 2 ∧ (n : Int) < te) := by omega
          clear ht1 hk1 h2
          rcases h6 with h6 | ⟨h6, h7⟩
          · go_wp2_with fail
            refine bodyPost_ret (v := .tuple #[.slice none 0 0, .bool false]) (by simp [results, Try.results42, go_sem]) rfl ?_
            exact opPost_no HO.out Bk
          · go_wp2_with fail
            refine bodyPost_ret (v := .tuple #[.slice none 0 0, .bool false]) (by simp [results, Try.results42, go_sem]) rfl ?_
            exact opPost_no HO.out Bk
      · obtain ⟨k0, hk0⟩ : ∃ k0, bt l t = k0 := ⟨_, rfl⟩
        obtain ⟨t1, ht1⟩ : ∃ t1, t + 1 = t1 := ⟨_, rfl⟩
        have ht1i : (t : Int) + 1 = (t1 : Int) := by omega
        rw [HL.out, ht1i] at q2
        rw [ht1] at q3 q4 hnx
        obtain ⟨n1, hk1⟩ : ∃ n1 : Nat, bt l t1 = (n1 : Int) := ⟨(bt l t1).toNat, by omega⟩
        have g1 := HC.out t1 (by omega)
        have b0 := bt_lo l t
        have b0' := bt_hi l t
        have b1' := bt_hi l t1
        rw [hk0] at g0 q0 q1 hnx b0 b0'
        rw [hk1] at g1 q3 q4 hnx b1'
        rw [HL.out] at q4
        simp only [Int.toNat_natCast] at hnx
        have e0 : (k0 == 0) = false := q0
        have e1 : (k0 == 1) = false := q1
        have h1' : ¬ (n : Int) ≤ t1 := by omega
        have h34 : IntKind.i64.wrap (n1 : Int) = n1 := wrap_i64 (by omega) b1'
        obtain ⟨te, hte⟩ : ∃ te : Nat, (t : Int) + (n1 : Int) = te := ⟨t + n1, by omega⟩
        obtain ⟨t2, ht2⟩ : ∃ t2 : Nat, (t : Int) + 2 = t2 := ⟨t + 2, by omega⟩
        have h6 : ¬ (n1 : Int) < 2 := by omega
        have h7 : ¬ (n : Int) < te := by omega
        have hte2 : t2 ≤ te ∧ te ≤ n ∧ t < te := by omega
        have hte3 : te = t + n1 ∧ t2 = t + 2 := by omega
        have HS : Hid (optsAt l te (os ++ [⟨k0, (l.take te).drop t2⟩])) := by
          have := optsAt_some hat.out hnx
          rw [hte3.1, hte3.2]
          rw [List.take_drop, List.drop_drop] at this
          exact this
        have hcut : ∀ W, (Instr.slice 24 (.slice (some ⟨b, off, none⟩) n c) (some (.int .i64 (t2 : Int))) (some (.int .i64 (te : Int))) none).run Try.prog W = _ := fun W => cut_lh Try.underlying24 hi8 hs8 (some ⟨b, off, none⟩) n c .i64 .i64 (t2 : Int) (te : Int) (by omega) (by omega) (by omega) W
        obtain ⟨A2, n2, c2, eA, en, ec, hbD⟩ := hb.cutE (lo := t2) (hi := te) (by omega) (by omega)
        simp only [Int.toNat_natCast, eA, en, ec] at hcut
        obtain ⟨d, hd⟩ : ∃ d, (l.take te).drop t2 = d := ⟨_, rfl⟩
        rw [hd] at hbD HS
        have n240 : n2 ≤ 40 := by omega
        have HT := Lib.hid hte2
        clear hnx hk0 hk1 q0 q1 q2 q3 q4 ht1 hte3 hte2 eA en ec hd
        go_wp2_with (first
          | (at_builtin; refine wpList_append_bs (w0 := wr) _ rfl _ _ _ rfl wr.heap.size 5 Try.underlying24 info_u8 (some ⟨_, 0, none⟩) 0 0 [] rfl (own_litk _ _ (by simp) wr.heap.size 5 [] 0 rfl (by omega) (by omega)) A2 n2 c2 d rfl ((hbD.below Bk).alloc _) (by (repeat (first | with_reducible exact Below.refl _ _ | with_reducible refine below_drew ?_ | with_reducible refine below_drewN ?_ _ | with_reducible refine below_alloc ?_ (Nat.le_refl _) _ | with_reducible refine Below.setCell ?_ (by first | exact Nat.le_refl _ | (simp only []; omega)) _ | with_reducible assumption))) (by omega) (by first | exact Nat.le_refl _ | exact Below.size (by (repeat (first | with_reducible exact Below.refl _ _ | with_reducible refine below_drew ?_ | with_reducible refine below_drewN ?_ _ | with_reducible refine below_alloc ?_ (Nat.le_refl _) _ | with_reducible refine Below.setCell ?_ (by first | exact Nat.le_refl _ | (simp only []; omega)) _ | with_reducible assumption))) | omega | (simp <;> omega)) ?_; intro A9 n9 c9 w9 ho9 hB9 _ hz9; have hx9 := hxs.below hB9; have B9 := below_then Bk hB9; have s9 := hB9.size)
          | (at_builtin; refine wpList_appG (w0 := w) _ rfl _ _ _ rfl w.heap.size 66 ii (.agg #[.int .u8 0, .slice none 0 0]) 2 32 Try.underlying27 hi hz' hs' hb' rfl (by omega) (by omega) A' m c' xs rfl (hx9.alloc _) ⟨w9.heap.size, 0, none⟩ 1 1 [.int .u8 k0, .slice A9 n9 c9] rfl rfl (new2 _ _ _ _) (by intro u h; simp at h; rcases h with rfl | rfl <;> rfl) (below_alloc B9 (by omega) _) (by omega) (by simp; omega) ?_; intro A5 c5 w5 O5 hB5 hG5 hz5))
        have hx2 := hx9.alloc (.cells #[.int .u8 k0, .slice A9 n9 c9] 66)
        have OO := ((Ok.below hB9).below ((Below.refl _ w9).alloc (Nat.le_refl _) (.cells #[.int .u8 k0, .slice A9 n9 c9] 66))).snoc hx2 (fun j hj => by obtain ⟨a1, B', m', d', a2, a3⟩ := Hj.out j hj; exact ⟨a1, B', m', d', a2, (a3.below hB9).alloc _⟩) hG5 ⟨k0, d⟩ ((ho9.alloc _).mono (by omega)) O5
        exact ⟨⟨te, os ++ [⟨k0, d⟩], m + 1, A5, c5, by have := HT.out; omega, by have := HT.out; omega, by go_num, rfl, OO, hB5, HS⟩, by simp [intOf]; have := HT.out; omega⟩
    · obtain rfl : t = n := by omega
      have HO : Hid (optsP l = some os) := optsAt_end hat.out (by rw [List.drop_of_length_le (by rw [HL.out]; exact Nat.le_refl _)]; rfl)
      go_wp2_with fail
      refine bodyPost_ret (v := .tuple #[.slice A' m c', .bool true]) (by simp [results, Try.results42, go_sem]) rfl ?_
      exact opPost_yes HO.out Ok Bk
end Go.Proofs.Ytjjhnjkmoogloaa

/- The document's ParseTcp (printed by wip/tools/genrtcp.py). -/
namespace Go.Proofs.Ytjjhnjkmoogloaa
open Go.RowKit
set_option linter.unusedVariables false
set_option linter.unusedSimpArgs false
set_option linter.unusedSimpArgs false
set_option maxHeartbeats 8000000
set_option maxRecDepth 100000

theorem rtcp_no (p : Pkt) (hp : p.Ok) (A1 : Option Addr) (n1 c1 : Nat) (A2 : Option Addr) (n2 c2 : Nat) (w : World) (k2 : Bs w A2 n2 c2 p.dat) (E x q : Int) (hd : Nat) (hx : bt p.dat 12 = x) (hq : x / 16 = q) (hh : q * 4 = (hd : Int))
    (h : (E = 12 ∧ (p.proto != 6) = true) ∨ (E = 3 ∧ (p.proto != 6) = false ∧ (n2 : Int) < 20) ∨ (E = 4 ∧ (p.proto != 6) = false ∧ 20 ≤ (n2 : Int) ∧ (hd : Int) < 20) ∨ (E = 4 ∧ (p.proto != 6) = false ∧ 20 ≤ (n2 : Int) ∧ 20 ≤ (hd : Int) ∧ (x % 16 != 0) = true) ∨
      (E = 3 ∧ (p.proto != 6) = false ∧ 20 ≤ (n2 : Int) ∧ 20 ≤ (hd : Int) ∧ (x % 16 != 0) = false ∧ (n2 : Int) < (hd : Int)) ∨ (E = 5 ∧ (p.proto != 6) = false ∧ 20 ≤ (n2 : Int) ∧ 20 ≤ (hd : Int) ∧ (x % 16 != 0) = false ∧ (hd : Int) ≤ (n2 : Int) ∧ (psum p 6 p.dat == 0) = false ∧ n2 ≤ 17592186044400)) :
    Calls Try.prog 15 #[(.agg #[.int .u8 (p).tos, .int .u16 (p).id, .bool (p).keep, .int .u8 (p).ttl, .int .u8 (p).proto, .int .u32 (p).src, .int .u32 (p).dst, .slice A1 n1 c1, .slice A2 n2 c2])] w (TcPost w zS E) := by
  have b2 := k2.max
  have x0 : 0 ≤ x := by rw [← hx]; exact bt_lo _ _
  have x1' : x ≤ 255 := by rw [← hx]; exact bt_hi _ _
  have q0 : 0 ≤ q := by omega
  have q1 : q ≤ 15 := by omega
  have hlo : 20 ≤ (n2 : Int) → ∃ b off, A2 = some ⟨b, off, none⟩ := fun h => k2.some_ (by omega)
  obtain ⟨s, hs⟩ : ∃ s, psum p 6 p.dat = s := ⟨_, rfl⟩
  have cs : ∀ W, Bs W A2 n2 c2 p.dat → n2 ≤ 17592186044400 → Calls Try.prog 41 #[(.agg #[.int .u8 (p).tos, .int .u16 (p).id, .bool (p).keep, .int .u8 (p).ttl, .int .u8 (p).proto, .int .u32 (p).src, .int .u32 (p).dst, .slice A1 n1 c1, .slice A2 n2 c2]), .int .u8 6, .slice A2 n2 c2] W fun e w' => e = .returned (.int .u16 s) ∧ Below W.heap.size W w' := fun W k h => by rw [← hs]; exact rssum_any p hp A1 n1 c1 A2 n2 c2 6 (by omega) (by omega) A2 n2 c2 p.dat W k h
  rw [hs] at h
  clear hs
  obtain ⟨k, hk⟩ : ∃ k : Nat, w.heap.size = k := ⟨_, rfl⟩
  obtain ⟨w1, hw1⟩ : ∃ W, ((w.alloc (.cells #[.int .u8 (p).tos, .int .u16 (p).id, .bool (p).keep, .int .u8 (p).ttl, .int .u8 (p).proto, .int .u32 (p).src, .int .u32 (p).dst, .slice A1 n1 c1, .slice A2 n2 c2] 26)).alloc (.cells #[.int .u16 0, .int .u16 0, .int .u32 0, .int .u32 0, .int .u8 0, .int .u16 0, .int .u16 0, .slice none 0 0, .slice none 0 0] 29)) = W := ⟨_, rfl⟩
  have P1 : Blk w1 k #[.int .u8 (p).tos, .int .u16 (p).id, .bool (p).keep, .int .u8 (p).ttl, .int .u8 (p).proto, .int .u32 (p).src, .int .u32 (p).dst, .slice A1 n1 c1, .slice A2 n2 c2] 26 := by rw [← hw1]; exact ((blk_new _ _ _ k (by simp [hk])).alloc _)
  have Z1 : Blk w1 (k + 1) #[.int .u16 0, .int .u16 0, .int .u32 0, .int .u32 0, .int .u8 0, .int .u16 0, .int .u16 0, .slice none 0 0, .slice none 0 0] 29 := by rw [← hw1]; exact (blk_new _ _ _ (k + 1) (by simp [hk]))
  have R1 : Below w.heap.size w w1 := by rw [← hw1]; (repeat (first | with_reducible exact Below.refl _ _ | with_reducible refine below_drew ?_ | with_reducible refine below_drewN ?_ _ | with_reducible refine below_alloc ?_ (Nat.le_refl _) _ | with_reducible refine Below.setCell ?_ (by first | exact Nat.le_refl _ | (simp only []; omega)) _ | with_reducible assumption))
  have Pc1 := P1.cell
  have Zc1 := Z1.cell
  have Pl1 := P1.lt
  have Zl1 := Z1.lt
  have x1 := (k2).below R1
  rcases h with ⟨rfl, h1⟩ | ⟨rfl, h1, h2⟩ | ⟨rfl, h1, h2, h3⟩ | ⟨rfl, h1, h2, h3, h4⟩ | ⟨rfl, h1, h2, h3, h4, h5⟩ | ⟨rfl, h1, h2, h3, h4, h5, h6, h7⟩
  · skip
    clear hx hlo
    go_enter Try.func15, Try.ntmps15
    go_wp2_with fail
    obtain ⟨wf, hwf, Sf⟩ := store9 Z1 (.int .u16 0) (.int .u16 0) (.int .u32 0) (.int .u32 0) (.int .u8 0) (.int .u16 0) (.int .u16 0) (.slice none 0 0) (.slice none 0 0)
    rw [hwf]
    have pf := Sf.blk.cell
    exact bodyPost_ret (v := .tuple #[.agg #[.int .u16 0, .int .u16 0, .int .u32 0, .int .u32 0, .int .u8 0, .int .u16 0, .int .u16 0, .slice none 0 0, .slice none 0 0], .int .i64 12]) (by simp [results, Try.results15, go_sem, pf]) rfl (tcPost_no (Sf.bel R1 (by omega)))

  · skip
    clear hx hlo
    go_enter Try.func15, Try.ntmps15
    go_wp2_with fail
    obtain ⟨wf, hwf, Sf⟩ := store9 Z1 (.int .u16 0) (.int .u16 0) (.int .u32 0) (.int .u32 0) (.int .u8 0) (.int .u16 0) (.int .u16 0) (.slice none 0 0) (.slice none 0 0)
    rw [hwf]
    have pf := Sf.blk.cell
    exact bodyPost_ret (v := .tuple #[.agg #[.int .u16 0, .int .u16 0, .int .u32 0, .int .u32 0, .int .u8 0, .int .u16 0, .int .u16 0, .slice none 0 0, .slice none 0 0], .int .i64 3]) (by simp [results, Try.results15, go_sem, pf]) rfl (tcPost_no (Sf.bel R1 (by omega)))

  · skip
    obtain ⟨b, off, rfl⟩ := hlo h2
    have c12 := x1.at_ (j := 12) (by omega)
    rw [hx] at c12
    clear hx hlo
    go_enter Try.func15, Try.ntmps15
    go_wp2_with fail
    obtain ⟨wf, hwf, Sf⟩ := store9 Z1 (.int .u16 0) (.int .u16 0) (.int .u32 0) (.int .u32 0) (.int .u8 0) (.int .u16 0) (.int .u16 0) (.slice none 0 0) (.slice none 0 0)
    rw [hwf]
    have pf := Sf.blk.cell
    exact bodyPost_ret (v := .tuple #[.agg #[.int .u16 0, .int .u16 0, .int .u32 0, .int .u32 0, .int .u8 0, .int .u16 0, .int .u16 0, .slice none 0 0, .slice none 0 0], .int .i64 4]) (by simp [results, Try.results15, go_sem, pf]) rfl (tcPost_no (Sf.bel R1 (by omega)))

  · skip
    obtain ⟨b, off, rfl⟩ := hlo h2
    have c12 := x1.at_ (j := 12) (by omega)
    rw [hx] at c12
    clear hx hlo
    go_enter Try.func15, Try.ntmps15
    go_wp2_with fail
    obtain ⟨wf, hwf, Sf⟩ := store9 Z1 (.int .u16 0) (.int .u16 0) (.int .u32 0) (.int .u32 0) (.int .u8 0) (.int .u16 0) (.int .u16 0) (.slice none 0 0) (.slice none 0 0)
    rw [hwf]
    have pf := Sf.blk.cell
    exact bodyPost_ret (v := .tuple #[.agg #[.int .u16 0, .int .u16 0, .int .u32 0, .int .u32 0, .int .u8 0, .int .u16 0, .int .u16 0, .slice none 0 0, .slice none 0 0], .int .i64 4]) (by simp [results, Try.results15, go_sem, pf]) rfl (tcPost_no (Sf.bel R1 (by omega)))

  · skip
    obtain ⟨b, off, rfl⟩ := hlo h2
    have c12 := x1.at_ (j := 12) (by omega)
    rw [hx] at c12
    clear hx hlo
    go_enter Try.func15, Try.ntmps15
    go_wp2_with fail
    obtain ⟨wf, hwf, Sf⟩ := store9 Z1 (.int .u16 0) (.int .u16 0) (.int .u32 0) (.int .u32 0) (.int .u8 0) (.int .u16 0) (.int .u16 0) (.slice none 0 0) (.slice none 0 0)
    rw [hwf]
    have pf := Sf.blk.cell
    exact bodyPost_ret (v := .tuple #[.agg #[.int .u16 0, .int .u16 0, .int .u32 0, .int .u32 0, .int .u8 0, .int .u16 0, .int .u16 0, .slice none 0 0, .slice none 0 0], .int .i64 3]) (by simp [results, Try.results15, go_sem, pf]) rfl (tcPost_no (Sf.bel R1 (by omega)))

  · skip
    obtain ⟨b, off, rfl⟩ := hlo h2
    have c12 := x1.at_ (j := 12) (by omega)
    rw [hx] at c12
    clear hx hlo
    go_enter Try.func15, Try.ntmps15
    have h6' : (s != 0) = true := by simpa using h6
    go_wp2_with (go_at_call 41; ((with_reducible refine (cs w1 x1 h7).mono ?_); rintro e w2 ⟨rfl, hB2⟩); have P2 := P1.below hB2; have Pc2 := P2.cell; clear Pc1; have Z2 := Z1.below hB2; have Zc2 := Z2.cell; clear Zc1; have x2 := x1.below hB2; have R2 := below_then R1 hB2)
    obtain ⟨wf, hwf, Sf⟩ := store9 Z2 (.int .u16 0) (.int .u16 0) (.int .u32 0) (.int .u32 0) (.int .u8 0) (.int .u16 0) (.int .u16 0) (.slice none 0 0) (.slice none 0 0)
    rw [hwf]
    have pf := Sf.blk.cell
    exact bodyPost_ret (v := .tuple #[.agg #[.int .u16 0, .int .u16 0, .int .u32 0, .int .u32 0, .int .u8 0, .int .u16 0, .int .u16 0, .slice none 0 0, .slice none 0 0], .int .i64 5]) (by simp [results, Try.results15, go_sem, pf]) rfl (tcPost_no (Sf.bel R2 (by omega)))

theorem rtcp_bad (p : Pkt) (hp : p.Ok) (A1 : Option Addr) (n1 c1 : Nat) (A2 : Option Addr) (n2 c2 : Nat) (w : World) (k2 : Bs w A2 n2 c2 p.dat) (x q : Int) (hd : Nat) (hx : bt p.dat 12 = x) (hq : x / 16 = q) (hh : q * 4 = (hd : Int))
    (h1 : (p.proto != 6) = false) (h2 : 20 ≤ (n2 : Int)) (h3 : 20 ≤ (hd : Int)) (h4 : (x % 16 != 0) = false) (h5 : (hd : Int) ≤ (n2 : Int)) (h6 : (psum p 6 p.dat == 0) = true) (h7 : n2 ≤ 17592186044400) (ho : optsP ((p.dat.take hd).drop 20) = none) :
    Calls Try.prog 15 #[(.agg #[.int .u8 (p).tos, .int .u16 (p).id, .bool (p).keep, .int .u8 (p).ttl, .int .u8 (p).proto, .int .u32 (p).src, .int .u32 (p).dst, .slice A1 n1 c1, .slice A2 n2 c2])] w (TcPost w zS 4) := by
  have b2 := k2.max
  have hcap := k2.cap
  have x0 : 0 ≤ x := by rw [← hx]; exact bt_lo _ _
  have x1' : x ≤ 255 := by rw [← hx]; exact bt_hi _ _
  have q0 : 0 ≤ q := by omega
  have q1 : q ≤ 15 := by omega
  have hdb : (hd : Int) ≤ 60 := by omega
  have hlL : p.dat.take n2 = p.dat := List.take_of_length_le (by rw [k2.len]; exact Nat.le_refl _)
  obtain ⟨i8, hi8, -, hs8, -⟩ := info_parts info_u8
  obtain ⟨b, off, rfl⟩ := k2.some_ (by omega)
  have hcutO : ∀ W, (Instr.slice 24 (.slice (some ⟨b, off, none⟩) n2 c2) (some (.int .i64 20)) (some (.int .i64 (hd : Int))) none).run Try.prog W = _ := fun W => cut_lh Try.underlying24 hi8 hs8 (some ⟨b, off, none⟩) n2 c2 .i64 .i64 20 hd (by omega) (by omega) (by omega) W
  obtain ⟨A', n', c', eA, en, ec, hbO⟩ := k2.cutE (lo := 20) (hi := hd) (by omega) (by omega)
  simp only [show (20 : Int).toNat = 20 from rfl, show ((hd : Int)).toNat = hd from rfl, eA, en, ec] at hcutO
  have hn' : n' ≤ 40 := by omega
  clear eA ec
  clear hlL en
  have h6' : psum p 6 p.dat = 0 := by simpa using h6
  have cs : ∀ W, Bs W (some ⟨b, off, none⟩) n2 c2 p.dat → Calls Try.prog 41 #[(.agg #[.int .u8 (p).tos, .int .u16 (p).id, .bool (p).keep, .int .u8 (p).ttl, .int .u8 (p).proto, .int .u32 (p).src, .int .u32 (p).dst, .slice A1 n1 c1, .slice (some ⟨b, off, none⟩) n2 c2]), .int .u8 6, .slice (some ⟨b, off, none⟩) n2 c2] W fun e w' => e = .returned (.int .u16 0) ∧ Below W.heap.size W w' := fun W k => by
    have := rssum_any p hp A1 n1 c1 (some ⟨b, off, none⟩) n2 c2 6 (by omega) (by omega) (some ⟨b, off, none⟩) n2 c2 p.dat W k h7
    rw [h6'] at this; exact this
  clear h6 h6'
  have co : ∀ W, Bs W A' n' c' ((p.dat.take hd).drop 20) → Calls Try.prog 42 #[.slice A' n' c'] W fun e w' => ∃ A n c, e = .returned (.tuple #[.slice A n c, .bool false]) ∧ Below W.heap.size W w' := fun W k => by
    refine (roptsP_any A' n' c' _ W k hn').mono fun e w' hq => ?_
    obtain ⟨A, n, c, rfl, -, hB⟩ := hq.out
    rw [ho]
    exact ⟨A, n, c, rfl, hB⟩
  clear ho
  have c12' := fun W (h : Bs W (some ⟨b, off, none⟩) n2 c2 p.dat) => h.at_ (j := 12) (by omega)
  simp only [hx] at c12'
  clear hx
  obtain ⟨k, hk⟩ : ∃ k : Nat, w.heap.size = k := ⟨_, rfl⟩
  obtain ⟨w1, hw1⟩ : ∃ W, ((w.alloc (.cells #[.int .u8 (p).tos, .int .u16 (p).id, .bool (p).keep, .int .u8 (p).ttl, .int .u8 (p).proto, .int .u32 (p).src, .int .u32 (p).dst, .slice A1 n1 c1, .slice (some ⟨b, off, none⟩) n2 c2] 26)).alloc (.cells #[.int .u16 0, .int .u16 0, .int .u32 0, .int .u32 0, .int .u8 0, .int .u16 0, .int .u16 0, .slice none 0 0, .slice none 0 0] 29)) = W := ⟨_, rfl⟩
  have P1 : Blk w1 k #[.int .u8 (p).tos, .int .u16 (p).id, .bool (p).keep, .int .u8 (p).ttl, .int .u8 (p).proto, .int .u32 (p).src, .int .u32 (p).dst, .slice A1 n1 c1, .slice (some ⟨b, off, none⟩) n2 c2] 26 := by rw [← hw1]; exact ((blk_new _ _ _ k (by simp [hk])).alloc _)
  have Z1 : Blk w1 (k + 1) #[.int .u16 0, .int .u16 0, .int .u32 0, .int .u32 0, .int .u8 0, .int .u16 0, .int .u16 0, .slice none 0 0, .slice none 0 0] 29 := by rw [← hw1]; exact (blk_new _ _ _ (k + 1) (by simp [hk]))
  have R1 : Below w.heap.size w w1 := by rw [← hw1]; (repeat (first | with_reducible exact Below.refl _ _ | with_reducible refine below_drew ?_ | with_reducible refine below_drewN ?_ _ | with_reducible refine below_alloc ?_ (Nat.le_refl _) _ | with_reducible refine Below.setCell ?_ (by first | exact Nat.le_refl _ | (simp only []; omega)) _ | with_reducible assumption))
  have Pc1 := P1.cell
  have Zc1 := Z1.cell
  have Pl1 := P1.lt
  have Zl1 := Z1.lt
  have x1 := (k2).below R1
  have y1 := (hbO).below R1
  have c12 := c12' _ x1
  go_enter Try.func15, Try.ntmps15
  go_wp2_with (first
    | (go_at_call 41; ((with_reducible refine (cs w1 x1).mono ?_); rintro e w2 ⟨rfl, hB2⟩); have P2 := P1.below hB2; have Pc2 := P2.cell; clear Pc1; have Z2 := Z1.below hB2; have Zc2 := Z2.cell; clear Zc1; have x2 := x1.below hB2; have y2 := y1.below hB2; have R2 := below_then R1 hB2)
    | (go_at_call 42; ((with_reducible refine (co w2 y2).mono ?_); rintro e w3 ⟨A6, n6, c6, rfl, hB3⟩); have P3 := P2.below hB3; have Pc3 := P3.cell; clear Pc2; have Z3 := Z2.below hB3; have Zc3 := Z3.cell; clear Zc2; have x3 := x2.below hB3; have y3 := y2.below hB3; have R3 := below_then R2 hB3))
  obtain ⟨wf, hwf, Sf⟩ := store9 Z3 (.int .u16 0) (.int .u16 0) (.int .u32 0) (.int .u32 0) (.int .u8 0) (.int .u16 0) (.int .u16 0) (.slice none 0 0) (.slice none 0 0)
  rw [hwf]
  have pf := Sf.blk.cell
  exact bodyPost_ret (v := .tuple #[.agg #[.int .u16 0, .int .u16 0, .int .u32 0, .int .u32 0, .int .u8 0, .int .u16 0, .int .u16 0, .slice none 0 0, .slice none 0 0], .int .i64 4]) (by simp [results, Try.results15, go_sem, pf]) rfl (tcPost_no (Sf.bel R3 (by omega)))

theorem rtcp_go (p : Pkt) (hp : p.Ok) (A1 : Option Addr) (n1 c1 : Nat) (A2 : Option Addr) (n2 c2 : Nat) (w : World) (k2 : Bs w A2 n2 c2 p.dat) (x q : Int) (hd : Nat) (hx : bt p.dat 12 = x) (hq : x / 16 = q) (hh : q * 4 = (hd : Int))
    (h1 : (p.proto != 6) = false) (h2 : 20 ≤ (n2 : Int)) (h3 : 20 ≤ (hd : Int)) (h4 : (x % 16 != 0) = false) (h5 : (hd : Int) ≤ (n2 : Int)) (h6 : (psum p 6 p.dat == 0) = true) (h7 : n2 ≤ 17592186044400) (os : List Opt) (ho : optsP ((p.dat.take hd).drop 20) = some os) :
    Calls Try.prog 15 #[(.agg #[.int .u8 (p).tos, .int .u16 (p).id, .bool (p).keep, .int .u8 (p).ttl, .int .u8 (p).proto, .int .u32 (p).src, .int .u32 (p).dst, .slice A1 n1 c1, .slice A2 n2 c2])] w (TcPost w ⟨get16 p.dat 0, get16 p.dat 2, get32 p.dat 4, get32 p.dat 8, bt p.dat 13, get16 p.dat 14, get16 p.dat 18, os, p.dat.drop hd⟩ 0) := by
  have b2 := k2.max
  have hcap := k2.cap
  have x0 : 0 ≤ x := by rw [← hx]; exact bt_lo _ _
  have x1' : x ≤ 255 := by rw [← hx]; exact bt_hi _ _
  have q0 : 0 ≤ q := by omega
  have q1 : q ≤ 15 := by omega
  have hdb : (hd : Int) ≤ 60 := by omega
  have hlL : p.dat.take n2 = p.dat := List.take_of_length_le (by rw [k2.len]; exact Nat.le_refl _)
  obtain ⟨i8, hi8, -, hs8, -⟩ := info_parts info_u8
  obtain ⟨b, off, rfl⟩ := k2.some_ (by omega)
  have hcutO : ∀ W, (Instr.slice 24 (.slice (some ⟨b, off, none⟩) n2 c2) (some (.int .i64 20)) (some (.int .i64 (hd : Int))) none).run Try.prog W = _ := fun W => cut_lh Try.underlying24 hi8 hs8 (some ⟨b, off, none⟩) n2 c2 .i64 .i64 20 hd (by omega) (by omega) (by omega) W
  obtain ⟨A', n', c', eA, en, ec, hbO⟩ := k2.cutE (lo := 20) (hi := hd) (by omega) (by omega)
  simp only [show (20 : Int).toNat = 20 from rfl, show ((hd : Int)).toNat = hd from rfl, eA, en, ec] at hcutO
  have hn' : n' ≤ 40 := by omega
  clear eA ec
  have hcutD : ∀ W, (Instr.slice 24 (.slice (some ⟨b, off, none⟩) n2 c2) (some (.int .i64 (hd : Int))) none none).run Try.prog W = _ := fun W => cut_l Try.underlying24 hi8 hs8 (some ⟨b, off, none⟩) n2 c2 .i64 hd (by omega) (by omega) W
  obtain ⟨A'', n'', c'', eA2, en2, ec2, hbD⟩ := k2.cutE (lo := hd) (hi := n2) (by omega) (Nat.le_refl _)
  simp only [show ((hd : Int)).toNat = hd from rfl, eA2, en2, ec2] at hcutD
  rw [hlL] at hbD
  have hn'' : n'' ≤ n2 := by omega
  clear eA2 en2 ec2
  clear hlL en
  have h6' : psum p 6 p.dat = 0 := by simpa using h6
  have cs : ∀ W, Bs W (some ⟨b, off, none⟩) n2 c2 p.dat → Calls Try.prog 41 #[(.agg #[.int .u8 (p).tos, .int .u16 (p).id, .bool (p).keep, .int .u8 (p).ttl, .int .u8 (p).proto, .int .u32 (p).src, .int .u32 (p).dst, .slice A1 n1 c1, .slice (some ⟨b, off, none⟩) n2 c2]), .int .u8 6, .slice (some ⟨b, off, none⟩) n2 c2] W fun e w' => e = .returned (.int .u16 0) ∧ Below W.heap.size W w' := fun W k => by
    have := rssum_any p hp A1 n1 c1 (some ⟨b, off, none⟩) n2 c2 6 (by omega) (by omega) (some ⟨b, off, none⟩) n2 c2 p.dat W k h7
    rw [h6'] at this; exact this
  clear h6 h6'
  have co : ∀ W, Bs W A' n' c' ((p.dat.take hd).drop 20) → Calls Try.prog 42 #[.slice A' n' c'] W fun e w' => ∃ A n c, e = .returned (.tuple #[.slice A n c, .bool true]) ∧ OsO w' W.heap.size A n c os ∧ n ≤ 40 ∧ Below W.heap.size W w' := fun W k => by
    refine (roptsP_any A' n' c' _ W k hn').mono fun e w' hq => ?_
    obtain ⟨A, n, c, rfl, h, hB⟩ := hq.out
    obtain ⟨h8, h9⟩ := h os ho
    rw [ho]
    exact ⟨A, n, c, rfl, h8, by have := k.len; omega, hB⟩
  clear ho
  have c12' := fun W (h : Bs W (some ⟨b, off, none⟩) n2 c2 p.dat) => h.at_ (j := 12) (by omega)
  simp only [hx] at c12'
  clear hx
  have c13' := fun W (h : Bs W (some ⟨b, off, none⟩) n2 c2 p.dat) => h.at_ (j := 13) (by omega)
  obtain ⟨v13, hv13⟩ : ∃ v, bt p.dat 13 = v := ⟨_, rfl⟩
  simp only [hv13] at c13'
  rw [hv13]
  clear hv13
  obtain ⟨v0, hv0⟩ : ∃ q, get16 p.dat 0 = q := ⟨_, rfl⟩
  have gv0 : ∀ W, Bs W (some ⟨b, off, none⟩) n2 c2 p.dat → Calls Try.prog 43 #[.slice (some ⟨b, off, none⟩) n2 c2, .int .i64 0] W fun e w' => e = .returned (.int .u16 v0) ∧ Drawn W w' := fun W k => by have := rget16_any (some ⟨b, off, none⟩) n2 c2 p.dat 0 W k; rw [hv0] at this; exact this
  rw [hv0]
  clear hv0
  obtain ⟨v2, hv2⟩ : ∃ q, get16 p.dat 2 = q := ⟨_, rfl⟩
  have gv2 : ∀ W, Bs W (some ⟨b, off, none⟩) n2 c2 p.dat → Calls Try.prog 43 #[.slice (some ⟨b, off, none⟩) n2 c2, .int .i64 2] W fun e w' => e = .returned (.int .u16 v2) ∧ Drawn W w' := fun W k => by have := rget16_any (some ⟨b, off, none⟩) n2 c2 p.dat 2 W k; rw [hv2] at this; exact this
  rw [hv2]
  clear hv2
  obtain ⟨v4, hv4⟩ : ∃ q, get32 p.dat 4 = q := ⟨_, rfl⟩
  have gv4 : ∀ W, Bs W (some ⟨b, off, none⟩) n2 c2 p.dat → Calls Try.prog 44 #[.slice (some ⟨b, off, none⟩) n2 c2, .int .i64 4] W fun e w' => e = .returned (.int .u32 v4) ∧ Drawn W w' := fun W k => by have := rget32_any (some ⟨b, off, none⟩) n2 c2 p.dat 4 W k; rw [hv4] at this; exact this
  rw [hv4]
  clear hv4
  obtain ⟨v8, hv8⟩ : ∃ q, get32 p.dat 8 = q := ⟨_, rfl⟩
  have gv8 : ∀ W, Bs W (some ⟨b, off, none⟩) n2 c2 p.dat → Calls Try.prog 44 #[.slice (some ⟨b, off, none⟩) n2 c2, .int .i64 8] W fun e w' => e = .returned (.int .u32 v8) ∧ Drawn W w' := fun W k => by have := rget32_any (some ⟨b, off, none⟩) n2 c2 p.dat 8 W k; rw [hv8] at this; exact this
  rw [hv8]
  clear hv8
  obtain ⟨v14, hv14⟩ : ∃ q, get16 p.dat 14 = q := ⟨_, rfl⟩
  have gv14 : ∀ W, Bs W (some ⟨b, off, none⟩) n2 c2 p.dat → Calls Try.prog 43 #[.slice (some ⟨b, off, none⟩) n2 c2, .int .i64 14] W fun e w' => e = .returned (.int .u16 v14) ∧ Drawn W w' := fun W k => by have := rget16_any (some ⟨b, off, none⟩) n2 c2 p.dat 14 W k; rw [hv14] at this; exact this
  rw [hv14]
  clear hv14
  obtain ⟨v18, hv18⟩ : ∃ q, get16 p.dat 18 = q := ⟨_, rfl⟩
  have gv18 : ∀ W, Bs W (some ⟨b, off, none⟩) n2 c2 p.dat → Calls Try.prog 43 #[.slice (some ⟨b, off, none⟩) n2 c2, .int .i64 18] W fun e w' => e = .returned (.int .u16 v18) ∧ Drawn W w' := fun W k => by have := rget16_any (some ⟨b, off, none⟩) n2 c2 p.dat 18 W k; rw [hv18] at this; exact this
  rw [hv18]
  clear hv18
  obtain ⟨k, hk⟩ : ∃ k : Nat, w.heap.size = k := ⟨_, rfl⟩
  obtain ⟨w1, hw1⟩ : ∃ W, ((w.alloc (.cells #[.int .u8 (p).tos, .int .u16 (p).id, .bool (p).keep, .int .u8 (p).ttl, .int .u8 (p).proto, .int .u32 (p).src, .int .u32 (p).dst, .slice A1 n1 c1, .slice (some ⟨b, off, none⟩) n2 c2] 26)).alloc (.cells #[.int .u16 0, .int .u16 0, .int .u32 0, .int .u32 0, .int .u8 0, .int .u16 0, .int .u16 0, .slice none 0 0, .slice none 0 0] 29)) = W := ⟨_, rfl⟩
  have P1 : Blk w1 k #[.int .u8 (p).tos, .int .u16 (p).id, .bool (p).keep, .int .u8 (p).ttl, .int .u8 (p).proto, .int .u32 (p).src, .int .u32 (p).dst, .slice A1 n1 c1, .slice (some ⟨b, off, none⟩) n2 c2] 26 := by rw [← hw1]; exact ((blk_new _ _ _ k (by simp [hk])).alloc _)
  have Z1 : Blk w1 (k + 1) #[.int .u16 0, .int .u16 0, .int .u32 0, .int .u32 0, .int .u8 0, .int .u16 0, .int .u16 0, .slice none 0 0, .slice none 0 0] 29 := by rw [← hw1]; exact (blk_new _ _ _ (k + 1) (by simp [hk]))
  have R1 : Below w.heap.size w w1 := by rw [← hw1]; (repeat (first | with_reducible exact Below.refl _ _ | with_reducible refine below_drew ?_ | with_reducible refine below_drewN ?_ _ | with_reducible refine below_alloc ?_ (Nat.le_refl _) _ | with_reducible refine Below.setCell ?_ (by first | exact Nat.le_refl _ | (simp only []; omega)) _ | with_reducible assumption))
  have Pc1 := P1.cell
  have Zc1 := Z1.cell
  have Pl1 := P1.lt
  have Zl1 := Z1.lt
  have x1 := (k2).below R1
  have y1 := (hbO).below R1
  have z1 := (hbD).below R1
  have c12 := c12' _ x1
  go_enter Try.func15, Try.ntmps15
  go_wp2_with (first
    | (go_at_call 41; ((with_reducible refine (cs w1 x1).mono ?_); rintro e w2 ⟨rfl, hB2⟩); have P2 := P1.below hB2; have Pc2 := P2.cell; clear Pc1; have Z2 := Z1.below hB2; have Zc2 := Z2.cell; clear Zc1; have x2 := x1.below hB2; have y2 := y1.below hB2; have z2 := z1.below hB2; have R2 := below_then R1 hB2)
    | (go_at_call 42; ((with_reducible refine (co w2 y2).mono ?_); rintro e w3 ⟨A6, n6, c6, rfl, hO6, hn6, hB3⟩); have P3 := P2.below hB3; have Pc3 := P3.cell; clear Pc2; have Z3 := Z2.below hB3; have Zc3 := Z3.cell; clear Zc2; have x3 := x2.below hB3; have y3 := y2.below hB3; have z3 := z2.below hB3; have R3 := below_then R2 hB3))
  have s2 := R2.size
  have h13 : (13 : Int) < (n2 : Int) := by omega
  refine region_txt 18 (by kernel_rfl) (by kernel_rfl) ?_; (iterate 18 (first | (apply ObsK.skip (by rfl)) | (apply ObsK.v (by rfl); (intro wo hT; (repeat (first | (intro v hv; (fail)) | (intro _ _ k; try have hcv := cv k))); (have pc := (P3.below hT).cell; have xo := x3.below hT; have c13 := c13' _ xo; have hsz : w3.heap.size ≤ wo.heap.size := hT.size); refine Goes.mk ?_; go_simp; first | exact goes_v | exact goes_b (by assumption) | exact goes_new hsz | (refine goes_enter ?_; first | (go_at_call 43; ((with_reducible refine (gv0 wo xo).mono ?_); rintro e w5 ⟨rfl, hD5⟩); exact ret_v hD5.bel) | (go_at_call 43; ((with_reducible refine (gv2 wo xo).mono ?_); rintro e w5 ⟨rfl, hD5⟩); exact ret_v hD5.bel) | (go_at_call 44; ((with_reducible refine (gv4 wo xo).mono ?_); rintro e w5 ⟨rfl, hD5⟩); exact ret_v hD5.bel) | (go_at_call 44; ((with_reducible refine (gv8 wo xo).mono ?_); rintro e w5 ⟨rfl, hD5⟩); exact ret_v hD5.bel) | (go_at_call 43; ((with_reducible refine (gv14 wo xo).mono ?_); rintro e w5 ⟨rfl, hD5⟩); exact ret_v hD5.bel) | (go_at_call 43; ((with_reducible refine (gv18 wo xo).mono ?_); rintro e w5 ⟨rfl, hD5⟩); exact ret_v hD5.bel)))) | (apply ObsK.b (by rfl); (intro wo hT; (repeat (first | (intro v hv; (fail)) | (intro _ _ k; try have hcv := cv k))); (have pc := (P3.below hT).cell; have xo := x3.below hT; have c13 := c13' _ xo; have hsz : w3.heap.size ≤ wo.heap.size := hT.size); refine Goes.mk ?_; go_simp; first | exact goes_v | exact goes_b (by assumption) | exact goes_new hsz | (refine goes_enter ?_; first | (go_at_call 43; ((with_reducible refine (gv0 wo xo).mono ?_); rintro e w5 ⟨rfl, hD5⟩); exact ret_v hD5.bel) | (go_at_call 43; ((with_reducible refine (gv2 wo xo).mono ?_); rintro e w5 ⟨rfl, hD5⟩); exact ret_v hD5.bel) | (go_at_call 44; ((with_reducible refine (gv4 wo xo).mono ?_); rintro e w5 ⟨rfl, hD5⟩); exact ret_v hD5.bel) | (go_at_call 44; ((with_reducible refine (gv8 wo xo).mono ?_); rintro e w5 ⟨rfl, hD5⟩); exact ret_v hD5.bel) | (go_at_call 43; ((with_reducible refine (gv14 wo xo).mono ?_); rintro e w5 ⟨rfl, hD5⟩); exact ret_v hD5.bel) | (go_at_call 43; ((with_reducible refine (gv18 wo xo).mono ?_); rintro e w5 ⟨rfl, hD5⟩); exact ret_v hD5.bel)))) | (apply ObsK.p (q := isNew w3.heap.size #[.int .u16 0, .int .u16 0, .int .u32 0, .int .u32 0, .int .u8 0, .int .u16 0, .int .u16 0, .slice none 0 0, .slice none 0 0] 29) (by rfl) st_isNew; (intro wo hT; (repeat (first | (intro v hv; (fail)) | (intro _ _ k; try have hcv := cv k))); (have pc := (P3.below hT).cell; have xo := x3.below hT; have c13 := c13' _ xo; have hsz : w3.heap.size ≤ wo.heap.size := hT.size); refine Goes.mk ?_; go_simp; first | exact goes_v | exact goes_b (by assumption) | exact goes_new hsz | (refine goes_enter ?_; first | (go_at_call 43; ((with_reducible refine (gv0 wo xo).mono ?_); rintro e w5 ⟨rfl, hD5⟩); exact ret_v hD5.bel) | (go_at_call 43; ((with_reducible refine (gv2 wo xo).mono ?_); rintro e w5 ⟨rfl, hD5⟩); exact ret_v hD5.bel) | (go_at_call 44; ((with_reducible refine (gv4 wo xo).mono ?_); rintro e w5 ⟨rfl, hD5⟩); exact ret_v hD5.bel) | (go_at_call 44; ((with_reducible refine (gv8 wo xo).mono ?_); rintro e w5 ⟨rfl, hD5⟩); exact ret_v hD5.bel) | (go_at_call 43; ((with_reducible refine (gv14 wo xo).mono ?_); rintro e w5 ⟨rfl, hD5⟩); exact ret_v hD5.bel) | (go_at_call 43; ((with_reducible refine (gv18 wo xo).mono ?_); rintro e w5 ⟨rfl, hD5⟩); exact ret_v hD5.bel)))))); refine ObsK.nil ?_; intro wz hBz; simp only [finOn, List.drop_succ_cons, List.drop_zero, List.drop_nil]
  rintro _ ⟨gS, rfl, hS, S4⟩
  go_simp
  obtain ⟨wq, hwq, Sq⟩ := store9 S4 (.int .u16 v0) (.int .u16 v2) (.int .u32 v4) (.int .u32 v8) (.int .u8 v13) (.int .u16 v14) (.int .u16 v18) (.slice A6 n6 c6) (.slice none 0 0)
  have hBq := Sq.bel hBz hS
  have cS4 := S4.cell
  have zl3 := Z3.lt
  have r3s := R3.size
  have S4 := Sq.blk
  have Sc4 := S4.cell
  have P4 := P3.below hBq
  have Pc4 := P4.cell
  clear Pc3
  have Z4 := Z3.below hBq
  have Zc4 := Z4.cell
  clear Zc3
  have x4 := x3.below hBq
  have y4 := y3.below hBq
  have z4 := z3.below hBq
  have R4 := below_then R3 hBq
  have gl := S4.lt
  go_wp2_with fail
  refine region_txt 5 (by kernel_rfl) (by kernel_rfl) ?_; (iterate 5 (first | (apply ObsK.skip (by rfl)) | (apply ObsK.v (by rfl); (intro wo hT; (repeat (first | (intro _ _ k; try have hcv := cv k))); (have gc := (S4.below hT).cell); refine Goes.mk ?_; go_simp; first | exact goes_v | exact goes_b (by assumption) | (refine goes_enter ?_; first | fail))) | (apply ObsK.b (by rfl); (intro wo hT; (repeat (first | (intro _ _ k; try have hcv := cv k))); (have gc := (S4.below hT).cell); refine Goes.mk ?_; go_simp; first | exact goes_v | exact goes_b (by assumption) | (refine goes_enter ?_; first | fail))))); refine ObsK.nil ?_; intro wz hBz; simp only [finOn, List.drop_succ_cons, List.drop_zero, List.drop_nil]
  go_simp
  have gs := hBz.size
  have hBqz := below_then hBq hBz
  have P5 := P4.below hBz
  have Pc5 := P5.cell
  clear Pc4
  have Z5 := Z4.below hBz
  have Zc5 := Z5.cell
  clear Zc4
  have S5 := S4.below hBz
  have Sc5 := S5.cell
  clear Sc4
  have x5 := x4.below hBz
  have y5 := y4.below hBz
  have z5 := z4.below hBz
  have R5 := below_then R4 hBz
  go_wp2_with (at_builtin; refine wpList_append_bs (w0 := wz) _ rfl _ _ _ rfl wz.heap.size 5 Try.underlying24 info_u8 none 0 0 [] rfl (own_nil _ _ _) A'' n'' c'' _ rfl z5 (Below.refl _ _) (by omega) (by first | exact Nat.le_refl _ | exact Below.size (Below.refl _ _) | omega | (simp <;> omega)) ?_; intro A7 n7 c7 w7 ho7 hB7 _ hz7; have u7 : n7 = n'' := (by have := ho7.len; have := z5.len; simp at *; omega); subst u7; replace ho7 : Own w7 wz.heap.size 5 A7 n7 c7 (p.dat.drop hd) := ho7; have G7 := S5.below hB7; have gc7 := G7.cell; (obtain ⟨w8, hw8, S8⟩ := store1 G7 8 (.slice A7 n7 c7)); simp only [List.setIfInBounds_toArray, List.set_cons_zero, List.set_cons_succ] at S8; have gc8 := S8.blk.cell; have Z8 := S8.other (by omega) (Z5.below hB7); have zc8 := Z8.cell; have T8 := S8.bel (below_then R5 hB7) (by omega); have O8 := S8.own ho7 (fun a e => by have := ho7.ge a e; omega); have B38 := S8.bel (below_then hBqz hB7) hS)
  obtain ⟨wf, hwf, Sf⟩ := store9 Z8 (.int .u16 v0) (.int .u16 v2) (.int .u32 v4) (.int .u32 v8) (.int .u8 v13) (.int .u16 v14) (.int .u16 v18) (.slice A6 n6 c6) (.slice A7 n7 c7)
  rw [hwf]
  have pf := Sf.blk.cell
  have Q8 : SO w8 w2.heap.size (k + 1) 29 A6 n6 c6 os := ⟨hO6.below B38, _, Z8⟩
  have hT1 : 29 ≠ 5 := by decide
  have hT2 : 29 ≠ 66 := by decide
  have Qf : SO wf w2.heap.size (k + 1) 29 A6 n6 c6 os := by
    rw [← hwf]; exact ((((((((Q8.set hT1 hT2 _ _).set hT1 hT2 _ _).set hT1 hT2 _ _).set hT1 hT2 _ _).set hT1 hT2 _ _).set hT1 hT2 _ _).set hT1 hT2 _ _).set hT1 hT2 _ _).set hT1 hT2 _ _
  have rz := R5.size
  have Of := Sf.own O8 (fun a e => by have := O8.ge a e; omega)
  exact bodyPost_ret (v := .tuple #[.agg #[.int .u16 v0, .int .u16 v2, .int .u32 v4, .int .u32 v8, .int .u8 v13, .int .u16 v14, .int .u16 v18, .slice A6 n6 c6, .slice A7 n7 c7], .int .i64 0]) (by simp [results, Try.results15, go_sem, pf]) rfl ⟨⟨A6, n6, c6, A7, n7, c7, rfl, Qf.o.mono s2, hn6, Of.mono rz, Sf.bel T8 (by omega)⟩⟩

theorem rtcp_any (p : Pkt) (hp : p.Ok) (A1 : Option Addr) (n1 c1 : Nat) (A2 : Option Addr) (n2 c2 : Nat) (w : World) (k2 : Bs w A2 n2 c2 p.dat) (h7 : n2 ≤ 17592186044400) :
    Calls Try.prog 15 #[(.agg #[.int .u8 (p).tos, .int .u16 (p).id, .bool (p).keep, .int .u8 (p).ttl, .int .u8 (p).proto, .int .u32 (p).src, .int .u32 (p).dst, .slice A1 n1 c1, .slice A2 n2 c2])] w (TcPost w (tcS p) (tcE p)) := by
  have b0 := bt_lo p.dat 12
  have hq : bt p.dat 12 / 16 * 4 = ((hdS p.dat : Nat) : Int) := by unfold hdS; omega
  rcases tc_ways p n2 k2.len _ rfl _ rfl with ⟨h0, h⟩ | ⟨h1, h2, h3, h4, h5, h6, hN, hY⟩
  · have hs : tcS p = zS := by unfold tcS; rw [if_neg h0]
    rw [hs]
    refine rtcp_no p hp A1 n1 c1 A2 n2 c2 w k2 _ _ _ _ rfl rfl hq ?_
    rcases h with h | h | h | h | h | h
    · exact .inl h
    · exact .inr (.inl h)
    · exact .inr (.inr (.inl h))
    · exact .inr (.inr (.inr (.inl h)))
    · exact .inr (.inr (.inr (.inr (.inl h))))
    · exact .inr (.inr (.inr (.inr (.inr ⟨h.1, h.2.1, h.2.2.1, h.2.2.2.1, h.2.2.2.2.1, h.2.2.2.2.2.1, h.2.2.2.2.2.2, h7⟩))))
  · rcases ho : optsP ((p.dat.take (hdS p.dat)).drop 20) with _ | os
    · have hE := hN ho
      have hs : tcS p = zS := by unfold tcS; rw [if_neg (by rw [hE]; decide)]
      rw [hs, hE]
      exact rtcp_bad p hp A1 n1 c1 A2 n2 c2 w k2 _ _ _ rfl rfl hq h1 h2 h3 h4 h5 h6 h7 ho
    · have hE := hY os ho
      have hs : tcS p = ⟨get16 p.dat 0, get16 p.dat 2, get32 p.dat 4, get32 p.dat 8, bt p.dat 13, get16 p.dat 14, get16 p.dat 18, os, p.dat.drop (hdS p.dat)⟩ := by unfold tcS rdS; rw [if_pos hE, ho]; rfl
      rw [hs, hE]
      exact rtcp_go p hp A1 n1 c1 A2 n2 c2 w k2 _ _ _ rfl rfl hq h1 h2 h3 h4 h5 h6 h7 os ho
end Go.Proofs.Ytjjhnjkmoogloaa

/- SegsTcp (up to a bound). -/
namespace Go.Proofs.Ytjjhnjkmoogloaa
open Go.RowKit
set_option linter.unusedVariables false
set_option linter.unusedSimpArgs false
set_option maxHeartbeats 4000000
set_option maxRecDepth 100000

theorem segsTcp_walk (w : World) (p : Pkt) (hp : p.Ok) (A1 : Option Addr) (n1 c1 : Nat) (A2 : Option Addr) (n2 c2 : Nat) (k1 : Bs w A1 n1 c1 p.opt) (k2 : Bs w A2 n2 c2 p.dat) (z1 : n1 ≤ 1048576) (z2 : n2 ≤ 1048576) :
    Calls Try.prog 3 #[(.agg #[.int .u8 (p).tos, .int .u16 (p).id, .bool (p).keep, .int .u8 (p).ttl, .int .u8 (p).proto, .int .u32 (p).src, .int .u32 (p).dst, .slice A1 n1 c1, .slice A2 n2 c2])] w fun e w' => e = .returned (.bool true) ∧ Below w.heap.size w w' := by
  have ca := fun W k2 => tcp_any p hp A1 n1 c1 A2 n2 c2 W k2 (by omega)
  have cb := fun W k2 => rtcp_any p hp A1 n1 c1 A2 n2 c2 W k2 (by omega)
  have hok : (tcS p).Ok := by
    unfold tcS; split
    · exact rdS_ok _
    · exact zS_ok
  obtain ⟨d, hd⟩ : ∃ d, tcS p = d := ⟨_, rfl⟩
  obtain ⟨E, hE⟩ : ∃ E, tcE p = E := ⟨_, rfl⟩
  rw [hd] at hok
  rw [hd, hE] at ca cb
  have cs := fun W X n c Y m e Z a b V f g j1 j2 j3 j4 => rtsame_any d d X n c Y m e Z a b V f g W j1 j2 j3 j4
  simp only [sameS_self] at cs
  clear hd hE
  obtain ⟨k, hk⟩ : ∃ k : Nat, w.heap.size = k := ⟨_, rfl⟩
  obtain ⟨w1, hw1⟩ : ∃ W, (w.alloc (.cells #[.int .u8 (p).tos, .int .u16 (p).id, .bool (p).keep, .int .u8 (p).ttl, .int .u8 (p).proto, .int .u32 (p).src, .int .u32 (p).dst, .slice A1 n1 c1, .slice A2 n2 c2] 26)) = W := ⟨_, rfl⟩
  have P1 : Blk w1 k #[.int .u8 (p).tos, .int .u16 (p).id, .bool (p).keep, .int .u8 (p).ttl, .int .u8 (p).proto, .int .u32 (p).src, .int .u32 (p).dst, .slice A1 n1 c1, .slice A2 n2 c2] 26 := by rw [← hw1]; exact (blk_new _ _ _ k (by simp [hk]))
  have R1 : Below w.heap.size w w1 := by rw [← hw1]; (repeat (first | with_reducible exact Below.refl _ _ | with_reducible refine below_drew ?_ | with_reducible refine below_drewN ?_ _ | with_reducible refine below_alloc ?_ (Nat.le_refl _) _ | with_reducible refine Below.setCell ?_ (by first | exact Nat.le_refl _ | (simp only []; omega)) _ | with_reducible assumption))
  have Pc1 := P1.cell
  have Pl1 := P1.lt
  have x1 := (k1).below R1
  have y1 := (k2).below R1
  clear k1 k2
  go_enter Try.func3, Try.ntmps3
  go_wp2_with (first
    | (go_at_call 14; ((with_reducible refine (ca w1 y1).mono ?_); rintro e u2 ⟨⟨OA, on, oc, X1, xn1, xc1, rfl, oo1, ol1, xo1, hB2⟩⟩); have K1 := oo1.os (by omega) hok.opts; (obtain ⟨w2, hw2⟩ : ∃ W, u2.alloc (.cells #[.int .u16 (d).src, .int .u16 (d).dst, .int .u32 (d).seq, .int .u32 (d).ack, .int .u8 (d).flags, .int .u16 (d).win, .int .u16 (d).urg, .slice OA on oc, .slice X1 xn1 xc1] 29) = W := ⟨_, rfl⟩); have V2 : Below u2.heap.size u2 w2 := (by rw [← hw2]; (repeat (first | with_reducible exact Below.refl _ _ | with_reducible refine below_drew ?_ | with_reducible refine below_drewN ?_ _ | with_reducible refine below_alloc ?_ (Nat.le_refl _) _ | with_reducible refine Below.setCell ?_ (by first | exact Nat.le_refl _ | (simp only []; omega)) _ | with_reducible assumption))); (obtain ⟨kD2, hkD2⟩ : ∃ k : Nat, u2.heap.size = k := ⟨_, rfl⟩); have D2 : Blk w2 kD2 #[.int .u16 (d).src, .int .u16 (d).dst, .int .u32 (d).seq, .int .u32 (d).ack, .int .u8 (d).flags, .int .u16 (d).win, .int .u16 (d).urg, .slice OA on oc, .slice X1 xn1 xc1] 29 := (by rw [← hw2]; exact blk_new u2 _ _ _ hkD2); have Dc2 := D2.cell; have T2 := below_then hB2 V2; have z2 := (xo1.bs).below V2; have P2 := P1.below T2; have Pc2 := P2.cell; clear Pc1; have x2 := x1.below T2; have y2 := y1.below T2; have R2 := below_then R1 T2; have K2 := K1.below V2)
    | (go_at_call 15; ((with_reducible refine (cb w2 y2).mono ?_); rintro e u3 ⟨⟨PA, pn, pc, X2, xn2, xc2, rfl, oo2, ol2, xo2, hB3⟩⟩); have L1 := oo2.os (by omega) hok.opts; (obtain ⟨w3, hw3⟩ : ∃ W, u3.alloc (.cells #[.int .u16 (d).src, .int .u16 (d).dst, .int .u32 (d).seq, .int .u32 (d).ack, .int .u8 (d).flags, .int .u16 (d).win, .int .u16 (d).urg, .slice PA pn pc, .slice X2 xn2 xc2] 29) = W := ⟨_, rfl⟩); have V3 : Below u3.heap.size u3 w3 := (by rw [← hw3]; (repeat (first | with_reducible exact Below.refl _ _ | with_reducible refine below_drew ?_ | with_reducible refine below_drewN ?_ _ | with_reducible refine below_alloc ?_ (Nat.le_refl _) _ | with_reducible refine Below.setCell ?_ (by first | exact Nat.le_refl _ | (simp only []; omega)) _ | with_reducible assumption))); (obtain ⟨kF3, hkF3⟩ : ∃ k : Nat, u3.heap.size = k := ⟨_, rfl⟩); have F3 : Blk w3 kF3 #[.int .u16 (d).src, .int .u16 (d).dst, .int .u32 (d).seq, .int .u32 (d).ack, .int .u8 (d).flags, .int .u16 (d).win, .int .u16 (d).urg, .slice PA pn pc, .slice X2 xn2 xc2] 29 := (by rw [← hw3]; exact blk_new u3 _ _ _ hkF3); have Fc3 := F3.cell; have T3 := below_then hB3 V3; have v3 := (xo2.bs).below V3; have P3 := P2.below T3; have Pc3 := P3.cell; clear Pc2; have D3 := D2.below T3; have Dc3 := D3.cell; clear Dc2; have x3 := x2.below T3; have y3 := y2.below T3; have z3 := z2.below T3; have R3 := below_then R2 T3; have L3 := L1.below V3; have K3 := K2.below T3)
    | (go_at_call 16; ((with_reducible refine (live03_any w3).mono ?_); rintro e w4 ⟨rfl, hB4⟩); have P4 := P3.below hB4; have Pc4 := P4.cell; clear Pc3; have D4 := D3.below hB4; have Dc4 := D4.cell; clear Dc3; have F4 := F3.below hB4; have Fc4 := F4.cell; clear Fc3; have x4 := x3.below hB4; have y4 := y3.below hB4; have z4 := z3.below hB4; have v4 := v3.below hB4; have R4 := below_then R3 hB4; have L4 := L3.below hB4; have K4 := K3.below hB4)
    | (go_at_call 17; ((with_reducible refine (cs w4 OA on oc X1 xn1 xc1 PA pn pc X2 xn2 xc2 K4 z4 L4 v4).mono ?_); rintro e w5 ⟨rfl, hB5⟩); have P5 := P4.below hB5; have Pc5 := P5.cell; clear Pc4; have D5 := D4.below hB5; have Dc5 := D5.cell; clear Dc4; have F5 := F4.below hB5; have Fc5 := F5.cell; clear Fc4; have x5 := x4.below hB5; have y5 := y4.below hB5; have z5 := z4.below hB5; have v5 := v4.below hB5; have R5 := below_then R4 hB5))
  go_ret
  exact ⟨rfl, R5⟩
end Go.Proofs.Ytjjhnjkmoogloaa

/-
  FOR A PROOF OF AN '..UptoSaid': WHAT THE BOUND GIVES. Copy it as <Name>Bulk.lean (put your seat's Name for Ytjjhnjkmoogloaa, the bound of 'uptoSmall' for 1048576), name it in GOCLAIM.json's 'order' behind <Name>Rows. By an AI agent, Sun Nov 15 2026. No person has read it. No macro, syntax, notation, axiom, sorry.
-/
namespace Go.Proofs.Ytjjhnjkmoogloaa.bulks

theorem one_le {H : Type} (d : DataW H) : 1 ≤ Rows.uptoBulk d := by
  cases d with
  | lit l => cases l <;> simp [Rows.uptoBulk]
  | nil => simp [Rows.uptoBulk]
  | ptr d => simp [Rows.uptoBulk]
  | slice elems spare => simp [Rows.uptoBulk]
  | agg parts => simp [Rows.uptoBulk]
  | iface t d => simp [Rows.uptoBulk]
  | map entries => simp [Rows.uptoBulk]
  | held h => simp [Rows.uptoBulk]

/-- a part's bulk is at most the whole's -/
theorem part_le {H : Type} {d : DataW H} {l : List (DataW H)} (h : d ∈ l) : Rows.uptoBulk d ≤ Rows.uptoBulkAll l := by
  induction l with
  | nil => cases h
  | cons x r ih =>
    simp only [Rows.uptoBulkAll]
    cases List.mem_cons.1 h with
    | inl e => subst e; omega
    | inr e => have := ih e; omega

theorem append {H : Type} (l r : List (DataW H)) : Rows.uptoBulkAll (l ++ r) = Rows.uptoBulkAll l + Rows.uptoBulkAll r := by
  induction l with
  | nil => simp [Rows.uptoBulkAll]
  | cons x l ih => simp only [List.cons_append, Rows.uptoBulkAll, ih]; omega

/-- so many values at the most -/
theorem length_le {H : Type} (l : List (DataW H)) : l.length ≤ Rows.uptoBulkAll l := by
  induction l with
  | nil => simp [Rows.uptoBulkAll]
  | cons x r ih => have := one_le x; simp only [Rows.uptoBulkAll, List.length_cons]; omega

/-- a slice's places, and what they hold -/
theorem slice_le {H : Type} (elems spare : List (DataW H)) : elems.length + spare.length + 1 ≤ Rows.uptoBulk (.slice elems spare) := by
  have h1 := length_le elems
  have h2 := length_le spare
  simp only [Rows.uptoBulk]
  omega
theorem slice_elems {H : Type} (elems spare : List (DataW H)) : Rows.uptoBulkAll elems + 1 ≤ Rows.uptoBulk (.slice elems spare) := by
  simp only [Rows.uptoBulk]
  omega

/-- a string's letters -/
theorem string_eq {H : Type} (bytes : List UInt8) : Rows.uptoBulk (DataW.lit (H := H) (.string bytes)) = bytes.length + 1 := by
  simp [Rows.uptoBulk]

/-- THE BOUND, as the builder hands it over ('hk') -/
theorem bound {H : Type} {l : List (DataW H)} (hk : Rows.uptoSmall H l = true) : Rows.uptoBulkAll l ≤ 1048576 := by
  simpa [Rows.uptoSmall] using hk

/-- ROOM: a slice of n elements of b bytes, grown by append: below the 2^48 bytes that append, make and a Builder bear. Here n up to 2^21, b up to 4,096: put your own numbers. -/
theorem room {n b : Nat} (hn : n ≤ 2097152) (hb : b ≤ 4096) : (n + n / 4 + 192) * b ≤ 281474976710656 := by
  have h : (n + n / 4 + 192) * b ≤ 2621632 * 4096 := Nat.mul_le_mul (by omega) hb
  omega

end Go.Proofs.Ytjjhnjkmoogloaa.bulks

/- A packet, a tuple that came in, opened where the statement bounds the input. -/
namespace Go.Proofs.Ytjjhnjkmoogloaa
open Go.ChangeShapes Go.WideShapes Go.ChangeAt Go.RowKit Go.Deep
set_option linter.unusedVariables false
set_option maxRecDepth 100000

section
variable {H : Type} {enc : TypeId × Value → H} {P : Program} {w : World} {base : Nat} {held : Bool} {spare : Nat → Bool}
theorem trod_bytesU {t e : TypeId} {n N : Nat} {v : Value} {y : DataW H × List MemPlace} (ht : P.underlying t = some (.slice e)) (he : P.underlying e = some (.int .u8)) (hc : P.cellsOf e = 1) (hN : N ≤ 1048576)
    (hb : Rows.uptoBulk y.1 ≤ N) (h : DataW.trod enc P w base spare held n t [v] = some y) : ∃ A n c l, v = .slice A n c ∧ Bs w A n c l ∧ n ≤ N := by
  obtain ⟨A, n, c, l, hv, hbs, hd⟩ := open_bs ht he hc h
  have hn : n ≤ N := by
    rcases hd with ⟨_, h⟩ | ⟨es, sp, hx, hl⟩
    · omega
    · rw [hx] at hb
      have := bulks.slice_le es sp
      omega
  exact ⟨A, n, c, l, hv, hbs (by omega), hn⟩
end
section
variable {H : Type} {enc : TypeId × Value → H} {w : World} {base : Nat} {held : Bool} {spare : Nat → Bool}
theorem open_pktU {r : Reach} {b0 : Nat} {v : Value} {d : DataW H} {ps : List MemPlace} (hval : Value.okWide Try.prog w r b0 26 v) (hd : DataW.Trod enc Try.prog w base spare held 26 v d ps)
    (hb : Rows.uptoBulk d ≤ 1048576) :
    ∃ (p : Pkt) (A1 : Option Addr) (n1 c1 : Nat) (A2 : Option Addr) (n2 c2 : Nat), v = (.agg #[.int .u8 (p).tos, .int .u16 (p).id, .bool (p).keep, .int .u8 (p).ttl, .int .u8 (p).proto, .int .u32 (p).src, .int .u32 (p).dst, .slice A1 n1 c1, .slice A2 n2 c2]) ∧ p.Ok ∧ Bs w A1 n1 c1 p.opt ∧ Bs w A2 n2 c2 p.dat ∧ n1 ≤ 1048576 ∧ n2 ≤ 1048576 := by
  have hu := Try.underlying26
  obtain ⟨cs, xs, n, rfl, hcl, rfl, hxl, hi⟩ := open_struct hu (by kernel_rfl) hval hd
  rw [show (Try.prog.cellsOf 26) = 9 from by kernel_rfl] at hcl
  obtain ⟨v0, v1, v2, v3, v4, v5, v6, v7, v8, rfl⟩ := list9 hcl
  obtain ⟨y0, y1, y2, y3, y4, y5, y6, y7, y8, rfl⟩ := list9 (by simpa using hxl)
  obtain ⟨a0, rfl, b0l, b0h⟩ := trod_byte (t := 5) Try.underlying5 (by simpa using hi 0 _ rfl)
  obtain ⟨a1, rfl, b1l, b1h⟩ := trod_u16 (t := 22) Try.underlying22 (by simpa using hi 1 _ rfl)
  obtain ⟨a2, rfl⟩ := trod_yes (t := 4) Try.underlying4 (by simpa using hi 2 _ rfl)
  obtain ⟨a3, rfl, b3l, b3h⟩ := trod_byte (t := 5) Try.underlying5 (by simpa using hi 3 _ rfl)
  obtain ⟨a4, rfl, b4l, b4h⟩ := trod_byte (t := 5) Try.underlying5 (by simpa using hi 4 _ rfl)
  obtain ⟨a5, rfl, b5l, b5h⟩ := trod_u32 (t := 23) Try.underlying23 (by simpa using hi 5 _ rfl)
  obtain ⟨a6, rfl, b6l, b6h⟩ := trod_u32 (t := 23) Try.underlying23 (by simpa using hi 6 _ rfl)
  simp only [Rows.uptoBulk] at hb
  have m7 := bulks.part_le (l := [y0, y1, y2, y3, y4, y5, y6, y7, y8].map (·.1)) (d := y7.1) (by simp)
  have m8 := bulks.part_le (l := [y0, y1, y2, y3, y4, y5, y6, y7, y8].map (·.1)) (d := y8.1) (by simp)
  obtain ⟨A1, n1, c1, l1, rfl, k1, z1⟩ := trod_bytesU (t := 24) Try.underlying24 Try.underlying5 (by kernel_rfl) (Nat.le_refl _) (y := y7) (by omega) (by simpa using hi 7 _ rfl)
  obtain ⟨A2, n2, c2, l2, rfl, k2, z2⟩ := trod_bytesU (t := 24) Try.underlying24 Try.underlying5 (by kernel_rfl) (Nat.le_refl _) (y := y8) (by omega) (by simpa using hi 8 _ rfl)
  exact ⟨⟨a0, a1, a2, a3, a4, a5, a6, l1, l2⟩, A1, n1, c1, A2, n2, c2, rfl, ⟨⟨b0l, b0h⟩, ⟨b1l, b1h⟩, ⟨b3l, b3h⟩, ⟨b4l, b4h⟩, ⟨b5l, b5h⟩, ⟨b6l, b6h⟩⟩, k1, k2, z1, z2⟩
end
end Go.Proofs.Ytjjhnjkmoogloaa

/- The Go law SegsTcp: for every input of at most 1048576 values in all the call returns true and each argument reads as it did. No other condition. -/
namespace Go.Proofs.Ytjjhnjkmoogloaa.segsTcp
open Go.ChangeShapes Go.WideShapes Go.ChangeAt Go.RowKit
set_option linter.unusedVariables false
set_option maxRecDepth 100000 in
theorem lifted (os : Go.Os) (started : os.Started) (H : Type) (enc : TypeId × Value → H) (F : Stop.Interp) :
    ReturnsInHanded {} Try.checked os 3 .any ((Rows.OpenSpec.upto Rows.segsTcpSpec).pre6 enc Try.prog Try.f3 Rows.segsTcpUptoRow.domain false) (((Rows.OpenSpec.upto Rows.segsTcpSpec).at F).post enc Try.prog Try.f3 false true false false) := by
  refine returnsInHanded_of_cond (C := Try.checked) (s := (Rows.OpenSpec.upto Rows.segsTcpSpec)) (k := Rows.uptoSmall) rfl own_knob started (by kernel_rfl) Try.func3
    (OpenSpec.witness (enc := enc) (C := Try.checked) (s := (Rows.OpenSpec.upto Rows.segsTcpSpec)) (k := Rows.uptoSmall) rfl false ⟨#[], #[.agg #[.int .u8 0, .int .u16 0, .bool false, .int .u8 0, .int .u8 0, .int .u32 0, .int .u32 0, .slice none 0 0, .slice none 0 0]], []⟩ 8 (by kernel_rfl) (by kernel_rfl) (by kernel_rfl)
      (x := ([.agg [.lit (.int .u8 0), .lit (.int .u16 0), .lit (.bool false), .lit (.int .u8 0), .lit (.int .u8 0), .lit (.int .u32 0), .lit (.int .u32 0), .nil, .nil]], [], [])) (by kernel_rfl) rfl (by kernel_rfl)) ?_
  intro W base args ds gs before hval0 hW hcnd hk hholds
  have hval : ∀ (j : Nat) t v, Try.f3.params[j]? = some t → args[j]? = some v → Value.okWide Try.prog W .any base t v := hval0
  have hW' := hW
  obtain ⟨p, q, hA0, hV, rfl, hfz, hnd⟩ := hW
  obtain ⟨rfl, rfl⟩ := trodVars_none hV
  have hA : DataW.TrodAll enc Try.prog W 0 (fun _ => true) true Try.f3.params.toList args.toList ds p := hA0
  rw [Try.params3] at hA hval
  obtain ⟨v0, vs0, d0, ds0, p0, q0, hargs, rfl, rfl, h0, r0⟩ := trodAll_cons hA
  obtain ⟨rfl, rfl, rfl⟩ := trodAll_nil r0
  obtain rfl : args = #[v0] := by cases args; simp_all
  have hbulk : Rows.uptoBulkAll [d0] ≤ 1048576 := bulks.bound hk
  have hbk0 : Rows.uptoBulk d0 ≤ 1048576 := Nat.le_trans (bulks.part_le (l := [d0]) (by simp)) hbulk
  obtain ⟨pk0, A0, n0, c0, B0, m0, e0, rfl, ok0, ka0, kb0, za0, zb0⟩ := open_pktU (hval 0 26 v0 rfl rfl) h0 hbk0
  refine (segsTcp_walk W pk0 ok0 A0 n0 c0 B0 m0 e0 ka0 kb0 za0 zb0).mono fun e W' ⟨he, bel⟩ => ?_
  subst he
  exact ⟨_, rfl, law_post Try.underlying4 rfl laid_out (by kernel_rfl) rfl rfl hW' bel⟩
theorem proved : Rows.SegsTcpUptoSaid :=
  OpenClaim.holds_of_cond 3 Try.f3 rfl rfl rfl rfl rfl rfl rfl ⟨rfl, rfl, rfl, rfl, rfl⟩ rfl rfl rfl rfl rfl (by kernel_rfl) Try.func3 (by kernel_rfl)
    (of_decide_eq_true (by kernel_rfl)) (by unfold Func.isWrapper; first | (rw [if_pos (by decide +kernel)]; kernel_rfl) | (rw [if_neg (by decide +kernel)]; exact ⟨rfl, rfl⟩))
    (fun os started H enc _ F => lifted os started H enc F)
end Go.Proofs.Ytjjhnjkmoogloaa.segsTcp
#print axioms Go.Proofs.Ytjjhnjkmoogloaa.segsTcp.proved
