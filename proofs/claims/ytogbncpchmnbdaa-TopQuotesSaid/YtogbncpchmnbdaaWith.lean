/- A packet with other data. -/
import Derived.Test.YtogbncpchmnbdaaTight
import Derived.Test.YtogbncpchmnbdaaConcat
import Derived.Test.YtogbncpchmnbdaaIpS2
import Derived.Test.YtogbncpchmnbdaaSmall
namespace Go.Proofs.Ytogbncpchmnbdaa
open Go.RowKit
set_option linter.unusedVariables false
set_option linter.unusedSimpArgs false
set_option maxHeartbeats 4000000
set_option maxRecDepth 100000

def wiE (p : Pkt) (n : Nat) : Int := if 40 < p.opt.length ∨ p.opt.length % 4 ≠ 0 then 4 else if 65535 < 20 + p.opt.length + n then 8 else 0
def withP (p : Pkt) (pr : Int) (d : List UInt8) : Pkt := if wiE p d.length = 0 then { p with proto := pr, dat := d } else zP
structure WiPost (w : World) (P : Pkt) (E : Int) (e : Ending) (w' : World) : Prop where
  out : ∃ B1 m1 d1 B2 m2 d2, e = .returned (.tuple #[(.agg #[.int .u8 (P).tos, .int .u16 (P).id, .bool (P).keep, .int .u8 (P).ttl, .int .u8 (P).proto, .int .u32 (P).src, .int .u32 (P).dst, .slice B1 m1 d1, .slice B2 m2 d2]), .int .i64 E]) ∧ Own w' w.heap.size 5 B1 m1 d1 P.opt ∧ Own w' w.heap.size 5 B2 m2 d2 P.dat ∧ Below w.heap.size w w'
theorem wiPost_no {w w' : World} {E : Int} (hB : Below w.heap.size w w') : WiPost w zP E (.returned (.tuple #[.agg #[.int .u8 0, .int .u16 0, .bool false, .int .u8 0, .int .u8 0, .int .u32 0, .int .u32 0, .slice none 0 0, .slice none 0 0], .int .i64 E])) w' :=
  ⟨none, 0, 0, none, 0, 0, rfl, own_nil _ _ _, own_nil _ _ _, hB⟩
theorem rwith_ok (p : Pkt) (A1 : Option Addr) (n1 c1 : Nat) (A2 : Option Addr) (n2 c2 : Nat) (pr : Int) (A3 : Option Addr) (n3 c3 : Nat) (d : List UInt8) (w : World) (k1 : Bs w A1 n1 c1 p.opt) (k3 : Bs w A3 n3 c3 d)
    (h1 : (n1 : Int) ≤ 40) (h2 : ((n1 : Int) % 4 != 0) = false) (h3 : 20 + (n1 : Int) + n3 ≤ 65535) :
    Calls Try.prog 41 #[(.agg #[.int .u8 (p).tos, .int .u16 (p).id, .bool (p).keep, .int .u8 (p).ttl, .int .u8 (p).proto, .int .u32 (p).src, .int .u32 (p).dst, .slice A1 n1 c1, .slice A2 n2 c2]), .int .u8 pr, .slice A3 n3 c3] w (WiPost w { p with proto := pr, dat := d } 0) := by
  have b1 := k1.max
  have b3 := k3.max
  have hl0 : (cu []).toArray = #[] := rfl
  obtain ⟨k, hk⟩ : ∃ k : Nat, w.heap.size = k := ⟨_, rfl⟩
  obtain ⟨w1, hw1⟩ : ∃ w1, (w.alloc (.cells #[.int .u8 (p).tos, .int .u16 (p).id, .bool (p).keep, .int .u8 (p).ttl, .int .u8 (p).proto, .int .u32 (p).src, .int .u32 (p).dst, .slice A1 n1 c1, .slice A2 n2 c2] 26)).alloc (.cells #[.int .u8 0, .int .u16 0, .bool false, .int .u8 0, .int .u8 0, .int .u32 0, .int .u32 0, .slice none 0 0, .slice none 0 0] 26) = w1 := ⟨_, rfl⟩
  have P1 : Blk w1 k #[.int .u8 (p).tos, .int .u16 (p).id, .bool (p).keep, .int .u8 (p).ttl, .int .u8 (p).proto, .int .u32 (p).src, .int .u32 (p).dst, .slice A1 n1 c1, .slice A2 n2 c2] 26 := by rw [← hw1]; exact (blk_new w _ _ k hk).alloc _
  have Z1 : Blk w1 (k + 1) #[.int .u8 0, .int .u16 0, .bool false, .int .u8 0, .int .u8 0, .int .u32 0, .int .u32 0, .slice none 0 0, .slice none 0 0] 26 := by rw [← hw1]; exact blk_new _ _ _ (k + 1) (by simp [hk])
  have R1 : Below w.heap.size w w1 := by rw [← hw1]; (repeat (first | with_reducible exact Below.refl _ _ | with_reducible refine below_drew ?_ | with_reducible refine below_drewN ?_ _ | with_reducible refine below_alloc ?_ (Nat.le_refl _) _ | with_reducible refine Below.setCell ?_ (by first | exact Nat.le_refl _ | (simp only []; omega)) _ | with_reducible assumption))
  obtain ⟨g, hg⟩ : ∃ g : Nat, w1.heap.size = g := ⟨_, rfl⟩
  have hgk : k + 2 ≤ g := by rw [← hg, ← hw1]; simp [hk]
  obtain ⟨w2, hw2⟩ : ∃ w2, w1.alloc (.cells #[.int .u8 p.tos, .int .u16 p.id, .bool p.keep, .int .u8 p.ttl, .int .u8 pr, .int .u32 p.src, .int .u32 p.dst, .slice A1 n1 c1, .slice A2 n2 c2] 26) = w2 := ⟨_, rfl⟩
  have Q2 : Blk w2 g #[.int .u8 p.tos, .int .u16 p.id, .bool p.keep, .int .u8 p.ttl, .int .u8 pr, .int .u32 p.src, .int .u32 p.dst, .slice A1 n1 c1, .slice A2 n2 c2] 26 := by rw [← hw2]; exact blk_new w1 _ _ g hg
  have V2 : Below w1.heap.size w1 w2 := by rw [← hw2]; (repeat (first | with_reducible exact Below.refl _ _ | with_reducible refine below_drew ?_ | with_reducible refine below_drewN ?_ _ | with_reducible refine below_alloc ?_ (Nat.le_refl _) _ | with_reducible refine Below.setCell ?_ (by first | exact Nat.le_refl _ | (simp only []; omega)) _ | with_reducible assumption))
  have R2 := below_then R1 V2
  have P2 := P1.below V2
  have Z2 := Z1.below V2
  have x1 := k1.below R2
  have hs2 : g < w2.heap.size := Q2.lt
  have kl2 : k < w2.heap.size := P2.lt
  have pc := P1.cell
  have pc2 := P2.cell
  have qc2 := Q2.cell
  go_enter Try.func41, Try.ntmps41
  go_wp2_with (first
    | (at_builtin; refine wpList_append_bs (w0 := w2) _ rfl _ _ _ rfl w2.heap.size 5 Try.underlying24 info_u8 (some ⟨_, 0, none⟩) 0 0 [] rfl (own_litk _ _ (by simp) w2.heap.size 5 [] 0 rfl (by omega) (by omega)) A1 n1 c1 p.opt rfl (x1.alloc _) (by (repeat (first | with_reducible exact Below.refl _ _ | with_reducible refine below_drew ?_ | with_reducible refine below_drewN ?_ _ | with_reducible refine below_alloc ?_ (Nat.le_refl _) _ | with_reducible refine Below.setCell ?_ (by first | exact Nat.le_refl _ | (simp only []; omega)) _ | with_reducible assumption))) (by omega) (by first | exact Nat.le_refl _ | exact Below.size (by (repeat (first | with_reducible exact Below.refl _ _ | with_reducible refine below_drew ?_ | with_reducible refine below_drewN ?_ _ | with_reducible refine below_alloc ?_ (Nat.le_refl _) _ | with_reducible refine Below.setCell ?_ (by first | exact Nat.le_refl _ | (simp only []; omega)) _ | with_reducible assumption))) | omega | (simp <;> omega)) ?_; intro A4 n4 c4 w4 ho4 hB4 _ hz4; have u4 : n4 = n1 := (by have := ho4.len; have := x1.len; simp at *; omega); subst u4; replace ho4 : Own w4 w2.heap.size 5 A4 n4 c4 p.opt := ho4; have Q4 := Q2.below hB4; have qc4 := Q4.cell; (obtain ⟨w5, hw5, S5⟩ := store1 Q4 7 (.slice A4 n4 c4)); simp only [List.setIfInBounds_toArray, List.set_cons_zero, List.set_cons_succ] at S5; have T5 := S5.bel (below_then R2 hB4) (by omega); have P5 := S5.other (by omega) (P2.below hB4); have Z5 := S5.other (by omega) (Z2.below hB4); have Q5 := S5.blk; have O5 := S5.own ho4 (fun a e => by have := ho4.ge a e; omega); have qc5 := Q5.cell; have x5 := k3.below T5)
    | (at_builtin; refine wpList_append_bs (w0 := w5) _ rfl _ _ _ rfl w5.heap.size 5 Try.underlying24 info_u8 (some ⟨_, 0, none⟩) 0 0 [] rfl (own_litk _ _ (by simp) w5.heap.size 5 [] 0 rfl (by omega) (by omega)) A3 n3 c3 d rfl (x5.alloc _) (by (repeat (first | with_reducible exact Below.refl _ _ | with_reducible refine below_drew ?_ | with_reducible refine below_drewN ?_ _ | with_reducible refine below_alloc ?_ (Nat.le_refl _) _ | with_reducible refine Below.setCell ?_ (by first | exact Nat.le_refl _ | (simp only []; omega)) _ | with_reducible assumption))) (by omega) (by first | exact Nat.le_refl _ | exact Below.size (by (repeat (first | with_reducible exact Below.refl _ _ | with_reducible refine below_drew ?_ | with_reducible refine below_drewN ?_ _ | with_reducible refine below_alloc ?_ (Nat.le_refl _) _ | with_reducible refine Below.setCell ?_ (by first | exact Nat.le_refl _ | (simp only []; omega)) _ | with_reducible assumption))) | omega | (simp <;> omega)) ?_; intro A6 n6 c6 w6 ho6 hB6 _ hz6; have u6 : n6 = n3 := (by have := ho6.len; have := x5.len; simp at *; omega); subst u6; replace ho6 : Own w6 w5.heap.size 5 A6 n6 c6 d := ho6; have Q6 := Q5.below hB6; have qc6 := Q6.cell; have ql6 := Q5.lt; (obtain ⟨w7, hw7, S7⟩ := store1 Q6 8 (.slice A6 n6 c6)); simp only [List.setIfInBounds_toArray, List.set_cons_zero, List.set_cons_succ] at S7; have T7 := S7.bel (below_then T5 hB6) (by omega); have Z7 := S7.other (by omega) (Z5.below hB6); have zc7 := Z7.cell; have qc7 := S7.blk.cell; have O7 := S7.own (O5.below hB6) (fun a e => by have := O5.ge a e; omega); have D7 := S7.own ho6 (fun a e => by have := ho6.ge a e; omega)))
  obtain ⟨wf, hwf, Sf⟩ := store9 Z7 (.int .u8 p.tos) (.int .u16 p.id) (.bool p.keep) (.int .u8 p.ttl) (.int .u8 pr) (.int .u32 p.src) (.int .u32 p.dst) (.slice A4 n4 c4) (.slice A6 n6 c6)
  rw [hwf]
  have pf := Sf.blk.cell
  have s5 : w.heap.size ≤ w5.heap.size := T5.size
  have Tf := Sf.bel T7 (by omega)
  have Of := Sf.own O7 (fun a e => by have := O7.ge a e; omega)
  have Df := Sf.own D7 (fun a e => by have := D7.ge a e; have := Z5.lt; omega)
  refine bodyPost_ret (v := .tuple #[.agg #[.int .u8 p.tos, .int .u16 p.id, .bool p.keep, .int .u8 p.ttl, .int .u8 pr, .int .u32 p.src, .int .u32 p.dst, .slice A4 n4 c4, .slice A6 n6 c6], .int .i64 0]) (by simp [results, Try.results41, go_sem, pf]) rfl ⟨A4, n4, c4, A6, n6, c6, rfl, Of.mono (by omega), Df.mono s5, Tf⟩
theorem rwith_no (p : Pkt) (A1 : Option Addr) (n1 c1 : Nat) (A2 : Option Addr) (n2 c2 : Nat) (pr : Int) (A3 : Option Addr) (n3 c3 : Nat) (w : World) (b1 : n1 ≤ 200000000000000) (b3 : n3 ≤ 200000000000000) (E : Int)
    (h : (E = 4 ∧ 40 < (n1 : Int)) ∨ (E = 4 ∧ (n1 : Int) ≤ 40 ∧ ((n1 : Int) % 4 != 0) = true) ∨ (E = 8 ∧ (n1 : Int) ≤ 40 ∧ ((n1 : Int) % 4 != 0) = false ∧ 65535 < 20 + (n1 : Int) + n3)) :
    Calls Try.prog 41 #[(.agg #[.int .u8 (p).tos, .int .u16 (p).id, .bool (p).keep, .int .u8 (p).ttl, .int .u8 (p).proto, .int .u32 (p).src, .int .u32 (p).dst, .slice A1 n1 c1, .slice A2 n2 c2]), .int .u8 pr, .slice A3 n3 c3] w (WiPost w zP E) := by
  obtain ⟨k, hk⟩ : ∃ k : Nat, w.heap.size = k := ⟨_, rfl⟩
  obtain ⟨w1, hw1⟩ : ∃ w1, (w.alloc (.cells #[.int .u8 (p).tos, .int .u16 (p).id, .bool (p).keep, .int .u8 (p).ttl, .int .u8 (p).proto, .int .u32 (p).src, .int .u32 (p).dst, .slice A1 n1 c1, .slice A2 n2 c2] 26)).alloc (.cells #[.int .u8 0, .int .u16 0, .bool false, .int .u8 0, .int .u8 0, .int .u32 0, .int .u32 0, .slice none 0 0, .slice none 0 0] 26) = w1 := ⟨_, rfl⟩
  have P1 : Blk w1 k #[.int .u8 (p).tos, .int .u16 (p).id, .bool (p).keep, .int .u8 (p).ttl, .int .u8 (p).proto, .int .u32 (p).src, .int .u32 (p).dst, .slice A1 n1 c1, .slice A2 n2 c2] 26 := by rw [← hw1]; exact (blk_new w _ _ k hk).alloc _
  have Z1 : Blk w1 (k + 1) #[.int .u8 0, .int .u16 0, .bool false, .int .u8 0, .int .u8 0, .int .u32 0, .int .u32 0, .slice none 0 0, .slice none 0 0] 26 := by rw [← hw1]; exact blk_new _ _ _ (k + 1) (by simp [hk])
  have R1 : Below w.heap.size w w1 := by rw [← hw1]; (repeat (first | with_reducible exact Below.refl _ _ | with_reducible refine below_drew ?_ | with_reducible refine below_drewN ?_ _ | with_reducible refine below_alloc ?_ (Nat.le_refl _) _ | with_reducible refine Below.setCell ?_ (by first | exact Nat.le_refl _ | (simp only []; omega)) _ | with_reducible assumption))
  have pc := P1.cell
  have zc := Z1.cell
  obtain ⟨wf, hwf, Sf⟩ := store9 Z1 (.int .u8 0) (.int .u16 0) (.bool false) (.int .u8 0) (.int .u8 0) (.int .u32 0) (.int .u32 0) (.slice none 0 0) (.slice none 0 0)
  have pf := Sf.blk.cell
  have Tf := Sf.bel R1 (by omega)
  rcases h with ⟨rfl, h1⟩ | ⟨rfl, h1, h2⟩ | ⟨rfl, h1, h2, h3⟩
  all_goals go_enter Try.func41, Try.ntmps41
  all_goals go_wp2_with fail
  all_goals exact bodyPost_ret (by simp [results, Try.results41, go_sem, pf]) rfl (wiPost_no Tf)
theorem wiE_4 {p : Pkt} {n1 n : Nat} (l1 : p.opt.length = n1) (h : 40 < (n1 : Int) ∨ n1 % 4 ≠ 0) : wiE p n = 4 := by unfold wiE; rw [l1, if_pos (by omega)]
theorem wiE_8 {p : Pkt} {n1 n : Nat} (l1 : p.opt.length = n1) (h1 : (n1 : Int) ≤ 40) (h2 : n1 % 4 = 0) (h3 : 65535 < 20 + (n1 : Int) + n) : wiE p n = 8 := by unfold wiE; rw [l1, if_neg (by omega), if_pos (by omega)]
theorem wiE_0 {p : Pkt} {n1 n : Nat} (l1 : p.opt.length = n1) (h1 : (n1 : Int) ≤ 40) (h2 : n1 % 4 = 0) (h3 : 20 + (n1 : Int) + n ≤ 65535) : wiE p n = 0 := by unfold wiE; rw [l1, if_neg (by omega), if_neg (by omega)]
theorem m4_no {n : Nat} (h : n % 4 = 0) : ((n : Int) % 4 != 0) = false := by simp; omega
theorem m4_yes {n : Nat} (h : n % 4 ≠ 0) : ((n : Int) % 4 != 0) = true := by simp; omega
theorem rwith_any (p : Pkt) (A1 : Option Addr) (n1 c1 : Nat) (A2 : Option Addr) (n2 c2 : Nat) (pr : Int) (A3 : Option Addr) (n3 c3 : Nat) (d : List UInt8) (w : World) (k1 : Bs w A1 n1 c1 p.opt) (k3 : Bs w A3 n3 c3 d) :
    Calls Try.prog 41 #[(.agg #[.int .u8 (p).tos, .int .u16 (p).id, .bool (p).keep, .int .u8 (p).ttl, .int .u8 (p).proto, .int .u32 (p).src, .int .u32 (p).dst, .slice A1 n1 c1, .slice A2 n2 c2]), .int .u8 pr, .slice A3 n3 c3] w (WiPost w (withP p pr d) (wiE p d.length)) := by
  have l1 := k1.len
  have l3 := k3.len
  unfold withP
  by_cases h1 : (n1 : Int) ≤ 40
  · by_cases h2 : n1 % 4 = 0
    · by_cases h3 : 20 + (n1 : Int) + n3 ≤ 65535
      · rw [l3, wiE_0 l1 h1 h2 h3, if_pos rfl]
        exact rwith_ok p A1 n1 c1 A2 n2 c2 pr A3 n3 c3 d w k1 k3 h1 (m4_no h2) h3
      · rw [l3, wiE_8 l1 h1 h2 (by omega), if_neg (by decide)]
        exact rwith_no p A1 n1 c1 A2 n2 c2 pr A3 n3 c3 w k1.max k3.max 8 (.inr (.inr ⟨rfl, h1, m4_no h2, by omega⟩))
    · rw [wiE_4 l1 (.inr h2), if_neg (by decide)]
      exact rwith_no p A1 n1 c1 A2 n2 c2 pr A3 n3 c3 w k1.max k3.max 4 (.inr (.inl ⟨rfl, h1, m4_yes h2⟩))
  · rw [wiE_4 l1 (.inl (by omega)), if_neg (by decide)]
    exact rwith_no p A1 n1 c1 A2 n2 c2 pr A3 n3 c3 w k1.max k3.max 4 (.inl ⟨rfl, by omega⟩)
end Go.Proofs.Ytogbncpchmnbdaa
