/- Small words: a block of the call's own that is known whole. -/
import Derived.Below
import Derived.MapKept
import Derived.Test.YtogbncpchmnbdaaBase
namespace Go.Proofs.Ytogbncpchmnbdaa
open Go.RowKit
theorem bcell {W w1 : World} (hb : Below W.heap.size W w1) : (∀ b o, b < W.heap.size → w1.cell? ⟨b, o, none⟩ = W.cell? ⟨b, o, none⟩) ∧ (∀ b o, b < W.heap.size → w1.frozen? ⟨b, o, none⟩ = W.frozen? ⟨b, o, none⟩) :=
  ⟨fun b o h => hb.cell (p := ⟨b, o, none⟩) h, fun b o h => hb.frozen (p := ⟨b, o, none⟩) h⟩
/-- Block k holds these cells, and no others. -/
structure Blk (w : World) (k : Nat) (cs : Array Value) (t : TypeId) : Prop where
  rd : w.heap[k]? = some (.cells cs t (0, 0))
section
variable {w w' : World} {k : Nat} {cs : Array Value} {t : TypeId}
theorem Blk.lt (h : Blk w k cs t) : k < w.heap.size := (Array.getElem?_eq_some_iff.1 h.rd).1
theorem blk_new (w : World) (cs : Array Value) (t : TypeId) (k : Nat) (hk : w.heap.size = k) : Blk (w.alloc (.cells cs t)) k cs t := by
  subst hk
  exact ⟨(Go.MapKept.heap_alloc w _).1⟩
theorem Blk.below (h : Blk w k cs t) (hb : Below w.heap.size w w') : Blk w' k cs t := ⟨(hb.block k h.lt).trans h.rd⟩
theorem Blk.alloc (h : Blk w k cs t) (o : Obj) : Blk (w.alloc o) k cs t := h.below ((Below.refl _ w).alloc (Nat.le_refl _) o)
theorem Blk.drewN (h : Blk w k cs t) (n : Nat) : Blk (w.drewN n) k cs t := ⟨h.rd⟩
theorem Blk.drew (h : Blk w k cs t) : Blk w.drew k cs t := ⟨h.rd⟩
theorem Blk.cell (h : Blk w k cs t) : (∀ j, w.cell? ⟨k, j, none⟩ = cs[j]?) ∧ (∀ j, w.frozen? ⟨k, j, none⟩ = false) := by
  refine ⟨fun j => ?_, fun j => ?_⟩
  · simp [World.cell?, h.rd]
  · simp [World.frozen?, h.rd]
theorem Blk.set_ (h : Blk w k cs t) (j : Nat) (v : Value) : Blk (w.setCell ⟨k, j, none⟩ v) k (cs.setIfInBounds j v) t := by
  constructor
  have hk := h.lt
  have hr := h.rd
  unfold World.setCell
  simp [Array.getElem?_modify, hr]
theorem Blk.far (h : Blk w k cs t) (p : Addr) (hp : p.block ≠ k) (v : Value) : Blk (w.setCell p v) k cs t := by
  constructor
  have hr := h.rd
  unfold World.setCell
  simp [Array.getElem?_modify, hr, hp]
end
theorem Bs.at_ {w : World} {b off n c : Nat} {l : List UInt8} (h : Bs w (some ⟨b, off, none⟩) n c l) {j : Nat} (hj : j < n) : w.cell? ⟨b, off + j, none⟩ = some (.int .u8 (bt l j)) := by
  obtain ⟨b', o', e, hc⟩ := h.rd (by omega)
  injection e with e
  injection e with e1 e2 e3
  subst e1 e2
  exact hc j hj
theorem Bs.takeN {w : World} {A : Option Addr} {n c : Nat} {l : List UInt8} (h : Bs w A n c l) {k : Nat} (hk : k ≤ n) : Bs w A k c (l.take k) :=
  ⟨by rw [List.length_take, h.len]; omega, by have := h.cap; omega, by have := h.max; omega, h.nil, fun hn => by
    obtain ⟨b, o, e, hc⟩ := h.rd (by omega)
    refine ⟨b, o, e, fun j hj => ?_⟩
    rw [hc j (by omega)]
    congr 2
    unfold bt
    simp [List.getD_eq_getElem?_getD, hj]⟩
theorem Bs.some_ {w : World} {A : Option Addr} {n c : Nat} {l : List UInt8} (h : Bs w A n c l) (hn : 0 < n) : ∃ b off, A = some ⟨b, off, none⟩ := by
  obtain ⟨b, o, e, _⟩ := h.rd hn
  exact ⟨b, o, e⟩
theorem Bs.away {w : World} {A : Option Addr} {n c : Nat} {l : List UInt8} (h : Bs w A n c l) (p : Addr) (hp : ∀ a, A = some a → p.block ≠ a.block) (v : Value) : Bs (w.setCell p v) A n c l :=
  ⟨h.len, h.cap, h.max, h.nil, fun hn => by
    obtain ⟨b, o, e, hc⟩ := h.rd hn
    exact ⟨b, o, e, fun j hj => (World.cell?_setCell_far w p ⟨b, o + j, none⟩ v (hp ⟨b, o, none⟩ e)).trans (hc j hj)⟩⟩
theorem Own.ge {w : World} {base : Nat} {e : TypeId} {A : Option Addr} {n c : Nat} {l : List UInt8} (h : Own w base e A n c l) : ∀ a, A = some a → base ≤ a.block := by
  intro a ha
  subst ha
  rcases h.row.2 with ⟨hv, _⟩ | ⟨g, cap, cur, hv, hb, _⟩
  · injection hv with hv; cases hv
  · injection hv with hv
    injection hv with hv
    subst hv
    exact hb
theorem gt_ne {A : Option Addr} {r : Nat} (h : ∀ a, A = some a → r < a.block) : ∀ a, A = some a → a.block ≠ r := fun a e => by have := h a e; omega
theorem grownBy_setCell (w : World) (p : Addr) (v : Value) : w.grownBy (w.setCell p v) (some p.block) :=
  ⟨rfl, rfl, rfl, by simp [World.setCell], fun k hk hne => by
    have hne' : ¬ p.block = k := fun e => hne (by rw [e])
    unfold World.setCell
    simp [Array.getElem?_modify, hne']⟩
theorem Own.away {w : World} {base : Nat} {e : TypeId} {A : Option Addr} {n c : Nat} {l : List UInt8} (h : Own w base e A n c l) (p : Addr) (v : Value) (hp : ∀ a, A = some a → a.block ≠ p.block) : Own (w.setCell p v) base e A n c l :=
  h.kept (grownBy_setCell w p v) (by
    rcases h.row.2 with ⟨hv, _⟩ | ⟨g, cap, cur, hv, _⟩
    · rw [hv]; exact .inl rfl
    · injection hv with h1 h2 h3
      subst h1 h3
      refine .inr fun he => ?_
      simp [Value.ownBlock] at he
      exact hp _ rfl he)
/-- Stores into block r alone. -/
structure Sto (W : World) (r : Nat) (wf : World) (cs : Array Value) (t : TypeId) : Prop where
  blk : Blk wf r cs t
  bel : ∀ {B w0}, Below B w0 W → B ≤ r → Below B w0 wf
  bs : ∀ {A n c l}, Bs W A n c l → (∀ a, A = some a → a.block ≠ r) → Bs wf A n c l
  other : ∀ {k cs' t'}, k ≠ r → Blk W k cs' t' → Blk wf k cs' t'
  own : ∀ {B e A n c l}, Own W B e A n c l → (∀ a, A = some a → a.block ≠ r) → Own wf B e A n c l
theorem Sto.nil {W : World} {r : Nat} {cs : Array Value} {t : TypeId} (h : Blk W r cs t) : Sto W r W cs t := ⟨h, fun b _ => b, fun b _ => b, fun _ b => b, fun b _ => b⟩
theorem Sto.set {W : World} {r : Nat} {wf : World} {cs : Array Value} {t : TypeId} (h : Sto W r wf cs t) (j : Nat) (v : Value) : Sto W r (wf.setCell ⟨r, j, none⟩ v) (cs.setIfInBounds j v) t :=
  ⟨h.blk.set_ j v, fun b hB => (h.bel b hB).setCell (p := ⟨r, j, none⟩) hB v, fun b ha => (h.bs b ha).away _ (fun a e => Ne.symm (ha a e)) v, fun hk b => (h.other hk b).far _ (Ne.symm hk) v, fun b ha => (h.own b ha).away _ v ha⟩
theorem store1 {W : World} {r : Nat} {cs : Array Value} {t : TypeId} (R : Blk W r cs t) (j : Nat) (v : Value) : ∃ wf, W.setCell ⟨r, j, none⟩ v = wf ∧ Sto W r wf (cs.setIfInBounds j v) t := ⟨_, rfl, (Sto.nil R).set j v⟩
theorem store2 {W : World} {r : Nat} {c0 c1 : Value} {t : TypeId} (R : Blk W r #[c0, c1] t) (v0 v1 : Value) :
    ∃ wf, ((W.setCell ⟨r, 0, none⟩ v0).setCell ⟨r, 1, none⟩ v1) = wf ∧ Sto W r wf #[v0, v1] t := by
  have h := ((Sto.nil R).set 0 v0).set 1 v1
  simp only [List.setIfInBounds_toArray, List.set_cons_zero, List.set_cons_succ] at h
  exact ⟨_, rfl, h⟩
theorem store4 {W : World} {r : Nat} {c0 c1 c2 c3 : Value} {t : TypeId} (R : Blk W r #[c0, c1, c2, c3] t) (v0 v1 v2 v3 : Value) :
    ∃ wf, ((((W.setCell ⟨r, 0, none⟩ v0).setCell ⟨r, 1, none⟩ v1).setCell ⟨r, 2, none⟩ v2).setCell ⟨r, 3, none⟩ v3) = wf ∧ Sto W r wf #[v0, v1, v2, v3] t := by
  have h := ((((Sto.nil R).set 0 v0).set 1 v1).set 2 v2).set 3 v3
  simp only [List.setIfInBounds_toArray, List.set_cons_zero, List.set_cons_succ] at h
  exact ⟨_, rfl, h⟩
theorem store5 {W : World} {r : Nat} {c0 c1 c2 c3 c4 : Value} {t : TypeId} (R : Blk W r #[c0, c1, c2, c3, c4] t) (v0 v1 v2 v3 v4 : Value) :
    ∃ wf, (((((W.setCell ⟨r, 0, none⟩ v0).setCell ⟨r, 1, none⟩ v1).setCell ⟨r, 2, none⟩ v2).setCell ⟨r, 3, none⟩ v3).setCell ⟨r, 4, none⟩ v4) = wf ∧ Sto W r wf #[v0, v1, v2, v3, v4] t := by
  have h := (((((Sto.nil R).set 0 v0).set 1 v1).set 2 v2).set 3 v3).set 4 v4
  simp only [List.setIfInBounds_toArray, List.set_cons_zero, List.set_cons_succ] at h
  exact ⟨_, rfl, h⟩
theorem store6 {W : World} {r : Nat} {c0 c1 c2 c3 c4 c5 : Value} {t : TypeId} (R : Blk W r #[c0, c1, c2, c3, c4, c5] t) (v0 v1 v2 v3 v4 v5 : Value) :
    ∃ wf, ((((((W.setCell ⟨r, 0, none⟩ v0).setCell ⟨r, 1, none⟩ v1).setCell ⟨r, 2, none⟩ v2).setCell ⟨r, 3, none⟩ v3).setCell ⟨r, 4, none⟩ v4).setCell ⟨r, 5, none⟩ v5) = wf ∧ Sto W r wf #[v0, v1, v2, v3, v4, v5] t := by
  have h := ((((((Sto.nil R).set 0 v0).set 1 v1).set 2 v2).set 3 v3).set 4 v4).set 5 v5
  simp only [List.setIfInBounds_toArray, List.set_cons_zero, List.set_cons_succ] at h
  exact ⟨_, rfl, h⟩
theorem store9 {W : World} {r : Nat} {c0 c1 c2 c3 c4 c5 c6 c7 c8 : Value} {t : TypeId} (R : Blk W r #[c0, c1, c2, c3, c4, c5, c6, c7, c8] t) (v0 v1 v2 v3 v4 v5 v6 v7 v8 : Value) :
    ∃ wf, (((((((((W.setCell ⟨r, 0, none⟩ v0).setCell ⟨r, 1, none⟩ v1).setCell ⟨r, 2, none⟩ v2).setCell ⟨r, 3, none⟩ v3).setCell ⟨r, 4, none⟩ v4).setCell ⟨r, 5, none⟩ v5).setCell ⟨r, 6, none⟩ v6).setCell ⟨r, 7, none⟩ v7).setCell ⟨r, 8, none⟩ v8) = wf ∧ Sto W r wf #[v0, v1, v2, v3, v4, v5, v6, v7, v8] t := by
  have h := (((((((((Sto.nil R).set 0 v0).set 1 v1).set 2 v2).set 3 v3).set 4 v4).set 5 v5).set 6 v6).set 7 v7).set 8 v8
  simp only [List.setIfInBounds_toArray, List.set_cons_zero, List.set_cons_succ] at h
  exact ⟨_, rfl, h⟩
/-- A slice that reads so, in a block above r. -/
def isF (r n : Nat) (l : List UInt8) : World → Value → Prop := fun W v => ∃ A c, v = .slice A n c ∧ Bs W A n c l ∧ ∀ a, A = some a → r < a.block
theorem st_isF {r n : Nat} {l : List UInt8} : ∀ w w' v, isF r n l w v → Below w.heap.size w w' → isF r n l w' v := fun _ _ _ ⟨A, c, e, k, h⟩ hb => ⟨A, c, e, k.below hb, h⟩
theorem own_isF {w : World} {base r : Nat} {e : TypeId} {A : Option Addr} {n c : Nat} {l : List UInt8} (h : Own w base e A n c l) (hr : r < base) : isF r n l w (.slice A n c) :=
  ⟨A, c, rfl, h.bs, fun a ha => Nat.lt_of_lt_of_le hr (h.ge a ha)⟩
theorem Bs.far {w : World} {b off n c : Nat} {l : List UInt8} (h : Bs w (some ⟨b, off, none⟩) n c l) (p : Addr) (hp : p.block ≠ b) (v : Value) : Bs (w.setCell p v) (some ⟨b, off, none⟩) n c l :=
  ⟨h.len, h.cap, h.max, h.nil, fun hn => by
    obtain ⟨b', o', e, hc⟩ := h.rd hn
    injection e with e
    injection e with e1 e2 e3
    subst e1 e2
    exact ⟨b, off, rfl, fun j hj => (World.cell?_setCell_far w p ⟨b, off + j, none⟩ v hp).trans (hc j hj)⟩⟩
end Go.Proofs.Ytogbncpchmnbdaa
