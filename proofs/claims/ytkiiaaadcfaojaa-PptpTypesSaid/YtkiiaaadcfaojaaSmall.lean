/- Small words: a block of the call's own that is known whole. -/
import Derived.Below
import Derived.MapKept
import Derived.Test.YtkiiaaadcfaojaaBase
namespace Go.Proofs.Ytkiiaaadcfaojaa
open Go.RowKit
theorem bcell {W w1 : World} (hb : Below W.heap.size W w1) : (∀ b o, b < W.heap.size → w1.cell? ⟨b, o, none⟩ = W.cell? ⟨b, o, none⟩) ∧ (∀ b o, b < W.heap.size → w1.frozen? ⟨b, o, none⟩ = W.frozen? ⟨b, o, none⟩) :=
  ⟨fun b o h => hb.cell (p := ⟨b, o, none⟩) h, fun b o h => hb.frozen (p := ⟨b, o, none⟩) h⟩
/-- Block k holds these cells, and no others. -/
structure Blk (w : World) (k : Nat) (cs : Array Value) (t : TypeId) : Prop where
  rd : w.heap[k]? = some (.cells cs t (0, 0))
section
variable {w w' : World} {k : Nat} {cs : Array Value} {t : TypeId}
theorem Blk.lt (h : Blk w k cs t) : k < w.heap.size := (Array.getElem?_eq_some_iff.1 h.rd).1
theorem blk_new (w : World) (cs : Array Value) (t : TypeId) (k : Nat) (hk : w.heap.size = k) : Blk (w.alloc (.cells cs t)) k cs t := by
  subst hk
  exact ⟨(Go.MapKept.heap_alloc w _).1⟩
theorem Blk.below (h : Blk w k cs t) (hb : Below w.heap.size w w') : Blk w' k cs t := ⟨(hb.block k h.lt).trans h.rd⟩
theorem Blk.alloc (h : Blk w k cs t) (o : Obj) : Blk (w.alloc o) k cs t := h.below ((Below.refl _ w).alloc (Nat.le_refl _) o)
theorem Blk.drewN (h : Blk w k cs t) (n : Nat) : Blk (w.drewN n) k cs t := ⟨h.rd⟩
theorem Blk.drew (h : Blk w k cs t) : Blk w.drew k cs t := ⟨h.rd⟩
theorem Blk.cell (h : Blk w k cs t) : (∀ j, w.cell? ⟨k, j, none⟩ = cs[j]?) ∧ (∀ j, w.frozen? ⟨k, j, none⟩ = false) := by
  refine ⟨fun j => ?_, fun j => ?_⟩
  · simp [World.cell?, h.rd]
  · simp [World.frozen?, h.rd]
theorem Blk.set_ (h : Blk w k cs t) (j : Nat) (v : Value) : Blk (w.setCell ⟨k, j, none⟩ v) k (cs.setIfInBounds j v) t := by
  constructor
  have hk := h.lt
  have hr := h.rd
  unfold World.setCell
  simp [Array.getElem?_modify, hr]
theorem Blk.far (h : Blk w k cs t) (p : Addr) (hp : p.block ≠ k) (v : Value) : Blk (w.setCell p v) k cs t := by
  constructor
  have hr := h.rd
  unfold World.setCell
  simp [Array.getElem?_modify, hr, hp]
end
theorem Bs.far {w : World} {b off n c : Nat} {l : List UInt8} (h : Bs w (some ⟨b, off, none⟩) n c l) (p : Addr) (hp : p.block ≠ b) (v : Value) : Bs (w.setCell p v) (some ⟨b, off, none⟩) n c l :=
  ⟨h.len, h.cap, h.max, h.nil, fun hn => by
    obtain ⟨b', o', e, hc⟩ := h.rd hn
    injection e with e
    injection e with e1 e2 e3
    subst e1 e2
    exact ⟨b, off, rfl, fun j hj => (World.cell?_setCell_far w p ⟨b, off + j, none⟩ v hp).trans (hc j hj)⟩⟩
end Go.Proofs.Ytkiiaaadcfaojaa
