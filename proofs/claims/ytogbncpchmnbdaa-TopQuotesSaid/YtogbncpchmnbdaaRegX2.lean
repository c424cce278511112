/- What stays where one block is written: rows elsewhere; an append onto the row itself. -/
import Derived.Test.YtogbncpchmnbdaaRegX
import Derived.Test.YtogbncpchmnbdaaTight
namespace Go.Proofs.Ytogbncpchmnbdaa
open Go.RowKit
set_option linter.unusedVariables false
set_option linter.unusedSimpArgs false

theorem below_ext {B : Nat} {a b c : World} {g : Nat} (h : Below B a b) (hE : b.grownBy c (some g)) (hg : B ≤ g) (hB : B ≤ b.heap.size) : Below B a c := h.grown hE hB (fun k e => by injection e with e; omega)
/-- Bytes in another block than g. -/
def isN (g n : Nat) (l : List UInt8) : World → Value → Prop := fun W v => ∃ A c, v = .slice A n c ∧ Bs W A n c l ∧ ∀ a, A = some a → a.block ≠ g ∧ a.block < W.heap.size
theorem st_isN {g n : Nat} {l : List UInt8} : ∀ w w' v, isN g n l w v → Below w.heap.size w w' → isN g n l w' v := fun _ _ _ ⟨A, c, e, k, h⟩ hb => ⟨A, c, e, k.below hb, fun a e => ⟨(h a e).1, Nat.lt_of_lt_of_le (h a e).2 hb.size⟩⟩
theorem sx_isN {g n : Nat} {l : List UInt8} : ∀ w w' v, isN g n l w v → w.grownBy w' (some g) → isN g n l w' v := fun w w' _ ⟨A, c, e, k, h⟩ hE =>
  ⟨A, c, e, ⟨k.len, k.cap, k.max, k.nil, fun hn => by
    obtain ⟨b, off, eA, hc⟩ := k.rd hn
    have hb := h _ eA
    refine ⟨b, off, eA, fun j hj => ?_⟩
    rw [← hc j hj]
    unfold World.cell?
    rw [hE.block b hb.2 (by intro e; injection e with e; exact hb.1 e)]⟩, fun a e => ⟨(h a e).1, Nat.lt_of_lt_of_le (h a e).2 hE.size⟩⟩
theorem sx_isW {g B : Nat} {l : List UInt8} (hg : g < B) : ∀ w w' v, isW B l w v → w.grownBy w' (some g) → isW B l w' v := fun _ _ _ ⟨A, n, c, e, k⟩ hE => ⟨A, n, c, e, k.far hE (fun k e => by injection e with e; omega)⟩
theorem goes_litN {g n : Nat} {W : World} {l : List UInt8} {cs : Array Value} (hc : (cu l).toArray = cs) (hn : l.length = n) (hm : n ≤ 200000000000000) (hg : g < W.heap.size) :
    OpGoes Try.prog (fun v w' => (Kd.p (isN g n l)).holds w' v ∧ Below W.heap.size W w') (.ok (.value (.slice (some ⟨W.heap.size, 0, none⟩) n n)) (W.alloc (.cells cs 5))) := by
  subst hc
  exact ⟨⟨_, _, rfl, bs_lit l n hn hm, fun a e => by injection e with e; subst e; simp; omega⟩, (Below.refl _ W).alloc (Nat.le_refl _) _⟩
theorem goes_appX {o : Oper} {a : Act} {W : World} {g : Nat} (s x : Operand) (ho : o.op = .call { callee := .builtin .append, args := #[s, x], argTypes := #[24, 24] }) {B n c : Nat} {A : Option Addr} {l : List UInt8} (hs : a.eval s = .slice A n c)
    (hown : Own W B 5 A n c l) (hg : ∀ k, (Value.slice A n c).ownBlock = some k → k = g) {A2 : Option Addr} {n2 c2 : Nat} {l2 : List UInt8} (hx : a.eval x = .slice A2 n2 c2) (hr : Bs W A2 n2 c2 l2) (hmax : n + n2 ≤ 200000000000000) (hB : B ≤ W.heap.size) {J : World → Prop} (hJ : ∀ w', J w') :
    OpGoes Try.prog (fun v w' => (Kd.p (isW B (l ++ l2))).holds w' v ∧ W.grownBy w' (some g) ∧ J w') ((execOp a.eval o).run Try.prog W) := by
  obtain ⟨A', c', w', hrun, hown', hgr⟩ := run_append_bs (P := Try.prog) W B 24 o.type 5 Try.underlying24 info_u8 A n c l hown A2 n2 c2 l2 hr hmax hB
  unfold execOp
  simp only [ho, resolve, invoke, builtin, Sem.run_bind, Sem.run_pure, Result.andThen_ok, List.map_toArray, List.map_cons, List.map_nil, hs, hx, hrun]
  refine ⟨⟨A', _, c', rfl, hown'⟩, ⟨hgr.os, hgr.tape, hgr.output, hgr.size, fun k hk hne => hgr.block k hk ?_⟩, hJ _⟩
  intro e
  exact hne (by rw [hg k e.symm])
end Go.Proofs.Ytogbncpchmnbdaa
