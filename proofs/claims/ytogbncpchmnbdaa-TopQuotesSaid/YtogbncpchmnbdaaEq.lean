/- Two arrays of whole numbers, compared. -/
import Derived.Test.YtogbncpchmnbdaaBase
import Derived.ChangeKeysEq
namespace Go.Proofs.Ytogbncpchmnbdaa
open Go.RowKit

theorem run_items_ints {P : Program} (w : World) (d : Nat) (e : TypeId) (k : IntKind) (xs ys : Array Value) (f g : Nat → Int) (he : P.underlying e = some (.int k)) (n : Nat)
    (hx : ∀ i, i < n → xs[i]? = some (.int k (f i))) (hy : ∀ i, i < n → ys[i]? = some (.int k (g i))) : ∀ is : List Nat, (∀ i ∈ is, i < n) →
    (Op.eqItems (d + 1) e 1 xs ys is).run P w = .ok (is.all fun i => f i == g i) w
  | [], _ => by simp [Op.eqItems]
  | i :: is, h => by
    have hp : ∀ (zs : Array Value) (h : Nat → Int), (∀ i, i < n → zs[i]? = some (.int k (h i))) → ∀ i, i < n → (part e zs (i * 1)).run P w = .ok (.int k (h i)) w := by
      intro zs h hz i hi'
      have := hz i hi'
      simp [part, isAgg, run_underlying he, Result.andThen, this]
    have hi := h i (by simp)
    have IH := run_items_ints w d e k xs ys f g he n hx hy is (fun j hj => h j (by simp [hj]))
    simp only [Op.eqItems, Sem.run_bind, hp xs f hx i hi, hp ys g hy i hi, Result.andThen_ok, run_equalIn_int w d e k k (f i) (g i) he]
    cases hb : f i == g i <;> simp [IH, hb]
theorem run_eq_ints {P : Program} (w : World) (d : Nat) (t e : TypeId) (k : IntKind) (n : Nat) {i : TypeInfo} (xs ys : Array Value) (f g : Nat → Int) (ht : P.underlying t = some (.array n e)) (he : P.underlying e = some (.int k))
    (hi : P.info? e = some i) (hs : i.size = 1) (hx : ∀ i, i < n → xs[i]? = some (.int k (f i))) (hy : ∀ i, i < n → ys[i]? = some (.int k (g i))) :
    (Op.equalIn (d + 2) t (.agg xs) (.agg ys)).run P w = .ok ((List.range n).all fun i => f i == g i) w := by
  have h1 : P.cellsOf e = 1 := by simp [Program.cellsOf, hi, hs]
  rw [run_equalIn_array w (d + 1) xs ys ht hi, h1]
  exact run_items_ints w d e k xs ys f g he n hx hy _ (fun i hi => List.mem_range.1 hi)
end Go.Proofs.Ytogbncpchmnbdaa
