/- Appends onto bytes of which none are spare: nothing that was there is written. -/
import Derived.Laws.CopyRow
import Derived.Test.YtogbncpchmnbdaaReg
import Derived.Test.YtogbncpchmnbdaaWire
import Derived.Test.YtogbncpchmnbdaaSmall
namespace Go.Proofs.Ytogbncpchmnbdaa
open Go.RowKit
set_option linter.unusedVariables false
set_option linter.unusedSimpArgs false

section
variable {P : Program}
theorem run_append_tight (w : World) (base : Nat) (t ty e : TypeId) (ht : P.underlying t = some (.slice e)) (hinfo : (P.info? e).map (fun i => (i.zero, i.size, i.bytes)) = some (some (.int .u8 0), 1, 1))
    (A : Option Addr) (n : Nat) (l : List UInt8) (hown : Own w base e A n n l) (A2 : Option Addr) (n2 c2 : Nat) (l2 : List UInt8) (hr : Bs w A2 n2 c2 l2)
    (hmax : n + n2 ≤ 200000000000000) (hbase : base ≤ w.heap.size) :
    ∃ A' c' w', (Builtin.append_ #[t, t] ty #[.slice A n n, .slice A2 n2 c2]).run P w = .ok (.slice A' (n + n2) c') w' ∧ Own w' base e A' (n + n2) c' (l ++ l2) ∧ Below w.heap.size w w' := by
  obtain ⟨A', c', w', hrun, ho, hg⟩ := run_append_bs (P := P) w base t ty e ht hinfo A n n l hown A2 n2 c2 l2 hr hmax hbase
  refine ⟨A', c', w', hrun, ho, ?_⟩
  obtain ⟨i, hi, hz, hs, hb⟩ := info_parts hinfo
  cases A2 with
  | none =>
    have h0 : n2 = 0 := by
      rcases Nat.eq_zero_or_pos n2 with h0 | h0
      · exact h0
      · obtain ⟨b, off, he, _⟩ := hr.rd h0; cases he
    have hc0 := hr.nil rfl
    subst h0 hc0
    have h := run_append_owned_none (P := P) w base t ty e i 1 ht hi (.slice A n n) n (cu l) hown.row
    rw [h] at hrun
    injection hrun with _ e2
    subst e2
    exact Below.refl _ _
  | some ad =>
    have hl2 : (cu l2).length = n2 := by rw [cu_length, hr.len]
    rcases hown.row.2 with ⟨hv, rfl⟩ | ⟨g, cap, cur, hv, hbg, hgg, hnc, hcm, hcs, htake⟩
    · injection hv with hv
      subst hv
      by_cases h0 : n2 = 0
      · subst h0
        have h : (Builtin.append_ #[t, t] ty #[.slice none 0 0, .slice (some ad) 0 c2]).run P w = .ok (.slice none 0 0) w := by
          simp [Builtin.append_, run_underlying ht, sizeOf, typeInfo, hi, Builtin.lenOf, Builtin.firstCells, loadCells, loadCellsFrom]
        rw [h] at hrun
        injection hrun with _ e2
        subst e2
        exact Below.refl _ _
      · have h := run_append_nil (P := P) w t ty e i (.int .u8 0) ht hi hz ad n2 c2 (cu l2) (by rw [hl2, hs]; omega) (hr.cells rfl) (by omega) (by omega) (by rw [hb]; omega)
        rw [h] at hrun
        injection hrun with _ e2
        subst e2
        exact (Below.drew (Below.refl _ w)).alloc (Nat.le_refl _) _
    · injection hv with h1 h2 h3
      subst h1 h3
      by_cases h0 : n2 = 0
      · subst h0
        have hl0 : cu l2 = [] := List.eq_nil_of_length_eq_zero hl2
        have h := run_append_room (P := P) w t ty e i ht hi g n n cur hgg ad 0 c2 [] (by simp) (by simp) (by simp) (by omega) (by simp [hs]; omega)
        rw [h] at hrun
        injection hrun with _ e2
        have : (List.take (n * i.size) cur.toList ++ [] ++ List.drop (n * i.size + ([] : List Value).length) cur.toList).toArray = cur := by simp
        rw [this, setRow_self w g cur e (0, 0) hgg] at e2
        subst e2
        exact Below.refl _ _
      · have holds : ∀ j u, (cu l)[j]? = some u → w.cell? ((⟨g, 0, none⟩ : Addr).add j) = some u := hown.row.cells (g := g) rfl
        have h := run_append_grow (P := P) w t ty e i (.int .u8 0) ht hi hz ⟨g, 0, none⟩ n n (cu l) (by rw [cu_length, hown.len, hs]; omega) holds ad n2 c2 (cu l2) (by rw [hl2, hs]; omega) (hr.cells rfl) (by omega) (by omega) (growslice_fits_wide (by omega) (by rw [hb]; omega))
        rw [h] at hrun
        injection hrun with _ e2
        subst e2
        exact (Below.drew (Below.refl _ w)).alloc (Nat.le_refl _) _
end
/-- Bytes of the call's own, of which none are spare. -/
def isT (B n : Nat) (l : List UInt8) : World → Value → Prop := fun W v => ∃ A, v = .slice A n n ∧ Own W B 5 A n n l
theorem st_isT {B n : Nat} {l : List UInt8} : ∀ w w' v, isT B n l w v → Below w.heap.size w w' → isT B n l w' v := fun _ _ _ ⟨A, e, k⟩ hb => ⟨A, e, k.below hb⟩
/-- Bytes of the call's own, however many. -/
def isW (B : Nat) (l : List UInt8) : World → Value → Prop := fun W v => ∃ A n c, v = .slice A n c ∧ Own W B 5 A n c l
theorem st_isW {B : Nat} {l : List UInt8} : ∀ w w' v, isW B l w v → Below w.heap.size w w' → isW B l w' v := fun _ _ _ ⟨A, n, c, e, k⟩ hb => ⟨A, n, c, e, k.below hb⟩
theorem own_isW {w : World} {base B : Nat} {A : Option Addr} {n c : Nat} {l : List UInt8} (h : Own w base 5 A n c l) (hr : B ≤ base) : isW B l w (.slice A n c) := ⟨A, n, c, rfl, h.mono hr⟩
theorem goes_lit {B n : Nat} {W : World} {l : List UInt8} {cs : Array Value} (hc : (cu l).toArray = cs) (hn : l.length = n) (hm : n ≤ 200000000000000) (h : B ≤ W.heap.size) :
    OpGoes Try.prog (fun v w' => (Kd.p (isT B n l)).holds w' v ∧ Below W.heap.size W w') (.ok (.value (.slice (some ⟨W.heap.size, 0, none⟩) n n)) (W.alloc (.cells cs 5))) := by
  subst hc
  exact ⟨⟨_, rfl, own_lit W B _ l n hn hm h⟩, (Below.refl _ W).alloc (Nat.le_refl _) _⟩
theorem goes_app {o : Oper} {a : Act} {W : World} (s x : Operand) (ho : o.op = .call { callee := .builtin .append, args := #[s, x], argTypes := #[24, 24] }) {B n : Nat} {A : Option Addr} {l : List UInt8} (hs : a.eval s = .slice A n n)
    (hown : Own W B 5 A n n l) {A2 : Option Addr} {n2 c2 : Nat} {l2 : List UInt8} (hx : a.eval x = .slice A2 n2 c2) (hr : Bs W A2 n2 c2 l2) (hmax : n + n2 ≤ 200000000000000) (hB : B ≤ W.heap.size) :
    OpGoes Try.prog (fun v w' => (Kd.p (isW B (l ++ l2))).holds w' v ∧ Below W.heap.size W w') ((execOp a.eval o).run Try.prog W) := by
  obtain ⟨A', c', w', hrun, hown', hB'⟩ := run_append_tight (P := Try.prog) W B 24 o.type 5 Try.underlying24 info_u8 A n l hown A2 n2 c2 l2 hr hmax hB
  unfold execOp
  simp only [ho, resolve, invoke, builtin, Sem.run_bind, Sem.run_pure, Result.andThen_ok, List.map_toArray, List.map_cons, List.map_nil, hs, hx, hrun]
  exact ⟨⟨A', _, c', rfl, hown'⟩, hB'⟩
/-- A new block of these cells. -/
def isNew (B : Nat) (cs : Array Value) (t : TypeId) : World → Value → Prop := fun W v => ∃ g, v = .pointer (some ⟨g, 0, none⟩) ∧ B ≤ g ∧ Blk W g cs t
theorem st_isNew {B : Nat} {cs : Array Value} {t : TypeId} : ∀ w w' v, isNew B cs t w v → Below w.heap.size w w' → isNew B cs t w' v := fun _ _ _ ⟨g, e, h, k⟩ hb => ⟨g, e, h, k.below hb⟩
theorem goes_new {B : Nat} {W : World} {cs : Array Value} {t : TypeId} (h : B ≤ W.heap.size) : OpGoes Try.prog (fun v w' => (Kd.p (isNew B cs t)).holds w' v ∧ Below W.heap.size W w') (.ok (.value (.pointer (some ⟨W.heap.size, 0, none⟩))) (W.alloc (.cells cs t))) :=
  ⟨⟨_, rfl, h, blk_new W cs t _ rfl⟩, (Below.refl _ W).alloc (Nat.le_refl _) _⟩
end Go.Proofs.Ytogbncpchmnbdaa
