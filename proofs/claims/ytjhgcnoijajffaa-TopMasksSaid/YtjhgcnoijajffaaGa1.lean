/- Parts of the proofs of this seat, laid together. -/
import Derived.WalkKit
import Derived.Maps.AppendAt
import Derived.Deep.AppendLies
import Derived.Deep.DeepAppendWide
import Derived.Deep.Draws
import Derived.Deep.QuietTactic
import Derived.BigQuiet
import Derived.Lib.Hide
import Derived.Laws.BytesArg
import Derived.Deep.RegionHeld3
import Derived.Orders
import Derived.RegionTactic
import Derived.Below
import Derived.Tactics
import Derived.Test.YtjhgcnoijajffaaProg
import Derived.KernelRfl
import Derived.WalkSpells
import Derived.MapKept
import Derived.BigRegion
import Derived.Laws.BitsAllLaws
import Derived.Laws.CopyRow
import Derived.Lib.AppendZeros
import Derived.Lib.AppendZerosOnto
import Derived.RangeFuncNested
import Derived.RangeFuncCalls
import Derived.RangeFuncLeaves
import Derived.Shelf.Abstract
import Derived.OwnWalkIn
import Derived.ScopeJumps
import Derived.WalkMore
import Derived.Shelf.RegionOpen
import Derived.TacticsInMore
import Derived.LoopNIn
import Derived.LoopIn
import Derived.ChangeKeysEq
namespace Go.Proofs.Ytjhgcnoijajffaa
open Go.RowKit
set_option linter.unusedVariables false
set_option linter.unusedSimpArgs false
def bt (l : List UInt8) (i : Nat) : Int := ((l.getD i 0).toNat : Int)
theorem bt_lo (l : List UInt8) (i : Nat) : 0 ≤ bt l i := by unfold bt; omega
theorem bt_hi (l : List UInt8) (i : Nat) : bt l i ≤ 255 := by
  unfold bt; have := (l.getD i 0).toNat_lt; omega
structure Bs (w : World) (A : Option Addr) (n c : Nat) (l : List UInt8) : Prop where
  len : l.length = n
  cap : n ≤ c
  max : n ≤ 200000000000000
  nil : A = none → c = 0
  rd : 0 < n → ∃ b off, A = some ⟨b, off, none⟩ ∧ ∀ j, j < n → w.cell? ⟨b, off + j, none⟩ = some (.int .u8 (bt l j))
structure Drawn (w w' : World) : Prop where mk :: (out : ∃ n, w' = w.drewN n)
theorem Drawn.refl (w : World) : Drawn w w := ⟨⟨0, rfl⟩⟩
theorem Drawn.step {w w' : World} (h : Drawn w w') (n : Nat) : Drawn w (w'.drewN n) := by
  obtain ⟨m, rfl⟩ := h
  exact ⟨⟨m + n, World.drewN_drewN ..⟩⟩
theorem Drawn.drew {w w' : World} (h : Drawn w w') : Drawn w w'.drew := by
  have := h.step 1
  simpa [World.drewN] using this
section
variable {w w' : World} {A : Option Addr} {n c : Nat} {l : List UInt8}
theorem Bs.keep (h : Bs w A n c l) (hk : ∀ p : Addr, p.block < w.heap.size → w'.cell? p = w.cell? p) : Bs w' A n c l :=
  ⟨h.len, h.cap, h.max, h.nil, fun hn => by
    obtain ⟨b, off, e, hc⟩ := h.rd hn
    exact ⟨b, off, e, fun j hj => (hk _ (World.block_lt_of_cell? w _ (hc j hj))).trans (hc j hj)⟩⟩
theorem Bs.below (h : Bs w A n c l) (hb : Below w.heap.size w w') : Bs w' A n c l := h.keep fun _ hp => hb.cell hp
theorem Bs.drew (h : Bs w A n c l) : Bs w.drew A n c l := ⟨h.len, h.cap, h.max, h.nil, h.rd⟩
theorem Bs.drewN (h : Bs w A n c l) (k : Nat) : Bs (w.drewN k) A n c l := ⟨h.len, h.cap, h.max, h.nil, h.rd⟩
theorem Bs.alloc (h : Bs w A n c l) (o : Obj) : Bs (w.alloc o) A n c l := h.below ((Below.refl _ w).alloc (Nat.le_refl _) o)
end
theorem Bs.none_ (w : World) : Bs w none 0 0 [] := ⟨rfl, Nat.zero_le _, by omega, fun _ => rfl, fun h => absurd h (by omega)⟩
def cu (l : List UInt8) : List Value := l.map fun b => Value.int .u8 (b.toNat : Int)
theorem cu_length (l : List UInt8) : (cu l).length = l.length := by simp [cu]
theorem cu_append (l m : List UInt8) : cu l ++ cu m = cu (l ++ m) := by simp [cu]
theorem cu_at {l : List UInt8} {j : Nat} (h : j < l.length) : (cu l)[j]? = some (.int .u8 (bt l j)) := by
  simp [cu, bt, List.getElem?_eq_getElem h, List.getD_eq_getElem?_getD]
theorem cu_one (l : List UInt8) : ∀ u ∈ cu l, u.oneCell' = true := by
  intro u hu
  obtain ⟨b, _, rfl⟩ := List.mem_map.1 hu
  rfl
structure Own (w : World) (base : Nat) (e : TypeId) (A : Option Addr) (n c : Nat) (l : List UInt8) : Prop where
  len : l.length = n
  max : n ≤ 200000000000000
  row : w.ownsRow base e 1 (.slice A n c) n (cu l)
section
variable {w w' : World} {base : Nat} {e : TypeId} {A : Option Addr} {n c : Nat} {l : List UInt8}
theorem Own.bs (h : Own w base e A n c l) : Bs w A n c l := by
  obtain ⟨hl, hm, h1, h2⟩ := h
  rcases h2 with ⟨h2, rfl⟩ | ⟨g, cap, cur, hv, hb, hg, hnc, hcm, hcs, htake⟩
  · injection h2 with h3 h4 h5
    subst h3 h5
    obtain rfl : l = [] := List.eq_nil_of_length_eq_zero hl
    exact Bs.none_ w
  · injection hv with h3 h4 h5
    subst h3 h5
    refine ⟨hl, hnc, hm, (fun h => by cases h), fun hn => ⟨g, 0, rfl, fun j hj => ?_⟩⟩
    rw [Nat.zero_add, cell_of_row w g j cur e (0, 0) hg]
    have := cu_at (l := l) (j := j) (by omega)
    rw [← htake, List.getElem?_take] at this
    split at this
    · simpa using this
    · cases this
theorem Own.mono {b' : Nat} (h : Own w base e A n c l) (hb : b' ≤ base) : Own w b' e A n c l := by
  obtain ⟨hl, hm, h1, h2⟩ := h
  refine ⟨hl, hm, h1, ?_⟩
  rcases h2 with h2 | ⟨g, cap, cur, hv, hg, r⟩
  · exact .inl h2
  · exact .inr ⟨g, cap, cur, hv, by omega, r⟩
theorem Own.kept {row : Option Nat} (h : Own w base e A n c l) (hg : w.grownBy w' row) (hne : (Value.slice A n c).ownBlock = none ∨ (Value.slice A n c).ownBlock ≠ row) : Own w' base e A n c l :=
  ⟨h.len, h.max, h.row.kept hg hne⟩
theorem Own.drew (h : Own w base e A n c l) : Own w.drew base e A n c l := ⟨h.len, h.max, h.row⟩
theorem Own.drewN (h : Own w base e A n c l) (k : Nat) : Own (w.drewN k) base e A n c l := ⟨h.len, h.max, h.row⟩
theorem Own.alloc (h : Own w base e A n c l) (o : Obj) : Own (w.alloc o) base e A n c l := ⟨h.len, h.max, h.row.alloc o⟩
theorem Own.below (h : Own w base e A n c l) (hb : Below w.heap.size w w') : Own w' base e A n c l :=
  h.kept (row := none) ⟨hb.os, hb.tape, hb.output, hb.size, fun i hi _ => hb.block i hi⟩ (by cases (Value.slice A n c).ownBlock <;> simp)
end
theorem below_drewN {B : Nat} {a w : World} (h : Below B a w) (n : Nat) : Below B a (w.drewN n) := ⟨h.os, h.tape, h.output, h.size, h.block⟩
theorem below_drew {B : Nat} {a w : World} (h : Below B a w) : Below B a w.drew := ⟨h.os, h.tape, h.output, h.size, h.block⟩
theorem below_alloc {B : Nat} {a w : World} (h : Below B a w) (hB : B ≤ a.heap.size) (o : Obj) : Below B a (w.alloc o) := h.alloc (Nat.le_trans hB h.size) o
theorem below_then {w w1 w2 : World} (h : Below w.heap.size w w1) (k : Below w1.heap.size w1 w2) : Below w.heap.size w w2 :=
  h.trans (k.mono h.size)
section
variable {P : Program} {w : World} {A : Option Addr} {n c : Nat} {l : List UInt8}
theorem Bs.cutN (h : Bs w A n c l) {lo hi : Nat} (h1 : lo ≤ hi) (h2 : hi ≤ n) :
    Bs w (if c = lo then A else A.map (·.add (lo * 1))) (hi - lo) (c - lo) ((l.take hi).drop lo) := by
  have hc := h.cap
  refine ⟨by simp [h.len]; omega, by omega, by have := h.max; omega, fun hn => ?_, fun hn => ?_⟩
  · split at hn
    · omega
    · have : A = none := by cases A <;> simp_all
      have := h.nil this
      omega
  · obtain ⟨b, off, rfl, hc⟩ := h.rd (by omega)
    rw [if_neg (by omega)]
    refine ⟨b, off + lo, by simp [Addr.add], fun j hj => ?_⟩
    rw [Nat.add_assoc, hc (lo + j) (by omega)]
    congr 2
    unfold bt
    simp [List.getD_eq_getElem?_getD, List.getElem?_drop, show lo + j < hi by omega]
variable {t e : TypeId} {i : TypeInfo}
theorem cut_h (ht : P.underlying t = some (.slice e)) (hi' : P.info? e = some i) (hz : i.size = 1) (A : Option Addr) (n c : Nat) (kh : IntKind) (h : Int) (h1 : 0 ≤ h) (h2 : h ≤ (c : Int)) (W : World) :
    (Instr.slice t (.slice A n c) none (some (.int kh h)) none).run P W = .ok (.slice (if c = 0 then A else A.map (·.add (0 * 1))) (h.toNat - 0) (c - 0)) W := by
  have hp : P.underlying t = some (.slice (P.elem t)) := by simp [Program.elem, ht]
  have he : P.elem t = e := by rw [ht] at hp; injection hp with hp; injection hp with hp; exact hp.symm
  rw [run_slice_h _ _ _ _ _ hp kh h h1 h2, he]
  simp [sizeOf, typeInfo, hi', hz, Result.andThen, sliced]
theorem cut_l (ht : P.underlying t = some (.slice e)) (hi' : P.info? e = some i) (hz : i.size = 1) (A : Option Addr) (n c : Nat) (kl : IntKind) (l : Int) (h0 : 0 ≤ l) (h1 : l ≤ (n : Int)) (W : World) :
    (Instr.slice t (.slice A n c) (some (.int kl l)) none none).run P W = .ok (.slice (if c = l.toNat then A else A.map (·.add (l.toNat * 1))) (n - l.toNat) (c - l.toNat)) W := by
  have hp : P.underlying t = some (.slice (P.elem t)) := by simp [Program.elem, ht]
  have he : P.elem t = e := by rw [ht] at hp; injection hp with hp; injection hp with hp; exact hp.symm
  rw [run_slice_l _ _ _ _ _ hp kl l h0 h1, he]
  simp [sizeOf, typeInfo, hi', hz, Result.andThen, sliced]
theorem cut_hm (ht : P.underlying t = some (.slice e)) (hi' : P.info? e = some i) (hz : i.size = 1) (A : Option Addr) (n c : Nat) (kh km : IntKind) (h m : Int) (h1 : 0 ≤ h) (h2 : h ≤ m) (h3 : m ≤ (c : Int)) (W : World) :
    (Instr.slice t (.slice A n c) none (some (.int kh h)) (some (.int km m))).run P W = .ok (.slice (if m.toNat = 0 then A else A.map (·.add (0 * 1))) (h.toNat - 0) (m.toNat - 0)) W := by
  have hp : P.underlying t = some (.slice (P.elem t)) := by simp [Program.elem, ht]
  have he : P.elem t = e := by rw [ht] at hp; injection hp with hp; injection hp with hp; exact hp.symm
  rw [run_slice_hm _ _ _ _ _ hp kh km h m h1 h2 h3, he]
  simp [sizeOf, typeInfo, hi', hz, Result.andThen, sliced]
theorem Bs.cutE (h : Bs w A n c l) {lo hi : Nat} (h1 : lo ≤ hi) (h2 : hi ≤ n) : ∃ A' n' c', (if c = lo then A else A.map (·.add (lo * 1))) = A' ∧ hi - lo = n' ∧ c - lo = c' ∧ Bs w A' n' c' ((l.take hi).drop lo) :=
  ⟨_, _, _, rfl, rfl, rfl, h.cutN h1 h2⟩
end
def str (l : List UInt8) : ByteArray := ⟨l.toArray⟩
theorem conv_bs {P : Program} {src dst e : TypeId} (hs : P.underlying src = some (.slice e)) (he : P.underlying e = some (.int .u8)) (hd : P.underlying dst = some .string)
    {w : World} {A : Option Addr} {n c : Nat} {l : List UInt8} (h : Bs w A n c l) : (convert src dst (.slice A n c)).run P w = .ok (.string (str l)) w := by
  rcases Nat.eq_zero_or_pos n with h0 | h0
  · subst h0
    obtain rfl : l = [] := List.eq_nil_of_length_eq_zero h.len
    cases A with
    | none => exact run_convert_bytes_nil w src e hs he 0 c dst hd
    | some ad =>
      rw [run_convert_bytes_string w src dst e _ 0 c hs he hd]
      simp [Conv.bytesToString, loadCells, loadCellsFrom]
      rfl
  · obtain ⟨b, off, rfl, hc⟩ := h.rd h0
    have hlen := h.len
    have e1 : str l = strOfNums (l.map fun x => (x.toNat : Int)) := by
      unfold str strOfNums
      congr 1
      simp [List.map_map, Function.comp_def]
    rw [e1]
    refine run_convert_bytes_arg w src e hs he b off n c _ (by simpa using hlen) (fun i hi => ?_) dst hd
    rw [hc i hi]
    unfold bt
    simp [List.getD_eq_getElem?_getD, List.getElem?_map, List.getElem?_eq_getElem (show i < l.length by omega)]
theorem Bs.cells {w : World} {A : Option Addr} {n c : Nat} {l : List UInt8} (h : Bs w A n c l) {ad : Addr} (hA : A = some ad) : ∀ j u, (cu l)[j]? = some u → w.cell? (ad.add j) = some u := by
  intro j u hu
  have hj : j < l.length := by
    rcases Nat.lt_or_ge j l.length with hj | hj
    · exact hj
    · rw [List.getElem?_eq_none (by rw [cu_length]; exact hj)] at hu; cases hu
  rw [cu_at hj] at hu
  cases hu
  obtain ⟨b, off, he, hc⟩ := h.rd (by have := h.len; omega)
  rw [hA] at he
  injection he with he
  subst he
  have ha : (⟨b, off, none⟩ : Addr).add j = ⟨b, off + j, none⟩ := by unfold Addr.add; split <;> simp_all
  rw [ha]
  exact hc j (by have := h.len; omega)
theorem own_nil (w : World) (base : Nat) (e : TypeId) : Own w base e none 0 0 [] := ⟨rfl, by omega, World.ownsRow_nil w base e 1⟩
section
variable {P : Program} {ops : Array Oper} {rest : List Oper} {o : Oper} {a : Act} {Q : Exit → Act → World → Prop}
theorem run_append_bs (w : World) (base : Nat) (t ty e : TypeId) (ht : P.underlying t = some (.slice e)) (hinfo : (P.info? e).map (fun i => (i.zero, i.size, i.bytes)) = some (some (.int .u8 0), 1, 1))
    (A : Option Addr) (n c : Nat) (l : List UInt8) (hown : Own w base e A n c l) (A2 : Option Addr) (n2 c2 : Nat) (l2 : List UInt8) (hr : Bs w A2 n2 c2 l2)
    (hmax : n + n2 ≤ 200000000000000) (hbase : base ≤ w.heap.size) :
    ∃ A' c' w', (Builtin.append_ #[t, t] ty #[.slice A n c, .slice A2 n2 c2]).run P w = .ok (.slice A' (n + n2) c') w' ∧ Own w' base e A' (n + n2) c' (l ++ l2) ∧ w.grownBy w' (Value.slice A n c).ownBlock := by
  obtain ⟨i, hi, hz, hs, hb⟩ := info_parts hinfo
  have hlen : (l ++ l2).length = n + n2 := by rw [List.length_append, hown.len, hr.len]
  cases A2 with
  | none =>
    have h0 : n2 = 0 := by
      rcases Nat.eq_zero_or_pos n2 with h0 | h0
      · exact h0
      · obtain ⟨b, off, he, _⟩ := hr.rd h0; cases he
    have hc0 := hr.nil rfl
    subst h0 hc0
    obtain rfl : l2 = [] := List.eq_nil_of_length_eq_zero hr.len
    have hrun := run_append_owned_none (P := P) w base t ty e i 1 ht hi (.slice A n c) n (cu l) hown.row
    exact ⟨A, c, w, hrun, by simpa using hown, World.grownBy.refl _ _⟩
  | some ad =>
    obtain ⟨v', w', hrun, ho, hg, _⟩ := run_append_own_wide (P := P) w base t ty e i (.int .u8 0) 1 1 ht hi hz hs hb rfl (by omega) (.slice A n c) n (cu l) hown.row ad n2 c2 (cu l2) (by rw [cu_length, hr.len]; omega)
      (hr.cells rfl) (cu_one l2) (by simp only [maxLen]; omega) (by omega) hbase
    have hv : ∃ A' c', v' = .slice A' (n + n2) c' := by
      rcases ho.2 with ⟨hv, h0⟩ | ⟨g, cap, cur, hv, _⟩
      · exact ⟨none, 0, by rw [hv, h0]⟩
      · exact ⟨_, cap, hv⟩
    obtain ⟨A', c', rfl⟩ := hv
    rw [cu_append] at ho
    exact ⟨A', c', w', hrun, ⟨hlen, hmax, ho⟩, hg⟩
theorem Own.base_le {w : World} {base : Nat} {e : TypeId} {A : Option Addr} {n c : Nat} {l : List UInt8} (h : Own w base e A n c l) : ∀ k, (Value.slice A n c).ownBlock = some k → base ≤ k :=
  fun k hk => (h.row.lt k hk).1
theorem wpList_append_bs {w0 : World} (w : World) (hgd : o.guard = none) (s x : Operand) (t : TypeId) (ho : o.op = .call { callee := .builtin .append, args := #[s, x], argTypes := #[t, t] })
    (base : Nat) (e : TypeId) (ht : P.underlying t = some (.slice e)) (hinfo : (P.info? e).map (fun i => (i.zero, i.size, i.bytes)) = some (some (.int .u8 0), 1, 1))
    (A : Option Addr) (n c : Nat) (l : List UInt8) (hs : a.eval s = .slice A n c) (hown : Own w base e A n c l) (A2 : Option Addr) (n2 c2 : Nat) (l2 : List UInt8) (hx : a.eval x = .slice A2 n2 c2) (hr : Bs w A2 n2 c2 l2)
    (HB : Below base w0 w) (hmax : n + n2 ≤ 200000000000000) (hbase : base ≤ w.heap.size)
    (h : ∀ A' m c' w', Own w' base e A' m c' (l ++ l2) → Below base w0 w' → w.grownBy w' (Value.slice A n c).ownBlock → base ≤ w'.heap.size → wpList P ops Q rest (a.put o.dst (.slice A' m c')) w') : wpList P ops Q (o :: rest) a w := by
  refine wpList_plain hgd fun K hK => ?_
  obtain ⟨A', c', w', hrun, ho', hg⟩ := run_append_bs (P := P) w base t o.type e ht hinfo A n c l hown A2 n2 c2 l2 hr hmax hbase
  unfold Oper.wp execOp
  simp only [ho, resolve, invoke, builtin, Sem.run_bind, Sem.run_pure, Result.andThen_ok, List.map_toArray, List.map_cons, List.map_nil, hs, hx, hrun]
  exact hK _ _ (h A' (n + n2) c' w' ho' (HB.grown hg hbase hown.base_le) hg (Nat.le_trans hbase hg.size))
theorem Own.far {w w' : World} {base : Nat} {e : TypeId} {A : Option Addr} {n c : Nat} {l : List UInt8} {row : Option Nat} (h : Own w base e A n c l) (hg : w.grownBy w' row) (hr : ∀ k, row = some k → k < base) : Own w' base e A n c l :=
  h.kept hg (by
    cases hv : (Value.slice A n c).ownBlock with
    | none => exact .inl rfl
    | some k => exact .inr fun he => by have := hr k he.symm; have := h.base_le k hv; omega)
theorem own_lit (w : World) (base : Nat) (e : TypeId) (l : List UInt8) (n : Nat) (hn : l.length = n) (hm : n ≤ 200000000000000) (hb : base ≤ w.heap.size) :
    Own (w.alloc (.cells (cu l).toArray e)) base e (some ⟨w.heap.size, 0, none⟩) n n l :=
  ⟨hn, hm, World.ownsRow_lit w _ n hb (by simp only [maxLen]; omega) (by simp [cu_length, hn])⟩
end
def zs (n : Nat) : List UInt8 := List.replicate n 0
theorem zs_length (n : Nat) : (zs n).length = n := by simp [zs]
theorem cu_zs (n : Nat) : (cu (zs n)).toArray = madeCells #[.int .u8 0] n := by
  apply Array.ext'
  rw [toList_madeCells_one]
  simp [cu, zs]
theorem run_make_zs {P : Program} (t e : TypeId) (ht : P.underlying t = some (.slice e)) (hinfo : (P.info? e).map (fun i => (i.zero, i.size, i.bytes)) = some (some (.int .u8 0), 1, 1)) (kl kc : IntKind) (n : Nat) (hn : n ≤ 200000000000000) (W : World) :
    (Instr.makeSlice t (.int kl (n : Int)) (.int kc (n : Int))).run P W = .ok (.slice (some ⟨W.heap.size, 0, none⟩) n n) (W.alloc (.cells (cu (zs n)).toArray e)) := by
  obtain ⟨i, hi, hz, hs, hb⟩ := info_parts hinfo
  have hr := run_make (P := P) W t e i (.int .u8 0) ht hi hz kl kc n n (by omega) (Int.le_refl _) (by rw [hb]; omega) (by omega)
  simp only [Int.toNat_natCast, hs, Nat.mul_one] at hr
  rw [hr, cu_zs]
  rfl
theorem own_zs (w : World) (base : Nat) (e : TypeId) (n : Nat) (hm : n ≤ 200000000000000) (hb : base ≤ w.heap.size) :
    Own (w.alloc (.cells (cu (zs n)).toArray e)) base e (some ⟨w.heap.size, 0, none⟩) n n (zs n) := own_lit w base e (zs n) n (zs_length n) hm hb
theorem bs_lit {W : World} {e : TypeId} (l : List UInt8) (n : Nat) (hn : l.length = n) (hm : n ≤ 200000000000000) : Bs (W.alloc (.cells (cu l).toArray e)) (some ⟨W.heap.size, 0, none⟩) n n l :=
  (own_lit W W.heap.size e l n hn hm (Nat.le_refl _)).bs
def ub (x : Int) : UInt8 := UInt8.ofNat (x % 256).toNat
theorem ub_val (x : Int) : ((ub x).toNat : Int) = x % 256 := by
  unfold ub
  rw [UInt8.toNat_ofNat']
  have : (x % 256).toNat < 256 := by omega
  rw [Nat.mod_eq_of_lt (by simpa using this)]
  omega
theorem cu_ub (x : Int) : Value.int .u8 ((ub x).toNat : Int) = .int .u8 (x % 256) := by rw [ub_val]
theorem Own.put {w : World} {base : Nat} {e : TypeId} {A : Option Addr} {n c : Nat} {l : List UInt8} (h : Own w base e A n c l) {i : Nat} (hi : i < n) :
    ∃ g, A = some ⟨g, 0, none⟩ ∧ base ≤ g ∧ g < w.heap.size ∧ w.cell? ⟨g, i, none⟩ = some (.int .u8 (bt l i)) ∧ w.frozen? ⟨g, i, none⟩ = false ∧
      ∀ x : Int, Own (w.setCell ⟨g, i, none⟩ (.int .u8 (x % 256))) base e A n c (l.set i (ub x)) ∧ w.grownBy (w.setCell ⟨g, i, none⟩ (.int .u8 (x % 256))) (some g) := by
  obtain ⟨hl, hm, hr⟩ := h
  obtain ⟨g, cap, hv, hb, hlt⟩ := hr.form (by omega)
  injection hv with h3 h4 h5
  subst h3 h5
  refine ⟨g, rfl, hb, hlt, ?_, hr.frozenAt i, fun x => ?_⟩
  · rw [hr.cellAt i (by omega), cu_at (by omega)]
  · obtain ⟨h1, h2⟩ := hr.stored i (.int .u8 (x % 256))
    refine ⟨⟨by simpa using hl, hm, ?_⟩, h2⟩
    have hc : cu (l.set i (ub x)) = (cu l).set i (.int .u8 (x % 256)) := by
      unfold cu
      rw [List.map_set, cu_ub]
    rw [hc]
    exact h1
theorem Own.ptr {w : World} {base : Nat} {e : TypeId} {A : Option Addr} {n c : Nat} {l : List UInt8} (h : Own w base e A n c l) (hn : 0 < n) :
    ∃ g, A = some ⟨g, 0, none⟩ ∧ base ≤ g ∧ g < w.heap.size := by
  obtain ⟨g, rfl, h1, h2, _⟩ := h.put hn
  exact ⟨g, rfl, h1, h2⟩
theorem Own.set_ {w : World} {base : Nat} {e : TypeId} {g n c : Nat} {l : List UInt8} (h : Own w base e (some ⟨g, 0, none⟩) n c l) {i : Nat} (hi : i < n) (x : Int) {y : Int} (hy : x % 256 = y) :
    Own (w.setCell ⟨g, i, none⟩ (.int .u8 y)) base e (some ⟨g, 0, none⟩) n c (l.set i (ub x)) := by
  obtain ⟨g', he, h1, h2, h3, h4, h5⟩ := h.put hi
  injection he with he
  injection he with he
  subst he
  subst hy
  exact (h5 x).1
theorem or_shift {a b k : Nat} (hb : b < 2 ^ k) : a * 2 ^ k ||| b = a * 2 ^ k + b := by
  rw [Nat.mul_comm]; exact (Nat.two_pow_add_eq_or_of_lt hb a).symm
theorem or_u16 {x y : Int} (hx : 0 ≤ x) (hx' : x ≤ 255) (hy : 0 ≤ y) (hy' : y ≤ 255) : bits .or .u16 (x * 256) y = x * 256 + y := by
  rw [u16_or _ _ (by omega) (by omega) hy (by omega)]
  obtain ⟨a, rfl⟩ := Int.eq_ofNat_of_zero_le hx
  obtain ⟨b, rfl⟩ := Int.eq_ofNat_of_zero_le hy
  have e : ((a : Int) * 256).toNat = a * 2 ^ 8 := by omega
  rw [e, Int.toNat_natCast, or_shift (by omega)]
  omega
theorem or_u32b {x y : Int} (hx : 0 ≤ x) (hx' : x ≤ 255) (hy : 0 ≤ y) (hy' : y ≤ 255) : bits .or .u32 (x * 256) y = x * 256 + y := by
  rw [u32_or _ _ (by omega) (by omega) hy (by omega)]
  obtain ⟨a, rfl⟩ := Int.eq_ofNat_of_zero_le hx
  obtain ⟨b, rfl⟩ := Int.eq_ofNat_of_zero_le hy
  have e : ((a : Int) * 256).toNat = a * 2 ^ 8 := by omega
  rw [e, Int.toNat_natCast, or_shift (by omega)]
  omega
def get16 (l : List UInt8) (a : Int) : Int := if 0 ≤ a ∧ a + 2 ≤ (l.length : Int) then bt l a.toNat * 256 + bt l (a.toNat + 1) else 0
theorem get16_in {l : List UInt8} {a : Int} (h0 : 0 ≤ a) (h1 : a + 2 ≤ (l.length : Int)) : get16 l a = bt l a.toNat * 256 + bt l (a.toNat + 1) := if_pos ⟨h0, h1⟩
theorem get16_out {l : List UInt8} {a : Int} (h : ¬ (0 ≤ a ∧ a + 2 ≤ (l.length : Int))) : get16 l a = 0 := if_neg h
theorem get16_lo (l : List UInt8) (a : Int) : 0 ≤ get16 l a := by
  unfold get16; split
  · have := bt_lo l a.toNat; have := bt_lo l (a.toNat + 1); omega
  · omega
theorem get16_hi (l : List UInt8) (a : Int) : get16 l a ≤ 65535 := by
  unfold get16; split
  · have := bt_hi l a.toNat; have := bt_hi l (a.toNat + 1); omega
  · omega
theorem and_u64_65535 {m : Int} (h0 : 0 ≤ m) (h1 : m < 18446744073709551616) : bits .and .u64 m 65535 = m % 65536 := by
  obtain ⟨a, rfl⟩ := Int.eq_ofNat_of_zero_le h0
  have := u64_and_nat a 65535 (by omega) (by omega)
  rw [show ((65535 : Nat) : Int) = 65535 from rfl] at this
  rw [this, Nat.and_two_pow_sub_one_eq_mod a 16]
  omega
def putK (l : List UInt8) (a n : Nat) (v : Int) : Nat → List UInt8
  | 0 => l
  | k + 1 => (putK l a n v k).set (a + n - 1 - k) (ub (v / 2 ^ (8 * k)))
theorem putK_length (l : List UInt8) (a n : Nat) (v : Int) (k : Nat) : (putK l a n v k).length = l.length := by
  induction k with
  | zero => rfl
  | succ k ih => simp [putK, ih]
def put16 (l : List UInt8) (a v : Int) : List UInt8 := if 0 ≤ a ∧ a + 2 ≤ (l.length : Int) then putK l a.toNat 2 v 2 else l
def put32 (l : List UInt8) (a v : Int) : List UInt8 := if 0 ≤ a ∧ a + 4 ≤ (l.length : Int) then putK l a.toNat 4 v 4 else l
theorem put16_length (l : List UInt8) (a v : Int) : (put16 l a v).length = l.length := by unfold put16; split <;> simp [putK_length]
theorem put16_eq {l : List UInt8} {i : Nat} {v : Int} (h : i + 2 ≤ l.length) : put16 l i v = (l.set i (ub (v / 256))).set (i + 1) (ub v) := by
  rw [put16, if_pos (by omega)]
  simp only [putK, Int.toNat_natCast]
  rw [List.set_comm _ _ (by omega)]
  simp
def fd (n : Int) : Int := if n = 0 then 0 else (n - 1) % 65535 + 1
theorem fd_lo (n : Int) : 0 ≤ fd n := by unfold fd; split <;> omega
theorem fd_hi (n : Int) : fd n ≤ 65535 := by unfold fd; split <;> omega
theorem fd_small {n : Int} (h0 : 0 ≤ n) (h1 : n ≤ 65535) : fd n = n := by unfold fd; split <;> omega
theorem fd_step {n : Int} (h0 : 0 ≤ n) : fd (n / 65536 + n % 65536) = fd n := by unfold fd; split <;> split <;> omega
theorem not_u16 {x : Int} (h0 : 0 ≤ x) (h1 : x ≤ 65535) : bits .xor .u16 IntKind.u16.max x = 65535 - x := by
  obtain ⟨a, rfl⟩ := Int.eq_ofNat_of_zero_le h0
  have hm : IntKind.u16.max = ((65535 : Nat) : Int) := rfl
  rw [hm, u16_xor_nat 65535 a (by omega) (by omega)]
  have h := BitVec.toNat_not (x := BitVec.ofNat 16 a)
  have ha : a % 65536 = a := Nat.mod_eq_of_lt (by omega)
  rw [← BitVec.allOnes_xor, BitVec.toNat_xor, BitVec.toNat_allOnes, BitVec.toNat_ofNat] at h
  rw [show (2 : Nat) ^ 16 = 65536 from rfl, ha] at h
  have h' : 65535 ^^^ a = 65535 - a := h
  rw [h']
  omega
def ahead (a b : Int) : Int := if 2147483648 ≤ (a - b) % 4294967296 then (a - b) % 4294967296 - 4294967296 else (a - b) % 4294967296
def two (v : Int) : List UInt8 := [ub (v / 256), ub v]
def four (v : Int) : List UInt8 := [ub (v / 16777216), ub (v / 65536), ub (v / 256), ub v]
def pseudo (s d p n : Int) : List UInt8 := four s ++ four d ++ [0, ub p] ++ two (n % 65536)
theorem pseudo_eq (s d p n : Int) : put16 ((put32 (put32 (zs 12) 0 s) 4 d).set 9 (ub p)) 10 (n % 65536) = pseudo s d p n := by
  simp [put16, put32, putK, zs, List.replicate, four, two, pseudo]
def wd (l : List UInt8) (i : Nat) : Int := bt l (2 * i) * 256 + bt l (2 * i + 1)
theorem wd_lo (l : List UInt8) (i : Nat) : 0 ≤ wd l i := by unfold wd; have := bt_lo l (2 * i); have := bt_lo l (2 * i + 1); omega
theorem wd_hi (l : List UInt8) (i : Nat) : wd l i ≤ 65535 := by unfold wd; have := bt_hi l (2 * i); have := bt_hi l (2 * i + 1); omega
theorem bt_out {l : List UInt8} {i : Nat} (h : l.length ≤ i) : bt l i = 0 := by
  unfold bt
  rw [List.getD_eq_getElem?_getD, List.getElem?_eq_none h]
  rfl
theorem wd_odd {l : List UInt8} {i : Nat} (h : l.length ≤ 2 * i + 1) : wd l i = bt l (2 * i) * 256 := by
  unfold wd; rw [bt_out h]; omega
def wsK (l : List UInt8) : Nat → Int
  | 0 => 0
  | k + 1 => wsK l k + wd l k
theorem wsK_lo (l : List UInt8) (k : Nat) : 0 ≤ wsK l k := by
  induction k with
  | zero => exact Int.le_refl _
  | succ k ih => have := wd_lo l k; simp only [wsK]; omega
theorem wsK_hi (l : List UInt8) (k : Nat) : wsK l k ≤ 65535 * (k : Int) := by
  induction k with
  | zero => simp [wsK]
  | succ k ih => have := wd_hi l k; simp only [wsK]; omega
def ws (l : List UInt8) : Int := wsK l ((l.length + 1) / 2)
def csum (l : List UInt8) : Int := 65535 - fd (ws l)
theorem csum_lo (l : List UInt8) : 0 ≤ csum l := by unfold csum; have := fd_hi (ws l); omega
theorem csum_hi (l : List UInt8) : csum l ≤ 65535 := by unfold csum; have := fd_lo (ws l); omega
theorem Drawn.bel {w w' : World} (h : Drawn w w') : Below w.heap.size w w' := by
  obtain ⟨n, rfl⟩ := h
  exact below_drewN (Below.refl _ w) n
def dstOf (ops : Array Oper) (j : Nat) : Option Tmp := (ops[j]?).bind (·.dst)
inductive Kd where
  | v (x : Value)
  | b (n : Nat) (l : List UInt8)
  | p (q : World → Value → Prop)
def Kd.holds : Kd → World → Value → Prop
  | .v x, _, u => u = x
  | .b n l, w, u => ∃ A c, u = .slice A n c ∧ Bs w A n c l
  | .p q, w, u => q w u
def Kd.Ok : Kd → Prop
  | .p q => ∀ w w' u, q w u → Below w.heap.size w w' → q w' u
  | _ => True
theorem Kd.keep {K : Kd} (hk : K.Ok) {w w' : World} {v : Value} (h : K.holds w v) (hb : Below w.heap.size w w') : K.holds w' v := by
  cases K with
  | v x => exact h
  | b n l => obtain ⟨A, c, e, k⟩ := h; exact ⟨A, c, e, k.below hb⟩
  | p q => exact hk _ _ _ h hb
def lookK : List (Tmp × Kd) → Tmp → Option Kd
  | [], _ => none
  | (s, K) :: r, t => match Nat.beq s t with
    | true => some K
    | false => lookK r t
def leanOn (ks : List (Tmp × Kd)) (W : World) : List Operand → (Act → Prop) → Act → Prop
  | [], k, a => k a
  | .tmp t :: xs, k, a => match lookK ks t with
    | some (.v x) => leanOn ks W xs k (a.put (some t) x)
    | some (.b n l) => ∀ A c, Bs W A n c l → leanOn ks W xs k (a.put (some t) (.slice A n c))
    | some (.p q) => ∀ v, q W v → leanOn ks W xs k (a.put (some t) v)
    | none => leanOn ks W xs k a
  | .const _ :: xs, k, a => leanOn ks W xs k a
  | .global _ :: xs, k, a => leanOn ks W xs k a
  | .func _ :: xs, k, a => leanOn ks W xs k a
def finOn (W : World) : List (Tmp × Kd) → (Act → Prop) → Act → Prop
  | [], k, a => k a
  | (t, .v x) :: r, k, a => finOn W r k (a.put (some t) x)
  | (t, .b n l) :: r, k, a => ∀ A c, Bs W A n c l → finOn W r k (a.put (some t) (.slice A n c))
  | (t, .p q) :: r, k, a => ∀ v, q W v → finOn W r k (a.put (some t) v)
def OpGoes (P : Program) (R : Value → World → Prop) : Result Next → Prop
  | .ok (.value v) w' => R v w'
  | .ok (.enter f args) w' => Calls P f args w' fun e w'' => ∃ v, e = .returned v ∧ R v w''
  | _ => False
structure Goes (P : Program) (K : Kd) (o : Oper) (W : World) (a : Act) : Prop where
  out : OpGoes P (fun v w' => K.holds w' v ∧ Below W.heap.size W w') ((execOp a.eval o).run P W)
def isSel : Op → Bool
  | .select .. => true
  | _ => false
def wantK (ops : Array Oper) (ks : List (Tmp × Kd)) (g : Option (Nat × Bool)) : Option Bool :=
  match g with
  | none => some true
  | some (g, b) => match dstOf ops g with
    | some t => match lookK ks t with
      | some (.v (.bool c)) => some (c == b)
      | _ => none
    | none => none
def Ob1 (P : Program) (ops : Array Oper) (a0 : Act) (w0 : World) (ks : List (Tmp × Kd)) (o : Oper) (K : Kd) : Prop :=
  (wantK ops ks o.guard = some true ∧ ∀ W, Below w0.heap.size w0 W → leanOn ks W o.op.operands.toList (Goes P K o W) a0) ∨ (wantK ops ks o.guard = some false ∧ K = .v undef)
def ObsK (P : Program) (ops : Array Oper) (a0 : Act) (w0 : World) (fin : List (Tmp × Kd) → Prop) : List (Tmp × Kd) → List Oper → Prop
  | ks, [] => fin ks
  | ks, o :: rest => ∃ K t, o.dst = some t ∧ K.Ok ∧ Ob1 P ops a0 w0 ks o K ∧ ObsK P ops a0 w0 fin ((t, K) :: ks) rest
section
variable {P : Program} {ops : Array Oper} {a0 : Act} {w0 : World} {fin : List (Tmp × Kd) → Prop} {ks : List (Tmp × Kd)} {rest : List Oper}
  {t : Tmp} {op : Op} {ty : TypeId} {pos : String} {after : Array Edge} {g : Option (Nat × Bool)}
theorem ObsK.v {x : Value} (hg : wantK ops ks g = some true) (ho : ∀ W, Below w0.heap.size w0 W → leanOn ks W op.operands.toList (Goes P (.v x) ⟨some t, op, ty, pos, after, g⟩ W) a0)
    (hr : ObsK P ops a0 w0 fin ((t, .v x) :: ks) rest) : ObsK P ops a0 w0 fin ks (⟨some t, op, ty, pos, after, g⟩ :: rest) :=
  ⟨.v x, t, rfl, trivial, .inl ⟨hg, ho⟩, hr⟩
theorem ObsK.b {n : Nat} {l : List UInt8} (hg : wantK ops ks g = some true) (ho : ∀ W, Below w0.heap.size w0 W → leanOn ks W op.operands.toList (Goes P (.b n l) ⟨some t, op, ty, pos, after, g⟩ W) a0)
    (hr : ObsK P ops a0 w0 fin ((t, .b n l) :: ks) rest) : ObsK P ops a0 w0 fin ks (⟨some t, op, ty, pos, after, g⟩ :: rest) :=
  ⟨.b n l, t, rfl, trivial, .inl ⟨hg, ho⟩, hr⟩
theorem ObsK.p {q : World → Value → Prop} (hg : wantK ops ks g = some true) (hk : ∀ w w' v, q w v → Below w.heap.size w w' → q w' v) (ho : ∀ W, Below w0.heap.size w0 W → leanOn ks W op.operands.toList (Goes P (.p q) ⟨some t, op, ty, pos, after, g⟩ W) a0)
    (hr : ObsK P ops a0 w0 fin ((t, .p q) :: ks) rest) : ObsK P ops a0 w0 fin ks (⟨some t, op, ty, pos, after, g⟩ :: rest) :=
  ⟨.p q, t, rfl, hk, .inl ⟨hg, ho⟩, hr⟩
theorem ObsK.skip (hg : wantK ops ks g = some false) (hr : ObsK P ops a0 w0 fin ((t, .v undef) :: ks) rest) : ObsK P ops a0 w0 fin ks (⟨some t, op, ty, pos, after, g⟩ :: rest) :=
  ⟨.v undef, t, rfl, trivial, .inr ⟨hg, rfl⟩, hr⟩
theorem ObsK.nil (h : fin ks) : ObsK P ops a0 w0 fin ks [] := h
theorem goes_v {x : Value} {w : World} : OpGoes P (fun v w' => (Kd.v x).holds w' v ∧ Below w.heap.size w w') (.ok (.value x) w) := ⟨rfl, Below.refl _ _⟩
theorem goes_b {A : Option Addr} {n c : Nat} {l : List UInt8} {w : World} (k : Bs w A n c l) : OpGoes P (fun v w' => (Kd.b n l).holds w' v ∧ Below w.heap.size w w') (.ok (.value (.slice A n c)) w) := ⟨⟨A, c, rfl, k⟩, Below.refl _ _⟩
theorem goes_enter {R : Value → World → Prop} {f : FuncId} {args : Array Value} {w : World} (h : Calls P f args w fun e w'' => ∃ v, e = .returned v ∧ R v w'') : OpGoes P R (.ok (.enter f args) w) := h
theorem ret_v {x : Value} {w w' : World} (h : Below w.heap.size w w') : ∃ v, Ending.returned x = .returned v ∧ (Kd.v x).holds w' v ∧ Below w.heap.size w w' := ⟨_, rfl, rfl, h⟩
theorem ret_b {A : Option Addr} {n c : Nat} {l : List UInt8} {w w' : World} (k : Bs w' A n c l) (h : Below w.heap.size w w') : ∃ v, Ending.returned (.slice A n c) = .returned v ∧ (Kd.b n l).holds w' v ∧ Below w.heap.size w w' := ⟨_, rfl, ⟨_, _, rfl, k⟩, h⟩
theorem ret_p {q : World → Value → Prop} {x : Value} {w w' : World} (k : q w' x) (h : Below w.heap.size w w') : ∃ v, Ending.returned x = .returned v ∧ (Kd.p q).holds w' v ∧ Below w.heap.size w w' := ⟨_, rfl, k, h⟩
def hasOn (o : Oper) (j : Nat) : Bool := o.after.any fun e => e.on == j && Region.binds .any e
def mainB (ops : Array Oper) (m n i : Nat) : Bool := match ops[i]? with
  | some o => (match o.dst with
      | some t => decide (t < n) && (List.range i).all (fun j => dstOf ops j != some t)
      | none => false) && !isSel o.op && o.op.operands.all (fun x => match x with
      | .tmp t => (List.range m).all (fun j => dstOf ops j != some t || (hasOn o j && decide (j < i)))
      | _ => true) && (match o.guard with
      | some (g, _) => hasOn o g && decide (g < i)
      | none => true)
  | none => false
def downB (ops : Array Oper) (i : Nat) : Bool := match ops[i]? with
  | some o => o.after.all fun e => !Region.binds .any e || decide (e.on < i)
  | none => true
def upB (ops : Array Oper) (lo hi : Nat) (j : Nat) : Bool := (List.range (hi + 1 - lo)).any fun k => match ops[lo + k]? with
  | some o => hasOn o j
  | none => false
def regB (ops : Array Oper) (m n : Nat) : Bool :=
  decide (m ≤ ops.size) && (List.range m).all (mainB ops m n) && (List.range ops.size).all (downB ops) &&
    (m == ops.size || (List.range m).all fun j => upB ops (j + 1) m j) && (List.range (ops.size - 1 - m)).all fun k => upB ops (m + k + 1) (m + k + 1) (m + k)
end
theorem lookK_some {t : Tmp} {K : Kd} : ∀ {ks : List (Tmp × Kd)}, lookK ks t = some K → (t, K) ∈ ks
  | (s, K') :: r, h => by
    unfold lookK at h
    cases hb : Nat.beq s t with
    | true =>
      rw [hb] at h
      injection h with h
      subst h
      rw [Nat.eq_of_beq_eq_true hb]
      exact List.mem_cons_self
    | false =>
      rw [hb] at h
      exact List.mem_cons_of_mem _ (lookK_some h)
theorem lookK_none {t : Tmp} : ∀ {ks : List (Tmp × Kd)}, lookK ks t = none → ∀ K, (t, K) ∉ ks
  | [], _, _, hm => by cases hm
  | (s, K') :: r, h, K, hm => by
    unfold lookK at h
    cases hb : Nat.beq s t with
    | true => rw [hb] at h; cases h
    | false =>
      rw [hb] at h
      rcases List.mem_cons.1 hm with e | hm
      · injection e with e1 e2
        subst e1
        rw [Nat.beq_refl] at hb; cases hb
      · exact lookK_none h K hm
theorem put_getD {a : Act} {t s : Tmp} {v : Value} (ht : t < a.tmps.size) : (a.put (some t) v).tmps.getD s undef = if s = t then v else a.tmps.getD s undef := by
  by_cases e : s = t
  · subst e
    simp [Act.put, Array.getD_eq_getD_getElem?, ht]
  · rw [if_neg e]
    simp [Act.put, Array.getD_eq_getD_getElem?, Array.getElem?_setIfInBounds_ne (Ne.symm e)]
theorem leanOn.out {ks : List (Tmp × Kd)} {W : World} {k : Act → Prop} {a' : Act} : ∀ {xs : List Operand} {a : Act}, leanOn ks W xs k a → a.tmps.size = a'.tmps.size →
    (∀ t K, .tmp t ∈ xs → lookK ks t = some K → t < a'.tmps.size ∧ K.holds W (a'.tmps.getD t undef)) →
    ∃ b : Act, k b ∧ b.tmps.size = a.tmps.size ∧ b.defers = a.defers ∧ (∀ t, b.tmps.getD t undef = a.tmps.getD t undef ∨ b.tmps.getD t undef = a'.tmps.getD t undef) ∧
      (∀ t, (∃ K, lookK ks t = some K ∧ .tmp t ∈ xs) → b.tmps.getD t undef = a'.tmps.getD t undef)
  | [], a, h, hs, hv => ⟨a, h, rfl, rfl, fun _ => .inl rfl, fun t ⟨K, _, hm⟩ => by cases hm⟩
  | .tmp t :: xs, a, h, hs, hv => by
    have step : ∀ {K : Kd}, lookK ks t = some K → leanOn ks W xs k (a.put (some t) (a'.tmps.getD t undef)) → ∃ b : Act, k b ∧ b.tmps.size = a.tmps.size ∧ b.defers = a.defers ∧ (∀ t, b.tmps.getD t undef = a.tmps.getD t undef ∨ b.tmps.getD t undef = a'.tmps.getD t undef) ∧
      (∀ s, (∃ K, lookK ks s = some K ∧ .tmp s ∈ .tmp t :: xs) → b.tmps.getD s undef = a'.tmps.getD s undef) := by
      intro K hK h
      have ht : t < a.tmps.size := by rw [hs]; exact (hv t K (List.mem_cons_self) hK).1
      have hs1 : (a.put (some t) (a'.tmps.getD t undef)).tmps.size = a'.tmps.size := by simpa [Act.put] using hs
      obtain ⟨b, hb, e1, e2, e3, e4⟩ := leanOn.out (a' := a') h hs1 (fun s K hm => hv s K (List.mem_cons_of_mem _ hm))
      refine ⟨b, hb, by rw [e1, hs1, hs], e2, fun s => ?_, fun s ⟨K', hK', hm⟩ => ?_⟩
      · rcases e3 s with e | e
        · rw [put_getD ht] at e
          by_cases es : s = t
          · rw [if_pos es] at e; subst es; exact .inr e
          · rw [if_neg es] at e; exact .inl e
        · exact .inr e
      · by_cases hx : Operand.tmp s ∈ xs
        · exact e4 s ⟨K', hK', hx⟩
        · rcases List.mem_cons.1 hm with e | hm
          · injection e with e
            subst e
            rcases e3 s with e | e
            · rw [put_getD ht, if_pos rfl] at e; exact e
            · exact e
          · exact absurd hm hx
    unfold leanOn at h
    cases hl : lookK ks t with
    | none =>
      rw [hl] at h
      obtain ⟨b, hb, e1, e2, e3, e4⟩ := leanOn.out (a' := a') h hs (fun s K hm => hv s K (List.mem_cons_of_mem _ hm))
      refine ⟨b, hb, e1, e2, e3, fun s ⟨K', hK', hm⟩ => ?_⟩
      rcases List.mem_cons.1 hm with e | hm
      · injection e with e
        subst e
        rw [hl] at hK'; cases hK'
      · exact e4 s ⟨K', hK', hm⟩
    | some K =>
      have hh := (hv t K (List.mem_cons_self) hl).2
      rw [hl] at h
      cases K with
      | v x =>
        refine step hl ?_
        have hx : a'.tmps.getD t undef = x := hh
        rw [hx]
        exact h
      | b n l =>
        obtain ⟨A, c, e, hb⟩ := hh
        refine step hl ?_
        rw [e]
        exact h A c hb
      | p q => exact step hl (h _ hh)
  | .const _ :: xs, a, h, hs, hv => by
    obtain ⟨b, hb, e1, e2, e3, e4⟩ := leanOn.out (xs := xs) (a' := a') h hs (fun s K hm => hv s K (List.mem_cons_of_mem _ hm))
    exact ⟨b, hb, e1, e2, e3, fun s ⟨K', hK', hm⟩ => e4 s ⟨K', hK', by rcases List.mem_cons.1 hm with e | hm; cases e; exact hm⟩⟩
  | .global _ :: xs, a, h, hs, hv => by
    obtain ⟨b, hb, e1, e2, e3, e4⟩ := leanOn.out (xs := xs) (a' := a') h hs (fun s K hm => hv s K (List.mem_cons_of_mem _ hm))
    exact ⟨b, hb, e1, e2, e3, fun s ⟨K', hK', hm⟩ => e4 s ⟨K', hK', by rcases List.mem_cons.1 hm with e | hm; cases e; exact hm⟩⟩
  | .func _ :: xs, a, h, hs, hv => by
    obtain ⟨b, hb, e1, e2, e3, e4⟩ := leanOn.out (xs := xs) (a' := a') h hs (fun s K hm => hv s K (List.mem_cons_of_mem _ hm))
    exact ⟨b, hb, e1, e2, e3, fun s ⟨K', hK', hm⟩ => e4 s ⟨K', hK', by rcases List.mem_cons.1 hm with e | hm; cases e; exact hm⟩⟩
theorem finOn.out {W : World} {k : Act → Prop} {a' : Act} : ∀ {ks : List (Tmp × Kd)} {a : Act}, finOn W ks k a → a.tmps.size = a'.tmps.size →
    (∀ t K, (t, K) ∈ ks → t < a'.tmps.size ∧ K.holds W (a'.tmps.getD t undef)) →
    ∃ b : Act, k b ∧ b.tmps.size = a.tmps.size ∧ b.defers = a.defers ∧ (∀ t, (∀ K, (t, K) ∉ ks) → b.tmps.getD t undef = a.tmps.getD t undef) ∧
      (∀ t, (∃ K, (t, K) ∈ ks) → b.tmps.getD t undef = a'.tmps.getD t undef)
  | [], a, h, hs, hv => ⟨a, h, rfl, rfl, fun _ _ => rfl, fun t ⟨K, hm⟩ => by cases hm⟩
  | (t, K) :: r, a, h, hs, hv => by
    have hh := hv t K (List.mem_cons_self)
    have h' : finOn W r k (a.put (some t) (a'.tmps.getD t undef)) := by
      cases K with
      | v x => have hx : a'.tmps.getD t undef = x := hh.2; rw [hx]; exact h
      | b n l => obtain ⟨A, c, e, hb⟩ := hh.2; rw [e]; exact h A c hb
      | p q => exact h _ hh.2
    have ht : t < a.tmps.size := by rw [hs]; exact hh.1
    have hs1 : (a.put (some t) (a'.tmps.getD t undef)).tmps.size = a'.tmps.size := by simpa [Act.put] using hs
    obtain ⟨b, hb, e1, e2, e3, e4⟩ := finOn.out (a' := a') h' hs1 (fun s K hm => hv s K (List.mem_cons_of_mem _ hm))
    refine ⟨b, hb, by rw [e1, hs1, hs], e2, fun s hn => ?_, fun s ⟨K', hm⟩ => ?_⟩
    · rw [e3 s (fun K hm => hn K (List.mem_cons_of_mem _ hm)), put_getD ht, if_neg]
      intro e
      subst e
      exact hn K (List.mem_cons_self)
    · by_cases hx : ∃ K, (s, K) ∈ r
      · exact e4 s hx
      · rcases List.mem_cons.1 hm with e | hm
        · injection e with e1 e2
          subst e1
          rw [e3 s (fun K hm => hx ⟨K, hm⟩), put_getD ht, if_pos rfl]
        · exact absurd ⟨K', hm⟩ hx
theorem ObsK.out {P : Program} {ops : Array Oper} {a0 : Act} {w0 : World} {fin : List (Tmp × Kd) → Prop} : ∀ {l : List Oper} {ks : List (Tmp × Kd)}, ObsK P ops a0 w0 fin ks l →
    ∃ Ks : Nat → Kd, ∃ kz : Nat → List (Tmp × Kd), kz 0 = ks ∧ fin (kz l.length) ∧ ∀ i o, l[i]? = some o → ∃ t, o.dst = some t ∧ (Ks i).Ok ∧ Ob1 P ops a0 w0 (kz i) o (Ks i) ∧ kz (i + 1) = (t, Ks i) :: kz i
  | [], ks, h => ⟨fun _ => .v undef, fun _ => ks, rfl, h, fun i o ho => by simp at ho⟩
  | o :: rest, ks, ⟨K, t, hd, hk, hob, hr⟩ => by
    obtain ⟨Ks, kz, h0, hf, hall⟩ := ObsK.out hr
    refine ⟨fun i => match i with | 0 => K | i + 1 => Ks i, fun i => match i with | 0 => ks | i + 1 => kz i, rfl, hf, fun i o' ho' => ?_⟩
    cases i with
    | zero =>
      simp only [List.getElem?_cons_zero, Option.some.injEq] at ho'
      subst ho'
      exact ⟨t, hd, hk, hob, h0⟩
    | succ i => exact hall i o' (by simpa using ho')
theorem kz_mem {l : List Oper} {Ks : Nat → Kd} {kz : Nat → List (Tmp × Kd)} (h0 : kz 0 = []) (hall : ∀ i o, l[i]? = some o → ∃ t, o.dst = some t ∧ kz (i + 1) = (t, Ks i) :: kz i) :
    ∀ i, i ≤ l.length → ∀ t K, (t, K) ∈ kz i → ∃ j o, j < i ∧ l[j]? = some o ∧ o.dst = some t ∧ K = Ks j
  | 0, _, t, K, hm => by rw [h0] at hm; cases hm
  | i + 1, hi, t, K, hm => by
    have ho : l[i]? = some l[i] := List.getElem?_eq_getElem (by omega)
    obtain ⟨s, hs, he⟩ := hall i _ ho
    rw [he] at hm
    rcases List.mem_cons.1 hm with e | hm
    · injection e with e1 e2
      subst e1 e2
      exact ⟨i, _, Nat.lt_succ_self i, ho, hs, rfl⟩
    · obtain ⟨j, o, hj, r⟩ := kz_mem h0 hall i (by omega) t K hm
      exact ⟨j, o, by omega, r⟩
theorem kz_all {l : List Oper} {Ks : Nat → Kd} {kz : Nat → List (Tmp × Kd)} (hall : ∀ i o, l[i]? = some o → ∃ t, o.dst = some t ∧ kz (i + 1) = (t, Ks i) :: kz i) :
    ∀ i, i ≤ l.length → ∀ j o t, j < i → l[j]? = some o → o.dst = some t → (t, Ks j) ∈ kz i
  | 0, _, j, o, t, hj, _, _ => by omega
  | i + 1, hi, j, o, t, hj, ho, ht => by
    have ho' : l[i]? = some l[i] := List.getElem?_eq_getElem (by omega)
    obtain ⟨s, hs, he⟩ := hall i _ ho'
    rw [he]
    by_cases e : j = i
    · subst e
      rw [ho'] at ho
      injection ho with ho
      subst ho
      rw [hs] at ht
      injection ht with ht
      subst ht
      exact List.mem_cons_self
    · exact List.mem_cons_of_mem _ (kz_all hall i (by omega) j o t (by omega) ho ht)
structure RegOk (ops : Array Oper) (m n : Nat) : Prop where
  le : m ≤ ops.size
  main : ∀ i o, i < m → ops[i]? = some o → ∃ t, o.dst = some t ∧ t < n ∧ (∀ j, j < i → dstOf ops j ≠ some t) ∧ isSel o.op = false ∧
    (∀ s, .tmp s ∈ o.op.operands → ∀ j, j < m → dstOf ops j = some s → hasOn o j = true ∧ j < i) ∧ (∀ g b, o.guard = some (g, b) → hasOn o g = true ∧ g < i)
  down : ∀ i o, ops[i]? = some o → ∀ e ∈ o.after, Region.binds .any e = true → e.on < i
  up : m = ops.size ∨ ∀ j, j < m → ∃ k o, j < k ∧ k ≤ m ∧ ops[k]? = some o ∧ hasOn o j = true
  tail : ∀ k, m ≤ k → k + 1 < ops.size → ∃ o, ops[k + 1]? = some o ∧ hasOn o k = true
theorem upB_out {ops : Array Oper} {lo hi j : Nat} (h : upB ops lo hi j = true) : ∃ k o, lo ≤ k ∧ k ≤ hi ∧ ops[k]? = some o ∧ hasOn o j = true := by
  obtain ⟨k, hk, hh⟩ := List.any_eq_true.1 h
  have := List.mem_range.1 hk
  cases ho : ops[lo + k]? with
  | none => rw [ho] at hh; cases hh
  | some o => rw [ho] at hh; exact ⟨lo + k, o, by omega, by omega, ho, hh⟩
theorem regB_out {ops : Array Oper} {m n : Nat} (h : regB ops m n = true) : RegOk ops m n := by
  unfold regB at h
  simp only [Bool.and_eq_true, decide_eq_true_eq, List.all_eq_true, List.mem_range, Bool.or_eq_true, beq_iff_eq] at h
  obtain ⟨⟨⟨⟨h1, h2⟩, h3⟩, h4⟩, h5⟩ := h
  refine ⟨h1, fun i o hi ho => ?_, fun i o ho e he hb => ?_, ?_, fun k hk hk1 => ?_⟩
  · have := h2 i hi
    unfold mainB at this
    rw [ho] at this
    simp only [Bool.and_eq_true] at this
    obtain ⟨⟨⟨a1, a2⟩, a3⟩, a4⟩ := this
    cases ht : o.dst with
    | none => rw [ht] at a1; cases a1
    | some t =>
      rw [ht] at a1
      simp only [Bool.and_eq_true, decide_eq_true_eq, List.all_eq_true, List.mem_range, bne_iff_ne, ne_eq] at a1
      refine ⟨t, rfl, a1.1, a1.2, by simpa using a2, fun s hs j hj hd => ?_, fun g b hg => ?_⟩
      · rw [Array.all_eq_true] at a3
        obtain ⟨q, hq, hqs⟩ := Array.mem_iff_getElem.1 hs
        have := a3 q hq
        rw [hqs] at this
        simp only [List.all_eq_true, List.mem_range, Bool.or_eq_true, bne_iff_ne, ne_eq, Bool.and_eq_true, decide_eq_true_eq] at this
        exact (this j hj).resolve_left (fun h => h hd)
      · rw [hg] at a4
        simpa using a4
  · have hi : i < ops.size := (Array.getElem?_eq_some_iff.1 ho).1
    have := h3 i hi
    unfold downB at this
    rw [ho] at this
    simp only [Array.all_eq_true] at this
    obtain ⟨k, hk, rfl⟩ := Array.mem_iff_getElem.1 he
    have := this k hk
    rw [hb] at this
    simpa using this
  · rcases h4 with h4 | h4
    · exact .inl h4
    · refine .inr fun j hj => ?_
      obtain ⟨k, o, k1, k2, k3, k4⟩ := upB_out (h4 j hj)
      exact ⟨k, o, by omega, k2, k3, k4⟩
  · have := h5 (k - m) (by omega)
    rw [show m + (k - m) = k from by omega] at this
    obtain ⟨q, o, k1, k2, k3, k4⟩ := upB_out this
    obtain rfl : q = k + 1 := by omega
    exact ⟨o, k3, k4⟩
structure RInv (ops : Array Oper) (a0 : Act) (w0 : World) (Ks : Nat → Kd) (m : Nat) (listed : Array Bool) (a : Act) (w : World) : Prop where
  lsize : listed.size = ops.size
  defers : a.defers = a0.defers
  size : a.tmps.size = a0.tmps.size
  below : Below w0.heap.size w0 w
  other : ∀ t, (∀ j, j < m → dstOf ops j ≠ some t) → a.tmps.getD t undef = a0.tmps.getD t undef
  val : ∀ j t, j < m → listed.getD j false = true → dstOf ops j = some t → (Ks j).holds w (a.tmps.getD t undef)
  down : ∀ i o, ops[i]? = some o → listed.getD i false = true → ∀ e ∈ o.after, Region.binds .any e = true → listed.getD e.on false = true
theorem hasOn_mem {o : Oper} {j : Nat} (h : hasOn o j = true) : ∃ e ∈ o.after, e.on = j ∧ Region.binds .any e = true := by
  unfold hasOn at h
  rw [Array.any_eq_true] at h
  obtain ⟨i, hi, hh⟩ := h
  simp only [Bool.and_eq_true, beq_iff_eq] at hh
  exact ⟨_, Array.getElem_mem hi, hh.1, hh.2⟩
theorem getD_ff {l : Array Bool} {i : Nat} (hi : i < l.size) : l.getD i true = l.getD i false := by
  simp only [Array.getD_eq_getD_getElem?, Array.getElem?_eq_getElem hi, Option.getD_some]
theorem getD_set {l : Array Bool} {i j : Nat} (hi : i < l.size) (b : Bool) : (l.setIfInBounds i true).getD j b = if j = i then true else l.getD j b := by
  by_cases e : j = i
  · subst e; simp [Array.getD_eq_getD_getElem?, hi]
  · simp [Array.getD_eq_getD_getElem?, Array.getElem?_setIfInBounds_ne (Ne.symm e), e]
theorem dstOf_some {ops : Array Oper} {j : Nat} {t : Tmp} (h : dstOf ops j = some t) : ∃ o, ops[j]? = some o ∧ o.dst = some t := by
  unfold dstOf at h
  cases ho : ops[j]? with
  | none => rw [ho] at h; cases h
  | some o => rw [ho] at h; exact ⟨o, rfl, h⟩
theorem dst_inj {ops : Array Oper} {m n : Nat} (h : RegOk ops m n) {i j : Nat} {t : Tmp} (im : i < m) (jm : j < m) (hi : dstOf ops i = some t) (hj : dstOf ops j = some t) : i = j := by
  have key : ∀ i j, j < m → dstOf ops i = some t → dstOf ops j = some t → i < j → False := by
    intro i j jm hi hj hlt
    obtain ⟨o, ho, hd⟩ := dstOf_some hj
    obtain ⟨s, hs, _, hne, _⟩ := h.main j o jm ho
    rw [hd] at hs
    injection hs with hs
    subst hs
    exact hne i hlt hi
  rcases Nat.lt_trichotomy i j with hlt | heq | hlt
  · exact (key i j jm hi hj hlt).elim
  · exact heq
  · exact (key j i im hj hi hlt).elim
theorem all_before {ops : Array Oper} {m n : Nat} (h : RegOk ops m n) {listed : Array Bool} (hd : ∀ i o, ops[i]? = some o → listed.getD i false = true → ∀ e ∈ o.after, Region.binds .any e = true → listed.getD e.on false = true)
    {k : Nat} {ok : Oper} (hk : m ≤ k) (hok : ops[k]? = some ok) (hr : ∀ e ∈ ok.after, Region.binds .any e = true → listed.getD e.on false = true) : ∀ d j, j + d + 1 = k → listed.getD j false = true := by
  have hks : k < ops.size := (Array.getElem?_eq_some_iff.1 hok).1
  intro d
  induction d using Nat.strongRecOn with
  | _ d ih =>
    intro j hj
    have : ∃ q o, j < q ∧ q ≤ k ∧ ops[q]? = some o ∧ hasOn o j = true := by
      by_cases jm : j < m
      · rcases h.up with e | e
        · omega
        · obtain ⟨q, o, q1, q2, q3⟩ := e j jm
          exact ⟨q, o, q1, by omega, q3⟩
      · obtain ⟨o, ho, hh⟩ := h.tail j (by omega) (by omega)
        exact ⟨j + 1, o, by omega, by omega, ho, hh⟩
    obtain ⟨q, o, q1, q2, q3, q4⟩ := this
    obtain ⟨e, he, heo, heb⟩ := hasOn_mem q4
    rw [← heo]
    by_cases e1 : q = k
    · subst e1
      rw [hok] at q3
      injection q3 with q3
      subst q3
      exact hr e he heb
    · exact hd q o q3 (ih (k - q - 1) (by omega) q (by omega)) e he heb
section
variable {P : Program} {Q : Exit → Act → World → Prop}
theorem tail_any {ops : Array Oper} {m n : Nat} (h : RegOk ops m n) : ∀ (fuel k : Nat) (listed : Array Bool) (a : Act) (w : World), m ≤ k → k ≤ ops.size → listed.size = ops.size →
    (∀ i, i < ops.size → listed.getD i false = decide (i < k)) → ops.size - k ≤ fuel → wpList P ops Q (ops.toList.drop k) a w → wpAny P .any ops Q fuel listed a w := by
  intro fuel
  have hnil : ∀ (k : Nat) (listed : Array Bool), listed.size = ops.size → (∀ i, i < ops.size → listed.getD i false = decide (i < k)) → k ≤ ops.size → Region.ready .any ops listed = [] → k = ops.size := by
    intro k listed hs hl hk hr
    rcases Nat.lt_or_ge k ops.size with hlt | hge
    · exfalso
      have hm : k ∈ Region.ready .any ops listed := by
        rw [mem_ready]
        refine ⟨by rw [getD_ff (by omega), hl k hlt]; simp, ops[k], Array.getElem?_eq_getElem hlt, fun e he hb => ?_⟩
        have := h.down k _ (Array.getElem?_eq_getElem hlt) e he hb
        rw [hl _ (by omega)]
        simpa using this
      rw [hr] at hm
      cases hm
    · omega
  induction fuel with
  | zero =>
    intro k listed a w hmk hk hs hl hf hw
    obtain rfl : k = ops.size := by omega
    have hd : ops.toList.drop ops.size = [] := by simp
    rw [hd] at hw
    refine ⟨?_, hw⟩
    unfold Region.ready
    rw [List.filter_eq_nil_iff]
    intro i hi
    have hi := List.mem_range.1 hi
    rw [getD_ff (by omega), hl i hi]
    simp [hi]
  | succ fuel ih =>
    intro k listed a w hmk hk hs hl hf hw
    refine ⟨fun hr => ?_, fun i hi => ?_⟩
    · obtain rfl := hnil k listed hs hl hk hr
      have hd : ops.toList.drop ops.size = [] := by simp
      rw [hd] at hw
      exact hw
    · rw [mem_ready] at hi
      obtain ⟨hn, o, ho, hall⟩ := hi
      have his : i < ops.size := (Array.getElem?_eq_some_iff.1 ho).1
      rw [getD_ff (by omega), hl i his] at hn
      have hik : k ≤ i := by simpa using hn
      have hki : i ≤ k := by
        rcases Nat.lt_or_ge k i with hlt | hge
        · exfalso
          have := all_before h (listed := listed) (fun q oq hq hlq e he hb => by
            have hqs : q < ops.size := (Array.getElem?_eq_some_iff.1 hq).1
            have h1 := h.down q oq hq e he hb
            rw [hl q hqs] at hlq
            rw [hl _ (by omega)]
            simp only [decide_eq_true_eq] at hlq ⊢
            omega) (by omega) ho hall (i - k - 1) k (by omega)
          rw [hl k (by omega)] at this
          simp at this
        · exact hge
      obtain rfl : i = k := by omega
      have hdrop : ops.toList.drop i = o :: ops.toList.drop (i + 1) := by
        have : ops.toList[i]? = some o := by simpa using ho
        rw [List.drop_eq_getElem_cons (by simpa using his)]
        congr 1
        have e2 := (List.getElem?_eq_some_iff.1 this).2
        exact e2
      rw [hdrop] at hw
      have hnext : ∀ a w, wpList P ops Q (ops.toList.drop (i + 1)) a w → wpAny P .any ops Q fuel (listed.setIfInBounds i true) a w := by
        intro a w hw
        refine ih (i + 1) _ a w (by omega) (by omega) (by simpa using hs) (fun j hj => ?_) (by omega) hw
        rw [getD_set (by omega), hl j hj]
        by_cases e : j = i
        · subst e; simp
        · simp [e]; omega
      unfold wpOp
      rw [ho]
      simp only
      unfold wpList at hw
      split
      · rename_i hwant
        rw [if_pos hwant] at hw
        exact hw.imp (Oper.wp_mono hnext) id
      · rename_i hwant
        rw [if_neg hwant] at hw
        exact hnext _ _ hw
theorem region_txt {id : Nat} {l : List Oper} {a : Act} {w : World} (m : Nat) (hm : P.follows .mixedOrders = true) (hchk : regB l.toArray m a.tmps.size = true)
    (hobs : ObsK P l.toArray a w (fun ks => ∀ W, Below w.heap.size w W → finOn W ks (fun a' => wpList P l.toArray Q (l.drop m) a' W) a) [] (l.take m)) :
    (Code.region id l.toArray true).wp P Q a w := by
  have R := regB_out hchk
  obtain ⟨ops, hops⟩ : ∃ ops, l.toArray = ops := ⟨_, rfl⟩
  have hl' : l = ops.toList := by rw [← hops]
  rw [hops] at hobs R ⊢
  rw [hl'] at hobs
  clear hops hl' hchk
  obtain ⟨Ks, kz, hz0, hfin, hall⟩ := hobs.out
  have hmlen : (ops.toList.take m).length = m := by simp [R.le]
  rw [hmlen] at hfin
  have hat : ∀ i o, i < m → ops[i]? = some o → (ops.toList.take m)[i]? = some o := fun i o hi ho => by
    rw [List.getElem?_take, if_pos hi]; simpa using ho
  have hta : ∀ i o, (ops.toList.take m)[i]? = some o → i < m ∧ ops[i]? = some o := fun i o ho => by
    rw [List.getElem?_take] at ho
    split at ho
    · exact ⟨‹_›, by simpa using ho⟩
    · cases ho
  have hall2 : ∀ i o, (ops.toList.take m)[i]? = some o → ∃ t, o.dst = some t ∧ kz (i + 1) = (t, Ks i) :: kz i := fun i o ho => by
    obtain ⟨t, h1, _, _, h2⟩ := hall i o ho
    exact ⟨t, h1, h2⟩
  have hmem : ∀ i, i ≤ m → ∀ t K, (t, K) ∈ kz i → ∃ j, j < i ∧ dstOf ops j = some t ∧ K = Ks j := fun i hi t K hm => by
    obtain ⟨j, o, h1, h2, h3, h4⟩ := kz_mem hz0 hall2 i (by omega) t K hm
    obtain ⟨_, ho⟩ := hta j o h2
    exact ⟨j, h1, by unfold dstOf; rw [ho]; exact h3, h4⟩
  refine wp_region_any hm ?_
  have hd : ∀ i o, ops[i]? = some o → dstOf ops i = o.dst := fun i o ho => by unfold dstOf; rw [ho]; rfl
  have hend : ∀ (listed : Array Bool) (a' : Act) (w' : World), RInv ops a w Ks m listed a' w' → (∀ j, j < m → listed.getD j false = true) → wpList P ops Q (ops.toList.drop m) a' w' := by
    intro listed a' w' hI hlst
    obtain ⟨b, hb, e1, e2, e3, e4⟩ := finOn.out (a' := a') (hfin w' hI.below) hI.size.symm (fun t K hm => by
      obtain ⟨j, hj, hdj, rfl⟩ := hmem m (Nat.le_refl _) t K hm
      obtain ⟨o, ho, hod⟩ := dstOf_some hdj
      obtain ⟨s, hs, hsn, _⟩ := R.main j o hj ho
      rw [hod] at hs
      injection hs with hs
      subst hs
      exact ⟨by rw [hI.size]; exact hsn, hI.val j t hj (hlst j hj) hdj⟩)
    have : b = a' := by
      cases b with
      | mk bt bd =>
        cases a' with
        | mk at' ad =>
          simp only at e1 e2 e3 e4
          have hdf : bd = ad := by rw [e2]; exact hI.defers.symm
          have htm : bt = at' := by
            apply Array.ext
            · rw [e1]; exact hI.size.symm
            · intro t t1 t2
              have : bt.getD t undef = at'.getD t undef := by
                by_cases hx : ∃ K, (t, K) ∈ kz m
                · exact e4 t hx
                · rw [e3 t (fun K hm => hx ⟨K, hm⟩)]
                  refine (hI.other t fun j hj hdj => hx ?_).symm
                  obtain ⟨o, ho, hod⟩ := dstOf_some hdj
                  exact ⟨Ks j, kz_all hall2 m (by omega) j o t hj (hat j o hj ho) hod⟩
              simpa only [Array.getD_eq_getD_getElem?, Array.getElem?_eq_getElem t1, Array.getElem?_eq_getElem t2, Option.getD_some] using this
          subst hdf htm
          rfl
    rw [this] at hb
    exact hb
  have key : ∀ (fuel : Nat) (listed : Array Bool) (a' : Act) (w' : World), RInv ops a w Ks m listed a' w' → (∀ i, m ≤ i → i < ops.size → listed.getD i false = false) →
      ((List.range ops.size).filter fun i => !listed.getD i true).length ≤ fuel → wpAny P .any ops Q fuel listed a' w' := by
    intro fuel
    have hprefix : ∀ (listed : Array Bool), listed.size = ops.size → (∀ j, j < m → listed.getD j false = true) → (∀ i, m ≤ i → i < ops.size → listed.getD i false = false) → ∀ i, i < ops.size → listed.getD i false = decide (i < m) := by
      intro listed hs h1 h2 i hi
      by_cases e : i < m
      · rw [h1 i e]; simp [e]
      · rw [h2 i (by omega) hi]; simp [e]
    induction fuel with
    | zero =>
      intro listed a' w' hI hno hc
      have h0 : ((List.range ops.size).filter fun i => !listed.getD i true) = [] := List.eq_nil_of_length_eq_zero (by omega)
      have hal : ∀ i, i < ops.size → listed.getD i false = true := by
        intro i hi
        rw [List.filter_eq_nil_iff] at h0
        have := h0 i (List.mem_range.2 hi)
        rw [← getD_ff (by rw [hI.lsize]; exact hi)]
        simpa using this
      have hms : m = ops.size := by
        rcases Nat.lt_or_ge m ops.size with hlt | hge
        · have := hno m (Nat.le_refl _) hlt
          rw [hal m hlt] at this
          cases this
        · have := R.le; omega
      have := hend listed a' w' hI (fun j hj => hal j (by omega))
      rw [hms] at this
      have hdr : ops.toList.drop ops.size = [] := by simp
      rw [hdr] at this
      refine ⟨?_, this⟩
      unfold Region.ready
      rw [List.filter_eq_nil_iff] at h0 ⊢
      intro i hi
      have := h0 i hi
      simp only [Bool.not_eq_true] at this ⊢
      rw [this]
      rfl
    | succ fuel ih =>
      intro listed a' w' hI hno hc
      by_cases hdone : ∀ j, j < m → listed.getD j false = true
      · refine tail_any R (fuel + 1) m listed a' w' (Nat.le_refl _) R.le hI.lsize (hprefix listed hI.lsize hdone hno) ?_ (hend listed a' w' hI hdone)
        have hlen : ops.size - m ≤ ((List.range ops.size).filter fun i => !listed.getD i true).length := by
          have hsub : (List.range ops.size).filter (fun i => decide (m ≤ i)) = (List.range ops.size).filter fun i => !listed.getD i true := by
            apply List.filter_congr
            intro i hi
            have hi := List.mem_range.1 hi
            rw [getD_ff (by rw [hI.lsize]; exact hi), hprefix listed hI.lsize hdone hno i hi]
            by_cases e : i < m <;> simp [e] <;> omega
          rw [← hsub]
          have : ∀ N, m ≤ N → ((List.range N).filter fun i => decide (m ≤ i)).length = N - m := by
            intro N hN
            induction N with
            | zero => simp
            | succ N ihN =>
              rw [List.range_succ, List.filter_append, List.length_append]
              by_cases e : m ≤ N
              · rw [ihN e]; simp [e]; omega
              · have : m = N + 1 := by omega
                subst this
                have : (List.range N).filter (fun i => decide (N + 1 ≤ i)) = [] := by
                  rw [List.filter_eq_nil_iff]
                  intro i hi
                  have := List.mem_range.1 hi
                  simp; omega
                rw [this]
                simp
          rw [this _ R.le]
          exact Nat.le_refl _
        omega
      · refine ⟨fun hr => ?_, fun i hi => ?_⟩
        · exfalso
          refine hdone ?_
          intro j
          induction j using Nat.strongRecOn with
          | _ j ihj =>
            intro hj
            cases hlj : listed.getD j false with
            | true => rfl
            | false =>
              exfalso
              have hjs : j < ops.size := by have := R.le; omega
              have hmem : j ∈ Region.ready .any ops listed := by
                rw [mem_ready]
                refine ⟨by rw [getD_ff (by rw [hI.lsize]; exact hjs)]; exact hlj, ops[j], Array.getElem?_eq_getElem hjs, fun e he hb => ?_⟩
                have := R.down j _ (Array.getElem?_eq_getElem hjs) e he hb
                exact ihj _ this (by omega)
              rw [hr] at hmem
              cases hmem
        · have hi0 := hi
          rw [mem_ready] at hi
          obtain ⟨hnl', o, ho, haf⟩ := hi
          have his : i < ops.size := (Array.getElem?_eq_some_iff.1 ho).1
          have hsi : i < listed.size := by rw [hI.lsize]; exact his
          have him : i < m := by
            rcases Nat.lt_or_ge i m with hlt | hge
            · exact hlt
            · exact absurd (fun j hj => all_before R hI.down hge ho haf (i - j - 1) j (by omega)) hdone
          obtain ⟨t, ht, htn, hne, hsel, hrd, hgd⟩ := R.main i o him ho
          obtain ⟨t', ht', hok, hob, hkz⟩ := hall i o (hat i o him ho)
          have hon : ∀ j, hasOn o j = true → listed.getD j false = true := fun j hj => by
            obtain ⟨e, he, heo, heb⟩ := hasOn_mem hj
            rw [← heo]
            exact haf e he heb
          have hnext : ∀ v w'', (Ks i).holds w'' v → Below w'.heap.size w' w'' → wpAny P .any ops Q fuel (listed.setIfInBounds i true) (a'.put o.dst v) w'' := by
            intro v w'' hv hb
            refine ih _ _ _ ⟨by simpa using hI.lsize, ?_, ?_, below_then hI.below hb, ?_, ?_, ?_⟩ ?_ ?_
            · rw [ht]; exact hI.defers
            · rw [ht]; simpa [Act.put] using hI.size
            · intro s hs
              have hst : s ≠ t := fun e => hs i him (by rw [hd i _ ho, ht, e])
              rw [ht, put_getD (by rw [hI.size]; exact htn), if_neg hst]
              exact hI.other s hs
            · intro j s hjm hj hdj
              rw [getD_set hsi] at hj
              rw [ht, put_getD (by rw [hI.size]; exact htn)]
              by_cases e : j = i
              · subst e
                have : s = t := by rw [hd j _ ho, ht] at hdj; injection hdj with hdj; exact hdj.symm
                rw [if_pos this]
                exact hv
              · rw [if_neg e] at hj
                have hst : s ≠ t := fun e2 => e (dst_inj R hjm him hdj (by rw [hd i _ ho, ht, e2]))
                rw [if_neg hst]
                obtain ⟨oj, hoj, hdoj⟩ := dstOf_some hdj
                obtain ⟨_, _, hokj, _, _⟩ := hall j oj (hat j oj hjm hoj)
                exact Kd.keep hokj (hI.val j s hjm hj hdj) hb
            · intro q oq hq hlq e he hb
              rw [getD_set hsi] at hlq ⊢
              by_cases e1 : q = i
              · subst e1
                rw [ho] at hq
                injection hq with hq
                subst hq
                split
                · rfl
                · exact haf e he hb
              · rw [if_neg e1] at hlq
                split
                · rfl
                · exact hI.down q oq hq hlq e he hb
            · intro q hq hqs
              rw [getD_set hsi, if_neg (by omega)]
              exact hno q hq hqs
            · have hnl : (!listed.getD i true) = true := by rw [hnl']; rfl
              have hlt : ((List.range ops.size).filter fun k => !(listed.setIfInBounds i true).getD k true).length < ((List.range ops.size).filter fun k => !listed.getD k true).length := by
                have hsub : ((List.range ops.size).filter fun k => !(listed.setIfInBounds i true).getD k true) = (((List.range ops.size).filter fun k => !listed.getD k true).filter fun k => k != i) := by
                  rw [List.filter_filter]
                  apply List.filter_congr
                  intro k _
                  rw [getD_set hsi]
                  by_cases e : k = i
                  · subst e; simp
                  · simp [e]
                rw [hsub]
                exact List.length_filter_lt_length_iff_exists.2 ⟨i, List.mem_filter.2 ⟨List.mem_range.2 his, hnl⟩, by simp⟩
              omega
          have hlook : ∀ s K, lookK (kz i) s = some K → ∃ j, j < i ∧ dstOf ops j = some s ∧ K = Ks j := fun s K hK => hmem i (by omega) s K (lookK_some hK)
          unfold wpOp
          rw [ho]
          rcases hob with ⟨hwk, hgo⟩ | ⟨hwk, hskip⟩
          · have hw : Region.wanted o (yielded ops a'.tmps) = true := by
              unfold Region.wanted
              cases hg : o.guard with
              | none => rfl
              | some gb =>
                obtain ⟨g, b⟩ := gb
                rw [hg] at hwk
                unfold wantK at hwk
                simp only at hwk
                cases hdg : dstOf ops g with
                | none => rw [hdg] at hwk; cases hwk
                | some s =>
                  rw [hdg] at hwk
                  cases hlk : lookK (kz i) s with
                  | none => simp only [hlk] at hwk; cases hwk
                  | some K =>
                    simp only [hlk] at hwk
                    split at hwk
                    · rename_i hKe
                      injection hKe with hKe
                      subst hKe
                      rename_i c
                      obtain ⟨j, hj, hdj, hKj⟩ := hlook s _ hlk
                      obtain ⟨hong, hgi⟩ := hgd g b hg
                      obtain rfl := dst_inj R (by omega) (by omega) hdj hdg
                      have hv := hI.val j s (by omega) (hon j hong) hdj
                      rw [← hKj] at hv
                      have hy : yielded ops a'.tmps j = some c := by
                        have hv' : a'.tmps.getD s undef = .bool c := hv
                        unfold yielded
                        unfold dstOf at hdj
                        rw [hdj]
                        rw [Array.getD_eq_getD_getElem?] at hv'
                        cases hx : a'.tmps[s]? with
                        | none => rw [hx] at hv'; exact absurd hv' (by simp [undef])
                        | some x =>
                          rw [hx] at hv'
                          simp only [Option.getD_some] at hv'
                          subst hv'
                          simp [hx]
                      simp only [hy]
                      injection hwk
                    · cases hwk
            simp only [hw, if_true]
            refine .inl ?_
            obtain ⟨b, hb, b1, b2, b3, b4⟩ := leanOn.out (a' := a') (hgo w' hI.below) hI.size.symm (fun s K hs hK => by
              obtain ⟨j, hj, hdj, rfl⟩ := hlook s K hK
              obtain ⟨o2, ho2, hod2⟩ := dstOf_some hdj
              obtain ⟨s2, hs2, hsn, _⟩ := R.main j o2 (by omega) ho2
              rw [hod2] at hs2
              injection hs2 with hs2
              subst hs2
              obtain ⟨ha, _⟩ := hrd s (by simpa using hs) j (by omega) hdj
              exact ⟨by rw [hI.size]; exact hsn, hI.val j s (by omega) (hon j ha) hdj⟩)
            have heq : execOp a'.eval o = execOp b.eval o := by
              refine execOp_congr o (fun cs bb hc => by rw [hc] at hsel; cases hsel) fun x hx => ?_
              cases x with
              | tmp s =>
                show a'.tmps.getD s undef = b.tmps.getD s undef
                by_cases hks : ∃ K, lookK (kz i) s = some K
                · obtain ⟨K, hK⟩ := hks
                  exact (b4 s ⟨K, hK, by simpa using hx⟩).symm
                · have ho2 : ∀ j, j < m → dstOf ops j ≠ some s := by
                    intro j hj hdj
                    obtain ⟨_, hji⟩ := hrd s hx j hj hdj
                    obtain ⟨oj, hoj, hdoj⟩ := dstOf_some hdj
                    have := kz_all hall2 i (by omega) j oj s hji (hat j oj hj hoj) hdoj
                    cases hl : lookK (kz i) s with
                    | some K => exact hks ⟨K, hl⟩
                    | none => exact lookK_none hl _ this
                  have e0 := hI.other s ho2
                  rcases b3 s with e | e
                  · rw [e, e0]
                  · exact e.symm
              | const _ => rfl
              | global _ => rfl
              | func _ => rfl
            have hgoes := hb.out
            unfold Oper.wp
            rw [heq]
            generalize (execOp b.eval o).run P w' = r at hgoes
            cases r with
            | ok n w'' =>
              cases n <;> simp only [OpGoes] at hgoes <;> try exact hgoes.elim
              case value v => exact hnext v w'' hgoes.1 hgoes.2
              case enter f args =>
                refine Calls.mono hgoes ?_
                rintro e w3 ⟨v, rfl, hv, hb⟩
                exact hnext v w3 hv hb
            | halt x w'' => exact hgoes.elim
          · have hw : Region.wanted o (yielded ops a'.tmps) = false := by
              unfold Region.wanted
              cases hg : o.guard with
              | none => rw [hg] at hwk; cases hwk
              | some gb =>
                obtain ⟨g, b⟩ := gb
                rw [hg] at hwk
                unfold wantK at hwk
                simp only at hwk
                cases hdg : dstOf ops g with
                | none => rw [hdg] at hwk; cases hwk
                | some s =>
                  rw [hdg] at hwk
                  cases hlk : lookK (kz i) s with
                  | none => simp only [hlk] at hwk; cases hwk
                  | some K =>
                    simp only [hlk] at hwk
                    split at hwk
                    · rename_i hKe
                      injection hKe with hKe
                      subst hKe
                      rename_i c
                      obtain ⟨j, hj, hdj, hKj⟩ := hlook s _ hlk
                      obtain ⟨hong, hgi⟩ := hgd g b hg
                      obtain rfl := dst_inj R (by omega) (by omega) hdj hdg
                      have hv := hI.val j s (by omega) (hon j hong) hdj
                      rw [← hKj] at hv
                      have hy : yielded ops a'.tmps j = some c := by
                        have hv' : a'.tmps.getD s undef = .bool c := hv
                        unfold yielded
                        unfold dstOf at hdj
                        rw [hdj]
                        rw [Array.getD_eq_getD_getElem?] at hv'
                        cases hx : a'.tmps[s]? with
                        | none => rw [hx] at hv'; exact absurd hv' (by simp [undef])
                        | some x =>
                          rw [hx] at hv'
                          simp only [Option.getD_some] at hv'
                          subst hv'
                          simp [hx]
                      simp only [hy]
                      injection hwk
                    · cases hwk
            simp only [hw]
            exact hnext _ _ (by rw [hskip]; rfl) (Below.refl _ _)
  refine key ops.size _ a _ ⟨by simp, rfl, rfl, Below.drew (Below.refl _ _), fun _ _ => rfl, fun j t _ hj => ?_, fun i o _ hj => ?_⟩ ?_ ?_
  · exfalso
    revert hj
    simp only [Array.getD_eq_getD_getElem?, Array.getElem?_replicate]
    split <;> simp
  · exfalso
    revert hj
    simp only [Array.getD_eq_getD_getElem?, Array.getElem?_replicate]
    split <;> simp
  · intro i _ hi
    simp [Array.getD_eq_getD_getElem?, Array.getElem?_replicate, hi]
  · exact Nat.le_trans (List.length_filter_le _ _) (by simp)
end
theorem there_yes (A : Option Addr) (n c : Nat) (a k : Int) (w : World) (h0 : 0 ≤ a) (h1 : a ≤ n) (h2 : k ≤ n - a) (hn : n ≤ 200000000000000) :
    Calls Try.prog 68 #[.slice A n c, .int .i64 a, .int .i64 k] w fun e w' => e = .returned (.bool true) ∧ w = w' := by
  go_enter Try.func68, Try.ntmps68
  go_wp2
  go_ret
  exact ⟨rfl, rfl⟩
theorem there_no (A : Option Addr) (n c : Nat) (a k : Int) (w : World) (h : ¬ (0 ≤ a ∧ a ≤ n ∧ k ≤ n - a)) (hn : n ≤ 200000000000000) :
    Calls Try.prog 68 #[.slice A n c, .int .i64 a, .int .i64 k] w fun e w' => e = .returned (.bool false) ∧ w = w' := by
  by_cases h0 : 0 ≤ a
  · by_cases h1 : a ≤ n
    · have h2 : ¬ k ≤ n - a := fun h2 => h ⟨h0, h1, h2⟩
      clear h
      go_enter Try.func68, Try.ntmps68
      go_wp2
      go_ret
      exact ⟨rfl, rfl⟩
    · clear h
      go_enter Try.func68, Try.ntmps68
      go_wp2
      go_ret
      exact ⟨rfl, rfl⟩
  · clear h
    go_enter Try.func68, Try.ntmps68
    go_wp2
    go_ret
    exact ⟨rfl, rfl⟩
theorem get16_any (A : Option Addr) (n c : Nat) (l : List UInt8) (a : Int) (w : World) (hb : Bs w A n c l) :
    Calls Try.prog 40 #[.slice A n c, .int .i64 a] w fun e w' => e = .returned (.int .u16 (get16 l a)) ∧ Drawn w w' := by
  have hmax := hb.max
  by_cases h : 0 ≤ a ∧ a ≤ n ∧ 2 ≤ (n : Int) - a
  · obtain ⟨h0, h1, h2⟩ := h
    have hq : get16 l a = _ := get16_in h0 (by rw [hb.len]; omega)
    rw [hq]; clear hq
    obtain ⟨b, off, rfl, hc⟩ := hb.rd (by omega)
    obtain ⟨i, rfl⟩ := Int.eq_ofNat_of_zero_le h0
    have c0 := hc i (by omega)
    have c1 := hc (i + 1) (by omega)
    clear hc
    have b0 := bt_lo l i
    have b0' := bt_hi l i
    have b1 := bt_lo l (i+1)
    have b1' := bt_hi l (i+1)
    have hor := or_u16 b0 b0' b1 b1'
    have j0 : (i : Int) < (n : Int) := by omega
    have j1 : (i : Int) + 1 < (n : Int) := by omega
    have j2 : 0 ≤ (i : Int) + 1 := by omega
    have j3 : ((i : Int) + 1).toNat = i + 1 := by omega
    have j4 : IntKind.i64.wrap ((i : Int) + 1) = (i : Int) + 1 := IntWalk.i64_in _ (by omega)
    clear h0 h1 h2
    go_enter Try.func40, Try.ntmps40
    go_wp2_with (go_at_call 68; refine (there_yes _ _ _ _ _ _ (by omega) (by omega) (by omega) hmax).mono ?_; rintro e w' ⟨rfl, rfl⟩)
    go_quiet (fail)
    go_wp2
    go_ret
    exact ⟨rfl, (Drawn.refl _).step _⟩
  · rw [get16_out (by rw [hb.len]; omega)]
    go_enter Try.func40, Try.ntmps40
    go_wp2_with (go_at_call 68; refine (there_no _ _ _ _ _ _ h hmax).mono ?_; rintro e w' ⟨rfl, rfl⟩)
    go_ret
    exact ⟨rfl, Drawn.refl _⟩
theorem fold_any (n : Int) (h0 : 0 ≤ n) (h1 : n < 18446744073709551616) (w : World) :
    Calls Try.prog 71 #[.int .u64 n] w fun e w' => e = .returned (.int .u16 (fd n)) ∧ w = w' := by
  have hlo := fd_lo n
  have hhi := fd_hi n
  go_enter Try.func71, Try.ntmps71
  go_wp2
  go_loop [0] (fun v => ∃ m : Int, 0 ≤ m ∧ m < 18446744073709551616 ∧ Hid (fd m = fd n) ∧ v = .int .u64 m) (fun v => (intOf v).toNat)
  case atStart => exact ⟨n, h0, h1, rfl, rfl⟩
  case round =>
    obtain ⟨m, hm0, hm1, hm2, rfl⟩ := hrel
    by_cases hs : m / 65536 = 0
    · have hs1 : (m / 65536 != 0) = false := by simpa using hs
      have hs2 : fd m = m := fd_small hm0 (by omega)
      have HQ : Hid (fd n = m) := by rw [← hm2.out]; exact hs2
      have hm3 : m ≤ 65535 := by omega
      clear hs hs2
      go_wp2
      go_ret
      exact ⟨by rw [HQ.out]; rfl, rfl⟩
    · have hs1 : (m / 65536 != 0) = true := by simpa using hs
      have hand := and_u64_65535 hm0 hm1
      go_wp2
      go_round
      case rel => exact ⟨_, by omega, by omega, by rw [fd_step hm0]; exact hm2, rfl⟩
      case measure => simp [intOf]; omega
theorem info_u8 : (Try.prog.info? 5).map (fun i => (i.zero, i.size, i.bytes)) = some (some (.int .u8 0), 1, 1) := by kernel_rfl
theorem cv {w : World} {A : Option Addr} {n c : Nat} {l : List UInt8} (h : Bs w A n c l) : (convert 25 9 (.slice A n c)).run Try.prog w = .ok (.string (str l)) w :=
  conv_bs Try.underlying25 Try.underlying5 Try.underlying9 h
theorem clone_any (A : Option Addr) (n c : Nat) (l : List UInt8) (w : World) (hb : Bs w A n c l) :
    Calls Try.prog 42 #[.slice A n c] w fun e w' => ∃ A' c', e = .returned (.slice A' n c') ∧ Own w' w.heap.size 5 A' n c' l ∧ Below w.heap.size w w' := by
  have hnil := fun W => Lib.run_eql_slice_nil (P := Try.prog) W 25 5 A n c 0 0 Try.underlying25
  cases A with
  | none =>
    have h0 := hb.nil rfl
    have h1 := hb.cap
    obtain rfl : c = 0 := h0
    obtain rfl : n = 0 := by omega
    obtain rfl : l = [] := List.eq_nil_of_length_eq_zero hb.len
    go_enter Try.func42, Try.ntmps42
    go_wp2
    go_ret
    exact ⟨none, 0, rfl, own_nil _ _ _, Below.refl _ _⟩
  | some ad =>
    go_enter Try.func42, Try.ntmps42
    go_wp2_with (at_builtin; refine wpList_append_bs (w0 := w) _ rfl _ _ _ rfl w.heap.size 5 Try.underlying25 info_u8 (some ⟨w.heap.size, 0, none⟩) 0 0 [] rfl (own_lit w _ _ [] 0 rfl (by omega) (Nat.le_refl _)) (some ad) n c l rfl (hb.alloc _) ((Below.refl _ _).alloc (Nat.le_refl _) _) (by have := hb.max; omega) (by simp) ?_; intro A' m c' w' ho hB hg _)
    obtain rfl : m = n := by have := ho.len; have := hb.len; simp at *; omega
    go_ret
    exact ⟨A', c', rfl, ho, hB⟩
theorem put_any (K : Nat) (hK : K ≤ 4) (A : Option Addr) (n c : Nat) (l : List UInt8) (a v : Int) (v0 : 0 ≤ v) (v1 : v ≤ 4294967295) (w : World) (hb : Bs w A n c l) :
    Calls Try.prog 47 #[.slice A n c, .int .i64 a, .int .i64 K, .int .u32 v] w fun e w' => ∃ A' c', e = .returned (.slice A' n c') ∧ Own w' w.heap.size 5 A' n c' (if 0 ≤ a ∧ a + K ≤ (l.length : Int) then putK l a.toNat K v K else l) ∧ Below w.heap.size w w' := by
  have hmax := hb.max
  have hcap := hb.cap
  have hcut : ∀ W, (Instr.slice 25 (.slice A n c) none (some (.int .i64 n)) (some (.int .i64 n))).run Try.prog W = .ok (.slice A n n) W := fun W => by
    obtain ⟨i, hi, _, hz, _⟩ := info_parts info_u8
    rw [cut_hm Try.underlying25 hi hz A n c .i64 .i64 n n (by omega) (by omega) (by omega) W]
    cases A <;> simp [Addr.add]
  have hb2 : Bs w A n n l := ⟨hb.len, Nat.le_refl _, hb.max, fun h => by have := hb.nil h; omega, hb.rd⟩
  by_cases h : 0 ≤ a ∧ a ≤ n ∧ (K : Int) ≤ (n : Int) - a
  · rw [if_pos (by rw [hb.len]; omega)]
    obtain ⟨h0, h1, h2⟩ := h
    go_enter Try.func47, Try.ntmps47
    go_wp2_with (first | (go_at_call 68; refine (there_yes _ _ _ _ _ _ h0 h1 h2 hmax).mono ?_; rintro e w' ⟨rfl, rfl⟩) | (go_at_call 42; refine (clone_any _ _ _ l _ hb2).mono ?_; rintro e w1 ⟨A1, c1, rfl, ho1, hB1⟩))
    obtain ⟨i0, rfl⟩ := Int.eq_ofNat_of_zero_le h0
    have hlen := hb.len
    go_loopw [10, 23] (fun _ k wr => ∃ j : Nat, j ≤ K ∧ k = .int .i64 j ∧ Own wr w.heap.size 5 A1 n c1 (putK l i0 K v j) ∧ Below w.heap.size w wr) (fun _ k _ => K - (intOf k).toNat)
    case atStart => exact ⟨0, by omega, rfl, ho1, hB1⟩
    case round =>
      obtain ⟨j, hj, rfl, ho, hB⟩ := hrel
      by_cases hlt : j < K
      · obtain ⟨g, rfl, hg1, hg2, hcell, hfr, hst⟩ := ho.put (i := i0 + K - 1 - j) (by omega)
        obtain ⟨ho2, hgr⟩ := hst (v / 2 ^ (8 * j))
        have e1 : ((i0 : Int) + K - 1 - j).toNat = i0 + K - 1 - j := by omega
        have e2 : 0 ≤ (i0 : Int) + K - 1 - j := by omega
        have e3 : (i0 : Int) + K - 1 - j < n := by omega
        go_wp2
        refine ⟨⟨j + 1, by omega, by go_num, ho2, hB.setCell (p := ⟨g, i0 + K - 1 - j, none⟩) hg1 _⟩, by simp [intOf]; omega⟩
      · go_wp2
        obtain rfl : j = K := by omega
        go_ret
        exact ⟨_, _, rfl, ho, hB⟩
  · rw [if_neg (by rw [hb.len]; omega)]
    go_enter Try.func47, Try.ntmps47
    go_wp2_with (first | (go_at_call 68; refine (there_no _ _ _ _ _ _ h hmax).mono ?_; rintro e w' ⟨rfl, rfl⟩) | (go_at_call 42; refine (clone_any _ _ _ l _ hb2).mono ?_; rintro e w1 ⟨A1, c1, rfl, ho1, hB1⟩))
    go_ret
    exact ⟨_, _, rfl, ho1, hB1⟩
theorem put16_any (A : Option Addr) (n c : Nat) (l : List UInt8) (a v : Int) (v0 : 0 ≤ v) (v1 : v ≤ 65535) (w : World) (hb : Bs w A n c l) :
    Calls Try.prog 21 #[.slice A n c, .int .i64 a, .int .u16 v] w fun e w' => ∃ A' c', e = .returned (.slice A' n c') ∧ Own w' w.heap.size 5 A' n c' (put16 l a v) ∧ Below w.heap.size w w' := by
  go_enter Try.func21, Try.ntmps21
  go_wp2_with (go_at_call 47; refine (put_any 2 (by omega) _ _ _ l a v v0 (by omega) _ hb).mono ?_; rintro e w1 ⟨A1, c1, rfl, ho1, hB1⟩)
  go_ret
  exact ⟨_, _, rfl, ho1, hB1⟩
theorem put32_any (A : Option Addr) (n c : Nat) (l : List UInt8) (a v : Int) (v0 : 0 ≤ v) (v1 : v ≤ 4294967295) (w : World) (hb : Bs w A n c l) :
    Calls Try.prog 73 #[.slice A n c, .int .i64 a, .int .u32 v] w fun e w' => ∃ A' c', e = .returned (.slice A' n c') ∧ Own w' w.heap.size 5 A' n c' (put32 l a v) ∧ Below w.heap.size w w' := by
  go_enter Try.func73, Try.ntmps73
  go_wp2_with (go_at_call 47; refine (put_any 4 (by omega) _ _ _ l a v v0 v1 _ hb).mono ?_; rintro e w1 ⟨A1, c1, rfl, ho1, hB1⟩)
  go_ret
  exact ⟨_, _, rfl, ho1, hB1⟩
theorem pseudo_any (s d p n : Int) (s0 : 0 ≤ s) (s1 : s ≤ 4294967295) (d0 : 0 ≤ d) (d1 : d ≤ 4294967295) (p0 : 0 ≤ p) (p1 : p ≤ 255) (n0 : -9223372036854775808 ≤ n) (n1 : n ≤ 9223372036854775807) (w : World) :
    Calls Try.prog 46 #[.int .u32 s, .int .u32 d, .int .u8 p, .int .i64 n] w fun e w' => ∃ A' c', e = .returned (.slice A' 12 c') ∧ Own w' w.heap.size 5 A' 12 c' (pseudo s d p n) ∧ Below w.heap.size w w' := by
  have hmk : ∀ W, (Instr.makeSlice 25 (.int .i64 12) (.int .i64 12)).run Try.prog W = .ok (.slice (some ⟨W.heap.size, 0, none⟩) 12 12) (W.alloc (.cells (cu (zs 12)).toArray 5)) :=
    run_make_zs (P := Try.prog) 25 5 Try.underlying25 info_u8 .i64 .i64 12 (by omega)
  go_enter Try.func46, Try.ntmps46
  go_wp2_with fail
  refine (put32_any _ _ _ (zs 12) 0 s s0 s1 _ (own_zs w w.heap.size 5 12 (by omega) (Nat.le_refl _)).bs).mono ?_
  rintro e w1 ⟨A1, c1, rfl, ho1, hB1⟩
  replace hB1 : Below w.heap.size w w1 := below_then ((Below.refl _ w).alloc (Nat.le_refl _) _) hB1
  go_wp2_with fail
  refine (put32_any _ _ _ _ 4 d d0 d1 _ ho1.bs).mono ?_
  rintro e w2 ⟨A2, c2, rfl, ho2, hB2⟩
  replace hB2 : Below w.heap.size w w2 := below_then hB1 hB2
  obtain ⟨g, rfl, hg1, hg2, hcell, hfr, hst⟩ := ho2.put (i := 9) (by omega)
  obtain ⟨ho3, hgr⟩ := hst p
  have hp : p % 256 = p := by omega
  rw [hp] at ho3 hgr
  have hB3 := hB2.setCell (p := ⟨g, 9, none⟩) (Nat.le_trans hB1.size hg1) (.int .u8 p)
  have hr := pseudo_eq s d p n
  clear hp
  go_wp2_with fail
  refine (put16_any _ _ _ _ 10 (n % 65536) (by omega) (by omega) _ ho3.bs).mono ?_
  rintro e w4 ⟨A4, c4, rfl, ho4, hB4⟩
  rw [hr] at ho4
  clear hr
  go_wp2_with fail
  go_ret
  exact ⟨_, _, rfl, ho4.mono hB3.size, below_then hB3 hB4⟩
structure Blk (w : World) (k : Nat) (cs : Array Value) (t : TypeId) : Prop where
  rd : w.heap[k]? = some (.cells cs t (0, 0))
section
variable {w w' : World} {k : Nat} {cs : Array Value} {t : TypeId}
theorem Blk.lt (h : Blk w k cs t) : k < w.heap.size := (Array.getElem?_eq_some_iff.1 h.rd).1
theorem blk_new (w : World) (cs : Array Value) (t : TypeId) (k : Nat) (hk : w.heap.size = k) : Blk (w.alloc (.cells cs t)) k cs t := by
  subst hk
  exact ⟨(Go.MapKept.heap_alloc w _).1⟩
theorem Blk.below (h : Blk w k cs t) (hb : Below w.heap.size w w') : Blk w' k cs t := ⟨(hb.block k h.lt).trans h.rd⟩
theorem Blk.alloc (h : Blk w k cs t) (o : Obj) : Blk (w.alloc o) k cs t := h.below ((Below.refl _ w).alloc (Nat.le_refl _) o)
theorem Blk.drew (h : Blk w k cs t) : Blk w.drew k cs t := ⟨h.rd⟩
theorem Blk.cell (h : Blk w k cs t) : (∀ j, w.cell? ⟨k, j, none⟩ = cs[j]?) ∧ (∀ j, w.frozen? ⟨k, j, none⟩ = false) := by
  refine ⟨fun j => ?_, fun j => ?_⟩
  · simp [World.cell?, h.rd]
  · simp [World.frozen?, h.rd]
theorem Blk.set_ (h : Blk w k cs t) (j : Nat) (v : Value) : Blk (w.setCell ⟨k, j, none⟩ v) k (cs.setIfInBounds j v) t := by
  constructor
  have hk := h.lt
  have hr := h.rd
  unfold World.setCell
  simp [Array.getElem?_modify, hr]
theorem Blk.far (h : Blk w k cs t) (p : Addr) (hp : p.block ≠ k) (v : Value) : Blk (w.setCell p v) k cs t := by
  constructor
  have hr := h.rd
  unfold World.setCell
  simp [Array.getElem?_modify, hr, hp]
end
theorem bw1 {w W : World} {o : Obj} (h : w.alloc o = W) : Below w.heap.size w W := by rw [← h]; (repeat (first | with_reducible exact Below.refl _ _ | with_reducible refine below_drew ?_ | with_reducible refine below_drewN ?_ _ | with_reducible refine below_alloc ?_ (Nat.le_refl _) _ | with_reducible refine Below.setCell ?_ (by first | exact Nat.le_refl _ | (simp only []; omega)) _ | with_reducible assumption))
theorem bw2 {w W : World} {o o2 : Obj} (h : (w.alloc o).alloc o2 = W) : Below w.heap.size w W := by rw [← h]; (repeat (first | with_reducible exact Below.refl _ _ | with_reducible refine below_drew ?_ | with_reducible refine below_drewN ?_ _ | with_reducible refine below_alloc ?_ (Nat.le_refl _) _ | with_reducible refine Below.setCell ?_ (by first | exact Nat.le_refl _ | (simp only []; omega)) _ | with_reducible assumption))
theorem bw3 {w W : World} {o o2 o3 : Obj} (h : ((w.alloc o).alloc o2).alloc o3 = W) : Below w.heap.size w W := by rw [← h]; (repeat (first | with_reducible exact Below.refl _ _ | with_reducible refine below_drew ?_ | with_reducible refine below_drewN ?_ _ | with_reducible refine below_alloc ?_ (Nat.le_refl _) _ | with_reducible refine Below.setCell ?_ (by first | exact Nat.le_refl _ | (simp only []; omega)) _ | with_reducible assumption))
theorem bw4 {w W : World} {o o2 o3 o4 : Obj} (h : (((w.alloc o).alloc o2).alloc o3).alloc o4 = W) : Below w.heap.size w W := by rw [← h]; (repeat (first | with_reducible exact Below.refl _ _ | with_reducible refine below_drew ?_ | with_reducible refine below_drewN ?_ _ | with_reducible refine below_alloc ?_ (Nat.le_refl _) _ | with_reducible refine Below.setCell ?_ (by first | exact Nat.le_refl _ | (simp only []; omega)) _ | with_reducible assumption))
theorem nw1 (w : World) (a : Array Value) (ta : TypeId) : ∃ W, w.alloc (.cells a ta) = W ∧ Below w.heap.size w W ∧ ∃ k : Nat, w.heap.size = k ∧ Blk W k a ta :=
  ⟨_, rfl, bw1 rfl, _, rfl, blk_new w a ta _ rfl⟩
theorem nwI1 (w : World) (a : Array Value) (ta : TypeId) : ∃ k : Nat, w.heap.size = k ∧ ∃ W, w.alloc (.cells a ta) = W ∧ Blk W k a ta ∧ Below w.heap.size w W :=
  ⟨_, rfl, _, rfl, blk_new _ a ta _ (by simp), bw1 rfl⟩
theorem nwI2 (w : World) (a : Array Value) (ta : TypeId) (b : Array Value) (tb : TypeId) : ∃ k : Nat, w.heap.size = k ∧ ∃ W, (w.alloc (.cells a ta)).alloc (.cells b tb) = W ∧ Blk W k a ta ∧ Blk W (k + 1) b tb ∧ Below w.heap.size w W :=
  ⟨_, rfl, _, rfl, (blk_new _ a ta _ (by simp)).alloc _, blk_new _ b tb _ (by simp), bw2 rfl⟩
theorem nwI3 (w : World) (a : Array Value) (ta : TypeId) (b : Array Value) (tb : TypeId) (c : Array Value) (tc : TypeId) : ∃ k : Nat, w.heap.size = k ∧ ∃ W, ((w.alloc (.cells a ta)).alloc (.cells b tb)).alloc (.cells c tc) = W ∧ Blk W k a ta ∧ Blk W (k + 1) b tb ∧ Blk W (k + 1 + 1) c tc ∧ Below w.heap.size w W :=
  ⟨_, rfl, _, rfl, ((blk_new _ a ta _ (by simp)).alloc _).alloc _, (blk_new _ b tb _ (by simp)).alloc _, blk_new _ c tc _ (by simp), bw3 rfl⟩
theorem nwI4 (w : World) (a : Array Value) (ta : TypeId) (b : Array Value) (tb : TypeId) (c : Array Value) (tc : TypeId) (d : Array Value) (td : TypeId) : ∃ k : Nat, w.heap.size = k ∧ ∃ W, (((w.alloc (.cells a ta)).alloc (.cells b tb)).alloc (.cells c tc)).alloc (.cells d td) = W ∧ Blk W k a ta ∧ Blk W (k + 1) b tb ∧ Blk W (k + 1 + 1) c tc ∧ Blk W (k + 1 + 1 + 1) d td ∧ Below w.heap.size w W :=
  ⟨_, rfl, _, rfl, (((blk_new _ a ta _ (by simp)).alloc _).alloc _).alloc _, ((blk_new _ b tb _ (by simp)).alloc _).alloc _, (blk_new _ c tc _ (by simp)).alloc _, blk_new _ d td _ (by simp), bw4 rfl⟩
theorem Bs.some_ {w : World} {A : Option Addr} {n c : Nat} {l : List UInt8} (h : Bs w A n c l) (hn : 0 < n) : ∃ b off, A = some ⟨b, off, none⟩ := by
  obtain ⟨b, o, e, _⟩ := h.rd hn
  exact ⟨b, o, e⟩
theorem Bs.away {w : World} {A : Option Addr} {n c : Nat} {l : List UInt8} (h : Bs w A n c l) (p : Addr) (hp : ∀ a, A = some a → p.block ≠ a.block) (v : Value) : Bs (w.setCell p v) A n c l :=
  ⟨h.len, h.cap, h.max, h.nil, fun hn => by
    obtain ⟨b, o, e, hc⟩ := h.rd hn
    exact ⟨b, o, e, fun j hj => (World.cell?_setCell_far w p ⟨b, o + j, none⟩ v (hp ⟨b, o, none⟩ e)).trans (hc j hj)⟩⟩
theorem Own.ge {w : World} {base : Nat} {e : TypeId} {A : Option Addr} {n c : Nat} {l : List UInt8} (h : Own w base e A n c l) : ∀ a, A = some a → base ≤ a.block := by
  intro a ha
  subst ha
  rcases h.row.2 with ⟨hv, _⟩ | ⟨g, cap, cur, hv, hb, _⟩
  · injection hv with hv; cases hv
  · injection hv with hv
    injection hv with hv
    subst hv
    exact hb
theorem grownBy_setCell (w : World) (p : Addr) (v : Value) : w.grownBy (w.setCell p v) (some p.block) :=
  ⟨rfl, rfl, rfl, by simp [World.setCell], fun k hk hne => by
    have hne' : ¬ p.block = k := fun e => hne (by rw [e])
    unfold World.setCell
    simp [Array.getElem?_modify, hne']⟩
theorem Own.away {w : World} {base : Nat} {e : TypeId} {A : Option Addr} {n c : Nat} {l : List UInt8} (h : Own w base e A n c l) (p : Addr) (v : Value) (hp : ∀ a, A = some a → a.block ≠ p.block) : Own (w.setCell p v) base e A n c l :=
  h.kept (grownBy_setCell w p v) (by
    rcases h.row.2 with ⟨hv, _⟩ | ⟨g, cap, cur, hv, _⟩
    · rw [hv]; exact .inl rfl
    · injection hv with h1 h2 h3
      subst h1 h3
      refine .inr fun he => ?_
      simp [Value.ownBlock] at he
      exact hp _ rfl he)
structure Sto (W : World) (r : Nat) (wf : World) (cs : Array Value) (t : TypeId) : Prop where
  blk : Blk wf r cs t
  bel : ∀ {B w0}, Below B w0 W → B ≤ r → Below B w0 wf
  bs : ∀ {A n c l}, Bs W A n c l → (∀ a, A = some a → a.block ≠ r) → Bs wf A n c l
  other : ∀ {k cs' t'}, k ≠ r → Blk W k cs' t' → Blk wf k cs' t'
  own : ∀ {B e A n c l}, Own W B e A n c l → (∀ a, A = some a → a.block ≠ r) → Own wf B e A n c l
theorem Sto.nil {W : World} {r : Nat} {cs : Array Value} {t : TypeId} (h : Blk W r cs t) : Sto W r W cs t := ⟨h, fun b _ => b, fun b _ => b, fun _ b => b, fun b _ => b⟩
theorem Sto.set {W : World} {r : Nat} {wf : World} {cs : Array Value} {t : TypeId} (h : Sto W r wf cs t) (j : Nat) (v : Value) : Sto W r (wf.setCell ⟨r, j, none⟩ v) (cs.setIfInBounds j v) t :=
  ⟨h.blk.set_ j v, fun b hB => (h.bel b hB).setCell (p := ⟨r, j, none⟩) hB v, fun b ha => (h.bs b ha).away _ (fun a e => Ne.symm (ha a e)) v, fun hk b => (h.other hk b).far _ (Ne.symm hk) v, fun b ha => (h.own b ha).away _ v ha⟩
theorem store1 {W : World} {r : Nat} {cs : Array Value} {t : TypeId} (R : Blk W r cs t) (j : Nat) (v : Value) : ∃ wf, W.setCell ⟨r, j, none⟩ v = wf ∧ Sto W r wf (cs.setIfInBounds j v) t := ⟨_, rfl, (Sto.nil R).set j v⟩
theorem store2 {W : World} {r : Nat} {c0 c1 : Value} {t : TypeId} (R : Blk W r #[c0, c1] t) (v0 v1 : Value) :
    ∃ wf, ((W.setCell ⟨r, 0, none⟩ v0).setCell ⟨r, 1, none⟩ v1) = wf ∧ Sto W r wf #[v0, v1] t := by
  have h := ((Sto.nil R).set 0 v0).set 1 v1
  simp only [List.setIfInBounds_toArray, List.set_cons_zero, List.set_cons_succ] at h
  exact ⟨_, rfl, h⟩
theorem store4 {W : World} {r : Nat} {c0 c1 c2 c3 : Value} {t : TypeId} (R : Blk W r #[c0, c1, c2, c3] t) (v0 v1 v2 v3 : Value) :
    ∃ wf, ((((W.setCell ⟨r, 0, none⟩ v0).setCell ⟨r, 1, none⟩ v1).setCell ⟨r, 2, none⟩ v2).setCell ⟨r, 3, none⟩ v3) = wf ∧ Sto W r wf #[v0, v1, v2, v3] t := by
  have h := ((((Sto.nil R).set 0 v0).set 1 v1).set 2 v2).set 3 v3
  simp only [List.setIfInBounds_toArray, List.set_cons_zero, List.set_cons_succ] at h
  exact ⟨_, rfl, h⟩
theorem store5 {W : World} {r : Nat} {c0 c1 c2 c3 c4 : Value} {t : TypeId} (R : Blk W r #[c0, c1, c2, c3, c4] t) (v0 v1 v2 v3 v4 : Value) :
    ∃ wf, (((((W.setCell ⟨r, 0, none⟩ v0).setCell ⟨r, 1, none⟩ v1).setCell ⟨r, 2, none⟩ v2).setCell ⟨r, 3, none⟩ v3).setCell ⟨r, 4, none⟩ v4) = wf ∧ Sto W r wf #[v0, v1, v2, v3, v4] t := by
  have h := (((((Sto.nil R).set 0 v0).set 1 v1).set 2 v2).set 3 v3).set 4 v4
  simp only [List.setIfInBounds_toArray, List.set_cons_zero, List.set_cons_succ] at h
  exact ⟨_, rfl, h⟩
theorem store9 {W : World} {r : Nat} {c0 c1 c2 c3 c4 c5 c6 c7 c8 : Value} {t : TypeId} (R : Blk W r #[c0, c1, c2, c3, c4, c5, c6, c7, c8] t) (v0 v1 v2 v3 v4 v5 v6 v7 v8 : Value) :
    ∃ wf, (((((((((W.setCell ⟨r, 0, none⟩ v0).setCell ⟨r, 1, none⟩ v1).setCell ⟨r, 2, none⟩ v2).setCell ⟨r, 3, none⟩ v3).setCell ⟨r, 4, none⟩ v4).setCell ⟨r, 5, none⟩ v5).setCell ⟨r, 6, none⟩ v6).setCell ⟨r, 7, none⟩ v7).setCell ⟨r, 8, none⟩ v8) = wf ∧ Sto W r wf #[v0, v1, v2, v3, v4, v5, v6, v7, v8] t := by
  have h := (((((((((Sto.nil R).set 0 v0).set 1 v1).set 2 v2).set 3 v3).set 4 v4).set 5 v5).set 6 v6).set 7 v7).set 8 v8
  simp only [List.setIfInBounds_toArray, List.set_cons_zero, List.set_cons_succ] at h
  exact ⟨_, rfl, h⟩
theorem Bs.far {w : World} {b off n c : Nat} {l : List UInt8} (h : Bs w (some ⟨b, off, none⟩) n c l) (p : Addr) (hp : p.block ≠ b) (v : Value) : Bs (w.setCell p v) (some ⟨b, off, none⟩) n c l :=
  ⟨h.len, h.cap, h.max, h.nil, fun hn => by
    obtain ⟨b', o', e, hc⟩ := h.rd hn
    injection e with e
    injection e with e1 e2 e3
    subst e1 e2
    exact ⟨b, off, rfl, fun j hj => (World.cell?_setCell_far w p ⟨b, off + j, none⟩ v hp).trans (hc j hj)⟩⟩
set_option maxRecDepth 100000

theorem Sto.drew {W : World} {r : Nat} {wf : World} {cs : Array Value} {t : TypeId} (h : Sto W r wf cs t) : Sto W r wf.drew cs t :=
  ⟨h.blk.drew, fun b hB => below_drew (h.bel b hB), fun b ha => (h.bs b ha).drew, fun hk b => (h.other hk b).drew, fun b ha => (h.own b ha).drew⟩
end Go.Proofs.Ytjhgcnoijajffaa
namespace Go.Proofs.Ytjhgcnoijajffaa
set_option linter.unusedVariables false
set_option linter.unusedSimpArgs false
theorem bt_set (l : List UInt8) (i k : Nat) (b : UInt8) : bt (l.set i b) k = if i = k ∧ i < l.length then (b.toNat : Int) else bt l k := by
  unfold bt
  simp only [List.getD_eq_getElem?_getD, List.getElem?_set]
  by_cases h : i = k
  · subst h
    by_cases h2 : i < l.length
    · simp [h2]
    · simp [h2]
  · simp [h]
theorem bt_append_left {a : List UInt8} (b : List UInt8) {i : Nat} (h : i < a.length) : bt (a ++ b) i = bt a i := by
  unfold bt
  simp [List.getD_eq_getElem?_getD, List.getElem?_append_left h]
theorem bt_append_right (a b : List UInt8) (i : Nat) : bt (a ++ b) (a.length + i) = bt b i := by
  unfold bt
  rw [List.getD_eq_getElem?_getD, List.getD_eq_getElem?_getD, List.getElem?_append_right (by omega), Nat.add_sub_cancel_left]
theorem wd_append_right {a : List UInt8} (b : List UInt8) {m : Nat} (hm : a.length = 2 * m) (i : Nat) : wd (a ++ b) (m + i) = wd b i := by
  unfold wd
  have e1 : 2 * (m + i) = a.length + 2 * i := by omega
  have e2 : 2 * (m + i) + 1 = a.length + (2 * i + 1) := by omega
  rw [e2, e1, bt_append_right, bt_append_right]
theorem wsK_congr {l l' : List UInt8} : ∀ {k : Nat}, (∀ i, i < k → wd l i = wd l' i) → wsK l k = wsK l' k
  | 0, _ => rfl
  | k + 1, h => by
    simp only [wsK]
    rw [wsK_congr (k := k) (fun i hi => h i (by omega)), h k (by omega)]
theorem wsK_more (l : List UInt8) (k : Nat) : wsK l ((l.length + 1) / 2 + k) = ws l := by
  induction k with
  | zero => rfl
  | succ k ih =>
    rw [← Nat.add_assoc]
    simp only [wsK]
    rw [ih]
    have : wd l ((l.length + 1) / 2 + k) = 0 := by
      unfold wd
      rw [bt_out (by omega), bt_out (by omega)]
      rfl
    omega
theorem bt_zs (n i : Nat) : bt (zs n) i = 0 := by
  unfold bt zs
  rw [List.getD_eq_getElem?_getD, List.getElem?_replicate]
  split <;> rfl
theorem bt_zeros_behind (b : List UInt8) (n i : Nat) : bt (b ++ zs n) i = bt b i := by
  by_cases h : i < b.length
  · exact bt_append_left _ h
  · obtain ⟨k, rfl⟩ : ∃ k, i = b.length + k := ⟨i - b.length, by omega⟩
    rw [bt_append_right, bt_zs, bt_out (by omega)]
theorem ws_behind (b : List UInt8) (n : Nat) : ws (b ++ zs n) = ws b := by
  rw [← wsK_more b (((b ++ zs n).length + 1) / 2 - (b.length + 1) / 2)]
  have e : (b.length + 1) / 2 + (((b ++ zs n).length + 1) / 2 - (b.length + 1) / 2) = ((b ++ zs n).length + 1) / 2 := by rw [List.length_append]; omega
  rw [e]
  unfold ws
  exact wsK_congr fun i _ => by unfold wd; rw [bt_zeros_behind, bt_zeros_behind]
theorem csum_behind (b : List UInt8) (n : Nat) : csum (b ++ zs n) = csum b := by unfold csum; rw [ws_behind]
theorem wd_put16 {l : List UInt8} {j : Nat} {v : Int} (v0 : 0 ≤ v) (v1 : v ≤ 65535) (h : 2 * j + 2 ≤ l.length) (i : Nat) : wd (put16 l (2 * j : Nat) v) i = if i = j then v else wd l i := by
  rw [put16_eq h]
  unfold wd
  simp only [bt_set, List.length_set]
  have u1 := ub_val (v / 256)
  have u2 := ub_val v
  by_cases e : i = j
  · subst e
    rw [if_neg (by omega), if_pos ⟨rfl, by omega⟩, if_pos ⟨rfl, by omega⟩, u1, u2, if_pos rfl]
    omega
  · rw [if_neg (by omega), if_neg (by omega), if_neg (by omega), if_neg (by omega), if_neg e]
theorem wsK_put16 {l : List UInt8} {j : Nat} {v : Int} (v0 : 0 ≤ v) (v1 : v ≤ 65535) (h : 2 * j + 2 ≤ l.length) (k : Nat) : wsK (put16 l (2 * j : Nat) v) k = wsK l k + if j < k then v - wd l j else 0 := by
  induction k with
  | zero => simp [wsK]
  | succ k ih =>
    simp only [wsK]
    rw [ih, wd_put16 v0 v1 h]
    by_cases e : k = j
    · subst e
      rw [if_neg (by omega), if_pos rfl, if_pos (by omega)]
      omega
    · rw [if_neg e]
      by_cases e2 : j < k
      · rw [if_pos e2, if_pos (by omega)]; omega
      · rw [if_neg e2, if_neg (by omega)]; omega
theorem ws_put16 {l : List UInt8} {j : Nat} {v : Int} (v0 : 0 ≤ v) (v1 : v ≤ 65535) (h : 2 * j + 2 ≤ l.length) : ws (put16 l (2 * j : Nat) v) = ws l - wd l j + v := by
  unfold ws
  rw [put16_length, wsK_put16 v0 v1 h, if_pos (by omega)]
  omega
theorem get16_wd {l : List UInt8} {j : Nat} (h : 2 * j + 2 ≤ l.length) : get16 l (2 * j : Nat) = wd l j := by
  rw [get16_in (by omega) (by omega)]
  unfold wd
  rw [Int.toNat_natCast]
theorem ws_lo (l : List UInt8) : 0 ≤ ws l := wsK_lo l _
theorem good_put {z : List UInt8} {j : Nat} (h : 2 * j + 2 ≤ z.length) (h0 : wd z j = 0) : csum (put16 z (2 * j : Nat) (csum z)) = 0 := by
  have hw := ws_lo z
  have e := ws_put16 (csum_lo z) (csum_hi z) h
  unfold csum at *
  rw [e, h0]
  unfold fd
  split <;> split <;> omega
end Go.Proofs.Ytjhgcnoijajffaa
namespace Go.Proofs.Ytjhgcnoijajffaa
open Go.RowKit
set_option linter.unusedVariables false
set_option linter.unusedSimpArgs false
theorem bt_put16 {l : List UInt8} {i : Nat} {v : Int} (h : i + 2 ≤ l.length) (j : Nat) : bt (put16 l i v) j = if j = i then v / 256 % 256 else if j = i + 1 then v % 256 else bt l j := by
  rw [put16_eq h, bt_set, List.length_set, bt_set]
  simp only [ub_val]
  by_cases h1 : j = i
  · rw [if_neg (by omega), if_pos (by omega), if_pos h1]
  · by_cases h2 : j = i + 1
    · rw [if_pos (by omega), if_neg h1, if_pos h2]
    · rw [if_neg (by omega), if_neg (by omega), if_neg h1, if_neg h2]
theorem get16_put16 {l : List UInt8} {i : Nat} {v : Int} (v0 : 0 ≤ v) (v1 : v ≤ 65535) (h : i + 2 ≤ l.length) : get16 (put16 l i v) i = v := by
  rw [get16_in (by omega) (by rw [put16_length]; omega), show ((i : Nat) : Int).toNat = i from by omega, bt_put16 h, bt_put16 h]
  simp
  omega
theorem get16_put16_far {l : List UInt8} {i k : Nat} {v : Int} (h : i + 2 ≤ l.length) (hk : k + 2 ≤ l.length) (hf : k + 2 ≤ i ∨ i + 2 ≤ k) : get16 (put16 l i v) k = get16 l k := by
  rw [get16_in (by omega) (by rw [put16_length]; omega), get16_in (by omega) (by omega), show ((k : Nat) : Int).toNat = k from by omega, bt_put16 h, bt_put16 h]
  rw [if_neg (by omega), if_neg (by omega), if_neg (by omega), if_neg (by omega)]
set_option maxRecDepth 100000
theorem csum_zero (l : List UInt8) : csum l = 0 ↔ ws l ≠ 0 ∧ ws l % 65535 = 0 := by
  have := ws_lo l
  unfold csum fd
  split <;> omega
end Go.Proofs.Ytjhgcnoijajffaa
namespace Go.Proofs.Ytjhgcnoijajffaa
set_option linter.unusedVariables false
set_option linter.unusedSimpArgs false
open Go.RowKit
end Go.Proofs.Ytjhgcnoijajffaa
namespace Go.Proofs.Ytjhgcnoijajffaa
open Go.RowKit
set_option linter.unusedVariables false
set_option linter.unusedSimpArgs false
set_option maxHeartbeats 4000000
set_option maxRecDepth 100000
structure Tup where
  proto : Int
  src : Int
  dst : Int
  sp : Int
  dp : Int
structure Tup.Ok (t : Tup) : Prop where
  proto : 0 ≤ t.proto ∧ t.proto ≤ 255
  src : 0 ≤ t.src ∧ t.src ≤ 4294967295
  dst : 0 ≤ t.dst ∧ t.dst ≤ 4294967295
  sp : 0 ≤ t.sp ∧ t.sp ≤ 65535
  dp : 0 ≤ t.dp ∧ t.dp ≤ 65535
def zT : Tup := ⟨0, 0, 0, 0, 0⟩
def revT (t : Tup) : Tup := ⟨t.proto, t.dst, t.src, t.dp, t.sp⟩
def keyT (t : Tup) : Tup := if t.proto = 47 then { t with sp := 0 } else t
def hstep (h : Int) (b : UInt8) : Int := bits .xor .u32 h (b.toNat : Int) * 16777619 % 4294967296
def hashL (h : Int) (l : List UInt8) : Int := l.foldl hstep h
def tupB (t : Tup) : List UInt8 := [ub t.proto] ++ four t.src ++ four t.dst ++ two t.sp ++ two t.dp
def hashT (t : Tup) : Int := hashL 2166136261 (tupB (keyT t))
theorem rev_any (t : Tup) (w : World) : Calls Try.prog 7 #[(.agg #[.int .u8 (t).proto, .int .u32 (t).src, .int .u32 (t).dst, .int .u16 (t).sp, .int .u16 (t).dp])] w fun e w' => e = .returned (.agg #[.int .u8 (revT t).proto, .int .u32 (revT t).src, .int .u32 (revT t).dst, .int .u16 (revT t).sp, .int .u16 (revT t).dp]) ∧ Below w.heap.size w w' := by
  go_enter Try.func7, Try.ntmps7
  go_wp2_with fail
  exact bodyPost_ret (v := (.agg #[.int .u8 (revT t).proto, .int .u32 (revT t).src, .int .u32 (revT t).dst, .int .u16 (revT t).sp, .int .u16 (revT t).dp])) (by simp [results, Try.results7, go_sem, revT]) rfl ⟨rfl, by (repeat (first | with_reducible exact Below.refl _ _ | with_reducible refine below_drew ?_ | with_reducible refine below_drewN ?_ _ | with_reducible refine below_alloc ?_ (Nat.le_refl _) _ | with_reducible refine Below.setCell ?_ (by first | exact Nat.le_refl _ | (simp only []; omega)) _ | with_reducible assumption))⟩
theorem Sto.more {W : World} {r : Nat} {wf w' : World} {cs : Array Value} {t : TypeId} (h : Sto W r wf cs t) (hb : Below wf.heap.size wf w') : Sto W r w' cs t :=
  ⟨h.blk.below hb, fun b hB => (h.bel b hB).trans (hb.mono (Nat.le_of_lt (Nat.lt_of_le_of_lt hB h.blk.lt))), fun b ha => (h.bs b ha).below hb, fun hk b => (h.other hk b).below hb, fun b ha => (h.own b ha).below hb⟩
theorem Blk.idle {w : World} {k : Nat} {cs : Array Value} {t : TypeId} (h : Blk w k cs t) {j : Nat} {v : Value} (hv : cs[j]? = some v) : w.setCell ⟨k, j, none⟩ v = w := by
  have hr := h.rd
  have hs : cs.setIfInBounds j v = cs := by
    apply Array.ext_getElem?
    intro i
    rw [Array.getElem?_setIfInBounds]
    split
    · rename_i e
      subst e
      rw [hv]
      split
      · rfl
      · rename_i h2
        rw [Array.getElem?_eq_none (by omega)] at hv
        cases hv
    · rfl
  unfold World.setCell
  have : (w.heap.modify k fun
      | .cells c elem frozen => .cells (if (none : Option Nat).isSome then c else c.setIfInBounds j v) elem frozen
      | o => o) = w.heap := by
    apply Array.ext_getElem?
    intro i
    rw [Array.getElem?_modify]
    split
    · rename_i e
      subst e
      rw [hr]
      simp [hs]
    · rfl
  simp only
  first | (rw [this]; done) | (show ({ w with heap := _ } : World) = w; exact congrArg (fun h => ({ w with heap := h } : World)) this)
structure Pkt where
  tos : Int
  id : Int
  keep : Bool
  ttl : Int
  proto : Int
  src : Int
  dst : Int
  opt : List UInt8
  dat : List UInt8
structure Pkt.Ok (p : Pkt) : Prop where
  tos : 0 ≤ p.tos ∧ p.tos ≤ 255
  id : 0 ≤ p.id ∧ p.id ≤ 65535
  ttl : 0 ≤ p.ttl ∧ p.ttl ≤ 255
  proto : 0 ≤ p.proto ∧ p.proto ≤ 255
  src : 0 ≤ p.src ∧ p.src ≤ 4294967295
  dst : 0 ≤ p.dst ∧ p.dst ≤ 4294967295
def zP : Pkt := ⟨0, 0, false, 0, 0, 0, 0, [], []⟩
structure Opt where
  kind : Int
  dat : List UInt8
structure Opt.Ok (o : Opt) : Prop where
  kind : 0 ≤ o.kind ∧ o.kind ≤ 255
def zO : Opt := ⟨0, []⟩
structure Seg where
  src : Int
  dst : Int
  seq : Int
  ack : Int
  flags : Int
  win : Int
  urg : Int
  opts : List Opt
  dat : List UInt8
structure Seg.Ok (s : Seg) : Prop where
  src : 0 ≤ s.src ∧ s.src ≤ 65535
  dst : 0 ≤ s.dst ∧ s.dst ≤ 65535
  seq : 0 ≤ s.seq ∧ s.seq ≤ 4294967295
  ack : 0 ≤ s.ack ∧ s.ack ≤ 4294967295
  flags : 0 ≤ s.flags ∧ s.flags ≤ 255
  win : 0 ≤ s.win ∧ s.win ≤ 65535
  urg : 0 ≤ s.urg ∧ s.urg ≤ 65535
  opts : ∀ o ∈ s.opts, o.Ok
structure Dgm where
  src : Int
  dst : Int
  bare : Bool
  dat : List UInt8
structure Dgm.Ok (d : Dgm) : Prop where
  src : 0 ≤ d.src ∧ d.src ≤ 65535
  dst : 0 ≤ d.dst ∧ d.dst ≤ 65535
def zD : Dgm := ⟨0, 0, false, []⟩
def psum (p : Pkt) (pr : Int) (b : List UInt8) : Int := csum (pseudo p.src p.dst pr b.length ++ b)
section
variable {P : Program}
end
def isW (B : Nat) (l : List UInt8) : World → Value → Prop := fun W v => ∃ A n c, v = .slice A n c ∧ Own W B 5 A n c l
theorem st_isW {B : Nat} {l : List UInt8} : ∀ w w' v, isW B l w v → Below w.heap.size w w' → isW B l w' v := fun _ _ _ ⟨A, n, c, e, k⟩ hb => ⟨A, n, c, e, k.below hb⟩
theorem own_isW {w : World} {base B : Nat} {A : Option Addr} {n c : Nat} {l : List UInt8} (h : Own w base 5 A n c l) (hr : B ≤ base) : isW B l w (.slice A n c) := ⟨A, n, c, rfl, h.mono hr⟩
def isNew (B : Nat) (cs : Array Value) (t : TypeId) : World → Value → Prop := fun W v => ∃ g, v = .pointer (some ⟨g, 0, none⟩) ∧ B ≤ g ∧ Blk W g cs t
theorem st_isNew {B : Nat} {cs : Array Value} {t : TypeId} : ∀ w w' v, isNew B cs t w v → Below w.heap.size w w' → isNew B cs t w' v := fun _ _ _ ⟨g, e, h, k⟩ hb => ⟨g, e, h, k.below hb⟩
theorem goes_new {B : Nat} {W : World} {cs : Array Value} {t : TypeId} (h : B ≤ W.heap.size) : OpGoes Try.prog (fun v w' => (Kd.p (isNew B cs t)).holds w' v ∧ Below W.heap.size W w') (.ok (.value (.pointer (some ⟨W.heap.size, 0, none⟩))) (W.alloc (.cells cs t))) :=
  ⟨⟨_, rfl, h, blk_new W cs t _ rfl⟩, (Below.refl _ W).alloc (Nat.le_refl _) _⟩
theorem cu2 {x y : Int} (x0 : 0 ≤ x) (x1 : x ≤ 255) (y0 : 0 ≤ y) (y1 : y ≤ 255) : (cu [ub x, ub y]).toArray = #[.int .u8 x, .int .u8 y] := by
  simp [cu, ub_val]; omega
theorem lit2 {e : TypeId} {x y : Int} (x0 : 0 ≤ x) (x1 : x ≤ 255) (y0 : 0 ≤ y) (y1 : y ≤ 255) (W : World) : Own (W.alloc (.cells #[.int .u8 x, .int .u8 y] e)) W.heap.size e (some ⟨W.heap.size, 0, none⟩) 2 2 [ub x, ub y] := by
  rw [← cu2 x0 x1 y0 y1]; exact own_lit W _ e _ 2 rfl (by omega) (Nat.le_refl _)
theorem ext_refl (w : World) (g : Nat) : w.grownBy w (some g) := World.grownBy.refl _ _
theorem ext_trans {a b c : World} {g : Nat} (h : a.grownBy b (some g)) (k : b.grownBy c (some g)) : a.grownBy c (some g) :=
  ⟨k.os.trans h.os, k.tape.trans h.tape, k.output.trans h.output, Nat.le_trans h.size k.size, fun i hi hne => (k.block i (Nat.lt_of_lt_of_le hi h.size) hne).trans (h.block i hi hne)⟩
theorem ext_below {a b : World} {g : Nat} (h : Below a.heap.size a b) : a.grownBy b (some g) := ⟨h.os, h.tape, h.output, h.size, fun i hi _ => h.block i hi⟩
section
variable {w W : World} {g : Nat}
theorem Blk.ext {k : Nat} {cs : Array Value} {t : TypeId} (h : Blk w k cs t) (hE : w.grownBy W (some g)) (hk : k ≠ g) : Blk W k cs t := ⟨(hE.block k h.lt (by simpa using hk)).trans h.rd⟩
theorem Bs.ext {v : World} {A : Option Addr} {n c : Nat} {l : List UInt8} (h : Bs v A n c l) (hB : Below v.heap.size v w) (hg : v.heap.size ≤ g) (hE : w.grownBy W (some g)) : Bs W A n c l :=
  h.keep fun p hp => by
    have h1 : W.cell? p = w.cell? p := by
      unfold World.cell?
      rw [hE.block p.block (Nat.lt_of_lt_of_le hp hB.size) (by intro e; injection e with e; omega)]
    rw [h1]
    exact hB.cell hp
end
def Kd.OkX (g : Nat) : Kd → Prop
  | .v _ => True
  | .b _ _ => False
  | .p q => ∀ w w' u, q w u → w.grownBy w' (some g) → q w' u
theorem Kd.keepX {g : Nat} {K : Kd} (hk : K.OkX g) {w w' : World} {v : Value} (h : K.holds w v) (hb : w.grownBy w' (some g)) : K.holds w' v := by
  cases K with
  | v x => exact h
  | b n l => exact hk.elim
  | p q => exact hk _ _ _ h hb
structure GoesX (P : Program) (K : Kd) (g : Nat) (J : World → Prop) (o : Oper) (W : World) (a : Act) : Prop where
  out : OpGoes P (fun v w' => K.holds w' v ∧ W.grownBy w' (some g) ∧ J w') ((execOp a.eval o).run P W)
def Ob1X (P : Program) (ops : Array Oper) (a0 : Act) (w0 : World) (g : Nat) (J : Nat → World → Prop) (c : Nat) (x : Bool) (ks : List (Tmp × Kd)) (o : Oper) (K : Kd) : Prop :=
  (x = false ∧ wantK ops ks o.guard = some true ∧ ∀ W, w0.grownBy W (some g) → leanOn ks W o.op.operands.toList (Goes P K o W) a0) ∨
  (x = true ∧ wantK ops ks o.guard = some true ∧ ∀ W, w0.grownBy W (some g) → J c W → leanOn ks W o.op.operands.toList (GoesX P K g (J (c + 1)) o W) a0) ∨
  (x = false ∧ wantK ops ks o.guard = some false ∧ K = .v undef)
def lastX (exs : List Nat) (i : Nat) : Bool := match exs.getLast? with
  | some j => j == i
  | none => false
def ObsX (P : Program) (ops : Array Oper) (a0 : Act) (w0 : World) (g : Nat) (J : Nat → World → Prop) (exs : List Nat) (fin : List (Tmp × Kd) → Prop) : Nat → Nat → List (Tmp × Kd) → List Oper → Prop
  | _, _, ks, [] => fin ks
  | i, c, ks, o :: rest => ∃ K t, o.dst = some t ∧ (K.Ok ∧ (lastX exs i = true ∨ K.OkX g)) ∧ Ob1X P ops a0 w0 g J c (exs.elem i) ks o K ∧ ObsX P ops a0 w0 g J exs fin (i + 1) (bif exs.elem i then c + 1 else c) ((t, K) :: ks) rest
section
variable {P : Program} {ops : Array Oper} {a0 : Act} {w0 : World} {g : Nat} {J : Nat → World → Prop} {exs : List Nat} {fin : List (Tmp × Kd) → Prop} {i c : Nat} {ks : List (Tmp × Kd)} {rest : List Oper}
  {t : Tmp} {op : Op} {ty : TypeId} {pos : String} {after : Array Edge} {gd : Option (Nat × Bool)}
theorem ObsX.v {x : Value} (hx : exs.elem i = false) (hg : wantK ops ks gd = some true) (ho : ∀ W, w0.grownBy W (some g) → leanOn ks W op.operands.toList (Goes P (.v x) ⟨some t, op, ty, pos, after, gd⟩ W) a0)
    (hr : ObsX P ops a0 w0 g J exs fin (i + 1) c ((t, .v x) :: ks) rest) : ObsX P ops a0 w0 g J exs fin i c ks (⟨some t, op, ty, pos, after, gd⟩ :: rest) :=
  ⟨.v x, t, rfl, ⟨trivial, .inr trivial⟩, .inl ⟨hx, hg, ho⟩, by rw [hx]; exact hr⟩
theorem ObsX.p {q : World → Value → Prop} (hx : exs.elem i = false) (hg : wantK ops ks gd = some true) (hkb : ∀ w w' v, q w v → Below w.heap.size w w' → q w' v) (hk : ∀ w w' v, q w v → w.grownBy w' (some g) → q w' v) (ho : ∀ W, w0.grownBy W (some g) → leanOn ks W op.operands.toList (Goes P (.p q) ⟨some t, op, ty, pos, after, gd⟩ W) a0)
    (hr : ObsX P ops a0 w0 g J exs fin (i + 1) c ((t, .p q) :: ks) rest) : ObsX P ops a0 w0 g J exs fin i c ks (⟨some t, op, ty, pos, after, gd⟩ :: rest) :=
  ⟨.p q, t, rfl, ⟨hkb, .inr hk⟩, .inl ⟨hx, hg, ho⟩, by rw [hx]; exact hr⟩
theorem ObsX.ev {x : Value} (hx : exs.elem i = true) (hg : wantK ops ks gd = some true) (ho : ∀ W, w0.grownBy W (some g) → J c W → leanOn ks W op.operands.toList (GoesX P (.v x) g (J (c + 1)) ⟨some t, op, ty, pos, after, gd⟩ W) a0)
    (hr : ObsX P ops a0 w0 g J exs fin (i + 1) (c + 1) ((t, .v x) :: ks) rest) : ObsX P ops a0 w0 g J exs fin i c ks (⟨some t, op, ty, pos, after, gd⟩ :: rest) :=
  ⟨.v x, t, rfl, ⟨trivial, .inr trivial⟩, .inr (.inl ⟨hx, hg, ho⟩), by rw [hx]; exact hr⟩
theorem ObsX.ep {q : World → Value → Prop} (hx : exs.elem i = true) (hg : wantK ops ks gd = some true) (hl : lastX exs i = true) (hkb : ∀ w w' v, q w v → Below w.heap.size w w' → q w' v) (ho : ∀ W, w0.grownBy W (some g) → J c W → leanOn ks W op.operands.toList (GoesX P (.p q) g (J (c + 1)) ⟨some t, op, ty, pos, after, gd⟩ W) a0)
    (hr : ObsX P ops a0 w0 g J exs fin (i + 1) (c + 1) ((t, .p q) :: ks) rest) : ObsX P ops a0 w0 g J exs fin i c ks (⟨some t, op, ty, pos, after, gd⟩ :: rest) :=
  ⟨.p q, t, rfl, ⟨hkb, .inl hl⟩, .inr (.inl ⟨hx, hg, ho⟩), by rw [hx]; exact hr⟩
theorem ObsX.skip (hx : exs.elem i = false) (hg : wantK ops ks gd = some false) (hr : ObsX P ops a0 w0 g J exs fin (i + 1) c ((t, .v undef) :: ks) rest) : ObsX P ops a0 w0 g J exs fin i c ks (⟨some t, op, ty, pos, after, gd⟩ :: rest) :=
  ⟨.v undef, t, rfl, ⟨trivial, .inr trivial⟩, .inr (.inr ⟨hx, hg, rfl⟩), by rw [hx]; exact hr⟩
theorem ObsX.nil (h : fin ks) : ObsX P ops a0 w0 g J exs fin i c ks [] := h
end
def czX (exs : List Nat) : Nat → Nat
  | 0 => 0
  | i + 1 => bif exs.elem i then czX exs i + 1 else czX exs i
def exB (ops : Array Oper) (m : Nat) (exs : List Nat) : Bool := (List.range exs.length).all fun q => decide (exs.getD q 0 < m) && czX exs (exs.getD q 0) == q && (q == 0 || match ops[exs.getD q 0]? with
  | some o => hasOn o (exs.getD (q - 1) 0)
  | none => false)
theorem ObsX.out {P : Program} {ops : Array Oper} {a0 : Act} {w0 : World} {g : Nat} {J : Nat → World → Prop} {exs : List Nat} {fin : List (Tmp × Kd) → Prop} : ∀ {l : List Oper} {i0 : Nat} {ks : List (Tmp × Kd)}, ObsX P ops a0 w0 g J exs fin i0 (czX exs i0) ks l →
    ∃ Ks : Nat → Kd, ∃ kz : Nat → List (Tmp × Kd), kz 0 = ks ∧ fin (kz l.length) ∧ ∀ i o, l[i]? = some o → ∃ t, o.dst = some t ∧ ((Ks i).Ok ∧ (lastX exs (i0 + i) = true ∨ (Ks i).OkX g)) ∧ Ob1X P ops a0 w0 g J (czX exs (i0 + i)) (exs.elem (i0 + i)) (kz i) o (Ks i) ∧ kz (i + 1) = (t, Ks i) :: kz i
  | [], i0, ks, h => ⟨fun _ => .v undef, fun _ => ks, rfl, h, fun i o ho => by simp at ho⟩
  | o :: rest, i0, ks, ⟨K, t, hd, hk, hob, hr⟩ => by
    have hr' : ObsX P ops a0 w0 g J exs fin (i0 + 1) (czX exs (i0 + 1)) ((t, K) :: ks) rest := hr
    obtain ⟨Ks, kz, h0, hf, hall⟩ := ObsX.out hr'
    refine ⟨fun i => match i with | 0 => K | i + 1 => Ks i, fun i => match i with | 0 => ks | i + 1 => kz i, rfl, hf, fun i o' ho' => ?_⟩
    cases i with
    | zero =>
      simp only [List.getElem?_cons_zero, Option.some.injEq] at ho'
      subst ho'
      exact ⟨t, hd, hk, hob, h0⟩
    | succ i =>
      have := hall i o' (by simpa using ho')
      rw [show i0 + 1 + i = i0 + (i + 1) from by omega] at this
      exact this
structure RInvX (ops : Array Oper) (a0 : Act) (w0 : World) (Ks : Nat → Kd) (m : Nat) (g : Nat) (J : Nat → World → Prop) (exs : List Nat) (listed : Array Bool) (a : Act) (w : World) : Prop where
  lsize : listed.size = ops.size
  defers : a.defers = a0.defers
  size : a.tmps.size = a0.tmps.size
  ext : w0.grownBy w (some g)
  cnt : ∃ c, c ≤ exs.length ∧ (∀ q, q < exs.length → listed.getD (exs.getD q 0) false = decide (q < c)) ∧ J c w
  other : ∀ t, (∀ j, j < m → dstOf ops j ≠ some t) → a.tmps.getD t undef = a0.tmps.getD t undef
  val : ∀ j t, j < m → listed.getD j false = true → dstOf ops j = some t → (Ks j).holds w (a.tmps.getD t undef)
  down : ∀ i o, ops[i]? = some o → listed.getD i false = true → ∀ e ∈ o.after, Region.binds .any e = true → listed.getD e.on false = true
section
variable {P : Program} {Q : Exit → Act → World → Prop}
end
theorem below_ext {B : Nat} {a b c : World} {g : Nat} (h : Below B a b) (hE : b.grownBy c (some g)) (hg : B ≤ g) (hB : B ≤ b.heap.size) : Below B a c := h.grown hE hB (fun k e => by injection e with e; omega)
theorem goes_appX {o : Oper} {a : Act} {W : World} {g : Nat} (s x : Operand) (ho : o.op = .call { callee := .builtin .append, args := #[s, x], argTypes := #[25, 25] }) {B n c : Nat} {A : Option Addr} {l : List UInt8} (hs : a.eval s = .slice A n c)
    (hown : Own W B 5 A n c l) (hg : ∀ k, (Value.slice A n c).ownBlock = some k → k = g) {A2 : Option Addr} {n2 c2 : Nat} {l2 : List UInt8} (hx : a.eval x = .slice A2 n2 c2) (hr : Bs W A2 n2 c2 l2) (hmax : n + n2 ≤ 200000000000000) (hB : B ≤ W.heap.size) {J : World → Prop} (hJ : ∀ w', J w') :
    OpGoes Try.prog (fun v w' => (Kd.p (isW B (l ++ l2))).holds w' v ∧ W.grownBy w' (some g) ∧ J w') ((execOp a.eval o).run Try.prog W) := by
  obtain ⟨A', c', w', hrun, hown', hgr⟩ := run_append_bs (P := Try.prog) W B 25 o.type 5 Try.underlying25 info_u8 A n c l hown A2 n2 c2 l2 hr hmax hB
  unfold execOp
  simp only [ho, resolve, invoke, builtin, Sem.run_bind, Sem.run_pure, Result.andThen_ok, List.map_toArray, List.map_cons, List.map_nil, hs, hx, hrun]
  refine ⟨⟨A', _, c', rfl, hown'⟩, ⟨hgr.os, hgr.tape, hgr.output, hgr.size, fun k hk hne => hgr.block k hk ?_⟩, hJ _⟩
  intro e
  exact hne (by rw [hg k e.symm])
theorem Own.ne_blk {w : World} {base : Nat} {e t : TypeId} {A : Option Addr} {n c g : Nat} {l : List UInt8} {cs : Array Value} (h : Own w base e A n c l) (G : Blk w g cs t) (ht : t ≠ e) : ∀ k, (Value.slice A n c).ownBlock = some k → k ≠ g := by
  intro k hk e'
  subst e'
  rcases h.row.2 with ⟨hv, _⟩ | ⟨g', cap, cur, hv, hb, hg, _⟩
  · injection hv with h1 h2 h3
    subst h1
    simp [Value.ownBlock] at hk
  · injection hv with h1 h2 h3
    subst h1
    simp only [Value.ownBlock, Option.some.injEq] at hk
    subst hk
    have := hg.symm.trans G.rd
    simp only [Option.some.injEq, Obj.cells.injEq] at this
    exact ht this.2.1.symm
theorem Blk.grown {w w' : World} {k : Nat} {cs : Array Value} {t : TypeId} {row : Option Nat} (h : Blk w k cs t) (hg : w.grownBy w' row) (hr : ∀ r, row = some r → r ≠ k) : Blk w' k cs t :=
  ⟨(hg.block k h.lt (fun e => hr k e.symm rfl)).trans h.rd⟩
theorem below_grown {B base : Nat} {a b c : World} {e : TypeId} {A : Option Addr} {n d : Nat} {l : List UInt8} (h : Below B a b) (hg : b.grownBy c (Value.slice A n d).ownBlock) (O : Own b base e A n d l) (h1 : B ≤ base) (h2 : B ≤ b.heap.size) : Below B a c :=
  h.grown hg h2 (fun k hk => Nat.le_trans h1 (O.base_le k hk))
def twos (vs : List Int) : List UInt8 := vs.flatMap two
def u16s (vs : List Int) : Array Value := (vs.map (Value.int .u16)).toArray
theorem u16s_at {vs : List Int} {j : Nat} (h : j < vs.length) : (u16s vs)[j]? = some (.int .u16 (vs.getD j 0)) := by
  simp [u16s, List.getElem?_eq_getElem h, List.getD_eq_getElem?_getD]
theorem twos_take {vs : List Int} {j : Nat} (h : j < vs.length) : twos (vs.take (j + 1)) = twos (vs.take j) ++ [ub (vs.getD j 0 / 256), ub (vs.getD j 0 % 256)] := by
  unfold twos
  rw [List.take_succ_eq_append_getElem h, List.flatMap_append]
  have e : vs.getD j 0 = vs[j] := by simp [List.getD_eq_getElem?_getD, List.getElem?_eq_getElem h]
  have e2 : ub (vs[j] % 256) = ub vs[j] := by unfold ub; congr 2; omega
  rw [e, e2]
  simp [two]
theorem getD_bd {vs : List Int} {a b : Int} (h : ∀ v ∈ vs, a ≤ v ∧ v ≤ b) {j : Nat} (hj : j < vs.length) : a ≤ vs.getD j 0 ∧ vs.getD j 0 ≤ b := by
  rw [List.getD_eq_getElem?_getD, List.getElem?_eq_getElem hj]
  exact h _ (List.getElem_mem hj)
def keepT (h : Nat) (w w' : World) : Prop := ∀ k cs t, t ≠ 5 → k ≠ h → Blk w k cs t → Blk w' k cs t
theorem keepT.refl (h : Nat) (w : World) : keepT h w w := fun _ _ _ _ _ k => k
theorem keepT.trans {h : Nat} {a b c : World} (k : keepT h a b) (l : keepT h b c) : keepT h a c := fun i cs t ht hi b => l i cs t ht hi (k i cs t ht hi b)
theorem keepT.alloc {h : Nat} {a b : World} (k : keepT h a b) (o : Obj) : keepT h a (b.alloc o) := fun i cs t ht hi b => (k i cs t ht hi b).alloc o
theorem keepT.grown {h base n c : Nat} {a b d : World} {A : Option Addr} {l : List UInt8} (k : keepT h a b) (O : Own b base 5 A n c l) (hg : b.grownBy d (Value.slice A n c).ownBlock) : keepT h a d := fun i cs t ht hi bl => (k i cs t ht hi bl).grown hg (O.ne_blk (k i cs t ht hi bl) ht)
theorem keepT.set {h : Nat} {a b : World} (k : keepT h a b) (j : Nat) (v : Value) : keepT h a (b.setCell ⟨h, j, none⟩ v) := fun i cs t ht hi bl => (k i cs t ht hi bl).far ⟨h, j, none⟩ (Ne.symm hi) v
structure HPost (B base hb : Nat) (cs : Array Value) (T : TypeId) (l : List UInt8) (w : World) (e : Ending) (w' : World) : Prop where
  out : e = .returned (.tuple #[]) ∧ ∃ A n c, Blk w' hb (cs.setIfInBounds 0 (.slice A n c)) T ∧ Own w' base 5 A n c l ∧ Below B w w' ∧ keepT hb w w'
theorem htwo_any (B base hb : Nat) (cs : Array Value) (T : TypeId) (A : Option Addr) (n c : Nat) (l : List UInt8) (g mc m : Nat) (vs : List Int) (hm : vs.length = m) (hm9 : m ≤ 20) (w : World) (H : Blk w hb cs T) (h0 : cs[0]? = some (.slice A n c))
    (O : Own w base 5 A n c l) (hn : n ≤ 100000) (G : Blk w g (u16s vs) 23) (hv : ∀ v ∈ vs, 0 ≤ v ∧ v ≤ 65535) (hT : T ≠ 5) (hT2 : hb ≠ g) (b1 : B ≤ hb) (b2 : B ≤ base) (b3 : B ≤ w.heap.size) (b4 : base ≤ w.heap.size) :
    Calls Try.prog 18 #[.pointer (some ⟨hb, 0, none⟩), .slice (some ⟨g, 0, none⟩) m mc] w (HPost B base hb cs T (l ++ twos vs) w) := by
  have h75 : 23 ≠ 5 := by decide
  have hcs : 0 < cs.size := (Array.getElem?_eq_some_iff.1 h0).1
  have HM := Lib.hid hm
  have HV := Lib.hid hv
  have HC0 := Lib.hid h0
  clear hm hv h0
  go_enter Try.func18, Try.ntmps18
  go_wp2_with fail
  go_loopw [8] (fun i wr => ∃ (j : Nat) (A' : Option Addr) (n' c' : Nat), j ≤ m ∧ i = .int .i64 j ∧ n' ≤ 100000 + 2 * j ∧ Blk wr hb (cs.setIfInBounds 0 (.slice A' n' c')) T ∧ Own wr base 5 A' n' c' (l ++ twos (vs.take j)) ∧ keepT hb w wr ∧ Below B w wr) (fun i _ => m - (intOf i).toNat)
  case atStart =>
    refine ⟨0, A, n, c, by omega, rfl, by omega, ?_, by simpa [twos] using O, keepT.refl _ _, Below.refl _ _⟩
    have : cs.setIfInBounds 0 (.slice A n c) = cs := by
      apply Array.ext_getElem?
      intro i
      rw [Array.getElem?_setIfInBounds]
      split
      · rename_i e; subst e; rw [HC0.out]
      · rfl
    rw [this]; exact H
  case round =>
    obtain ⟨j, Aj, nj, cj, hj, rfl, hnj, Hj, Oj, Kj, Bj⟩ := hrel
    have Gj := Kj g (u16s vs) 23 h75 (Ne.symm hT2) G
    by_cases hlt : j < m
    · have gj := Gj.cell.1 j
      rw [u16s_at (by rw [HM.out]; exact hlt)] at gj
      obtain ⟨v0, v1⟩ := getD_bd HV.out (j := j) (by rw [HM.out]; exact hlt)
      have htk := twos_take (vs := vs) (j := j) (by rw [HM.out]; exact hlt)
      obtain ⟨v, hv⟩ : ∃ v, vs.getD j 0 = v := ⟨_, rfl⟩
      rw [hv] at gj v0 v1 htk
      have HTK := Lib.hid htk
      clear hv htk
      have hc0 : wr.cell? ⟨hb, 0, none⟩ = some (.slice Aj nj cj) := by rw [Hj.cell.1]; simp [hcs]
      have hjl := Hj.lt
      have hji : (j : Int) < m := by omega
      have hb4 : base ≤ wr.heap.size := Nat.le_trans b4 Bj.size
      have L2 := lit2 (e := 5) (x := v / 256) (y := v % 256) (by omega) (by omega) (by omega) (by omega) wr
      have ne1 := Oj.ne_blk Hj hT
      have ne2 := Oj.ne_blk Gj h75
      go_wp2_with (at_builtin; refine wpList_append_bs (w0 := wr.alloc (.cells #[.int .u8 (v / 256), .int .u8 (v % 256)] 5)) _ rfl _ _ _ rfl base 5 Try.underlying25 info_u8 Aj nj cj _ rfl (Oj.alloc _) (some ⟨_, 0, none⟩) 2 2 _ rfl L2.bs (Below.refl _ _) (by omega) (by simp; omega) ?_; intro A2 n2 c2 w2 O2 hB2 hgr hz2; have H2 := (Hj.alloc (.cells #[.int .u8 (v / 256), .int .u8 (v % 256)] 5)).grown hgr ne1; have K2 := (Kj.alloc (.cells #[.int .u8 (v / 256), .int .u8 (v % 256)] 5)).grown (Oj.alloc _) hgr; have B2 := below_grown (Bj.alloc (Nat.le_trans b3 Bj.size) (.cells #[.int .u8 (v / 256), .int .u8 (v % 256)] 5)) hgr (Oj.alloc _) b2 (by have := Bj.size; simp; omega); have hf2 : w2.cell? ⟨hb, 0, none⟩ = some (.slice Aj nj cj) := (by rw [H2.cell.1]; simp [hcs]); have hfz := H2.cell.2)
      have u2 : n2 = nj + 2 := by have := O2.len; have := Oj.len; simp at *; omega
      have nb2 := O2.ne_blk H2 hT
      have Hf := H2.set_ 0 (.slice A2 n2 c2)
      rw [Array.setIfInBounds_setIfInBounds] at Hf
      have Of := O2.away ⟨hb, 0, none⟩ (.slice A2 n2 c2) (fun a e => nb2 a.block (by rw [e]; rfl))
      exact ⟨⟨j + 1, A2, n2, c2, by omega, by go_num, by omega, Hf, by rw [HTK.out, ← List.append_assoc]; exact Of, K2.set 0 _, B2.setCell (p := ⟨hb, 0, none⟩) b1 _⟩, by simp [intOf]; omega⟩
    · obtain rfl : j = m := by omega
      go_wp2_with fail
      rw [show vs.take j = vs from List.take_of_length_le (by rw [HM.out]; exact Nat.le_refl _)] at Oj
      go_end0
      exact ⟨rfl, Aj, nj, cj, Hj, Oj, Bj, Kj⟩
set_option maxHeartbeats 1000000
theorem own_grown (w : World) (e : TypeId) (k : Nat) (h0 : 0 < k) (hk : k ≤ 200000000000000) :
    Own (w.drew.alloc (.cells (Builtin.zeroCells #[.int .u8 0] k ++ Builtin.zeroCells #[.int .u8 0] (grownCap w k 0 e - k)) e)) w.heap.size e (some ⟨w.heap.size, 0, none⟩) 0 (grownCap w k 0 e) [] := by
  have hge := grownCap_ge w k 0 e
  refine ⟨rfl, by omega, ⟨rfl, .inr ⟨w.heap.size, _, _, rfl, Nat.le_refl _, heap_alloc_new w.drew _, Nat.zero_le _, grownCap_le_maxLen w k 0 e (by simp only [maxLen]; omega), ?_, ?_⟩⟩⟩
  · simp [Array.size_append, size_zeroCells]; omega
  · simp [cu]
theorem grow_any (k : Nat) (hk : k ≤ 200000000000000) (w : World) :
    Calls Try.prog 72 #[.slice none 0 0, .int .i64 (k : Int)] w fun e w' => ∃ A c, e = .returned (.slice A 0 c) ∧ Own w' w.heap.size 5 A 0 c [] ∧ Below w.heap.size w w' := by
  obtain ⟨i8, hi8, hz8, hs8, hb8⟩ := info_parts info_u8
  by_cases h0 : k = 0
  · subst h0
    go_enter Try.func72, Try.ntmps72
    go_wp2_with fail
    go_ret
    exact ⟨none, 0, rfl, own_nil _ _ _, Below.refl _ _⟩
  · have hk0 : (0 : Int) < k := by omega
    have hrun := Lib.run_append_nil_zeros (P := Try.prog) w 25 3 25 5 i8 (.int .u8 0) .i64 .i64 Try.underlying25 Try.underlying3 hi8 hz8 k (by omega) (by omega) (by omega) (by rw [hb8]; omega)
    have hown := own_grown w 5 k (by omega) hk
    have hge := grownCap_ge w k 0 5
    have hB : Below w.heap.size w (w.drew.alloc (.cells (Builtin.zeroCells #[.int .u8 0] k ++ Builtin.zeroCells #[.int .u8 0] (grownCap w k 0 5 - k)) 5)) := (Below.drew (Below.refl _ w)).alloc (Nat.le_refl _) _
    simp only [Value.cells] at hrun
    generalize w.drew.alloc (.cells (Builtin.zeroCells #[.int .u8 0] k ++ Builtin.zeroCells #[.int .u8 0] (grownCap w k 0 5 - k)) 5) = w1 at hrun hown hB
    generalize grownCap w k 0 5 = cp at hrun hown hge
    have hcut : ∀ W, (Instr.slice 25 (.slice (some ⟨w.heap.size, 0, none⟩) k cp) none (some (.int .i64 0)) none).run Try.prog W = .ok (.slice (some ⟨w.heap.size, 0, none⟩) 0 cp) W := fun W => by
      rw [cut_h Try.underlying25 hi8 hs8 (some ⟨w.heap.size, 0, none⟩) k cp .i64 0 (by omega) (by omega) W]; simp [Addr.add]
    have hcut0 : ∀ W, (Instr.slice 25 (.slice none 0 0) none (some (.int .i64 0)) none).run Try.prog W = .ok (.slice none 0 0) W := fun W => by
      rw [cut_h Try.underlying25 hi8 hs8 none 0 0 .i64 0 (by omega) (by omega) W]; simp
    go_enter Try.func72, Try.ntmps72
    go_wp2_with (at_builtin; refine Lib.wpList_append_run _ rfl _ _ _ _ rfl _ _ rfl rfl _ _ hrun ?_)
    go_ret
    exact ⟨_, _, rfl, hown, hB⟩
def catL (L : Nat → List UInt8) : Nat → List UInt8
  | 0 => []
  | k + 1 => catL L k ++ L k
def catN (n : Nat → Nat) : Nat → Nat
  | 0 => 0
  | k + 1 => catN n k + n k
theorem catN_le {n : Nat → Nat} : ∀ {k m : Nat}, k ≤ m → catN n k ≤ catN n m
  | k, 0, h => by obtain rfl : k = 0 := by omega
                  exact Nat.le_refl _
  | k, m + 1, h => by
    by_cases e : k = m + 1
    · subst e; exact Nat.le_refl _
    · have := catN_le (n := n) (show k ≤ m by omega)
      simp only [catN]; omega
theorem concat_any (g m c : Nat) (f : Nat → Option Addr) (n : Nat → Nat) (d : Nat → Nat) (L : Nat → List UInt8) (hm : m ≤ 1000) (w : World) (hg : g < w.heap.size) (hc : ∀ j, j < m → w.cell? ⟨g, j, none⟩ = some (.slice (f j) (n j) (d j)))
    (hb : ∀ j, j < m → Bs w (f j) (n j) (d j) (L j)) (htot : catN n m ≤ 200000000000000) :
    Calls Try.prog 45 #[.slice (some ⟨g, 0, none⟩) m c] w fun e w' => ∃ A n c', e = .returned (.slice A n c') ∧ Own w' w.heap.size 5 A n c' (catL L m) ∧ Below w.heap.size w w' := by
  have hlen : ∀ k, k ≤ m → (catL L k).length = catN n k := by
    intro k
    induction k with
    | zero => intro _; rfl
    | succ k ih =>
      intro hk
      simp only [catL, catN, List.length_append]
      rw [ih (by omega), (hb k (by omega)).len]
  have HL := Lib.hid hlen
  have hmono : ∀ k, k ≤ m → catN n k ≤ catN n m := fun k hk => catN_le hk
  have HM := Lib.hid hmono
  have HN : Hid (∀ k, catN n (k + 1) = catN n k + n k) := fun _ => rfl
  have HA : Hid (∀ k, catL L (k + 1) = catL L k ++ L k) := fun _ => rfl
  clear hlen hmono
  go_enter Try.func45, Try.ntmps45
  go_wp2_with fail
  go_loop [3, 11] (fun s i => ∃ k : Nat, k ≤ m ∧ i = .int .i64 k ∧ s = .int .i64 (catN n k)) (fun _ i => m - (intOf i).toNat)
  case atStart => exact ⟨0, by omega, rfl, rfl⟩
  case round =>
    obtain ⟨k, hk, rfl, rfl⟩ := hrel
    by_cases hlt : k < m
    · have ck := hc k hlt
      have b1 := HM.out (k + 1) (by omega)
      have b2 := HN.out k
      have b3 := HM.out k (by omega)
      have hki : (k : Int) < m := by omega
      obtain ⟨s, hs⟩ : ∃ s : Nat, catN n k = s := ⟨_, rfl⟩
      obtain ⟨t, ht⟩ : ∃ t : Nat, n k = t := ⟨_, rfl⟩
      obtain ⟨u, hu⟩ : ∃ u : Nat, s + t = u := ⟨_, rfl⟩
      have hui : (s : Int) + t = u := by omega
      have hul : (u : Int) ≤ 200000000000000 := by omega
      have HU : Hid (catN n (k + 1) = u) := by unfold Hid; omega
      rw [ht] at ck
      rw [hs]
      clear b1 b2 b3 hs hu
      go_wp2_with fail
      exact ⟨⟨k + 1, by omega, by go_num, by rw [HU.out]⟩, by simp [intOf]; omega⟩
    · obtain rfl : k = m := by omega
      obtain ⟨s, hs⟩ : ∃ s : Nat, catN n k = s := ⟨_, rfl⟩
      rw [hs] at htot ⊢
      have HS := Lib.hid hs
      clear hs
      go_wp2_with (go_at_call 72; ((with_reducible refine (grow_any s (by omega) _).mono ?_); rintro e w1 ⟨A1, c1, rfl, ho1, hB1⟩))
      go_loopw [6, 27] (fun v i wr => ∃ (j : Nat) (A : Option Addr) (q cc : Nat), j ≤ k ∧ i = .int .i64 j ∧ v = .slice A q cc ∧ Own wr w.heap.size 5 A q cc (catL L j) ∧ Below w.heap.size w wr) (fun _ i _ => k - (intOf i).toNat)
      case atStart => exact ⟨0, A1, 0, c1, by omega, rfl, rfl, ho1, hB1⟩
      case round =>
        obtain ⟨j, A2, q, cc, hj, rfl, rfl, ho2, hB2⟩ := hrel
        by_cases hlt2 : j < k
        · have cj := (hB2.cell (p := ⟨g, j, none⟩) hg).trans (hc j hlt2)
          have hji : (j : Int) < k := by omega
          have q1 : q = catN n j := by rw [← ho2.len, HL.out j (by omega)]
          have q2 := HM.out (j + 1) (by omega)
          have q3 := HN.out j
          have q4 := HS.out
          have bj := (hb j hlt2).below hB2
          have hql : q + n j ≤ 200000000000000 := by omega
          clear q1 q2 q3 q4
          go_wp2_with (at_builtin; refine wpList_append_bs (w0 := w) _ rfl _ _ _ rfl w.heap.size 5 Try.underlying25 info_u8 A2 q cc _ rfl ho2 (f j) (n j) (d j) (L j) rfl bj hB2 (by omega) (by first | exact Nat.le_refl _ | exact Below.size hB2 | omega | (simp <;> omega)) ?_; intro A3 n3 c3 w3 ho3 hB3 _ hz3)
          go_roundw
          case rel => exact ⟨j + 1, A3, n3, c3, by omega, by go_num, rfl, by rw [HA.out]; exact ho3, hB3⟩
          case measure => simp [intOf]; omega
        · obtain rfl : j = k := by omega
          go_wp2
          go_ret
          exact ⟨_, _, _, rfl, ho2, hB2⟩
set_option maxHeartbeats 4000000
def rightP (p : Pkt) : Bool := decide (p.opt.length ≤ 40) && decide (p.opt.length % 4 = 0) && decide (20 + p.opt.length + p.dat.length ≤ 65535)
theorem right_any (p : Pkt) (A1 : Option Addr) (n1 c1 : Nat) (A2 : Option Addr) (n2 c2 : Nat) (w : World) (k1 : Bs w A1 n1 c1 p.opt) (k2 : Bs w A2 n2 c2 p.dat) :
    Calls Try.prog 43 #[(.agg #[.int .u8 (p).tos, .int .u16 (p).id, .bool (p).keep, .int .u8 (p).ttl, .int .u8 (p).proto, .int .u32 (p).src, .int .u32 (p).dst, .slice A1 n1 c1, .slice A2 n2 c2])] w fun e w' => e = .returned (.bool (rightP p)) ∧ Below w.heap.size w w' := by
  have e1 := k1.len
  have e2 := k2.len
  have b1 := k1.max
  have b2 := k2.max
  have HR : Hid (rightP p = (decide (n1 ≤ 40) && decide (n1 % 4 = 0) && decide (20 + n1 + n2 ≤ 65535))) := by unfold Hid rightP; rw [e1, e2]
  clear e1 e2
  go_enter Try.func43, Try.ntmps43
  go_wp2_with fail
  all_goals go_ret
  all_goals refine ⟨?_, by (repeat (first | with_reducible exact Below.refl _ _ | with_reducible refine below_drew ?_ | with_reducible refine below_drewN ?_ _ | with_reducible refine below_alloc ?_ (Nat.le_refl _) _ | with_reducible refine Below.setCell ?_ (by first | exact Nat.le_refl _ | (simp only []; omega)) _ | with_reducible assumption))⟩
  all_goals rw [HR.out]
  all_goals congr 2
  all_goals (try (simp; done))
  all_goals (focus (simp; first | omega | (rw [Bool.eq_iff_iff]; simp; omega)))
def wiE (p : Pkt) (n : Nat) : Int := if 40 < p.opt.length ∨ p.opt.length % 4 ≠ 0 then 4 else if 65535 < 20 + p.opt.length + n then 8 else 0
def withP (p : Pkt) (pr : Int) (d : List UInt8) : Pkt := if wiE p d.length = 0 then { p with proto := pr, dat := d } else zP
structure WiPost (w : World) (P : Pkt) (E : Int) (e : Ending) (w' : World) : Prop where
  out : ∃ B1 m1 d1 B2 m2 d2, e = .returned (.tuple #[(.agg #[.int .u8 (P).tos, .int .u16 (P).id, .bool (P).keep, .int .u8 (P).ttl, .int .u8 (P).proto, .int .u32 (P).src, .int .u32 (P).dst, .slice B1 m1 d1, .slice B2 m2 d2]), .int .i64 E]) ∧ Own w' w.heap.size 5 B1 m1 d1 P.opt ∧ Own w' w.heap.size 5 B2 m2 d2 P.dat ∧ Below w.heap.size w w'
theorem wiPost_no {w w' : World} {E : Int} (hB : Below w.heap.size w w') : WiPost w zP E (.returned (.tuple #[.agg #[.int .u8 0, .int .u16 0, .bool false, .int .u8 0, .int .u8 0, .int .u32 0, .int .u32 0, .slice none 0 0, .slice none 0 0], .int .i64 E])) w' :=
  ⟨none, 0, 0, none, 0, 0, rfl, own_nil _ _ _, own_nil _ _ _, hB⟩
theorem wiE_4 {p : Pkt} {n1 n : Nat} (l1 : p.opt.length = n1) (h : 40 < (n1 : Int) ∨ n1 % 4 ≠ 0) : wiE p n = 4 := by unfold wiE; rw [l1, if_pos (by omega)]
theorem wiE_8 {p : Pkt} {n1 n : Nat} (l1 : p.opt.length = n1) (h1 : (n1 : Int) ≤ 40) (h2 : n1 % 4 = 0) (h3 : 65535 < 20 + (n1 : Int) + n) : wiE p n = 8 := by unfold wiE; rw [l1, if_neg (by omega), if_pos (by omega)]
theorem wiE_0 {p : Pkt} {n1 n : Nat} (l1 : p.opt.length = n1) (h1 : (n1 : Int) ≤ 40) (h2 : n1 % 4 = 0) (h3 : 20 + (n1 : Int) + n ≤ 65535) : wiE p n = 0 := by unfold wiE; rw [l1, if_neg (by omega), if_neg (by omega)]
theorem m4_no {n : Nat} (h : n % 4 = 0) : ((n : Int) % 4 != 0) = false := by simp; omega
theorem m4_yes {n : Nat} (h : n % 4 ≠ 0) : ((n : Int) % 4 != 0) = true := by simp; omega
structure Os (w : World) (A : Option Addr) (n c : Nat) (os : List Opt) : Prop where
  len : os.length = n
  cap : n ≤ c
  max : n ≤ 4398046511104
  nil : A = none → c = 0
  ok : ∀ o ∈ os, o.Ok
  rd : 0 < n → ∃ b off, A = some ⟨b, off, none⟩ ∧ ∀ j, j < n → w.cell? ⟨b, off + j * 2, none⟩ = some (.int .u8 (os.getD j zO).kind) ∧ ∃ B m d, w.cell? ⟨b, off + j * 2 + 1, none⟩ = some (.slice B m d) ∧ Bs w B m d (os.getD j zO).dat
section
variable {w w' : World} {A : Option Addr} {n c : Nat} {os : List Opt}
theorem Os.below (h : Os w A n c os) (hb : Below w.heap.size w w') : Os w' A n c os :=
  ⟨h.len, h.cap, h.max, h.nil, h.ok, fun hn => by
    obtain ⟨b, off, e, hc⟩ := h.rd hn
    refine ⟨b, off, e, fun j hj => ?_⟩
    obtain ⟨h1, B, m, d, h2, h3⟩ := hc j hj
    exact ⟨(hb.cell (World.block_lt_of_cell? w _ h1)).trans h1, B, m, d, (hb.cell (World.block_lt_of_cell? w _ h2)).trans h2, h3.below hb⟩⟩
theorem Os.alloc (h : Os w A n c os) (o : Obj) : Os (w.alloc o) A n c os := h.below ((Below.refl _ w).alloc (Nat.le_refl _) o)
theorem Os.none_ (w : World) : Os w none 0 0 [] := ⟨rfl, Nat.zero_le _, by omega, fun _ => rfl, (fun o h => by cases h), fun h => absurd h (by omega)⟩
end
set_option maxHeartbeats 1000000
structure OwnG (w : World) (base : Nat) (e : TypeId) (size : Nat) (A : Option Addr) (n c : Nat) (xs : List Value) : Prop where
  row : w.ownsRow base e size (.slice A n c) n xs
section
variable {w w' : World} {base : Nat} {e : TypeId} {size : Nat} {A : Option Addr} {n c : Nat} {xs : List Value}
theorem OwnG.len (h : OwnG w base e size A n c xs) : xs.length = n * size := h.row.1
theorem OwnG.kept {row : Option Nat} (h : OwnG w base e size A n c xs) (hg : w.grownBy w' row) (hne : (Value.slice A n c).ownBlock = none ∨ (Value.slice A n c).ownBlock ≠ row) : OwnG w' base e size A n c xs := ⟨h.row.kept hg hne⟩
theorem OwnG.alloc (h : OwnG w base e size A n c xs) (o : Obj) : OwnG (w.alloc o) base e size A n c xs := ⟨h.row.alloc o⟩
theorem OwnG.below (h : OwnG w base e size A n c xs) (hb : Below w.heap.size w w') : OwnG w' base e size A n c xs :=
  h.kept (row := none) ⟨hb.os, hb.tape, hb.output, hb.size, fun i hi _ => hb.block i hi⟩ (by cases (Value.slice A n c).ownBlock <;> simp)
theorem OwnG.mono {b' : Nat} (h : OwnG w base e size A n c xs) (hb : b' ≤ base) : OwnG w b' e size A n c xs := by
  obtain ⟨h1, h2⟩ := h.row
  refine ⟨h1, ?_⟩
  rcases h2 with h2 | ⟨g, cap, cur, hv, hg, r⟩
  · exact .inl h2
  · exact .inr ⟨g, cap, cur, hv, by omega, r⟩
end
section
variable {P : Program} {ops : Array Oper} {rest : List Oper} {o : Oper} {a : Act} {Q : Exit → Act → World → Prop}
end
end Go.Proofs.Ytjhgcnoijajffaa
namespace Go.Proofs.Ytjhgcnoijajffaa
open Go.RowKit
set_option linter.unusedVariables false
set_option linter.unusedSimpArgs false
set_option maxHeartbeats 1000000
structure OsO (w : World) (base : Nat) (A : Option Addr) (n c : Nat) (os : List Opt) : Prop where
  len : os.length = n
  own : ∃ xs, OwnG w base 162 2 A n c xs ∧ ∀ j, j < n → xs[j * 2]? = some (.int .u8 (os.getD j zO).kind) ∧ ∃ B m d, xs[j * 2 + 1]? = some (.slice B m d) ∧ Own w base 5 B m d (os.getD j zO).dat
theorem OsO.below {w w' : World} {base : Nat} {A : Option Addr} {n c : Nat} {os : List Opt} (h : OsO w base A n c os) (hb : Below w.heap.size w w') : OsO w' base A n c os := by
  obtain ⟨xs, hx, hj⟩ := h.own
  refine ⟨h.len, xs, hx.below hb, fun j hjn => ?_⟩
  obtain ⟨h1, B, m, d, h2, h3⟩ := hj j hjn
  exact ⟨h1, B, m, d, h2, h3.below hb⟩
theorem OsO.mono {w : World} {base b' : Nat} {A : Option Addr} {n c : Nat} {os : List Opt} (h : OsO w base A n c os) (hb : b' ≤ base) : OsO w b' A n c os := by
  obtain ⟨xs, hx, hj⟩ := h.own
  refine ⟨h.len, xs, hx.mono hb, fun j hjn => ?_⟩
  obtain ⟨h1, B, m, d, h2, h3⟩ := hj j hjn
  exact ⟨h1, B, m, d, h2, h3.mono hb⟩
theorem OsO.os {w : World} {base : Nat} {A : Option Addr} {n c : Nat} {os : List Opt} (h : OsO w base A n c os) (hn : n ≤ 4398046511104) (hok : ∀ o ∈ os, o.Ok) : Os w A n c os := by
  obtain ⟨xs, hx, hj⟩ := h.own
  rcases hx.row.2 with ⟨hv, h0⟩ | ⟨g, cap, cur, hv, _, hg, hnc, hcm, hcs, htake⟩
  · injection hv with h1 h2 h3
    subst h1 h2 h3
    exact ⟨h.len, Nat.le_refl _, by omega, fun _ => rfl, hok, fun h => by omega⟩
  · injection hv with h1 h2 h3
    subst h1 h3
    refine ⟨h.len, hnc, hn, (fun h => by cases h), hok, fun _ => ⟨g, 0, rfl, fun j hjn => ?_⟩⟩
    have hc : ∀ q v, xs[q]? = some v → w.cell? ⟨g, q, none⟩ = some v := fun q v hq => by
      rw [cell_of_row w g q cur 162 (0, 0) hg]
      rw [← htake, List.getElem?_take] at hq
      split at hq
      · simpa using hq
      · cases hq
    obtain ⟨h1, B, m, d, h2, h3⟩ := hj j hjn
    rw [Nat.zero_add]
    exact ⟨hc _ _ h1, B, m, d, hc _ _ h2, h3.bs⟩
end Go.Proofs.Ytjhgcnoijajffaa
namespace Go.Proofs.Ytjhgcnoijajffaa
open Go.RowKit Go.Shelf
set_option linter.unusedVariables false
set_option linter.unusedSimpArgs false
structure Loops (D : Nat) (r : Loop) (j : Option Code) (W : World) : Prop where
  loop : W.heap[D + 1]? = some (.loop { r with state := if j.isNone then .ready else .done, pending := j })
  defers : W.heap[D]? = some (.deferred (some []))
theorem Loops.keep {D : Nat} {r : Loop} {j : Option Code} {W W' : World} (h : Loops D r j W) (hk : KeepsFrom D W W') : Loops D r j W' :=
  ⟨hk.same _ _ (by omega) h.loop rfl, hk.same _ _ (Nat.le_refl _) h.defers rfl⟩
theorem keeps_setCell {B : Nat} (W : World) (p : Addr) (u : Value) : KeepsFrom B W (W.setCell p u) := (KeepsOthers.setCell W p u).from B
theorem keeps_alloc {B : Nat} (W : World) (o : Obj) : KeepsFrom B W (W.alloc o) := (KeepsOthers.alloc W o).from B
theorem keeps_below {B : Nat} {W W' : World} (h : Below W.heap.size W W') : KeepsFrom B W W' :=
  ⟨h.size, fun k o _ hk _ => (h.block k (Array.getElem?_eq_some_iff.1 hk).1).trans hk⟩
theorem below_putObj {B : Nat} {a W : World} (h : Below B a W) {l : Nat} (hl : B ≤ l) (o : Obj) : Below B a (W.putObj l o) :=
  h.trans ⟨rfl, rfl, rfl, by simp, fun k hk => World.putObj_heap_other (by omega)⟩
theorem cell_putObj {W : World} {l : Nat} {p : Addr} (h : p.block ≠ l) (o : Obj) : (W.putObj l o).cell? p = W.cell? p := World.cell?_of_block (World.putObj_heap_other h)
theorem frozen_putObj {W : World} {l : Nat} {p : Addr} (h : p.block ≠ l) (o : Obj) : (W.putObj l o).frozen? p = W.frozen? p := World.frozen?_of_block (World.putObj_heap_other h)
def roundEnd {β : Type} (D : Nat) (I : β → World → Prop) (Ix : Code → β → World → Prop) (s : β) (W : World) : Exit → Act → World → Prop
  | .normal, _, W' => KeepsFrom D W W' ∧ I s W'
  | .ret, _, W' => KeepsFrom D W W' ∧ Ix .ret s W'
  | .exit id, _, W' => KeepsFrom D W W' ∧ Ix (.exit id) s W'
  | .goto t, _, W' => KeepsFrom D W W' ∧ Ix (.goto t) s W'
  | .panic _, _, _ => False
  | .outgrown, _, _ => False
def iterEnd {β : Type} (S : β → Prop) (I : β → World → Prop) (Ix : Code → β → World → Prop) (R : World → Prop) (Rx : Code → World → Prop) (e : Ending) (W' : World) : Prop :=
  (∃ v, e = .returned v) ∧ ((∃ s, S s ∧ I s W' ∧ R W') ∨ ∃ c s, Ix c s W' ∧ Rx c W')
def roundSaid {β : Type} (next : β) (I : β → World → Prop) (Ix : Code → β → World → Prop) (R : World → Prop) (Rx : Code → World → Prop) (e : Ending) (W' : World) : Prop :=
  (e = .returned (.bool true) ∧ I next W' ∧ R W') ∨ (e = .returned (.bool false) ∧ ∃ c, Ix c next W' ∧ Rx c W')
theorem range_law {α β : Type} {F : Fence} {n : Nat} {P : Program} {g : Operand} {ps : Array Tmp} {assign body : Code} {Q : Exit → Act → World → Prop} {a : Act} {w : World}
    (hro : F.round = none) (h1 : 1 ≤ n) {gf : Nat} {lb : Array Value} (hg : a.eval g = .func (.func gf) #[] lb) (hFg : F.fn gf) (eg : ∀ args w, (callFunc gf args).run P w = .ok (.enter gf args) w)
    (encs : α → Array Value) (hps : ∀ x, (encs x).size = ps.size) (step : β → α → β) (s0 : β) (S : β → Prop)
    (I : β → World → Prop) (Ix : Code → β → World → Prop)
    (hI : ∀ s W o, I s W → I s (W.putObj (w.heap.size + 1) o)) (hIx : ∀ c s W o, Ix c s W → Ix c s (W.putObj (w.heap.size + 1) o))
    (h0 : ∀ o o', I s0 ((w.alloc o).alloc o')) (a₁ : α → Act)
    (hassign : ∀ (x : α) (W : World) (K : Act → World → Prop), K (a₁ x) W →
      assign.wpIn (F.inRound (w.heap.size + 1)) (n - 1 - 1) P (Exit.then K (fun _ _ _ => False)) { tmps := (ps.zip (encs x)).foldl (fun t (p, v) => t.setIfInBounds p v) a.tmps, defers := [] } W)
    (ok : β → α → Prop)
    (hbody : ∀ (s : β) (x : α) (W : World), ok s x → I s W → w.heap.size + 2 ≤ W.heap.size → body.wpIn (F.inRound (w.heap.size + 1)) (n - 1 - 1) P (roundEnd w.heap.size I Ix (step s x) W) (a₁ x) W)
    (hiter : ∀ (R : World → Prop) (Rx : Code → World → Prop) (W1 : World), (∀ W W', R W → KeepsFrom w.heap.size W W' → R W') → (∀ W, R W → w.heap.size + 2 ≤ W.heap.size) →
      (∀ s x W, ok s x → I s W → R W → YieldAt F (n - 1 - 1) P (w.heap.size + 1) (encs x) W (roundSaid (step s x) I Ix R Rx)) →
      I s0 W1 → R W1 → w.heap.size + 2 = W1.heap.size → CallsIn F (n - 1) P gf (#[.func (.yield (w.heap.size + 1)) #[] #[]] ++ lb) W1 (iterEnd S I Ix R Rx))
    (hdone : ∀ (s : β) (W : World), S s → I s W → W.heap[w.heap.size]? = some (.deferred (some [])) → Q .normal { a with defers := { target := .collected w.heap.size, args := #[] } :: a.defers } W)
    (hstop : ∀ (c : Code) (s : β) (W : World), Ix c s W → W.heap[w.heap.size]? = some (.deferred (some [])) → c.wpIn F n P Q { a with defers := { target := .collected w.heap.size, args := #[] } :: a.defers } W) :
    (Code.rangeFunc g ps assign body).wpIn F n P Q a w := by
  refine wpIn_rangeFunc fun fn hfn => ?_
  rw [hro]
  obtain ⟨D, hD⟩ : ∃ D, w.heap.size = D := ⟨_, rfl⟩
  obtain ⟨r, hr⟩ : ∃ r : Loop, ({ state := .ready, pending := none, fn, tmps := a.tmps, params := ps, assign, body, defers := D } : Loop) = r := ⟨_, rfl⟩
  have hrun := run_enterLoop_outer (P := P) (w := w) fn a.tmps ps assign body
  rw [hD] at hrun hI hIx hbody hiter hdone hstop hassign
  rw [hr] at hrun
  have hready : ({ r with state := if (none : Option Code).isNone then .ready else .done, pending := none } : Loop) = r := by rw [← hr]; rfl
  obtain ⟨W1, hW1⟩ : ∃ W1, (w.alloc (.deferred (some []))).alloc (.loop r) = W1 := ⟨_, rfl⟩
  have hsz : D + 2 = W1.heap.size := by rw [← hW1, ← hD]; simp
  have hL1 : Loops D r none W1 := by
    refine ⟨?_, ?_⟩
    · rw [hready, ← hW1]
      have := World.alloc_heap_new (w.alloc (.deferred (some []))) (.loop r)
      rwa [World.size_alloc, hD] at this
    · rw [← hW1, ← hD]
      exact (Below.heap_alloc _ _ _ (by simp)).trans (World.alloc_heap_new w _)
  rw [hW1] at hrun
  refine ⟨D + 1, _, W1, { target := .fn (.func gf) lb, args := #[.func (.yield (D + 1)) #[] #[]] }, W1, gf, #[.func (.yield (D + 1)) #[] #[]] ++ lb, W1, hrun, ?_, ?_, ?_, fun _ => h1, ?_⟩
  · simp only [resolve, hg]
    simp [go_sem]
  · intro f' hf'
    simp [Target.leads] at hf'
    subst hf'
    exact hFg
  · simp [invoke, go_sem, eg]
  refine (hiter (Loops D r none) (fun c W => Loops D r (some c) W) W1 (fun W W' h hk => h.keep hk) (fun W h => (Array.getElem?_eq_some_iff.1 h.loop).1) ?_ (by rw [← hW1]; exact h0 _ _) hL1 hsz).mono ?_
  · intro s x W hok hi hl
    have hl0 := hl.loop
    rw [hready] at hl0
    have hlt : D + 1 < W.heap.size := (Array.getElem?_eq_some_iff.1 hl0).1
    have hpar : r.params = ps := by rw [← hr]
    have hy := run_yield (P := P) (args := encs x) hl0 (by rw [hpar]; exact hps x)
    obtain ⟨W2, hW2⟩ : ∃ W2, W.putObj (D + 1) (.loop { r with state := .busy }) = W2 := ⟨_, rfl⟩
    have hb2 : W2.heap[D + 1]? = some (.loop { r with state := .busy }) := by rw [← hW2]; exact World.putObj_heap_same hlt
    have hd2 : W2.heap[D]? = some (.deferred (some [])) := by rw [← hW2]; exact (World.putObj_heap_other (by omega)).trans hl.defers
    have hs2 : D + 2 ≤ W2.heap.size := (Array.getElem?_eq_some_iff.1 hb2).1
    have hi2 : I s W2 := by rw [← hW2]; exact hI _ _ _ hi
    have hend : ∀ (j : Option Code) (W3 : World), KeepsFrom D W2 W3 → (Instr.endRound (D + 1) j).run P W3 = .ok (.bool j.isNone) (W3.putObj (D + 1) (.loop { r with state := if j.isNone then .ready else .done, pending := j })) ∧ Loops D r j (W3.putObj (D + 1) (.loop { r with state := if j.isNone then .ready else .done, pending := j })) := by
      intro j W3 hk
      have hb3 := hk.same _ _ (by omega) hb2 rfl
      have hd3 := hk.same _ _ (Nat.le_refl _) hd2 rfl
      have he := run_endRound (P := P) j hb3
      exact ⟨he, World.putObj_heap_same (Array.getElem?_eq_some_iff.1 hb3).1, (World.putObj_heap_other (by omega)).trans hd3⟩
    refine ⟨r.fn, _, r.assign, r.body, hy, ?_⟩
    have e1 : r.fn = fn := by rw [← hr]
    have e2 : r.assign = assign := by rw [← hr]
    have e3 : r.body = body := by rw [← hr]
    have e4 : r.tmps = a.tmps := by rw [← hr]
    rw [e1, e2, e3, hpar, e4]
    refine roundIn_of_wpIn hfn (hassign x W _ ⟨W2, ?_, ?_⟩)
    · rw [← hW2]
      exact run_beginRound hl0 (by rw [← hr])
    refine wpIn_mono (hbody s x W2 hok hi2 hs2) ?_
    intro e a3 W3 hp
    cases e with
    | normal =>
      obtain ⟨hk, hi3⟩ := hp
      obtain ⟨hr3, hl3⟩ := hend none W3 hk
      exact ⟨_, _, hr3, .inl ⟨rfl, hI _ _ _ hi3, hl3⟩⟩
    | ret =>
      obtain ⟨hk, hi3⟩ := hp
      obtain ⟨hr3, hl3⟩ := hend (some .ret) W3 hk
      exact ⟨_, _, hr3, .inr ⟨rfl, .ret, hIx _ _ _ _ hi3, hl3⟩⟩
    | exit id =>
      obtain ⟨hk, hi3⟩ := hp
      obtain ⟨hr3, hl3⟩ := hend (some (.exit id)) W3 hk
      exact ⟨_, _, hr3, .inr ⟨rfl, .exit id, hIx _ _ _ _ hi3, hl3⟩⟩
    | goto t =>
      obtain ⟨hk, hi3⟩ := hp
      obtain ⟨hr3, hl3⟩ := hend (some (.goto t)) W3 hk
      exact ⟨_, _, hr3, .inr ⟨rfl, .goto t, hIx _ _ _ _ hi3, hl3⟩⟩
    | panic ch => exact hp.elim
    | outgrown => exact hp.elim
  · rintro e W2 ⟨⟨v, rfl⟩, ⟨s, hS, hi, hl⟩ | ⟨c, s, hi, hl⟩⟩
    · have h2 := run_endLoop (P := P) hl.loop (by simp)
      exact ⟨none, _, h2, hdone s _ hS (hI _ _ _ hi) ((World.putObj_heap_other (by omega)).trans hl.defers)⟩
    · have h2 := run_endLoop (P := P) hl.loop (by simp)
      exact ⟨some c, _, h2, hstop c s _ (hIx _ _ _ _ hi) ((World.putObj_heap_other (by omega)).trans hl.defers)⟩
theorem range_law2 {α β : Type} {F : Fence} {n : Nat} {P : Program} {g : Operand} {ps : Array Tmp} {assign body : Code} {Q : Exit → Act → World → Prop} {a : Act} {w : World}
    (hro : F.round = none) (h1 : 1 ≤ n) {gf : Nat} {lb : Array Value} (hg : a.eval g = .func (.func gf) #[] lb) (hFg : F.fn gf) (eg : ∀ args w, (callFunc gf args).run P w = .ok (.enter gf args) w)
    (encs : α → Array Value) (hps : ∀ x, (encs x).size = ps.size) (step : β → α → β) (s0 : β) (S : β → Prop)
    (I : β → World → Prop) (Ix : Code → β → World → Prop) (ok : β → α → Prop) (J : β → α → Act → World → Prop)
    (hI : ∀ s W o, o.isCells = false → I s W → I s (W.putObj (w.heap.size + 1) o)) (hIx : ∀ c s W o, o.isCells = false → Ix c s W → Ix c s (W.putObj (w.heap.size + 1) o)) (hJ : ∀ s x a W o, o.isCells = false → J s x a W → J s x a (W.putObj (w.heap.size + 1) o))
    (h0 : ∀ o o', o.isCells = false → o'.isCells = false → I s0 ((w.alloc o).alloc o'))
    (hassign : ∀ (s : β) (x : α) (W : World) (K : Act → World → Prop), ok s x → I s W → w.heap.size + 2 ≤ W.heap.size → (∀ b W', KeepsFrom w.heap.size W W' → J s x b W' → K b W') →
      assign.wpIn (F.inRound (w.heap.size + 1)) (n - 1 - 1) P (Exit.then K (fun _ _ _ => False)) { tmps := (ps.zip (encs x)).foldl (fun t (p, v) => t.setIfInBounds p v) a.tmps, defers := [] } W)
    (hbody : ∀ (s : β) (x : α) (b : Act) (W : World), ok s x → J s x b W → w.heap.size + 2 ≤ W.heap.size → body.wpIn (F.inRound (w.heap.size + 1)) (n - 1 - 1) P (roundEnd w.heap.size I Ix (step s x) W) b W)
    (hiter : ∀ (R : World → Prop) (Rx : Code → World → Prop) (W1 : World), (∀ W W', R W → KeepsFrom w.heap.size W W' → R W') → (∀ W, R W → w.heap.size + 2 ≤ W.heap.size) →
      (∀ s x W, ok s x → I s W → R W → YieldAt F (n - 1 - 1) P (w.heap.size + 1) (encs x) W (roundSaid (step s x) I Ix R Rx)) →
      I s0 W1 → R W1 → w.heap.size + 2 = W1.heap.size → CallsIn F (n - 1) P gf (#[.func (.yield (w.heap.size + 1)) #[] #[]] ++ lb) W1 (iterEnd S I Ix R Rx))
    (hdone : ∀ (s : β) (W : World), S s → I s W → W.heap[w.heap.size]? = some (.deferred (some [])) → Q .normal { a with defers := { target := .collected w.heap.size, args := #[] } :: a.defers } W)
    (hstop : ∀ (c : Code) (s : β) (W : World), Ix c s W → W.heap[w.heap.size]? = some (.deferred (some [])) → c.wpIn F n P Q { a with defers := { target := .collected w.heap.size, args := #[] } :: a.defers } W) :
    (Code.rangeFunc g ps assign body).wpIn F n P Q a w := by
  refine wpIn_rangeFunc fun fn hfn => ?_
  rw [hro]
  obtain ⟨D, hD⟩ : ∃ D, w.heap.size = D := ⟨_, rfl⟩
  obtain ⟨r, hr⟩ : ∃ r : Loop, ({ state := .ready, pending := none, fn, tmps := a.tmps, params := ps, assign, body, defers := D } : Loop) = r := ⟨_, rfl⟩
  have hrun := run_enterLoop_outer (P := P) (w := w) fn a.tmps ps assign body
  rw [hD] at hrun hI hIx hJ hbody hiter hdone hstop hassign
  rw [hr] at hrun
  have hready : ({ r with state := if (none : Option Code).isNone then .ready else .done, pending := none } : Loop) = r := by rw [← hr]; rfl
  obtain ⟨W1, hW1⟩ : ∃ W1, (w.alloc (.deferred (some []))).alloc (.loop r) = W1 := ⟨_, rfl⟩
  have hsz : D + 2 = W1.heap.size := by rw [← hW1, ← hD]; simp
  have hL1 : Loops D r none W1 := by
    refine ⟨?_, ?_⟩
    · rw [hready, ← hW1]
      have := World.alloc_heap_new (w.alloc (.deferred (some []))) (.loop r)
      rwa [World.size_alloc, hD] at this
    · rw [← hW1, ← hD]
      exact (Below.heap_alloc _ _ _ (by simp)).trans (World.alloc_heap_new w _)
  rw [hW1] at hrun
  refine ⟨D + 1, _, W1, { target := .fn (.func gf) lb, args := #[.func (.yield (D + 1)) #[] #[]] }, W1, gf, #[.func (.yield (D + 1)) #[] #[]] ++ lb, W1, hrun, ?_, ?_, ?_, fun _ => h1, ?_⟩
  · simp only [resolve, hg]
    simp [go_sem]
  · intro f' hf'
    simp [Target.leads] at hf'
    subst hf'
    exact hFg
  · simp [invoke, go_sem, eg]
  refine (hiter (Loops D r none) (fun c W => Loops D r (some c) W) W1 (fun W W' h hk => h.keep hk) (fun W h => (Array.getElem?_eq_some_iff.1 h.loop).1) ?_ (by rw [← hW1]; exact h0 _ _ rfl rfl) hL1 hsz).mono ?_
  · intro s x W hok hi hl
    have hl0 := hl.loop
    rw [hready] at hl0
    have hlt : D + 1 < W.heap.size := (Array.getElem?_eq_some_iff.1 hl0).1
    have hpar : r.params = ps := by rw [← hr]
    have hy := run_yield (P := P) (args := encs x) hl0 (by rw [hpar]; exact hps x)
    refine ⟨r.fn, _, r.assign, r.body, hy, ?_⟩
    have e1 : r.fn = fn := by rw [← hr]
    have e2 : r.assign = assign := by rw [← hr]
    have e3 : r.body = body := by rw [← hr]
    have e4 : r.tmps = a.tmps := by rw [← hr]
    rw [e1, e2, e3, hpar, e4]
    refine roundIn_of_wpIn hfn (hassign s x W _ hok hi hlt ?_)
    intro b Wa hka hja
    have hla := hl.keep hka
    have hl0a := hla.loop
    rw [hready] at hl0a
    have hlta : D + 1 < Wa.heap.size := (Array.getElem?_eq_some_iff.1 hl0a).1
    obtain ⟨W2, hW2⟩ : ∃ W2, Wa.putObj (D + 1) (.loop { r with state := .busy }) = W2 := ⟨_, rfl⟩
    have hb2 : W2.heap[D + 1]? = some (.loop { r with state := .busy }) := by rw [← hW2]; exact World.putObj_heap_same hlta
    have hd2 : W2.heap[D]? = some (.deferred (some [])) := by rw [← hW2]; exact (World.putObj_heap_other (by omega)).trans hla.defers
    have hs2 : D + 2 ≤ W2.heap.size := (Array.getElem?_eq_some_iff.1 hb2).1
    have hj2 : J s x b W2 := by rw [← hW2]; exact hJ _ _ _ _ _ rfl hja
    have hend : ∀ (j : Option Code) (W3 : World), KeepsFrom D W2 W3 → (Instr.endRound (D + 1) j).run P W3 = .ok (.bool j.isNone) (W3.putObj (D + 1) (.loop { r with state := if j.isNone then .ready else .done, pending := j })) ∧ Loops D r j (W3.putObj (D + 1) (.loop { r with state := if j.isNone then .ready else .done, pending := j })) := by
      intro j W3 hk
      have hb3 := hk.same _ _ (by omega) hb2 rfl
      have hd3 := hk.same _ _ (Nat.le_refl _) hd2 rfl
      have he := run_endRound (P := P) j hb3
      exact ⟨he, World.putObj_heap_same (Array.getElem?_eq_some_iff.1 hb3).1, (World.putObj_heap_other (by omega)).trans hd3⟩
    refine ⟨W2, by rw [← hW2]; exact run_beginRound hl0a (by rw [← hr]), ?_⟩
    refine wpIn_mono (hbody s x b W2 hok hj2 hs2) ?_
    intro e a3 W3 hp
    cases e with
    | normal =>
      obtain ⟨hk, hi3⟩ := hp
      obtain ⟨hr3, hl3⟩ := hend none W3 hk
      exact ⟨_, _, hr3, .inl ⟨rfl, hI _ _ _ rfl hi3, hl3⟩⟩
    | ret =>
      obtain ⟨hk, hi3⟩ := hp
      obtain ⟨hr3, hl3⟩ := hend (some .ret) W3 hk
      exact ⟨_, _, hr3, .inr ⟨rfl, .ret, hIx _ _ _ _ rfl hi3, hl3⟩⟩
    | exit id =>
      obtain ⟨hk, hi3⟩ := hp
      obtain ⟨hr3, hl3⟩ := hend (some (.exit id)) W3 hk
      exact ⟨_, _, hr3, .inr ⟨rfl, .exit id, hIx _ _ _ _ rfl hi3, hl3⟩⟩
    | goto t =>
      obtain ⟨hk, hi3⟩ := hp
      obtain ⟨hr3, hl3⟩ := hend (some (.goto t)) W3 hk
      exact ⟨_, _, hr3, .inr ⟨rfl, .goto t, hIx _ _ _ _ rfl hi3, hl3⟩⟩
    | panic ch => exact hp.elim
    | outgrown => exact hp.elim
  · rintro e W2 ⟨⟨v, rfl⟩, ⟨s, hS, hi, hl⟩ | ⟨c, s, hi, hl⟩⟩
    · have h2 := run_endLoop (P := P) hl.loop (by simp)
      exact ⟨none, _, h2, hdone s _ hS (hI _ _ _ rfl hi) ((World.putObj_heap_other (by omega)).trans hl.defers)⟩
    · have h2 := run_endLoop (P := P) hl.loop (by simp)
      exact ⟨some c, _, h2, hstop c s _ (hIx _ _ _ _ rfl hi) ((World.putObj_heap_other (by omega)).trans hl.defers)⟩
section
variable {Q : Exit → Act → World → Prop} {a : Act} {w : World} {J : Act → World → Prop} {l : Nat}
theorem jump_normal : Exit.jump l J Q .normal a w = Q .normal a w := rfl
theorem jump_exit (id : Nat) : Exit.jump l J Q (.exit id) a w = Q (.exit id) a w := rfl
theorem jump_ret : Exit.jump l J Q .ret a w = Q .ret a w := rfl
theorem jump_panic (ch : List PanicEntry) : Exit.jump l J Q (.panic ch) a w = Q (.panic ch) a w := rfl
theorem jump_goto : Exit.jump l J Q (.goto l) a w = J a w := by simp [Exit.jump]
end
set_option maxHeartbeats 1000000
def NotOf (e : TypeId) (W : World) (j : Nat) : Prop := ∀ o, W.heap[j]? = some o → ∀ cur f, o ≠ .cells cur e f
theorem Own.apart {w w' : World} {base : Nat} {e : TypeId} {A : Option Addr} {n c : Nat} {l : List UInt8} {row : Option Nat} (h : Own w base e A n c l) (hg : w.grownBy w' row) (hr : ∀ j, row = some j → NotOf e w j) : Own w' base e A n c l :=
  h.kept hg (by
    rcases h.row.2 with ⟨hv, _⟩ | ⟨g, cap, cur, hv, _, hg2, _⟩
    · rw [hv]; exact .inl rfl
    · injection hv with h1 h2 h3
      subst h1 h3
      refine .inr fun he => ?_
      simp only [Value.ownBlock] at he
      exact hr g he.symm _ hg2 _ _ rfl)
theorem OwnG.apart {w w' : World} {base : Nat} {e : TypeId} {s : Nat} {A : Option Addr} {n c : Nat} {xs : List Value} {row : Option Nat} (h : OwnG w base e s A n c xs) (hg : w.grownBy w' row) (hr : ∀ j, row = some j → NotOf e w j) : OwnG w' base e s A n c xs :=
  h.kept hg (by
    rcases h.row.2 with ⟨hv, _⟩ | ⟨g, cap, cur, hv, _, hg2, _⟩
    · rw [hv]; exact .inl rfl
    · injection hv with h1 h2 h3
      subst h1 h3
      refine .inr fun he => ?_
      simp only [Value.ownBlock] at he
      exact hr g he.symm _ hg2 _ _ rfl)
theorem OsO.apart {w w' : World} {base : Nat} {A : Option Addr} {n c : Nat} {os : List Opt} {row : Option Nat} (h : OsO w base A n c os) (hg : w.grownBy w' row) (hr : ∀ j, row = some j → NotOf 5 w j ∧ NotOf 162 w j) : OsO w' base A n c os := by
  obtain ⟨xs, hx, hj⟩ := h.own
  refine ⟨h.len, xs, hx.apart hg (fun j e => (hr j e).2), fun j hjn => ?_⟩
  obtain ⟨h1, B, m, d, h2, h3⟩ := hj j hjn
  exact ⟨h1, B, m, d, h2, h3.apart hg (fun j e => (hr j e).1)⟩
theorem Blk.notOf {w : World} {k : Nat} {cs : Array Value} {t : TypeId} (h : Blk w k cs t) {e : TypeId} (he : t ≠ e) : NotOf e w k := by
  intro o ho cur f e2
  rw [h.rd] at ho
  subst e2
  simp only [Option.some.injEq, Obj.cells.injEq] at ho
  exact he ho.2.1
theorem OwnG.ne_blk {w : World} {base : Nat} {e : TypeId} {s : Nat} {A : Option Addr} {n c : Nat} {xs : List Value} (h : OwnG w base e s A n c xs) {k : Nat} {cs : Array Value} {t : TypeId} (b : Blk w k cs t) (he : t ≠ e) : (Value.slice A n c).ownBlock ≠ some k := by
  rcases h.row.2 with ⟨hv, _⟩ | ⟨g, cap, cur, hv, _, hg, _⟩
  · rw [hv]; simp [Value.ownBlock]
  · injection hv with h1 h2 h3
    subst h1 h3
    simp only [Value.ownBlock, ne_eq, Option.some.injEq]
    intro e2
    subst e2
    exact b.notOf he _ hg _ _ rfl
theorem OwnG.cells {w : World} {base : Nat} {e : TypeId} {s : Nat} {A : Option Addr} {n c : Nat} {xs : List Value} (h : OwnG w base e s A n c xs) : ∀ (j : Nat) (o : Obj), (Value.slice A n c).ownBlock = some j → w.heap[j]? = some o → o.isCells = true := by
  intro j o hj ho
  rcases h.row.2 with ⟨hv, _⟩ | ⟨g, cap, cur, hv, _, hg, _⟩
  · rw [hv] at hj; simp [Value.ownBlock] at hj
  · injection hv with h1 h2 h3
    subst h1 h3
    simp only [Value.ownBlock, Option.some.injEq] at hj
    subst hj
    rw [hg] at ho
    simp only [Option.some.injEq] at ho
    subst ho
    rfl
def NoCells (W : World) (j : Nat) : Prop := ∃ o, W.heap[j]? = some o ∧ o.isCells = false
theorem NoCells.notOf {W : World} {j : Nat} (h : NoCells W j) (e : TypeId) : NotOf e W j := by
  obtain ⟨o, ho, hc⟩ := h
  intro o' ho' cur f e2
  rw [ho] at ho'
  simp only [Option.some.injEq] at ho'
  subst ho' e2
  simp [Obj.isCells] at hc
theorem NoCells.lt {W : World} {j : Nat} (h : NoCells W j) : j < W.heap.size := by
  obtain ⟨o, ho, _⟩ := h
  exact (Array.getElem?_eq_some_iff.1 ho).1
theorem NoCells.below {W W' : World} {j : Nat} (h : NoCells W j) (hb : Below W.heap.size W W') : NoCells W' j := by
  have hl := h.lt
  obtain ⟨o, ho, hc⟩ := h
  exact ⟨o, (hb.block j hl).trans ho, hc⟩
theorem NoCells.set {W : World} {j : Nat} (h : NoCells W j) (p : Addr) (v : Value) : NoCells (W.setCell p v) j := by
  obtain ⟨o, ho, hc⟩ := h
  refine ⟨o, ?_, hc⟩
  simp only [World.setCell, Array.getElem?_modify, ho, Option.map_some]
  split
  · cases o <;> simp_all [Obj.isCells]
  · rfl
theorem NoCells.put {W : World} {j : Nat} (h : NoCells W j) (l : Nat) (o' : Obj) (ho' : o'.isCells = false) : NoCells (W.putObj l o') j := by
  have hl := h.lt
  by_cases e : j = l
  · subst e
    exact ⟨o', World.putObj_heap_same hl, ho'⟩
  · obtain ⟨o, ho, hc⟩ := h
    exact ⟨o, (World.putObj_heap_other e).trans ho, hc⟩
theorem Blk.put {W : World} {k : Nat} {cs : Array Value} {t : TypeId} (h : Blk W k cs t) {l : Nat} (hn : NoCells W l) (o' : Obj) : Blk (W.putObj l o') k cs t := by
  refine ⟨(World.putObj_heap_other fun e => ?_).trans h.rd⟩
  subst e
  obtain ⟨o, ho, hc⟩ := hn
  rw [h.rd] at ho
  simp only [Option.some.injEq] at ho
  subst ho
  simp [Obj.isCells] at hc
end Go.Proofs.Ytjhgcnoijajffaa
namespace Go.Proofs.Ytjhgcnoijajffaa
open Go.RowKit
set_option linter.unusedVariables false
set_option linter.unusedSimpArgs false
set_option maxHeartbeats 1000000
def isLit (cs : Array Value) (t : TypeId) : World → Value → Prop := fun W v => ∃ g, v = .slice (some ⟨g, 0, none⟩) 1 1 ∧ Blk W g cs t
theorem st_isLit {cs : Array Value} {t : TypeId} : ∀ w w' v, isLit cs t w v → Below w.heap.size w w' → isLit cs t w' v := fun _ _ _ ⟨g, e, k⟩ hb => ⟨g, e, k.below hb⟩
def isApp (B : Nat) (news : Array Value) (t : TypeId) : World → Value → Prop := fun W v => ∃ g c ex, v = .slice (some ⟨g, 0, none⟩) 1 c ∧ B ≤ g ∧ Blk W g (news ++ ex) t
theorem st_isApp {B : Nat} {news : Array Value} {t : TypeId} : ∀ w w' v, isApp B news t w v → Below w.heap.size w w' → isApp B news t w' v := fun _ _ _ ⟨g, c, x, e, h, k⟩ hb => ⟨g, c, x, e, h, k.below hb⟩
theorem goes_lit1 {P : Program} {W : World} {cs : Array Value} {t : TypeId} : OpGoes P (fun v w' => (Kd.p (isLit cs t)).holds w' v ∧ Below W.heap.size W w') (.ok (.value (.slice (some ⟨W.heap.size, 0, none⟩) 1 1)) (W.alloc (.cells cs t))) :=
  ⟨⟨_, rfl, blk_new W cs t _ rfl⟩, (Below.refl _ W).alloc (Nat.le_refl _) _⟩
theorem goes_appNil {P : Program} {o : Oper} {a : Act} {W : World} {g : Nat} {cs : Array Value} {e : TypeId} (L : Blk W g cs e) (s x : Operand) (t : TypeId) (ho : o.op = .call { callee := .builtin .append, args := #[s, x], argTypes := #[t, t] }) (hs : a.eval s = .slice none 0 0) (hx : a.eval x = .slice (some ⟨g, 0, none⟩) 1 1)
    {i : TypeInfo} {z : Value} (ht : P.underlying t = some (.slice e)) (hi : P.info? e = some i) (hz : i.zero = some z) (hl : cs.size = 1 * i.size) (hb : i.bytes ≤ 1000) {B : Nat} (hB : B ≤ W.heap.size) :
    OpGoes P (fun v w' => (Kd.p (isApp B cs e)).holds w' v ∧ Below W.heap.size W w') ((execOp a.eval o).run P W) := by
  have hrun := run_append_nil (P := P) W t o.type e i z ht hi hz ⟨g, 0, none⟩ 1 1 cs.toList (by simpa using hl) (fun j v h => by
    have e1 : ((⟨g, 0, none⟩ : Addr).add j) = ⟨g, j, none⟩ := by cases j <;> simp [Addr.add]
    rw [e1, L.cell.1 j]
    simpa using h) (by omega) (by omega) (by omega)
  unfold execOp
  simp only [ho, resolve, invoke, builtin, Sem.run_bind, Sem.run_pure, Result.andThen_ok, List.map_toArray, List.map_cons, List.map_nil, hs, hx, hrun]
  have hk := blk_new W.drew (cs.toList.toArray ++ Builtin.zeroCells z.cells (grownCap W 1 0 e - 1)) e W.heap.size rfl
  refine ⟨⟨W.heap.size, grownCap W 1 0 e, Builtin.zeroCells z.cells (grownCap W 1 0 e - 1), rfl, hB, ?_⟩, ?_⟩
  · simpa using hk
  · (repeat (first | with_reducible exact Below.refl _ _ | with_reducible refine below_drew ?_ | with_reducible refine below_drewN ?_ _ | with_reducible refine below_alloc ?_ (Nat.le_refl _) _ | with_reducible refine Below.setCell ?_ (by first | exact Nat.le_refl _ | (simp only []; omega)) _ | with_reducible assumption))
set_option maxHeartbeats 8000000
set_option maxRecDepth 100000
def hx (t : Tup) : Nat := (hashT t % 64).toNat
structure RowC (w : World) (g : Nat) (u : Tup) (v y z : Int) : Prop where
  c0 : w.cell? ⟨g, 0, none⟩ = some (.int .u8 u.proto)
  c1 : w.cell? ⟨g, 1, none⟩ = some (.int .u32 u.src)
  c2 : w.cell? ⟨g, 2, none⟩ = some (.int .u32 u.dst)
  c3 : w.cell? ⟨g, 3, none⟩ = some (.int .u16 u.sp)
  c4 : w.cell? ⟨g, 4, none⟩ = some (.int .u16 u.dp)
  c5 : w.cell? ⟨g, 5, none⟩ = some (.int .i64 v)
  c6 : w.cell? ⟨g, 6, none⟩ = some (.int .i64 y)
  c7 : w.cell? ⟨g, 7, none⟩ = some (.int .i64 z)
theorem RowC.below {w w' : World} {g : Nat} {u : Tup} {v y z : Int} (h : RowC w g u v y z) (hb : Below w.heap.size w w') : RowC w' g u v y z := by
  have k : ∀ j x, w.cell? ⟨g, j, none⟩ = some x → w'.cell? ⟨g, j, none⟩ = some x := fun j x e => (hb.cell (World.block_lt_of_cell? w _ e)).trans e
  exact ⟨k _ _ h.c0, k _ _ h.c1, k _ _ h.c2, k _ _ h.c3, k _ _ h.c4, k _ _ h.c5, k _ _ h.c6, k _ _ h.c7⟩


set_option maxHeartbeats 4000000

def Kd.OkN (Rl : World → World → Prop) : Kd → Prop
  | .v _ => True
  | .b _ _ => False
  | .p q => ∀ w w' u, q w u → Rl w w' → q w' u
structure GoesN (P : Program) (K : Kd) (Rl : World → World → Prop) (J : World → Prop) (o : Oper) (W : World) (a : Act) : Prop where
  out : OpGoes P (fun v w' => K.holds w' v ∧ Rl W w' ∧ J w') ((execOp a.eval o).run P W)
def Ob1N (P : Program) (ops : Array Oper) (a0 : Act) (w0 : World) (Rl : World → World → Prop) (J : Nat → World → Prop) (c : Nat) (x : Bool) (nz ks : List (Tmp × Kd)) (o : Oper) (K : Kd) : Prop :=
  (x = false ∧ wantK ops ks o.guard = some true ∧ ∀ W, Rl w0 W → leanOn ks W o.op.operands.toList (Goes P K o W) a0) ∨
  (x = true ∧ wantK ops ks o.guard = some true ∧ ∀ W, Rl w0 W → J c W → leanOn (nz ++ ks) W o.op.operands.toList (GoesN P K Rl (J (c + 1)) o W) a0) ∨
  (x = false ∧ wantK ops ks o.guard = some false ∧ K = .v undef)
def kT : Kd := .p fun _ _ => True
def ObsN (P : Program) (ops : Array Oper) (a0 : Act) (w0 : World) (Rl : World → World → Prop) (J : Nat → World → Prop) (exs : List Nat) (fin : List (Tmp × Kd) → Prop) : Nat → Nat → List (Tmp × Kd) → List (Tmp × Kd) → List Oper → Prop
  | _, _, _, ks, [] => fin ks
  | i, c, nz, ks, o :: rest => ∃ K K' t, o.dst = some t ∧ (K.Ok ∧ (K' = K ∨ K' = kT) ∧ (lastX exs i = true ∨ K'.OkN Rl)) ∧ Ob1N P ops a0 w0 Rl J c (exs.elem i) nz ks o K ∧
      ObsN P ops a0 w0 Rl J exs fin (i + 1) (bif exs.elem i then c + 1 else c) (bif exs.elem i then [(t, K)] else (bif c == 0 then (t, K) :: nz else nz)) ((t, K') :: ks) rest
section
variable {P : Program} {ops : Array Oper} {a0 : Act} {w0 : World} {Rl : World → World → Prop} {J : Nat → World → Prop} {exs : List Nat} {fin : List (Tmp × Kd) → Prop} {i c : Nat} {nz ks : List (Tmp × Kd)} {rest : List Oper}
  {t : Tmp} {op : Op} {ty : TypeId} {pos : String} {after : Array Edge} {gd : Option (Nat × Bool)}
theorem ObsN.v {x : Value} (hx : exs.elem i = false) (hg : wantK ops ks gd = some true) (ho : ∀ W, Rl w0 W → leanOn ks W op.operands.toList (Goes P (.v x) ⟨some t, op, ty, pos, after, gd⟩ W) a0)
    (hr : ObsN P ops a0 w0 Rl J exs fin (i + 1) c (bif c == 0 then (t, .v x) :: nz else nz) ((t, .v x) :: ks) rest) : ObsN P ops a0 w0 Rl J exs fin i c nz ks (⟨some t, op, ty, pos, after, gd⟩ :: rest) :=
  ⟨.v x, .v x, t, rfl, ⟨trivial, .inl rfl, .inr trivial⟩, .inl ⟨hx, hg, ho⟩, by rw [hx]; exact hr⟩
theorem ObsN.l {q : World → Value → Prop} (hx : exs.elem i = false) (hg : wantK ops ks gd = some true) (hkb : ∀ w w' v, q w v → Below w.heap.size w w' → q w' v) (ho : ∀ W, Rl w0 W → leanOn ks W op.operands.toList (Goes P (.p q) ⟨some t, op, ty, pos, after, gd⟩ W) a0)
    (hr : ObsN P ops a0 w0 Rl J exs fin (i + 1) c (bif c == 0 then (t, .p q) :: nz else nz) ((t, kT) :: ks) rest) : ObsN P ops a0 w0 Rl J exs fin i c nz ks (⟨some t, op, ty, pos, after, gd⟩ :: rest) :=
  ⟨.p q, kT, t, rfl, ⟨hkb, .inr rfl, .inr fun _ _ _ _ _ => trivial⟩, .inl ⟨hx, hg, ho⟩, by rw [hx]; exact hr⟩
theorem ObsN.p {q : World → Value → Prop} (hx : exs.elem i = false) (hg : wantK ops ks gd = some true) (hkb : ∀ w w' v, q w v → Below w.heap.size w w' → q w' v) (hk : ∀ w w' v, q w v → Rl w w' → q w' v) (ho : ∀ W, Rl w0 W → leanOn ks W op.operands.toList (Goes P (.p q) ⟨some t, op, ty, pos, after, gd⟩ W) a0)
    (hr : ObsN P ops a0 w0 Rl J exs fin (i + 1) c (bif c == 0 then (t, .p q) :: nz else nz) ((t, .p q) :: ks) rest) : ObsN P ops a0 w0 Rl J exs fin i c nz ks (⟨some t, op, ty, pos, after, gd⟩ :: rest) :=
  ⟨.p q, .p q, t, rfl, ⟨hkb, .inl rfl, .inr hk⟩, .inl ⟨hx, hg, ho⟩, by rw [hx]; exact hr⟩
theorem ObsN.ev {x : Value} (hx : exs.elem i = true) (hg : wantK ops ks gd = some true) (ho : ∀ W, Rl w0 W → J c W → leanOn (nz ++ ks) W op.operands.toList (GoesN P (.v x) Rl (J (c + 1)) ⟨some t, op, ty, pos, after, gd⟩ W) a0)
    (hr : ObsN P ops a0 w0 Rl J exs fin (i + 1) (c + 1) [(t, .v x)] ((t, .v x) :: ks) rest) : ObsN P ops a0 w0 Rl J exs fin i c nz ks (⟨some t, op, ty, pos, after, gd⟩ :: rest) :=
  ⟨.v x, .v x, t, rfl, ⟨trivial, .inl rfl, .inr trivial⟩, .inr (.inl ⟨hx, hg, ho⟩), by rw [hx]; exact hr⟩
theorem ObsN.ep {q : World → Value → Prop} (hx : exs.elem i = true) (hg : wantK ops ks gd = some true) (hl : lastX exs i = true) (hkb : ∀ w w' v, q w v → Below w.heap.size w w' → q w' v) (ho : ∀ W, Rl w0 W → J c W → leanOn (nz ++ ks) W op.operands.toList (GoesN P (.p q) Rl (J (c + 1)) ⟨some t, op, ty, pos, after, gd⟩ W) a0)
    (hr : ObsN P ops a0 w0 Rl J exs fin (i + 1) (c + 1) [(t, .p q)] ((t, .p q) :: ks) rest) : ObsN P ops a0 w0 Rl J exs fin i c nz ks (⟨some t, op, ty, pos, after, gd⟩ :: rest) :=
  ⟨.p q, .p q, t, rfl, ⟨hkb, .inl rfl, .inl hl⟩, .inr (.inl ⟨hx, hg, ho⟩), by rw [hx]; exact hr⟩
theorem ObsN.skip (hx : exs.elem i = false) (hg : wantK ops ks gd = some false) (hr : ObsN P ops a0 w0 Rl J exs fin (i + 1) c (bif c == 0 then (t, .v undef) :: nz else nz) ((t, .v undef) :: ks) rest) : ObsN P ops a0 w0 Rl J exs fin i c nz ks (⟨some t, op, ty, pos, after, gd⟩ :: rest) :=
  ⟨.v undef, .v undef, t, rfl, ⟨trivial, .inl rfl, .inr trivial⟩, .inr (.inr ⟨hx, hg, rfl⟩), by rw [hx]; exact hr⟩
theorem ObsN.nil (h : fin ks) : ObsN P ops a0 w0 Rl J exs fin i c nz ks [] := h
end
theorem ObsN.out {P : Program} {ops : Array Oper} {a0 : Act} {w0 : World} {Rl : World → World → Prop} {J : Nat → World → Prop} {exs : List Nat} {fin : List (Tmp × Kd) → Prop} : ∀ {l : List Oper} {i0 : Nat} {nz ks : List (Tmp × Kd)}, ObsN P ops a0 w0 Rl J exs fin i0 (czX exs i0) nz ks l →
    ∃ Kt Ks : Nat → Kd, ∃ kn kz : Nat → List (Tmp × Kd), kz 0 = ks ∧ kn 0 = nz ∧ fin (kz l.length) ∧ ∀ i o, l[i]? = some o → ∃ t, o.dst = some t ∧ ((Kt i).Ok ∧ (Ks i = Kt i ∨ Ks i = kT) ∧ (lastX exs (i0 + i) = true ∨ (Ks i).OkN Rl)) ∧ Ob1N P ops a0 w0 Rl J (czX exs (i0 + i)) (exs.elem (i0 + i)) (kn i) (kz i) o (Kt i) ∧ kz (i + 1) = (t, Ks i) :: kz i ∧
      kn (i + 1) = (bif exs.elem (i0 + i) then [(t, Kt i)] else (bif czX exs (i0 + i) == 0 then (t, Kt i) :: kn i else kn i))
  | [], i0, nz, ks, h => ⟨fun _ => .v undef, fun _ => .v undef, fun _ => nz, fun _ => ks, rfl, rfl, h, fun i o ho => by simp at ho⟩
  | o :: rest, i0, nz, ks, ⟨K, K', t, hd, hk, hob, hr⟩ => by
    have hr' : ObsN P ops a0 w0 Rl J exs fin (i0 + 1) (czX exs (i0 + 1)) (bif exs.elem i0 then [(t, K)] else (bif czX exs i0 == 0 then (t, K) :: nz else nz)) ((t, K') :: ks) rest := hr
    obtain ⟨Kt, Ks, kn, kz, h0, hn0, hf, hall⟩ := ObsN.out hr'
    refine ⟨fun i => match i with | 0 => K | i + 1 => Kt i, fun i => match i with | 0 => K' | i + 1 => Ks i, fun i => match i with | 0 => nz | i + 1 => kn i, fun i => match i with | 0 => ks | i + 1 => kz i, rfl, rfl, hf, fun i o' ho' => ?_⟩
    cases i with
    | zero =>
      simp only [List.getElem?_cons_zero, Option.some.injEq] at ho'
      subst ho'
      exact ⟨t, hd, hk, hob, h0, hn0⟩
    | succ i =>
      have := hall i o' (by simpa using ho')
      rw [show i0 + 1 + i = i0 + (i + 1) from by omega] at this
      exact this
section
variable {P : Program} {Q : Exit → Act → World → Prop}
end
structure KeepR (B : Nat) (W W' : World) : Prop where
  below : Below (min B W.heap.size) W W'
  ty : ∀ k cs t, t ≠ 5 → Blk W k cs t → Blk W' k cs t
theorem KeepR.of (B : Nat) : ∀ a b, Below a.heap.size a b → KeepR B a b := fun a b h => ⟨h.mono (Nat.min_le_right _ _), fun k cs t _ bl => bl.below h⟩
theorem KeepR.trans (B : Nat) : ∀ a b c, KeepR B a b → KeepR B b c → KeepR B a c := fun a b c h k => ⟨h.below.trans (k.below.mono (by have := h.below.size; omega)), fun i cs t ht bl => k.ty i cs t ht (h.ty i cs t ht bl)⟩
theorem KeepR.bel {B : Nat} {a b c : World} (h : Below B a b) (k : KeepR B b c) (hB : B ≤ b.heap.size) : Below B a c := h.trans (k.below.mono (by omega))

end Go.Proofs.Ytjhgcnoijajffaa
namespace Go.Proofs.Ytjhgcnoijajffaa
open Go.RowKit Go.Shelf
set_option linter.unusedVariables false
set_option linter.unusedSimpArgs false
attribute [local go_sem] Oper.semAt_some
set_option linter.unusedVariables false
set_option maxRecDepth 100000
def leftIn (B : Nat) (W : World) : Nat := match W.cell? ⟨B, 0, none⟩ with
  | some (.slice _ n _) => n
  | _ => 0
theorem leftIn_eq {B : Nat} {W : World} {A : Option Addr} {n c : Nat} (h : W.cell? ⟨B, 0, none⟩ = some (.slice A n c)) : leftIn B W = n := by simp [leftIn, h]
def SumI (w : World) (B : Nat) (C : Nat → World → Prop) (s : Nat × Value) (W : World) : Prop :=
  C s.1 W ∧ W.cell? ⟨B, 0, none⟩ = some s.2 ∧ W.frozen? ⟨B, 0, none⟩ = false ∧ Below w.heap.size w W
def SumOk (w : World) (l : List UInt8) (n : Nat) (s : Nat × Value) (x : Int) : Prop :=
  x = wd l s.1 ∧ 2 * s.1 < n
theorem bt_drop (l : List UInt8) (k i : Nat) : bt (l.drop k) i = bt l (k + i) := by
  unfold bt
  simp [List.getD_eq_getElem?_getD, List.getElem?_drop]
set_option maxHeartbeats 1000000 in
theorem words1_in (D B : Nat) (w : World) (l : List UInt8) (n : Nat) (hl : l.length = n) (hB : w.heap.size ≤ B) (hBD : B < D) (hn : n ≤ 200000000000000) (C : Nat → World → Prop) (R : World → Prop) (Rx : Code → World → Prop)
    (hC : ∀ k W u, C k W → C k (W.setCell ⟨B, 0, none⟩ u)) (hR : ∀ W W', R W → KeepsFrom D W W' → R W')
    (hY : ∀ s x W, SumOk w l n s x → SumI w B C s W → R W → YieldAt Fence.wide 1 Try.prog (D + 1) #[.int .u32 x] W (roundSaid (s.1 + 1, s.2) (SumI w B C) (fun _ _ _ => False) R Rx)) (W1 : World) (A0 : Option Addr) (c0 : Nat)
    (hb0 : Bs w A0 n c0 l) (h0 : SumI w B C (0, .slice A0 n c0) W1) (hR0 : R W1) :
    CallsIn Fence.wide 2 Try.prog 84 (#[.func (.yield (D + 1)) #[] #[]] ++ #[.pointer (some ⟨B, 0, none⟩)]) W1 (iterEnd (fun s => n ≤ 2 * s.1 ∧ 2 * s.1 ≤ n + 1) (SumI w B C) (fun _ _ _ => False) R Rx) := by
  obtain ⟨i8, hi8, _, hs8, _⟩ := info_parts info_u8
  refine callsIn_of_wp Try.func84 rfl trivial ?_ rfl
  simp only [Try.ntmps84, List.size_toArray, List.length_cons, List.length_nil, Nat.reduceAdd, Nat.reduceSub, Array.replicate_succ, Array.replicate_zero, List.push_toArray, List.append_toArray, List.nil_append, List.cons_append]
  gi_wp2
  gi_loopw [3] (fun _ wr => ∃ k A m c, m + 2 * k = max n (2 * k) ∧ 2 * k ≤ n + 1 ∧ Bs w A m c (l.drop (2 * k)) ∧ SumI w B C (k, .slice A m c) wr ∧ R wr) (fun _ wr => leftIn B wr)
  case atStart => exact ⟨0, A0, n, c0, by omega, by omega, by simpa using hb0, h0, hR0⟩
  case round =>
    obtain ⟨k, A, m, c, hm, hk, hb, hi, hr⟩ := hrel
    have hi' := hi
    obtain ⟨hc, hcell, hfz, hbel⟩ := hi
    have hlf := leftIn_eq hcell
    dsimp only at hcell hc
    by_cases h2 : 2 * k < n
    · have hm0 : 0 < m := by omega
      have hbr := hb.below hbel
      obtain ⟨b, off, rfl, hcs⟩ := hbr.rd hm0
      have g0 := hcs 0 hm0
      rw [bt_drop, Nat.add_zero, Nat.add_zero] at g0
      have b0 := bt_lo l (2 * k)
      have b0' := bt_hi l (2 * k)
      have b1 := bt_lo l (2 * k + 1)
      have b1' := bt_hi l (2 * k + 1)
      have hcap := hb.cap
      by_cases h3 : 1 < m
      · have g1 := hcs 1 h3
        rw [bt_drop] at g1
        have hor := or_u32b b0 b0' b1 b1'
        obtain ⟨fn, tmps, assign, body, hy, hR2⟩ := hY (k, _) (bt l (2 * k) * 256 + bt l (2 * k + 1)) wr ⟨rfl, h2⟩ hi' hr
        have hcut : ∀ W, (Instr.slice 25 (.slice (some ⟨b, off, none⟩) m c) (some (.int .i64 2)) none none).run Try.prog W = _ := fun W => cut_l Try.underlying25 hi8 hs8 (some ⟨b, off, none⟩) m c .i64 2 (by omega) (by omega) W
        obtain ⟨A', n', c', eA, en, ec, hb2⟩ := hb.cutE (lo := 2) (hi := m) (by omega) (Nat.le_refl _)
        simp only [show (2 : Int).toNat = 2 from rfl, eA, en, ec] at hcut
        have hb3 : Bs w A' n' c' (l.drop (2 * (k + 1))) := by
          rw [List.take_of_length_le (by rw [hb.len]; exact Nat.le_refl _), List.drop_drop] at hb2
          exact hb2
        have en1 : n' + 2 = m := by omega
        have en2 : m ≤ n' + 2 := by omega
        have en3 : n' + 2 ≤ m := by omega
        clear eA en ec hb2 hcs en1 hm
        have HM : Hid (m + 2 * k = n) := by unfold Hid; have := hb.len; simp at this; omega
        clear hlf
        gi_wp2
        refine hR2.mono ?_
        rintro e W2 (⟨rfl, ⟨hc2, hcell2, hfz2, hbel2⟩, hr2⟩ | ⟨_, _, hx, _⟩)
        · dsimp only at hcell2 hc2
          gi_wp2
          go_roundw
          case rel => exact ⟨k + 1, A', n', c', by have := HM.out; omega, by omega, hb3, ⟨hC _ _ _ hc2, by rw [World.cell?_setCell_same' _ _ _ (by rw [hcell2]; rfl)], by rw [World.frozen?_setCell]; exact hfz2, hbel2.setCell (p := ⟨B, 0, none⟩) hB _⟩, hR _ _ hr2 (keeps_setCell _ _ _)⟩
          case measure => rw [leftIn_eq (World.cell?_setCell_same' W2 _ _ (by rw [hcell2]; rfl)), leftIn_eq hcell]; omega
        · exact hx.elim
      · have hm1 : m ≤ 1 := by omega
        have hwd : wd l k = bt l (2 * k) * 256 := wd_odd (by have := hb.len; simp at this; omega)
        obtain ⟨fn, tmps, assign, body, hy, hR2⟩ := hY (k, _) (bt l (2 * k) * 256) wr ⟨hwd.symm, h2⟩ hi' hr
        obtain rfl : m = 1 := by omega
        have hcut : ∀ W, (Instr.slice 25 (.slice (some ⟨b, off, none⟩) 1 c) (some (.int .i64 1)) none none).run Try.prog W = _ := fun W => cut_l Try.underlying25 hi8 hs8 (some ⟨b, off, none⟩) 1 c .i64 1 (by omega) (by omega) W
        obtain ⟨A', n', c', eA, en, ec, hb2⟩ := hb.cutE (lo := 1) (hi := 1) (by omega) (Nat.le_refl _)
        simp only [show (1 : Int).toNat = 1 from rfl, eA, en, ec] at hcut
        have hb3 : Bs w A' n' c' (l.drop (2 * (k + 1))) := by
          have e : (List.take 1 (l.drop (2 * k))).drop 1 = l.drop (2 * (k + 1)) := by
            have h4 := hb.len
            simp only [List.length_drop] at h4
            rw [List.drop_eq_nil_of_le (by simp; omega), List.drop_eq_nil_of_le (by omega)]
          rw [e] at hb2
          exact hb2
        have en1 : n' ≤ 0 := by omega
        have HM : Hid (1 + 2 * k = n) := by unfold Hid; have := hb.len; simp at this; omega
        clear eA en ec hb2 hcs hm hlf hwd
        gi_wp2
        refine hR2.mono ?_
        rintro e W2 (⟨rfl, ⟨hc2, hcell2, hfz2, hbel2⟩, hr2⟩ | ⟨_, _, hx, _⟩)
        · dsimp only at hcell2 hc2
          gi_wp2
          go_roundw
          case rel => exact ⟨k + 1, A', n', c', by have := HM.out; omega, by have := HM.out; omega, hb3, ⟨hC _ _ _ hc2, by rw [World.cell?_setCell_same' _ _ _ (by rw [hcell2]; rfl)], by rw [World.frozen?_setCell]; exact hfz2, hbel2.setCell (p := ⟨B, 0, none⟩) hB _⟩, hR _ _ hr2 (keeps_setCell _ _ _)⟩
          case measure => rw [leftIn_eq (World.cell?_setCell_same' W2 _ _ (by rw [hcell2]; rfl)), leftIn_eq hcell]; omega
        · exact hx.elim
    · have hm0 : m ≤ 0 := by omega
      have hm1 : ¬ (0 : Int) < m := by omega
      clear hlf hm
      gi_wp2
      go_end0
      exact ⟨⟨_, rfl⟩, .inl ⟨(k, _), ⟨by omega, hk⟩, hi', hr⟩⟩
set_option maxHeartbeats 1000000 in
theorem words_any (A : Option Addr) (n c : Nat) (w : World) :
    Calls Try.prog 70 #[.slice A n c] w fun e w' => e = .returned (.func (.func 84) #[] #[.pointer (some ⟨w.heap.size, 0, none⟩)]) ∧ w' = w.alloc (.cells #[.slice A n c] 25) := by
  have hmf : ∀ (fn : Fn) (first cap : Array Value) (w : World), (Instr.makeFunc fn first cap).run Try.prog w = .ok (.func fn first cap) w := fun _ _ _ _ => rfl
  go_enter Try.func70, Try.ntmps70
  go_wp2
  go_ret
  exact ⟨rfl, rfl⟩
set_option maxHeartbeats 1000000 in
theorem sum_any (A : Option Addr) (n c : Nat) (l : List UInt8) (w : World) (hb : Bs w A n c l) :
    Calls Try.prog 44 #[.slice A n c] w fun e w' => e = .returned (.int .u16 (csum l)) ∧ Below w.heap.size w w' := by
  refine (callsIn_wide (n := 3)).1 ?_
  refine callsIn_of_wp_marks Try.func44 rfl trivial ?_ rfl
  simp only [Try.ntmps44, List.size_toArray, List.length_cons, List.length_nil, Nat.reduceAdd, Nat.reduceSub, Array.replicate_succ, Array.replicate_zero, List.push_toArray, List.append_toArray, List.nil_append, List.cons_append]
  gi_wp2_with (refine ⟨trivial, ?_⟩; gi_at_call 70; refine (callsIn_wide.2 (words_any A n c _)).mono ?_; rintro e w' ⟨rfl, rfl⟩)
  obtain ⟨W0, hW0⟩ : ∃ W0, ((w.alloc (Obj.cells #[Value.int IntKind.u64 0] 94)).alloc (Obj.cells #[Value.slice A n c] 25)) = W0 := ⟨_, rfl⟩
  have hsz : W0.heap.size = w.heap.size + 2 := by rw [← hW0]; simp
  have hbel : Below w.heap.size w W0 := by rw [← hW0]; exact ((Below.refl _ w).alloc (Nat.le_refl _) _).alloc (by simp) _
  have hn1 : W0.cell? ⟨w.heap.size, 0, none⟩ = some (.int .u64 0) := by rw [← hW0]; simp [go_sem]
  have hn2 : W0.frozen? ⟨w.heap.size, 0, none⟩ = false := by rw [← hW0]; simp [go_sem]
  have hn3 : W0.cell? ⟨w.heap.size + 1, 0, none⟩ = some (.slice A n c) := by rw [← hW0]; simp [go_sem]
  have hn4 : W0.frozen? ⟨w.heap.size + 1, 0, none⟩ = false := by rw [← hW0]; simp [go_sem]
  rw [hW0]
  clear hW0
  have hmax := hb.max
  have hlen := Lib.hid hb.len
  have hC : ∀ (k : Nat) (W : World) (u : Value), (W.cell? ⟨w.heap.size, 0, none⟩ = some (.int .u64 (wsK l k)) ∧ W.frozen? ⟨w.heap.size, 0, none⟩ = false) → ((W.setCell ⟨w.heap.size + 1, 0, none⟩ u).cell? ⟨w.heap.size, 0, none⟩ = some (.int .u64 (wsK l k)) ∧ (W.setCell ⟨w.heap.size + 1, 0, none⟩ u).frozen? ⟨w.heap.size, 0, none⟩ = false) := by
    rintro k W u ⟨h1, h2⟩
    exact ⟨by rw [World.cell?_setCell_other _ _ _ _ (by simp)]; exact h1, by rw [World.frozen?_setCell]; exact h2⟩
  refine range_law rfl (by omega) (gf := 84) (lb := #[.pointer (some ⟨w.heap.size + 1, 0, none⟩)]) rfl trivial (enters_of Try.func84 (by kernel_rfl) rfl)
    (fun x : Int => #[.int .u32 x]) (fun _ => rfl) (fun s _ => (s.1 + 1, s.2)) (0, .slice A n c) (fun s => n ≤ 2 * s.1 ∧ 2 * s.1 ≤ n + 1)
    (SumI w (w.heap.size + 1) fun k W => W.cell? ⟨w.heap.size, 0, none⟩ = some (.int .u64 (wsK l k)) ∧ W.frozen? ⟨w.heap.size, 0, none⟩ = false) (fun _ _ _ => False)
    ?hI (fun _ _ _ _ h => h) ?h0
    (fun x => { tmps := #[.slice A n c, undef, .int .u16 0, .pointer (some ⟨w.heap.size, 0, none⟩), .int .u32 x, .slice A n c, .func (.func 84) #[] #[.pointer (some ⟨w.heap.size + 1, 0, none⟩)], .int .u32 x, undef, undef, undef, undef, undef, undef, undef], defers := [] })
    ?assign (SumOk w l n) ?body ?iter ?done (fun _ _ _ h => h.elim)
  case hI =>
    rintro s W o ⟨⟨h1, h2⟩, h3, h4, h5⟩
    rw [hsz]
    exact ⟨⟨by rw [cell_putObj (by show w.heap.size ≠ _; omega)]; exact h1, by rw [frozen_putObj (by show w.heap.size ≠ _; omega)]; exact h2⟩, by rw [cell_putObj (by show w.heap.size + 1 ≠ _; omega)]; exact h3, by rw [frozen_putObj (by show w.heap.size + 1 ≠ _; omega)]; exact h4, below_putObj h5 (by omega) _⟩
  case h0 =>
    intro o o'
    have hb' : Below W0.heap.size W0 ((W0.alloc o).alloc o') := ((Below.refl _ W0).alloc (Nat.le_refl _) _).alloc (by simp) _
    exact ⟨⟨(hb'.cell (p := ⟨w.heap.size, 0, none⟩) (by show w.heap.size < _; omega)).trans hn1, (hb'.frozen (p := ⟨w.heap.size, 0, none⟩) (by show w.heap.size < _; omega)).trans hn2⟩,
      (hb'.cell (p := ⟨w.heap.size + 1, 0, none⟩) (by show w.heap.size + 1 < _; omega)).trans hn3, (hb'.frozen (p := ⟨w.heap.size + 1, 0, none⟩) (by show w.heap.size + 1 < _; omega)).trans hn4, hbel.trans (hb'.mono (by omega))⟩
  case assign =>
    intro x W K hK
    gi_wp2
    exact hK
  case body =>
    rintro s x W ⟨rfl, hk⟩ ⟨⟨h1, h2⟩, h3, h4, h5⟩ hz
    have y0 := wd_lo l s.1
    have y1 := wd_hi l s.1
    have x0 := wsK_lo l s.1
    have x1 := wsK_hi l s.1
    gi_wp2
    exact ⟨keeps_setCell _ _ _, ⟨World.cell?_setCell_same' _ _ _ (by rw [h1]; rfl), by rw [World.frozen?_setCell]; exact h2⟩, by rw [World.cell?_setCell_other _ _ _ _ (by simp)]; exact h3, by rw [World.frozen?_setCell]; exact h4, h5.setCell (p := ⟨w.heap.size, 0, none⟩) (Nat.le_refl _) _⟩
  case iter =>
    intro R Rx W1 hRk hRs hY h0 hR0 hz
    exact words1_in W0.heap.size (w.heap.size + 1) w l n hlen.out (by omega) (by omega) hmax _ R Rx hC hRk (fun s x W => hY s x W) W1 A c hb h0 hR0
  case done =>
    rintro s W ⟨hs1, hs2⟩ ⟨⟨h1, h2⟩, h3, h4, h5⟩ hK
    obtain ⟨k, v⟩ := s
    dsimp only at hs1 hs2 h1 h3
    have HW : Hid (65535 - fd (wsK l k) = csum l) := by
      unfold Hid csum ws
      rw [hlen.out, show (n + 1) / 2 = k from by omega]
    have x0 := wsK_lo l k
    have x1 := wsK_hi l k
    have hsg : IntKind.u16.signed = false := rfl
    have x3 := not_u16 (fd_lo (wsK l k)) (fd_hi _)
    gi_wp2_with (refine ⟨trivial, ?_⟩; gi_at_call 71; refine (callsIn_wide.2 (fold_any _ x0 (by omega) _)).mono ?_; rintro e w' ⟨rfl, rfl⟩)
    rw [hsz] at hK
    refine ⟨by simp, .inl ⟨_, _, rfl, run_takeDeferred hK, ?_⟩⟩
    refine ⟨_, results_tmp rfl _ _ _, ?_, below_putObj h5 (by omega) _⟩
    exact congrArg (fun z => Ending.returned (.int .u16 z)) HW.out
theorem good_any (A : Option Addr) (n c : Nat) (l : List UInt8) (w : World) (hb : Bs w A n c l) :
    Calls Try.prog 69 #[.slice A n c] w fun e w' => e = .returned (.bool (csum l == 0)) ∧ Below w.heap.size w w' := by
  go_enter Try.func69, Try.ntmps69
  go_wp2_with (go_at_call 44; refine (sum_any _ _ _ l _ hb).mono ?_; rintro e w1 ⟨rfl, hB⟩)
  go_ret
  exact ⟨rfl, hB⟩
end Go.Proofs.Ytjhgcnoijajffaa
namespace Go.Proofs.Ytjhgcnoijajffaa
open Go.RowKit
set_option linter.unusedVariables false
set_option linter.unusedSimpArgs false
set_option maxHeartbeats 4000000
set_option maxRecDepth 100000
theorem store478 {W : World} {r : Nat} {c0 c1 c2 c3 c4 c5 c6 c7 c8 : Value} {t : TypeId} (R : Blk W r #[c0, c1, c2, c3, c4, c5, c6, c7, c8] t) (v4 v7 v8 : Value) :
    ∃ wf, (((W.setCell ⟨r, 4, none⟩ v4).setCell ⟨r, 7, none⟩ v7).setCell ⟨r, 8, none⟩ v8) = wf ∧ Sto W r wf #[c0, c1, c2, c3, v4, c5, c6, v7, v8] t := by
  have h := (((Sto.nil R).set 4 v4).set 7 v7).set 8 v8
  simp only [List.setIfInBounds_toArray, List.set_cons_zero, List.set_cons_succ] at h
  exact ⟨_, rfl, h⟩
def isCat (lv : Value) (d : List UInt8) (w : World) : Prop := ∀ W, Below w.heap.size w W → Calls Try.prog 45 #[lv] W fun e w' => ∃ A n c, e = .returned (.slice A n c) ∧ Own w' W.heap.size 5 A n c d ∧ Below W.heap.size W w'
def isTup (B : Nat) (P : Pkt) (E : Int) : World → Value → Prop := fun W v => ∃ C1 e1 f1 C2 e2 f2, v = .tuple #[(.agg #[.int .u8 (P).tos, .int .u16 (P).id, .bool (P).keep, .int .u8 (P).ttl, .int .u8 (P).proto, .int .u32 (P).src, .int .u32 (P).dst, .slice C1 e1 f1, .slice C2 e2 f2]), .int .i64 E] ∧ Own W B 5 C1 e1 f1 P.opt ∧ Own W B 5 C2 e2 f2 P.dat
theorem st_isTup {B : Nat} {P : Pkt} {E : Int} : ∀ w w' v, isTup B P E w v → Below w.heap.size w w' → isTup B P E w' v := fun _ _ _ ⟨A, b, c, d, e, f, h, k, l⟩ hb => ⟨A, b, c, d, e, f, h, k.below hb, l.below hb⟩
def isPk (B : Nat) (P : Pkt) : World → Value → Prop := fun W v => ∃ C1 e1 f1 C2 e2 f2, v = (.agg #[.int .u8 (P).tos, .int .u16 (P).id, .bool (P).keep, .int .u8 (P).ttl, .int .u8 (P).proto, .int .u32 (P).src, .int .u32 (P).dst, .slice C1 e1 f1, .slice C2 e2 f2]) ∧ Own W B 5 C1 e1 f1 P.opt ∧ Own W B 5 C2 e2 f2 P.dat
theorem st_isPk {B : Nat} {P : Pkt} : ∀ w w' v, isPk B P w v → Below w.heap.size w w' → isPk B P w' v := fun _ _ _ ⟨A, b, c, d, e, f, h, k, l⟩ hb => ⟨A, b, c, d, e, f, h, k.below hb, l.below hb⟩
theorem goes_pk {B : Nat} {P : Pkt} {C1 C2 : Option Addr} {e1 f1 e2 f2 : Nat} {w : World} (h1 : Own w B 5 C1 e1 f1 P.opt) (h2 : Own w B 5 C2 e2 f2 P.dat) :
    OpGoes Try.prog (fun v w' => (Kd.p (isPk B P)).holds w' v ∧ Below w.heap.size w w') (.ok (.value (.agg #[.int .u8 (P).tos, .int .u16 (P).id, .bool (P).keep, .int .u8 (P).ttl, .int .u8 (P).proto, .int .u32 (P).src, .int .u32 (P).dst, .slice C1 e1 f1, .slice C2 e2 f2])) w) := ⟨⟨_, _, _, _, _, _, rfl, h1, h2⟩, Below.refl _ _⟩
theorem ret_tup {B : Nat} {P : Pkt} {E : Int} {C1 C2 : Option Addr} {e1 f1 e2 f2 : Nat} {w w' : World} (h1 : Own w' B 5 C1 e1 f1 P.opt) (h2 : Own w' B 5 C2 e2 f2 P.dat) (hB : Below w.heap.size w w') :
    ∃ v, Ending.returned (.tuple #[(.agg #[.int .u8 (P).tos, .int .u16 (P).id, .bool (P).keep, .int .u8 (P).ttl, .int .u8 (P).proto, .int .u32 (P).src, .int .u32 (P).dst, .slice C1 e1 f1, .slice C2 e2 f2]), .int .i64 E]) = .returned v ∧ (Kd.p (isTup B P E)).holds w' v ∧ Below w.heap.size w w' := ⟨_, rfl, ⟨_, _, _, _, _, _, rfl, h1, h2⟩, hB⟩
structure isC (L : List UInt8) (W : World) (v : Value) : Prop where
  out : ∀ W', Below W.heap.size W W' → Calls Try.prog 45 #[v] W' fun e w' => ∃ A n c, e = .returned (.slice A n c) ∧ Own w' W'.heap.size 5 A n c L ∧ Below W'.heap.size W' w'
theorem st_isC {L : List UInt8} : ∀ w w' v, isC L w v → Below w.heap.size w w' → isC L w' v := fun w w' v h hb => ⟨fun W hB => h.out W (below_then hb hB)⟩
theorem isCat3 {W0 : World} {g n1 c1 n2 c2 n3 c3 cc : Nat} {A1 A2 A3 : Option Addr} {l1 l2 l3 : List UInt8} {T : TypeId} (G : Blk W0 g #[.slice A1 n1 c1, .slice A2 n2 c2, .slice A3 n3 c3] T) (k1 : Bs W0 A1 n1 c1 l1) (k2 : Bs W0 A2 n2 c2 l2) (k3 : Bs W0 A3 n3 c3 l3) (h : n1 + n2 + n3 ≤ 200000000000000) :
    isCat (.slice (some ⟨g, 0, none⟩) 3 cc) (l1 ++ l2 ++ l3) W0 := by
  intro W hB
  have G' := G.below hB
  have gc := G'.cell.1
  have := concat_any g 3 cc (fun j => if j = 0 then A1 else if j = 1 then A2 else A3) (fun j => if j = 0 then n1 else if j = 1 then n2 else n3) (fun j => if j = 0 then c1 else if j = 1 then c2 else c3) (fun j => if j = 0 then l1 else if j = 1 then l2 else l3) (by omega) W G'.lt (fun j hj => by
      rw [gc]
      have : j = 0 ∨ j = 1 ∨ j = 2 := by omega
      rcases this with rfl | rfl | rfl <;> rfl) (fun j hj => by
      have : j = 0 ∨ j = 1 ∨ j = 2 := by omega
      rcases this with rfl | rfl | rfl
      · exact k1.below hB
      · exact k2.below hB
      · exact k3.below hB) (by simp [catN]; omega)
  exact this
theorem isCat2' {W0 : World} {g n1 c1 n2 c2 cc : Nat} {A1 A2 : Option Addr} {l1 l2 : List UInt8} {T : TypeId} (G : Blk W0 g #[.slice A1 n1 c1, .slice A2 n2 c2] T) (k1 : Bs W0 A1 n1 c1 l1) (k2 : Bs W0 A2 n2 c2 l2) (h : n1 + n2 ≤ 200000000000000) :
    isCat (.slice (some ⟨g, 0, none⟩) 2 cc) (l1 ++ l2) W0 := by
  intro W hB
  have G' := G.below hB
  have gc := G'.cell.1
  have := concat_any g 2 cc (fun j => if j = 0 then A1 else A2) (fun j => if j = 0 then n1 else n2) (fun j => if j = 0 then c1 else c2) (fun j => if j = 0 then l1 else l2) (by omega) W G'.lt (fun j hj => by
      rw [gc]
      have : j = 0 ∨ j = 1 := by omega
      rcases this with rfl | rfl <;> rfl) (fun j hj => by
      have : j = 0 ∨ j = 1 := by omega
      rcases this with rfl | rfl
      · exact k1.below hB
      · exact k2.below hB) (by simp [catN]; omega)
  exact this
theorem goes_cat3 {W : World} {n1 c1 n2 c2 n3 c3 : Nat} {A1 A2 A3 : Option Addr} {l1 l2 l3 : List UInt8} {T : TypeId} (k1 : Bs W A1 n1 c1 l1) (k2 : Bs W A2 n2 c2 l2) (k3 : Bs W A3 n3 c3 l3) (h : n1 + n2 + n3 ≤ 200000000000000) :
    OpGoes Try.prog (fun v w' => (Kd.p (isC (l1 ++ (l2 ++ l3)))).holds w' v ∧ Below W.heap.size W w') (.ok (.value (.slice (some ⟨W.heap.size, 0, none⟩) 3 3)) (W.alloc (.cells #[.slice A1 n1 c1, .slice A2 n2 c2, .slice A3 n3 c3] T))) :=
  ⟨⟨by rw [← List.append_assoc]; exact isCat3 (blk_new W _ T _ rfl) (k1.alloc _) (k2.alloc _) (k3.alloc _) h⟩, (Below.refl _ W).alloc (Nat.le_refl _) _⟩
theorem goes_mkb {W : World} {z : Nat} (hz : z ≤ 200000000000000) :
    OpGoes Try.prog (fun v w' => (Kd.b z (zs z)).holds w' v ∧ Below W.heap.size W w') (.ok (.value (.slice (some ⟨W.heap.size, 0, none⟩) z z)) (W.alloc (.cells (cu (zs z)).toArray 5))) :=
  ⟨⟨_, _, rfl, bs_lit (zs z) z (zs_length z) hz⟩, (Below.refl _ W).alloc (Nat.le_refl _) _⟩
theorem psum_more (p : Pkt) (pr : Int) (b : List UInt8) (k : Nat) : csum (pseudo p.src p.dst pr b.length ++ b ++ zs k) = psum p pr b := by rw [csum_behind]; rfl
theorem fits_any (p : Pkt) (hp : p.Ok) (A1 : Option Addr) (n1 c1 : Nat) (A2 : Option Addr) (n2 c2 : Nat) (pr : Int) (p0 : 0 ≤ pr) (p1 : pr ≤ 255) (w : World) (k2 : Bs w A2 n2 c2 p.dat) (hn2 : n2 ≤ 140737488400000) :
    Calls Try.prog 41 #[(.agg #[.int .u8 (p).tos, .int .u16 (p).id, .bool (p).keep, .int .u8 (p).ttl, .int .u8 (p).proto, .int .u32 (p).src, .int .u32 (p).dst, .slice A1 n1 c1, .slice A2 n2 c2]), .int .u8 pr] w fun e w' => e = .returned (.bool (psum p pr p.dat == 0)) ∧ Below w.heap.size w w' := by
  have l2 := k2.len
  have HS : Hid (csum (pseudo p.src p.dst pr n2 ++ (p.dat ++ zs (n2 % 2))) = psum p pr p.dat) := by unfold Hid; rw [← l2, ← List.append_assoc]; exact psum_more p pr p.dat _
  obtain ⟨-, -, -, -, ⟨o5, o5'⟩, ⟨o6, o6'⟩⟩ := hp
  have hrem : ((n2 : Int)).tmod 2 = ((n2 % 2 : Nat) : Int) := by rw [Int.tmod_eq_emod_of_nonneg (by omega)]; omega
  obtain ⟨z, hz⟩ : ∃ z : Nat, n2 % 2 = z := ⟨_, rfl⟩
  rw [hz] at hrem HS
  have hz1 : z ≤ 1 := by omega
  have hmk : ∀ W, (Instr.makeSlice 25 (.int .i64 (z : Int)) (.int .i64 (z : Int))).run Try.prog W = .ok (.slice (some ⟨W.heap.size, 0, none⟩) z z) (W.alloc (.cells (cu (zs z)).toArray 5)) := fun W => by
    obtain ⟨i, hi, hz', hs, hb⟩ := info_parts info_u8
    have hr := run_make (P := Try.prog) W 25 5 i (.int .u8 0) Try.underlying25 hi hz' .i64 .i64 z z (by omega) (by omega) (by rw [hb]; omega) (by omega)
    simp only [hs, Nat.mul_one] at hr
    rw [hr, cu_zs]
    rfl
  clear l2 hz
  obtain ⟨k, hk, w1, hw1, P1, R1⟩ := nwI1 w #[.int .u8 (p).tos, .int .u16 (p).id, .bool (p).keep, .int .u8 (p).ttl, .int .u8 (p).proto, .int .u32 (p).src, .int .u32 (p).dst, .slice A1 n1 c1, .slice A2 n2 c2] 27
  have Pc1 := P1.cell
  have Pl1 := P1.lt
  have x1 := (k2).below R1
  clear k2
  go_enter Try.func41, Try.ntmps41
  go_wp2_with fail
  refine region_txt 19 (by kernel_rfl) (by kernel_rfl) ?_; (iterate 19 (first | (apply ObsK.skip (by rfl)) | (apply ObsK.v (by rfl); (intro wo hT; (repeat (first | (intro v hv; ((first | (obtain ⟨A7, n7, c7, rfl, o7⟩ := hv; have ob7 := o7.bs) | (have hcat := hv.out)))) | (intro _ _ k; try have hcv := cv k))); (have pc := (P1.below hT).cell; have xo := x1.below hT; have hsz : w1.heap.size ≤ wo.heap.size := hT.size); refine Goes.mk ?_; go_simp; first | exact goes_v | exact goes_b (by assumption) | (first | exact goes_mkb (by omega) | exact goes_cat3 (by assumption) (by assumption) (by assumption) (by omega)) | (refine goes_enter ?_; first | (go_at_call 46; ((with_reducible refine (pseudo_any p.src p.dst pr n2 o5 o5' o6 o6' p0 p1 (by omega) (by omega) wo).mono ?_); rintro e w9 ⟨A9, c9, rfl, ho9, hB9⟩); exact ret_b ho9.bs hB9) | (go_at_call 45; ((with_reducible refine (hcat wo (Below.refl _ _)).mono ?_); rintro e w9 ⟨A9, n9, c9, rfl, ho9, hB9⟩); exact ret_p (own_isW ho9 hsz) hB9) | (go_at_call 69; ((with_reducible refine (good_any A7 n7 c7 _ wo ob7).mono ?_); rintro e w9 ⟨rfl, hB9⟩); exact ret_v hB9)))) | (apply ObsK.b (by rfl); (intro wo hT; (repeat (first | (intro v hv; ((first | (obtain ⟨A7, n7, c7, rfl, o7⟩ := hv; have ob7 := o7.bs) | (have hcat := hv.out)))) | (intro _ _ k; try have hcv := cv k))); (have pc := (P1.below hT).cell; have xo := x1.below hT; have hsz : w1.heap.size ≤ wo.heap.size := hT.size); refine Goes.mk ?_; go_simp; first | exact goes_v | exact goes_b (by assumption) | (first | exact goes_mkb (by omega) | exact goes_cat3 (by assumption) (by assumption) (by assumption) (by omega)) | (refine goes_enter ?_; first | (go_at_call 46; ((with_reducible refine (pseudo_any p.src p.dst pr n2 o5 o5' o6 o6' p0 p1 (by omega) (by omega) wo).mono ?_); rintro e w9 ⟨A9, c9, rfl, ho9, hB9⟩); exact ret_b ho9.bs hB9) | (go_at_call 45; ((with_reducible refine (hcat wo (Below.refl _ _)).mono ?_); rintro e w9 ⟨A9, n9, c9, rfl, ho9, hB9⟩); exact ret_p (own_isW ho9 hsz) hB9) | (go_at_call 69; ((with_reducible refine (good_any A7 n7 c7 _ wo ob7).mono ?_); rintro e w9 ⟨rfl, hB9⟩); exact ret_v hB9)))) | (apply ObsK.p (q := isC (pseudo p.src p.dst pr n2 ++ (p.dat ++ zs z))) (by rfl) st_isC; (intro wo hT; (repeat (first | (intro v hv; ((first | (obtain ⟨A7, n7, c7, rfl, o7⟩ := hv; have ob7 := o7.bs) | (have hcat := hv.out)))) | (intro _ _ k; try have hcv := cv k))); (have pc := (P1.below hT).cell; have xo := x1.below hT; have hsz : w1.heap.size ≤ wo.heap.size := hT.size); refine Goes.mk ?_; go_simp; first | exact goes_v | exact goes_b (by assumption) | (first | exact goes_mkb (by omega) | exact goes_cat3 (by assumption) (by assumption) (by assumption) (by omega)) | (refine goes_enter ?_; first | (go_at_call 46; ((with_reducible refine (pseudo_any p.src p.dst pr n2 o5 o5' o6 o6' p0 p1 (by omega) (by omega) wo).mono ?_); rintro e w9 ⟨A9, c9, rfl, ho9, hB9⟩); exact ret_b ho9.bs hB9) | (go_at_call 45; ((with_reducible refine (hcat wo (Below.refl _ _)).mono ?_); rintro e w9 ⟨A9, n9, c9, rfl, ho9, hB9⟩); exact ret_p (own_isW ho9 hsz) hB9) | (go_at_call 69; ((with_reducible refine (good_any A7 n7 c7 _ wo ob7).mono ?_); rintro e w9 ⟨rfl, hB9⟩); exact ret_v hB9)))) | (apply ObsK.p (q := isW w1.heap.size (pseudo p.src p.dst pr n2 ++ (p.dat ++ zs z))) (by rfl) st_isW; (intro wo hT; (repeat (first | (intro v hv; ((first | (obtain ⟨A7, n7, c7, rfl, o7⟩ := hv; have ob7 := o7.bs) | (have hcat := hv.out)))) | (intro _ _ k; try have hcv := cv k))); (have pc := (P1.below hT).cell; have xo := x1.below hT; have hsz : w1.heap.size ≤ wo.heap.size := hT.size); refine Goes.mk ?_; go_simp; first | exact goes_v | exact goes_b (by assumption) | (first | exact goes_mkb (by omega) | exact goes_cat3 (by assumption) (by assumption) (by assumption) (by omega)) | (refine goes_enter ?_; first | (go_at_call 46; ((with_reducible refine (pseudo_any p.src p.dst pr n2 o5 o5' o6 o6' p0 p1 (by omega) (by omega) wo).mono ?_); rintro e w9 ⟨A9, c9, rfl, ho9, hB9⟩); exact ret_b ho9.bs hB9) | (go_at_call 45; ((with_reducible refine (hcat wo (Below.refl _ _)).mono ?_); rintro e w9 ⟨A9, n9, c9, rfl, ho9, hB9⟩); exact ret_p (own_isW ho9 hsz) hB9) | (go_at_call 69; ((with_reducible refine (good_any A7 n7 c7 _ wo ob7).mono ?_); rintro e w9 ⟨rfl, hB9⟩); exact ret_v hB9)))))); refine ObsK.nil ?_; intro wz hBz; simp only [finOn, List.drop_succ_cons, List.drop_zero, List.drop_nil]
  rintro v7 ⟨A7, n7, c7, rfl, o7⟩ v8 hv8 A5 c5 k5 A6 c6 k6
  go_simp
  go_wp2_with fail
  go_ret
  exact ⟨congrArg (fun z => Ending.returned (.bool (z == 0))) HS.out, below_then R1 hBz⟩
theorem ssum_any (p : Pkt) (hp : p.Ok) (A1 : Option Addr) (n1 c1 : Nat) (A2 : Option Addr) (n2 c2 : Nat) (pr : Int) (p0 : 0 ≤ pr) (p1 : pr ≤ 255) (A3 : Option Addr) (n3 c3 : Nat) (b : List UInt8) (w : World) (k3 : Bs w A3 n3 c3 b) (hn3 : n3 ≤ 140737488400000) :
    Calls Try.prog 20 #[(.agg #[.int .u8 (p).tos, .int .u16 (p).id, .bool (p).keep, .int .u8 (p).ttl, .int .u8 (p).proto, .int .u32 (p).src, .int .u32 (p).dst, .slice A1 n1 c1, .slice A2 n2 c2]), .int .u8 pr, .slice A3 n3 c3] w fun e w' => e = .returned (.int .u16 (psum p pr b)) ∧ Below w.heap.size w w' := by
  have l3 := k3.len
  have HS : Hid (csum (pseudo p.src p.dst pr n3 ++ b) = psum p pr b) := by unfold Hid psum; rw [l3]
  obtain ⟨-, -, -, -, ⟨o5, o5'⟩, ⟨o6, o6'⟩⟩ := hp
  clear l3
  obtain ⟨k, hk, w1, hw1, P1, R1⟩ := nwI1 w #[.int .u8 (p).tos, .int .u16 (p).id, .bool (p).keep, .int .u8 (p).ttl, .int .u8 (p).proto, .int .u32 (p).src, .int .u32 (p).dst, .slice A1 n1 c1, .slice A2 n2 c2] 27
  have Pc1 := P1.cell
  have Pl1 := P1.lt
  have x1 := (k3).below R1
  clear k3
  go_enter Try.func20, Try.ntmps20
  go_wp2_with (first
    | (go_at_call 46; ((with_reducible refine (pseudo_any p.src p.dst pr n3 o5 o5' o6 o6' p0 p1 (by omega) (by omega) _).mono ?_); rintro e w2 ⟨A2, c2, rfl, o2, hB2⟩); have y2 := o2.bs; have P2 := P1.below hB2; have Pc2 := P2.cell; clear Pc1; have x2 := x1.below hB2; have R2 := below_then R1 hB2; have G := isC.mk (isCat2' (cc := 2) (blk_new w2 #[.slice A2 12 c2, .slice A3 n3 c3] 25 _ rfl) (y2.alloc _) (x2.alloc _) (by omega)))
    | (go_at_call 45; ((with_reducible refine (G.out _ (Below.refl _ _)).mono ?_); rintro e w3 ⟨A9, n9, c9, rfl, ho9, hB9⟩); have R3 := below_then (below_alloc R2 (Nat.le_refl _) _) hB9)
    | (go_at_call 44; ((with_reducible refine (sum_any A9 n9 c9 _ _ ho9.bs).mono ?_); rintro e w4 ⟨rfl, hB4⟩)))
  go_ret
  exact ⟨congrArg (fun z => Ending.returned (.int .u16 z)) HS.out, below_then R3 hB4⟩
structure SwPost (w : World) (p : Pkt) (pr : Int) (A3 : Option Addr) (n3 c3 : Nat) (e : Ending) (w' : World) : Prop where
  out : ∃ A4 n4 c4, e = .returned (.tuple #[.agg #[.int .u8 p.tos, .int .u16 p.id, .bool p.keep, .int .u8 p.ttl, .int .u8 pr, .int .u32 p.src, .int .u32 p.dst, .slice A4 n4 c4, .slice A3 n3 c3], .int .i64 0]) ∧ Own w' w.heap.size 5 A4 n4 c4 p.opt ∧ Below w.heap.size w w'
theorem swith_no (p : Pkt) (A1 : Option Addr) (n1 c1 : Nat) (A2 : Option Addr) (n2 c2 : Nat) (pr : Int) (A3 : Option Addr) (n3 c3 : Nat) (d : List UInt8) (w : World) (k1 : Bs w A1 n1 c1 p.opt) (k3 : Bs w A3 n3 c3 d) (E : Int)
    (h : (E = 4 ∧ 40 < (n1 : Int)) ∨ (E = 4 ∧ (n1 : Int) ≤ 40 ∧ ((n1 : Int) % 4 != 0) = true) ∨ (E = 8 ∧ (n1 : Int) ≤ 40 ∧ ((n1 : Int) % 4 != 0) = false ∧ rightP { p with proto := pr, dat := d } = false)) :
    Calls Try.prog 19 #[(.agg #[.int .u8 (p).tos, .int .u16 (p).id, .bool (p).keep, .int .u8 (p).ttl, .int .u8 (p).proto, .int .u32 (p).src, .int .u32 (p).dst, .slice A1 n1 c1, .slice A2 n2 c2]), .int .u8 pr, .slice A3 n3 c3] w (WiPost w zP E) := by
  have b1 := k1.max
  have hr := fun W A4 c4 k k3 => right_any { p with proto := pr, dat := d } A4 n1 c4 A3 n3 c3 W k k3
  obtain ⟨k, hk, w1, hw1, P1, Z1, R1⟩ := nwI2 w #[.int .u8 (p).tos, .int .u16 (p).id, .bool (p).keep, .int .u8 (p).ttl, .int .u8 (p).proto, .int .u32 (p).src, .int .u32 (p).dst, .slice A1 n1 c1, .slice A2 n2 c2] 27 #[.int .u8 0, .int .u16 0, .bool false, .int .u8 0, .int .u8 0, .int .u32 0, .int .u32 0, .slice none 0 0, .slice none 0 0] 27
  have Pc1 := P1.cell
  have Zc1 := Z1.cell
  have Pl1 := P1.lt
  have Zl1 := Z1.lt
  have x1 := (k1).below R1
  have y1 := (k3).below R1
  clear k1
  rcases h with ⟨rfl, h1⟩ | ⟨rfl, h1, h2⟩ | ⟨rfl, h1, h2, h3⟩
  · go_enter Try.func19, Try.ntmps19
    go_wp2_with (first
      | (go_at_call 42; ((with_reducible refine (clone_any A1 n1 c1 p.opt _ x1).mono ?_); rintro e w2 ⟨A4, c4, rfl, ho4, hB2⟩); have P2 := P1.below hB2; have Pc2 := P2.cell; have Z2 := Z1.below hB2; (obtain ⟨w5, hw5, S5⟩ := store478 P2 (.int .u8 pr) (.slice A4 n1 c4) (.slice A3 n3 c3)); have pc5 := S5.blk.cell; have T5 := S5.bel (below_then R1 hB2) (by omega); have Z5 := S5.other (by omega) Z2; have zc5 := Z5.cell)
      | fail)
    obtain ⟨wf, hwf, Sf⟩ := store9 Z5 (.int .u8 0) (.int .u16 0) (.bool false) (.int .u8 0) (.int .u8 0) (.int .u32 0) (.int .u32 0) (.slice none 0 0) (.slice none 0 0)
    rw [hwf]
    have pf := Sf.blk.cell
    exact bodyPost_ret (by simp [results, Try.results19, go_sem, pf]) rfl (wiPost_no (Sf.bel T5 (by omega)))
  · go_enter Try.func19, Try.ntmps19
    go_wp2_with (first
      | (go_at_call 42; ((with_reducible refine (clone_any A1 n1 c1 p.opt _ x1).mono ?_); rintro e w2 ⟨A4, c4, rfl, ho4, hB2⟩); have P2 := P1.below hB2; have Pc2 := P2.cell; have Z2 := Z1.below hB2; (obtain ⟨w5, hw5, S5⟩ := store478 P2 (.int .u8 pr) (.slice A4 n1 c4) (.slice A3 n3 c3)); have pc5 := S5.blk.cell; have T5 := S5.bel (below_then R1 hB2) (by omega); have Z5 := S5.other (by omega) Z2; have zc5 := Z5.cell)
      | fail)
    obtain ⟨wf, hwf, Sf⟩ := store9 Z5 (.int .u8 0) (.int .u16 0) (.bool false) (.int .u8 0) (.int .u8 0) (.int .u32 0) (.int .u32 0) (.slice none 0 0) (.slice none 0 0)
    rw [hwf]
    have pf := Sf.blk.cell
    exact bodyPost_ret (by simp [results, Try.results19, go_sem, pf]) rfl (wiPost_no (Sf.bel T5 (by omega)))
  · rw [h3] at hr
    clear h3
    go_enter Try.func19, Try.ntmps19
    go_wp2_with (first
      | (go_at_call 42; ((with_reducible refine (clone_any A1 n1 c1 p.opt _ x1).mono ?_); rintro e w2 ⟨A4, c4, rfl, ho4, hB2⟩); have P2 := P1.below hB2; have Pc2 := P2.cell; have Z2 := Z1.below hB2; (obtain ⟨w5, hw5, S5⟩ := store478 P2 (.int .u8 pr) (.slice A4 n1 c4) (.slice A3 n3 c3)); have pc5 := S5.blk.cell; have T5 := S5.bel (below_then R1 hB2) (by omega); have Z5 := S5.other (by omega) Z2; have zc5 := Z5.cell; have O5 := S5.own ho4 (fun a e => by have := ho4.ge a e; omega); have y5 := k3.below T5)
      | (go_at_call 43; ((with_reducible refine (hr w5 A4 c4 O5.bs y5).mono ?_); rintro e w6 ⟨rfl, hB6⟩); have Z6 := Z5.below hB6; have zc6 := Z6.cell; have T6 := below_then T5 hB6))
    obtain ⟨wf, hwf, Sf⟩ := store9 Z6 (.int .u8 0) (.int .u16 0) (.bool false) (.int .u8 0) (.int .u8 0) (.int .u32 0) (.int .u32 0) (.slice none 0 0) (.slice none 0 0)
    rw [hwf]
    have pf := Sf.blk.cell
    exact bodyPost_ret (by simp [results, Try.results19, go_sem, pf]) rfl (wiPost_no (Sf.bel T6 (by omega)))
theorem swith_ok (p : Pkt) (A1 : Option Addr) (n1 c1 : Nat) (A2 : Option Addr) (n2 c2 : Nat) (pr : Int) (A3 : Option Addr) (n3 c3 : Nat) (d : List UInt8) (w : World) (k1 : Bs w A1 n1 c1 p.opt) (k3 : Bs w A3 n3 c3 d) (h : wiE p n3 = 0) :
    Calls Try.prog 19 #[(.agg #[.int .u8 (p).tos, .int .u16 (p).id, .bool (p).keep, .int .u8 (p).ttl, .int .u8 (p).proto, .int .u32 (p).src, .int .u32 (p).dst, .slice A1 n1 c1, .slice A2 n2 c2]), .int .u8 pr, .slice A3 n3 c3] w (SwPost w p pr A3 n3 c3) := by
  have b1 := k1.max
  have l1 := k1.len
  have l3 := k3.len
  have hq : p.opt.length ≤ 40 ∧ p.opt.length % 4 = 0 ∧ 20 + p.opt.length + n3 ≤ 65535 := by
    unfold wiE at h
    split at h
    · omega
    · split at h <;> omega
  have hr := fun W A4 c4 k k3 => right_any { p with proto := pr, dat := d } A4 n1 c4 A3 n3 c3 W k k3
  rw [show rightP { p with proto := pr, dat := d } = true from by unfold rightP; simp [l3]; omega] at hr
  have h1 : (n1 : Int) ≤ 40 := by omega
  have h2 : ((n1 : Int) % 4 != 0) = false := by simp; omega
  clear hq h l1 l3
  obtain ⟨k, hk, w1, hw1, P1, Z1, R1⟩ := nwI2 w #[.int .u8 (p).tos, .int .u16 (p).id, .bool (p).keep, .int .u8 (p).ttl, .int .u8 (p).proto, .int .u32 (p).src, .int .u32 (p).dst, .slice A1 n1 c1, .slice A2 n2 c2] 27 #[.int .u8 0, .int .u16 0, .bool false, .int .u8 0, .int .u8 0, .int .u32 0, .int .u32 0, .slice none 0 0, .slice none 0 0] 27
  have Pc1 := P1.cell
  have Zc1 := Z1.cell
  have Pl1 := P1.lt
  have Zl1 := Z1.lt
  have x1 := (k1).below R1
  have y1 := (k3).below R1
  clear k1
  go_enter Try.func19, Try.ntmps19
  go_wp2_with (first
    | (go_at_call 42; ((with_reducible refine (clone_any A1 n1 c1 p.opt _ x1).mono ?_); rintro e w2 ⟨A4, c4, rfl, ho4, hB2⟩); have P2 := P1.below hB2; have Pc2 := P2.cell; have Z2 := Z1.below hB2; (obtain ⟨w5, hw5, S5⟩ := store478 P2 (.int .u8 pr) (.slice A4 n1 c4) (.slice A3 n3 c3)); have pc5 := S5.blk.cell; have T5 := S5.bel (below_then R1 hB2) (by omega); have Z5 := S5.other (by omega) Z2; have zc5 := Z5.cell; have O5 := S5.own ho4 (fun a e => by have := ho4.ge a e; omega); have y5 := k3.below T5)
    | (go_at_call 43; ((with_reducible refine (hr w5 A4 c4 O5.bs y5).mono ?_); rintro e w6 ⟨rfl, hB6⟩); have P6 := (S5.blk).below hB6; have pc6 := P6.cell; have Z6 := Z5.below hB6; have zc6 := Z6.cell; have T6 := below_then T5 hB6; have O6 := O5.below hB6))
  obtain ⟨wf, hwf, Sf⟩ := store9 Z6 (.int .u8 p.tos) (.int .u16 p.id) (.bool p.keep) (.int .u8 p.ttl) (.int .u8 pr) (.int .u32 p.src) (.int .u32 p.dst) (.slice A4 n1 c4) (.slice A3 n3 c3)
  rw [hwf]
  have pf := Sf.blk.cell
  have Of := Sf.own O6 (fun a e => by have := ho4.ge a e; omega)
  have r1 := R1.size
  exact bodyPost_ret (v := .tuple #[.agg #[.int .u8 p.tos, .int .u16 p.id, .bool p.keep, .int .u8 p.ttl, .int .u8 pr, .int .u32 p.src, .int .u32 p.dst, .slice A4 n1 c4, .slice A3 n3 c3], .int .i64 0]) (by simp [results, Try.results19, go_sem, pf]) rfl ⟨A4, n1, c4, rfl, Of.mono (by omega), Sf.bel T6 (by omega)⟩
theorem swith_bad (p : Pkt) (A1 : Option Addr) (n1 c1 : Nat) (A2 : Option Addr) (n2 c2 : Nat) (pr : Int) (A3 : Option Addr) (n3 c3 : Nat) (d : List UInt8) (w : World) (k1 : Bs w A1 n1 c1 p.opt) (k3 : Bs w A3 n3 c3 d) (h : wiE p n3 ≠ 0) :
    Calls Try.prog 19 #[(.agg #[.int .u8 (p).tos, .int .u16 (p).id, .bool (p).keep, .int .u8 (p).ttl, .int .u8 (p).proto, .int .u32 (p).src, .int .u32 (p).dst, .slice A1 n1 c1, .slice A2 n2 c2]), .int .u8 pr, .slice A3 n3 c3] w (WiPost w zP (wiE p n3)) := by
  have l1 := k1.len
  have l3 := k3.len
  by_cases h1 : (n1 : Int) ≤ 40
  · by_cases h2 : n1 % 4 = 0
    · by_cases h3 : 20 + (n1 : Int) + (n3 : Int) ≤ 65535
      · exact absurd (wiE_0 l1 h1 h2 h3) h
      · rw [wiE_8 l1 h1 h2 (by omega)]
        exact swith_no p A1 n1 c1 A2 n2 c2 pr A3 n3 c3 d w k1 k3 8 (.inr (.inr ⟨rfl, h1, m4_no h2, by unfold rightP; simp [l1, l3]; omega⟩))
    · rw [wiE_4 l1 (.inr h2)]
      exact swith_no p A1 n1 c1 A2 n2 c2 pr A3 n3 c3 d w k1 k3 4 (.inr (.inl ⟨rfl, h1, m4_yes h2⟩))
  · rw [wiE_4 l1 (.inl (by omega))]
    exact swith_no p A1 n1 c1 A2 n2 c2 pr A3 n3 c3 d w k1 k3 4 (.inl ⟨rfl, by omega⟩)
set_option maxRecDepth 100000

set_option maxHeartbeats 1000000
def isExt : Op → Bool
  | .extract .. => true
  | _ => false
def lateL (m z s : Nat) : Array Bool := Array.ofFn fun i : Fin s => decide (i.val < m) && i.val != z
def upZ (ops : Array Oper) (lo hi z j : Nat) : Bool := (List.range (hi + 1 - lo)).any fun k => lo + k != z && match ops[lo + k]? with
  | some o => hasOn o j
  | none => false
def regZ (ops : Array Oper) (m z n : Nat) : Bool :=
  decide (m ≤ ops.size) && decide (z < m) && (List.range m).all (mainB ops m n) && (List.range ops.size).all (downB ops) &&
    ((List.range m).all fun j => j == z || upZ ops (j + 1) m z j) && ((List.range (ops.size - 1 - m)).all fun k => upB ops (m + k + 1) (m + k + 1) (m + k)) &&
    Region.noSelect ops && Region.free .any ops (lateL m z ops.size) z && (Region.ready .any ops (lateL m z ops.size)).contains z &&
    (match ops[z]? with
      | some o => isExt o.op && o.guard.isNone
      | none => false)
structure RegOkZ (ops : Array Oper) (m z n : Nat) : Prop where
  le : m ≤ ops.size
  zlt : z < m
  main : ∀ i o, i < m → ops[i]? = some o → ∃ t, o.dst = some t ∧ t < n ∧ (∀ j, j < i → dstOf ops j ≠ some t) ∧ isSel o.op = false ∧
    (∀ s, .tmp s ∈ o.op.operands → ∀ j, j < m → dstOf ops j = some s → hasOn o j = true ∧ j < i) ∧ (∀ g b, o.guard = some (g, b) → hasOn o g = true ∧ g < i)
  down : ∀ i o, ops[i]? = some o → ∀ e ∈ o.after, Region.binds .any e = true → e.on < i
  up : ∀ j, j < m → j ≠ z → ∃ k o, j < k ∧ k ≤ m ∧ k ≠ z ∧ ops[k]? = some o ∧ hasOn o j = true
  tail : ∀ k, m ≤ k → k + 1 < ops.size → ∃ o, ops[k + 1]? = some o ∧ hasOn o k = true
  nosel : Region.noSelect ops = true
  free : Region.free .any ops (lateL m z ops.size) z = true
  rdy : (Region.ready .any ops (lateL m z ops.size)).contains z = true
  ext : ∀ o, ops[z]? = some o → isExt o.op = true ∧ o.guard = none
theorem upZ_out {ops : Array Oper} {lo hi z j : Nat} (h : upZ ops lo hi z j = true) : ∃ k o, lo ≤ k ∧ k ≤ hi ∧ k ≠ z ∧ ops[k]? = some o ∧ hasOn o j = true := by
  obtain ⟨k, hk, hh⟩ := List.any_eq_true.1 h
  have := List.mem_range.1 hk
  simp only [Bool.and_eq_true, bne_iff_ne, ne_eq] at hh
  obtain ⟨hz, hh⟩ := hh
  cases ho : ops[lo + k]? with
  | none => rw [ho] at hh; cases hh
  | some o => rw [ho] at hh; exact ⟨lo + k, o, by omega, by omega, hz, ho, hh⟩
theorem regZ_out {ops : Array Oper} {m z n : Nat} (h : regZ ops m z n = true) : RegOkZ ops m z n := by
  unfold regZ at h
  simp only [Bool.and_eq_true, decide_eq_true_eq, List.all_eq_true, List.mem_range, Bool.or_eq_true, beq_iff_eq] at h
  obtain ⟨⟨⟨⟨⟨⟨⟨⟨⟨h1, hz⟩, h2⟩, h3⟩, h4⟩, h5⟩, h6⟩, h7⟩, h8⟩, h9⟩ := h
  refine ⟨h1, hz, fun i o hi ho => ?_, fun i o ho e he hb => ?_, fun j hj hjz => ?_, fun k hk hk1 => ?_, h6, h7, h8, fun o ho => ?_⟩
  · have := h2 i hi
    unfold mainB at this
    rw [ho] at this
    simp only [Bool.and_eq_true] at this
    obtain ⟨⟨⟨a1, a2⟩, a3⟩, a4⟩ := this
    cases ht : o.dst with
    | none => rw [ht] at a1; cases a1
    | some t =>
      rw [ht] at a1
      simp only [Bool.and_eq_true, decide_eq_true_eq, List.all_eq_true, List.mem_range, bne_iff_ne, ne_eq] at a1
      refine ⟨t, rfl, a1.1, a1.2, by simpa using a2, fun s hs j hj hd => ?_, fun g b hg => ?_⟩
      · rw [Array.all_eq_true] at a3
        obtain ⟨q, hq, hqs⟩ := Array.mem_iff_getElem.1 hs
        have := a3 q hq
        rw [hqs] at this
        simp only [List.all_eq_true, List.mem_range, Bool.or_eq_true, bne_iff_ne, ne_eq, Bool.and_eq_true, decide_eq_true_eq] at this
        exact (this j hj).resolve_left (fun h => h hd)
      · rw [hg] at a4
        simpa using a4
  · have hi : i < ops.size := (Array.getElem?_eq_some_iff.1 ho).1
    have := h3 i hi
    unfold downB at this
    rw [ho] at this
    simp only [Array.all_eq_true] at this
    obtain ⟨k, hk, rfl⟩ := Array.mem_iff_getElem.1 he
    have := this k hk
    rw [hb] at this
    simpa using this
  · obtain ⟨k, o, k1, k2, kz, k3, k4⟩ := upZ_out ((h4 j hj).resolve_left hjz)
    exact ⟨k, o, by omega, k2, kz, k3, k4⟩
  · have := h5 (k - m) (by omega)
    rw [show m + (k - m) = k from by omega] at this
    obtain ⟨q, o, k1, k2, k3, k4⟩ := upB_out this
    obtain rfl : q = k + 1 := by omega
    exact ⟨o, k3, k4⟩
  · rw [ho] at h9
    simp only [Bool.and_eq_true, Option.isNone_iff_eq_none] at h9
    exact h9
theorem dst_injZ {ops : Array Oper} {m z n : Nat} (h : RegOkZ ops m z n) {i j : Nat} {t : Tmp} (im : i < m) (jm : j < m) (hi : dstOf ops i = some t) (hj : dstOf ops j = some t) : i = j := by
  have key : ∀ i j, j < m → dstOf ops i = some t → dstOf ops j = some t → i < j → False := by
    intro i j jm hi hj hlt
    obtain ⟨o, ho, hd⟩ := dstOf_some hj
    obtain ⟨s, hs, _, hne, _⟩ := h.main j o jm ho
    rw [hd] at hs
    injection hs with hs
    subst hs
    exact hne i hlt hi
  rcases Nat.lt_trichotomy i j with hlt | heq | hlt
  · exact (key i j jm hi hj hlt).elim
  · exact heq
  · exact (key j i im hj hi hlt).elim
theorem all_beforeZ {ops : Array Oper} {m z n : Nat} (h : RegOkZ ops m z n) {listed : Array Bool} (hd : ∀ i o, ops[i]? = some o → listed.getD i false = true → ∀ e ∈ o.after, Region.binds .any e = true → listed.getD e.on false = true)
    {k : Nat} {ok : Oper} (hk : m ≤ k) (hok : ops[k]? = some ok) (hr : ∀ e ∈ ok.after, Region.binds .any e = true → listed.getD e.on false = true) : ∀ d j, j + d + 1 = k → j ≠ z → listed.getD j false = true := by
  have hks : k < ops.size := (Array.getElem?_eq_some_iff.1 hok).1
  intro d
  induction d using Nat.strongRecOn with
  | _ d ih =>
    intro j hj hjz
    have zlt := h.zlt
    have : ∃ q o, j < q ∧ q ≤ k ∧ q ≠ z ∧ ops[q]? = some o ∧ hasOn o j = true := by
      by_cases jm : j < m
      · obtain ⟨q, o, q1, q2, qz, q3⟩ := h.up j jm hjz
        exact ⟨q, o, q1, by omega, qz, q3⟩
      · obtain ⟨o, ho, hh⟩ := h.tail j (by omega) (by omega)
        exact ⟨j + 1, o, by omega, by omega, by omega, ho, hh⟩
    obtain ⟨q, o, q1, q2, qz, q3, q4⟩ := this
    obtain ⟨e, he, heo, heb⟩ := hasOn_mem q4
    rw [← heo]
    by_cases e1 : q = k
    · subst e1
      rw [hok] at q3
      injection q3 with q3
      subst q3
      exact hr e he heb
    · exact hd q o q3 (ih (k - q - 1) (by omega) q (by omega) qz) e he heb
section
variable {P : Program} {Q : Exit → Act → World → Prop}
theorem tail_anyZ {ops : Array Oper} {m z n : Nat} (h : RegOkZ ops m z n) : ∀ (fuel k : Nat) (listed : Array Bool) (a : Act) (w : World), m ≤ k → k ≤ ops.size → listed.size = ops.size →
    (∀ i, i < ops.size → listed.getD i false = decide (i < k)) → ops.size - k ≤ fuel → wpList P ops Q (ops.toList.drop k) a w → wpAny P .any ops Q fuel listed a w := by
  intro fuel
  have hnil : ∀ (k : Nat) (listed : Array Bool), listed.size = ops.size → (∀ i, i < ops.size → listed.getD i false = decide (i < k)) → k ≤ ops.size → Region.ready .any ops listed = [] → k = ops.size := by
    intro k listed hs hl hk hr
    rcases Nat.lt_or_ge k ops.size with hlt | hge
    · exfalso
      have hm : k ∈ Region.ready .any ops listed := by
        rw [mem_ready]
        refine ⟨by rw [getD_ff (by omega), hl k hlt]; simp, ops[k], Array.getElem?_eq_getElem hlt, fun e he hb => ?_⟩
        have := h.down k _ (Array.getElem?_eq_getElem hlt) e he hb
        rw [hl _ (by omega)]
        simpa using this
      rw [hr] at hm
      cases hm
    · omega
  induction fuel with
  | zero =>
    intro k listed a w hmk hk hs hl hf hw
    obtain rfl : k = ops.size := by omega
    have hd : ops.toList.drop ops.size = [] := by simp
    rw [hd] at hw
    refine ⟨?_, hw⟩
    unfold Region.ready
    rw [List.filter_eq_nil_iff]
    intro i hi
    have hi := List.mem_range.1 hi
    rw [getD_ff (by omega), hl i hi]
    simp [hi]
  | succ fuel ih =>
    intro k listed a w hmk hk hs hl hf hw
    refine ⟨fun hr => ?_, fun i hi => ?_⟩
    · obtain rfl := hnil k listed hs hl hk hr
      have hd : ops.toList.drop ops.size = [] := by simp
      rw [hd] at hw
      exact hw
    · rw [mem_ready] at hi
      obtain ⟨hn, o, ho, hall⟩ := hi
      have his : i < ops.size := (Array.getElem?_eq_some_iff.1 ho).1
      rw [getD_ff (by omega), hl i his] at hn
      have hik : k ≤ i := by simpa using hn
      have hki : i ≤ k := by
        rcases Nat.lt_or_ge k i with hlt | hge
        · exfalso
          have := all_beforeZ h (listed := listed) (fun q oq hq hlq e he hb => by
            have hqs : q < ops.size := (Array.getElem?_eq_some_iff.1 hq).1
            have h1 := h.down q oq hq e he hb
            rw [hl q hqs] at hlq
            rw [hl _ (by omega)]
            simp only [decide_eq_true_eq] at hlq ⊢
            omega) (by omega) ho hall (i - k - 1) k (by omega) (by have := h.zlt; omega)
          rw [hl k (by omega)] at this
          simp at this
        · exact hge
      obtain rfl : i = k := by omega
      have hdrop : ops.toList.drop i = o :: ops.toList.drop (i + 1) := by
        have : ops.toList[i]? = some o := by simpa using ho
        rw [List.drop_eq_getElem_cons (by simpa using his)]
        congr 1
        have e2 := (List.getElem?_eq_some_iff.1 this).2
        exact e2
      rw [hdrop] at hw
      have hnext : ∀ a w, wpList P ops Q (ops.toList.drop (i + 1)) a w → wpAny P .any ops Q fuel (listed.setIfInBounds i true) a w := by
        intro a w hw
        refine ih (i + 1) _ a w (by omega) (by omega) (by simpa using hs) (fun j hj => ?_) (by omega) hw
        rw [getD_set (by omega), hl j hj]
        by_cases e : j = i
        · subst e; simp
        · simp [e]; omega
      unfold wpOp
      rw [ho]
      simp only
      unfold wpList at hw
      split
      · rename_i hwant
        rw [if_pos hwant] at hw
        exact hw.imp (Oper.wp_mono hnext) id
      · rename_i hwant
        rw [if_neg hwant] at hw
        exact hnext _ _ hw
theorem extract_ways {ρ : Operand → Value} {o : Oper} (h : isExt o.op = true) : (∃ v, ∀ w, (execOp ρ o).run P w = .ok (.value v) w) ∨ ∀ w n w', (execOp ρ o).run P w ≠ .ok n w' := by
  obtain ⟨dst, op, ty, pos, after, g⟩ := o
  cases op <;> simp only [isExt] at h <;> try cases h
  rename_i t ix
  simp only [execOp, Instr.extract]
  cases hv : ρ t
  case tuple vs =>
    cases hx : vs[ix]? with
    | none => right; intro w n w'; simp [hx]
    | some v => left; exact ⟨v, fun w => by simp [hx]⟩
  all_goals right; intro w n w'; simp
theorem region_z {id : Nat} {l : List Oper} {a : Act} {w : World} (m z : Nat) (hm : P.follows .mixedOrders = true) (hchk : regZ l.toArray m z a.tmps.size = true) (hQ : ∀ (t : Tmp) v c a w, Q (.panic c) (Act.put a (some t) v) w → Q (.panic c) a w)
    (hobs : ObsK P l.toArray a w (fun ks => ∀ W, Below w.heap.size w W → finOn W ks (fun a' => wpList P l.toArray Q (l.drop m) a' W) a) [] (l.take m)) :
    (Code.region id l.toArray true).wp P Q a w := by
  have R := regZ_out hchk
  obtain ⟨ops, hops⟩ : ∃ ops, l.toArray = ops := ⟨_, rfl⟩
  have hl' : l = ops.toList := by rw [← hops]
  rw [hops] at hobs R ⊢
  rw [hl'] at hobs
  clear hops hl' hchk
  obtain ⟨Ks, kz, hz0, hfin, hall⟩ := hobs.out
  have hmlen : (ops.toList.take m).length = m := by simp [R.le]
  rw [hmlen] at hfin
  have hat : ∀ i o, i < m → ops[i]? = some o → (ops.toList.take m)[i]? = some o := fun i o hi ho => by
    rw [List.getElem?_take, if_pos hi]; simpa using ho
  have hta : ∀ i o, (ops.toList.take m)[i]? = some o → i < m ∧ ops[i]? = some o := fun i o ho => by
    rw [List.getElem?_take] at ho
    split at ho
    · exact ⟨‹_›, by simpa using ho⟩
    · cases ho
  have hall2 : ∀ i o, (ops.toList.take m)[i]? = some o → ∃ t, o.dst = some t ∧ kz (i + 1) = (t, Ks i) :: kz i := fun i o ho => by
    obtain ⟨t, h1, _, _, h2⟩ := hall i o ho
    exact ⟨t, h1, h2⟩
  have hmem : ∀ i, i ≤ m → ∀ t K, (t, K) ∈ kz i → ∃ j, j < i ∧ dstOf ops j = some t ∧ K = Ks j := fun i hi t K hm => by
    obtain ⟨j, o, h1, h2, h3, h4⟩ := kz_mem hz0 hall2 i (by omega) t K hm
    obtain ⟨_, ho⟩ := hta j o h2
    exact ⟨j, h1, by unfold dstOf; rw [ho]; exact h3, h4⟩
  refine wp_region_any hm ?_
  have hd : ∀ i o, ops[i]? = some o → dstOf ops i = o.dst := fun i o ho => by unfold dstOf; rw [ho]; rfl
  have hend : ∀ (listed : Array Bool) (a' : Act) (w' : World), RInv ops a w Ks m listed a' w' → (∀ j, j < m → listed.getD j false = true) → wpList P ops Q (ops.toList.drop m) a' w' := by
    intro listed a' w' hI hlst
    obtain ⟨b, hb, e1, e2, e3, e4⟩ := finOn.out (a' := a') (hfin w' hI.below) hI.size.symm (fun t K hm => by
      obtain ⟨j, hj, hdj, rfl⟩ := hmem m (Nat.le_refl _) t K hm
      obtain ⟨o, ho, hod⟩ := dstOf_some hdj
      obtain ⟨s, hs, hsn, _⟩ := R.main j o hj ho
      rw [hod] at hs
      injection hs with hs
      subst hs
      exact ⟨by rw [hI.size]; exact hsn, hI.val j t hj (hlst j hj) hdj⟩)
    have : b = a' := by
      cases b with
      | mk bt bd =>
        cases a' with
        | mk at' ad =>
          simp only at e1 e2 e3 e4
          have hdf : bd = ad := by rw [e2]; exact hI.defers.symm
          have htm : bt = at' := by
            apply Array.ext
            · rw [e1]; exact hI.size.symm
            · intro t t1 t2
              have : bt.getD t undef = at'.getD t undef := by
                by_cases hx : ∃ K, (t, K) ∈ kz m
                · exact e4 t hx
                · rw [e3 t (fun K hm => hx ⟨K, hm⟩)]
                  refine (hI.other t fun j hj hdj => hx ?_).symm
                  obtain ⟨o, ho, hod⟩ := dstOf_some hdj
                  exact ⟨Ks j, kz_all hall2 m (by omega) j o t hj (hat j o hj ho) hod⟩
              simpa only [Array.getD_eq_getD_getElem?, Array.getElem?_eq_getElem t1, Array.getElem?_eq_getElem t2, Option.getD_some] using this
          subst hdf htm
          rfl
    rw [this] at hb
    exact hb
  have key : ∀ (fuel : Nat) (listed : Array Bool) (a' : Act) (w' : World), RInv ops a w Ks m listed a' w' → (∀ i, m ≤ i → i < ops.size → listed.getD i false = false) →
      ((List.range ops.size).filter fun i => !listed.getD i true).length ≤ fuel → wpAny P .any ops Q fuel listed a' w' := by
    intro fuel
    have hprefix : ∀ (listed : Array Bool), listed.size = ops.size → (∀ j, j < m → listed.getD j false = true) → (∀ i, m ≤ i → i < ops.size → listed.getD i false = false) → ∀ i, i < ops.size → listed.getD i false = decide (i < m) := by
      intro listed hs h1 h2 i hi
      by_cases e : i < m
      · rw [h1 i e]; simp [e]
      · rw [h2 i (by omega) hi]; simp [e]
    induction fuel with
    | zero =>
      intro listed a' w' hI hno hc
      have h0 : ((List.range ops.size).filter fun i => !listed.getD i true) = [] := List.eq_nil_of_length_eq_zero (by omega)
      have hal : ∀ i, i < ops.size → listed.getD i false = true := by
        intro i hi
        rw [List.filter_eq_nil_iff] at h0
        have := h0 i (List.mem_range.2 hi)
        rw [← getD_ff (by rw [hI.lsize]; exact hi)]
        simpa using this
      have hms : m = ops.size := by
        rcases Nat.lt_or_ge m ops.size with hlt | hge
        · have := hno m (Nat.le_refl _) hlt
          rw [hal m hlt] at this
          cases this
        · have := R.le; omega
      have := hend listed a' w' hI (fun j hj => hal j (by omega))
      rw [hms] at this
      have hdr : ops.toList.drop ops.size = [] := by simp
      rw [hdr] at this
      refine ⟨?_, this⟩
      unfold Region.ready
      rw [List.filter_eq_nil_iff] at h0 ⊢
      intro i hi
      have := h0 i hi
      simp only [Bool.not_eq_true] at this ⊢
      rw [this]
      rfl
    | succ fuel ih =>
      intro listed a' w' hI hno hc
      by_cases hdone : ∀ j, j < m → listed.getD j false = true
      · refine tail_anyZ R (fuel + 1) m listed a' w' (Nat.le_refl _) R.le hI.lsize (hprefix listed hI.lsize hdone hno) ?_ (hend listed a' w' hI hdone)
        have hlen : ops.size - m ≤ ((List.range ops.size).filter fun i => !listed.getD i true).length := by
          have hsub : (List.range ops.size).filter (fun i => decide (m ≤ i)) = (List.range ops.size).filter fun i => !listed.getD i true := by
            apply List.filter_congr
            intro i hi
            have hi := List.mem_range.1 hi
            rw [getD_ff (by rw [hI.lsize]; exact hi), hprefix listed hI.lsize hdone hno i hi]
            by_cases e : i < m <;> simp [e] <;> omega
          rw [← hsub]
          have : ∀ N, m ≤ N → ((List.range N).filter fun i => decide (m ≤ i)).length = N - m := by
            intro N hN
            induction N with
            | zero => simp
            | succ N ihN =>
              rw [List.range_succ, List.filter_append, List.length_append]
              by_cases e : m ≤ N
              · rw [ihN e]; simp [e]; omega
              · have : m = N + 1 := by omega
                subst this
                have : (List.range N).filter (fun i => decide (N + 1 ≤ i)) = [] := by
                  rw [List.filter_eq_nil_iff]
                  intro i hi
                  have := List.mem_range.1 hi
                  simp; omega
                rw [this]
                simp
          rw [this _ R.le]
          exact Nat.le_refl _
        omega
      · by_cases hzz : ∀ j, j < m → j ≠ z → listed.getD j false = true
        · have zlt := R.zlt
          have zs : z < ops.size := by have := R.le; omega
          have hlz : listed.getD z false = false := by
            cases hlz : listed.getD z false with
            | false => rfl
            | true => exact absurd (fun j hj => by by_cases e : j = z; · rw [e]; exact hlz
                                                   · exact hzz j hj e) hdone
          have hlst : listed = lateL m z ops.size := by
            apply Array.ext
            · rw [hI.lsize]; simp [lateL]
            · intro q q1 q2
              have qs : q < ops.size := by rw [← hI.lsize]; exact q1
              have e1 : listed[q] = listed.getD q false := by simp [Array.getD_eq_getD_getElem?, Array.getElem?_eq_getElem q1]
              rw [e1]
              simp only [lateL, Array.getElem_ofFn]
              by_cases qm : q < m
              · by_cases qz : q = z
                · subst qz; rw [hlz]; simp
                · rw [hzz q qm qz]; simp [qm, qz]
              · rw [hno q (by omega) qs]; simp [qm]
          have ho : ops[z]? = some ops[z] := Array.getElem?_eq_getElem zs
          obtain ⟨o, hoo⟩ : ∃ o, ops[z] = o := ⟨_, rfl⟩
          rw [hoo] at ho
          have hnl' : listed.getD z true = false := by rw [getD_ff (by rw [hI.lsize]; exact zs)]; exact hlz
          have hrd0 : z ∈ Region.ready .any ops listed := by have := R.rdy; rw [← hlst] at this; simpa using this
          obtain ⟨_, o', ho', haf⟩ := mem_ready.1 hrd0
          rw [ho] at ho'
          injection ho' with ho'
          subst ho'
          obtain ⟨hext, hgn⟩ := R.ext o ho
          have him := zlt
          have his := zs
          have hsi : z < listed.size := by rw [hI.lsize]; exact zs
          obtain ⟨t, ht, htn, hne, hsel, hrd, hgd⟩ := R.main z o him ho
          obtain ⟨t', ht', hok, hob, hkz⟩ := hall z o (hat z o him ho)
          have hon : ∀ j, hasOn o j = true → listed.getD j false = true := fun j hj => by
            obtain ⟨e, he, heo, heb⟩ := hasOn_mem hj
            rw [← heo]
            exact haf e he heb
          have hnext : ∀ v w'', (Ks z).holds w'' v → Below w'.heap.size w' w'' → wpAny P .any ops Q fuel (listed.setIfInBounds z true) (a'.put o.dst v) w'' := by
            intro v w'' hv hb
            refine ih _ _ _ ⟨by simpa using hI.lsize, ?_, ?_, below_then hI.below hb, ?_, ?_, ?_⟩ ?_ ?_
            · rw [ht]; exact hI.defers
            · rw [ht]; simpa [Act.put] using hI.size
            · intro s hs
              have hst : s ≠ t := fun e => hs z him (by rw [hd z _ ho, ht, e])
              rw [ht, put_getD (by rw [hI.size]; exact htn), if_neg hst]
              exact hI.other s hs
            · intro j s hjm hj hdj
              rw [getD_set hsi] at hj
              rw [ht, put_getD (by rw [hI.size]; exact htn)]
              by_cases e : j = z
              · subst e
                have : s = t := by rw [hd j _ ho, ht] at hdj; injection hdj with hdj; exact hdj.symm
                rw [if_pos this]
                exact hv
              · rw [if_neg e] at hj
                have hst : s ≠ t := fun e2 => e (dst_injZ R hjm him hdj (by rw [hd z _ ho, ht, e2]))
                rw [if_neg hst]
                obtain ⟨oj, hoj, hdoj⟩ := dstOf_some hdj
                obtain ⟨_, _, hokj, _, _⟩ := hall j oj (hat j oj hjm hoj)
                exact Kd.keep hokj (hI.val j s hjm hj hdj) hb
            · intro q oq hq hlq e he hb
              rw [getD_set hsi] at hlq ⊢
              by_cases e1 : q = z
              · subst e1
                rw [ho] at hq
                injection hq with hq
                subst hq
                split
                · rfl
                · exact haf e he hb
              · rw [if_neg e1] at hlq
                split
                · rfl
                · exact hI.down q oq hq hlq e he hb
            · intro q hq hqs
              rw [getD_set hsi, if_neg (by omega)]
              exact hno q hq hqs
            · have hnl : (!listed.getD z true) = true := by rw [hnl']; rfl
              have hlt : ((List.range ops.size).filter fun k => !(listed.setIfInBounds z true).getD k true).length < ((List.range ops.size).filter fun k => !listed.getD k true).length := by
                have hsub : ((List.range ops.size).filter fun k => !(listed.setIfInBounds z true).getD k true) = (((List.range ops.size).filter fun k => !listed.getD k true).filter fun k => k != z) := by
                  rw [List.filter_filter]
                  apply List.filter_congr
                  intro k _
                  rw [getD_set hsi]
                  by_cases e : k = z
                  · subst e; simp
                  · simp [e]
                rw [hsub]
                exact List.length_filter_lt_length_iff_exists.2 ⟨z, List.mem_filter.2 ⟨List.mem_range.2 his, hnl⟩, by simp⟩
              omega
          have hlook : ∀ s K, lookK (kz z) s = some K → ∃ j, j < z ∧ dstOf ops j = some s ∧ K = Ks j := fun s K hK => hmem z (by omega) s K (lookK_some hK)
          have hgo : ∀ W, Below w.heap.size w W → leanOn (kz z) W o.op.operands.toList (Goes P (Ks z) o W) a := by
            rcases hob with ⟨_, hgo⟩ | ⟨hwk, _⟩
            · exact hgo
            · rw [hgn] at hwk; cases hwk
          obtain ⟨b, hb, b1, b2, b3, b4⟩ := leanOn.out (a' := a') (hgo w' hI.below) hI.size.symm (fun s K hs hK => by
            obtain ⟨j, hj, hdj, rfl⟩ := hlook s K hK
            obtain ⟨o2, ho2, hod2⟩ := dstOf_some hdj
            obtain ⟨s2, hs2, hsn, _⟩ := R.main j o2 (by omega) ho2
            rw [hod2] at hs2
            injection hs2 with hs2
            subst hs2
            obtain ⟨ha, _⟩ := hrd s (by simpa using hs) j (by omega) hdj
            exact ⟨by rw [hI.size]; exact hsn, hI.val j s (by omega) (hon j ha) hdj⟩)
          have heq : execOp a'.eval o = execOp b.eval o := by
            refine execOp_congr o (fun cs bb hc => by rw [hc] at hsel; cases hsel) fun x hx => ?_
            cases x with
            | tmp s =>
              show a'.tmps.getD s undef = b.tmps.getD s undef
              by_cases hks : ∃ K, lookK (kz z) s = some K
              · obtain ⟨K, hK⟩ := hks
                exact (b4 s ⟨K, hK, by simpa using hx⟩).symm
              · have ho2 : ∀ j, j < m → dstOf ops j ≠ some s := by
                  intro j hj hdj
                  obtain ⟨_, hji⟩ := hrd s hx j hj hdj
                  obtain ⟨oj, hoj, hdoj⟩ := dstOf_some hdj
                  have := kz_all hall2 z (by omega) j oj s hji (hat j oj hj hoj) hdoj
                  cases hl : lookK (kz z) s with
                  | some K => exact hks ⟨K, hl⟩
                  | none => exact lookK_none hl _ this
                have e0 := hI.other s ho2
                rcases b3 s with e | e
                · rw [e, e0]
                · exact e.symm
            | const _ => rfl
            | global _ => rfl
            | func _ => rfl
          have hgoes := hb.out
          have hy : ∃ v, (∀ w, (execOp b.eval o).run P w = .ok (.value v) w) ∧ (Ks z).holds w' v := by
            rcases extract_ways (P := P) (ρ := b.eval) hext with ⟨v, hall'⟩ | hnone
            · rw [hall' w'] at hgoes
              exact ⟨v, hall', hgoes.1⟩
            · exfalso
              cases hr : (execOp b.eval o).run P w' with
              | ok n w'' => exact hnone _ _ _ hr
              | halt x w'' => rw [hr] at hgoes; exact hgoes.elim
          obtain ⟨v, hrun, hv⟩ := hy
          refine wpAny_take ho R.nosel (by rw [hlst]; exact R.free) (by rw [hlst]; exact R.rdy) (fun c a w h => hQ t _ c a w (by rw [← ht]; exact h)) (v := v) (.inl ⟨by unfold Region.wanted; rw [hgn], fun w => by rw [heq]; exact hrun w⟩) ?_
          exact hnext v w' hv (Below.refl _ _)
        · refine ⟨fun hr => ?_, fun i hi => ?_⟩
          · exfalso
            refine hdone ?_
            intro j
            induction j using Nat.strongRecOn with
            | _ j ihj =>
              intro hj
              cases hlj : listed.getD j false with
              | true => rfl
              | false =>
                exfalso
                have hjs : j < ops.size := by have := R.le; omega
                have hmem : j ∈ Region.ready .any ops listed := by
                  rw [mem_ready]
                  refine ⟨by rw [getD_ff (by rw [hI.lsize]; exact hjs)]; exact hlj, ops[j], Array.getElem?_eq_getElem hjs, fun e he hb => ?_⟩
                  have := R.down j _ (Array.getElem?_eq_getElem hjs) e he hb
                  exact ihj _ this (by omega)
                rw [hr] at hmem
                cases hmem
          · have hi0 := hi
            rw [mem_ready] at hi
            obtain ⟨hnl', o, ho, haf⟩ := hi
            have his : i < ops.size := (Array.getElem?_eq_some_iff.1 ho).1
            have hsi : i < listed.size := by rw [hI.lsize]; exact his
            have him : i < m := by
              rcases Nat.lt_or_ge i m with hlt | hge
              · exact hlt
              · exact absurd (fun j hj hjz => all_beforeZ R hI.down hge ho haf (i - j - 1) j (by omega) hjz) hzz
            obtain ⟨t, ht, htn, hne, hsel, hrd, hgd⟩ := R.main i o him ho
            obtain ⟨t', ht', hok, hob, hkz⟩ := hall i o (hat i o him ho)
            have hon : ∀ j, hasOn o j = true → listed.getD j false = true := fun j hj => by
              obtain ⟨e, he, heo, heb⟩ := hasOn_mem hj
              rw [← heo]
              exact haf e he heb
            have hnext : ∀ v w'', (Ks i).holds w'' v → Below w'.heap.size w' w'' → wpAny P .any ops Q fuel (listed.setIfInBounds i true) (a'.put o.dst v) w'' := by
              intro v w'' hv hb
              refine ih _ _ _ ⟨by simpa using hI.lsize, ?_, ?_, below_then hI.below hb, ?_, ?_, ?_⟩ ?_ ?_
              · rw [ht]; exact hI.defers
              · rw [ht]; simpa [Act.put] using hI.size
              · intro s hs
                have hst : s ≠ t := fun e => hs i him (by rw [hd i _ ho, ht, e])
                rw [ht, put_getD (by rw [hI.size]; exact htn), if_neg hst]
                exact hI.other s hs
              · intro j s hjm hj hdj
                rw [getD_set hsi] at hj
                rw [ht, put_getD (by rw [hI.size]; exact htn)]
                by_cases e : j = i
                · subst e
                  have : s = t := by rw [hd j _ ho, ht] at hdj; injection hdj with hdj; exact hdj.symm
                  rw [if_pos this]
                  exact hv
                · rw [if_neg e] at hj
                  have hst : s ≠ t := fun e2 => e (dst_injZ R hjm him hdj (by rw [hd i _ ho, ht, e2]))
                  rw [if_neg hst]
                  obtain ⟨oj, hoj, hdoj⟩ := dstOf_some hdj
                  obtain ⟨_, _, hokj, _, _⟩ := hall j oj (hat j oj hjm hoj)
                  exact Kd.keep hokj (hI.val j s hjm hj hdj) hb
              · intro q oq hq hlq e he hb
                rw [getD_set hsi] at hlq ⊢
                by_cases e1 : q = i
                · subst e1
                  rw [ho] at hq
                  injection hq with hq
                  subst hq
                  split
                  · rfl
                  · exact haf e he hb
                · rw [if_neg e1] at hlq
                  split
                  · rfl
                  · exact hI.down q oq hq hlq e he hb
              · intro q hq hqs
                rw [getD_set hsi, if_neg (by omega)]
                exact hno q hq hqs
              · have hnl : (!listed.getD i true) = true := by rw [hnl']; rfl
                have hlt : ((List.range ops.size).filter fun k => !(listed.setIfInBounds i true).getD k true).length < ((List.range ops.size).filter fun k => !listed.getD k true).length := by
                  have hsub : ((List.range ops.size).filter fun k => !(listed.setIfInBounds i true).getD k true) = (((List.range ops.size).filter fun k => !listed.getD k true).filter fun k => k != i) := by
                    rw [List.filter_filter]
                    apply List.filter_congr
                    intro k _
                    rw [getD_set hsi]
                    by_cases e : k = i
                    · subst e; simp
                    · simp [e]
                  rw [hsub]
                  exact List.length_filter_lt_length_iff_exists.2 ⟨i, List.mem_filter.2 ⟨List.mem_range.2 his, hnl⟩, by simp⟩
                omega
            have hlook : ∀ s K, lookK (kz i) s = some K → ∃ j, j < i ∧ dstOf ops j = some s ∧ K = Ks j := fun s K hK => hmem i (by omega) s K (lookK_some hK)
            unfold wpOp
            rw [ho]
            rcases hob with ⟨hwk, hgo⟩ | ⟨hwk, hskip⟩
            · have hw : Region.wanted o (yielded ops a'.tmps) = true := by
                unfold Region.wanted
                cases hg : o.guard with
                | none => rfl
                | some gb =>
                  obtain ⟨g, b⟩ := gb
                  rw [hg] at hwk
                  unfold wantK at hwk
                  simp only at hwk
                  cases hdg : dstOf ops g with
                  | none => rw [hdg] at hwk; cases hwk
                  | some s =>
                    rw [hdg] at hwk
                    cases hlk : lookK (kz i) s with
                    | none => simp only [hlk] at hwk; cases hwk
                    | some K =>
                      simp only [hlk] at hwk
                      split at hwk
                      · rename_i hKe
                        injection hKe with hKe
                        subst hKe
                        rename_i c
                        obtain ⟨j, hj, hdj, hKj⟩ := hlook s _ hlk
                        obtain ⟨hong, hgi⟩ := hgd g b hg
                        obtain rfl := dst_injZ R (by omega) (by omega) hdj hdg
                        have hv := hI.val j s (by omega) (hon j hong) hdj
                        rw [← hKj] at hv
                        have hy : yielded ops a'.tmps j = some c := by
                          have hv' : a'.tmps.getD s undef = .bool c := hv
                          unfold yielded
                          unfold dstOf at hdj
                          rw [hdj]
                          rw [Array.getD_eq_getD_getElem?] at hv'
                          cases hx : a'.tmps[s]? with
                          | none => rw [hx] at hv'; exact absurd hv' (by simp [undef])
                          | some x =>
                            rw [hx] at hv'
                            simp only [Option.getD_some] at hv'
                            subst hv'
                            simp [hx]
                        simp only [hy]
                        injection hwk
                      · cases hwk
              simp only [hw, if_true]
              refine .inl ?_
              obtain ⟨b, hb, b1, b2, b3, b4⟩ := leanOn.out (a' := a') (hgo w' hI.below) hI.size.symm (fun s K hs hK => by
                obtain ⟨j, hj, hdj, rfl⟩ := hlook s K hK
                obtain ⟨o2, ho2, hod2⟩ := dstOf_some hdj
                obtain ⟨s2, hs2, hsn, _⟩ := R.main j o2 (by omega) ho2
                rw [hod2] at hs2
                injection hs2 with hs2
                subst hs2
                obtain ⟨ha, _⟩ := hrd s (by simpa using hs) j (by omega) hdj
                exact ⟨by rw [hI.size]; exact hsn, hI.val j s (by omega) (hon j ha) hdj⟩)
              have heq : execOp a'.eval o = execOp b.eval o := by
                refine execOp_congr o (fun cs bb hc => by rw [hc] at hsel; cases hsel) fun x hx => ?_
                cases x with
                | tmp s =>
                  show a'.tmps.getD s undef = b.tmps.getD s undef
                  by_cases hks : ∃ K, lookK (kz i) s = some K
                  · obtain ⟨K, hK⟩ := hks
                    exact (b4 s ⟨K, hK, by simpa using hx⟩).symm
                  · have ho2 : ∀ j, j < m → dstOf ops j ≠ some s := by
                      intro j hj hdj
                      obtain ⟨_, hji⟩ := hrd s hx j hj hdj
                      obtain ⟨oj, hoj, hdoj⟩ := dstOf_some hdj
                      have := kz_all hall2 i (by omega) j oj s hji (hat j oj hj hoj) hdoj
                      cases hl : lookK (kz i) s with
                      | some K => exact hks ⟨K, hl⟩
                      | none => exact lookK_none hl _ this
                    have e0 := hI.other s ho2
                    rcases b3 s with e | e
                    · rw [e, e0]
                    · exact e.symm
                | const _ => rfl
                | global _ => rfl
                | func _ => rfl
              have hgoes := hb.out
              unfold Oper.wp
              rw [heq]
              generalize (execOp b.eval o).run P w' = r at hgoes
              cases r with
              | ok n w'' =>
                cases n <;> simp only [OpGoes] at hgoes <;> try exact hgoes.elim
                case value v => exact hnext v w'' hgoes.1 hgoes.2
                case enter f args =>
                  refine Calls.mono hgoes ?_
                  rintro e w3 ⟨v, rfl, hv, hb⟩
                  exact hnext v w3 hv hb
              | halt x w'' => exact hgoes.elim
            · have hw : Region.wanted o (yielded ops a'.tmps) = false := by
                unfold Region.wanted
                cases hg : o.guard with
                | none => rw [hg] at hwk; cases hwk
                | some gb =>
                  obtain ⟨g, b⟩ := gb
                  rw [hg] at hwk
                  unfold wantK at hwk
                  simp only at hwk
                  cases hdg : dstOf ops g with
                  | none => rw [hdg] at hwk; cases hwk
                  | some s =>
                    rw [hdg] at hwk
                    cases hlk : lookK (kz i) s with
                    | none => simp only [hlk] at hwk; cases hwk
                    | some K =>
                      simp only [hlk] at hwk
                      split at hwk
                      · rename_i hKe
                        injection hKe with hKe
                        subst hKe
                        rename_i c
                        obtain ⟨j, hj, hdj, hKj⟩ := hlook s _ hlk
                        obtain ⟨hong, hgi⟩ := hgd g b hg
                        obtain rfl := dst_injZ R (by omega) (by omega) hdj hdg
                        have hv := hI.val j s (by omega) (hon j hong) hdj
                        rw [← hKj] at hv
                        have hy : yielded ops a'.tmps j = some c := by
                          have hv' : a'.tmps.getD s undef = .bool c := hv
                          unfold yielded
                          unfold dstOf at hdj
                          rw [hdj]
                          rw [Array.getD_eq_getD_getElem?] at hv'
                          cases hx : a'.tmps[s]? with
                          | none => rw [hx] at hv'; exact absurd hv' (by simp [undef])
                          | some x =>
                            rw [hx] at hv'
                            simp only [Option.getD_some] at hv'
                            subst hv'
                            simp [hx]
                        simp only [hy]
                        injection hwk
                      · cases hwk
              simp only [hw]
              exact hnext _ _ (by rw [hskip]; rfl) (Below.refl _ _)
  refine key ops.size _ a _ ⟨by simp, rfl, rfl, Below.drew (Below.refl _ _), fun _ _ => rfl, fun j t _ hj => ?_, fun i o _ hj => ?_⟩ ?_ ?_
  · exfalso
    revert hj
    simp only [Array.getD_eq_getD_getElem?, Array.getElem?_replicate]
    split <;> simp
  · exfalso
    revert hj
    simp only [Array.getD_eq_getD_getElem?, Array.getElem?_replicate]
    split <;> simp
  · intro i _ hi
    simp [Array.getD_eq_getD_getElem?, Array.getElem?_replicate, hi]
  · exact Nat.le_trans (List.length_filter_le _ _) (by simp)
end
set_option maxHeartbeats 4000000
theorem goes_tup {B : Nat} {P : Pkt} {E : Int} {C1 C2 : Option Addr} {e1 f1 e2 f2 : Nat} {w : World} (h1 : Own w B 5 C1 e1 f1 P.opt) (h2 : Own w B 5 C2 e2 f2 P.dat) :
    OpGoes Try.prog (fun v w' => (Kd.p (isTup B P E)).holds w' v ∧ Below w.heap.size w w') (.ok (.value (.tuple #[(.agg #[.int .u8 (P).tos, .int .u16 (P).id, .bool (P).keep, .int .u8 (P).ttl, .int .u8 (P).proto, .int .u32 (P).src, .int .u32 (P).dst, .slice C1 e1 f1, .slice C2 e2 f2]), .int .i64 E])) w) := ⟨⟨_, _, _, _, _, _, rfl, h1, h2⟩, Below.refl _ _⟩
theorem swith_all (p : Pkt) (A1 : Option Addr) (n1 c1 : Nat) (A2 : Option Addr) (n2 c2 : Nat) (pr : Int) (d : List UInt8) (P : Pkt) (E : Int) (hE : wiE p d.length = E) (hP : P = withP p pr d) (base : Nat) (A3 : Option Addr) (n3 c3 : Nat) (w : World) (k1 : Bs w A1 n1 c1 p.opt) (k3 : Own w base 5 A3 n3 c3 d) (hb : base ≤ w.heap.size) :
    Calls Try.prog 19 #[(.agg #[.int .u8 (p).tos, .int .u16 (p).id, .bool (p).keep, .int .u8 (p).ttl, .int .u8 (p).proto, .int .u32 (p).src, .int .u32 (p).dst, .slice A1 n1 c1, .slice A2 n2 c2]), .int .u8 pr, .slice A3 n3 c3] w (fun e w' => ∃ C1 e1 f1 C2 e2 f2, e = .returned (.tuple #[(.agg #[.int .u8 (P).tos, .int .u16 (P).id, .bool (P).keep, .int .u8 (P).ttl, .int .u8 (P).proto, .int .u32 (P).src, .int .u32 (P).dst, .slice C1 e1 f1, .slice C2 e2 f2]), .int .i64 E]) ∧ Own w' base 5 C1 e1 f1 P.opt ∧ Own w' base 5 C2 e2 f2 P.dat ∧ Below w.heap.size w w') := by
  have l3 := k3.len
  by_cases h : E = 0
  · have hp : P = { p with proto := pr, dat := d } := by rw [hP]; unfold withP; rw [hE, if_pos h]
    refine (swith_ok p A1 n1 c1 A2 n2 c2 pr A3 n3 c3 d w k1 k3.bs (by rw [← l3, hE, h])).mono ?_
    rintro e w' ⟨A4, n4, c4, rfl, O4, hB⟩
    rw [hp, h]
    exact ⟨A4, n4, c4, A3, n3, c3, rfl, O4.mono hb, k3.below hB, hB⟩
  · have hp : P = zP := by rw [hP]; unfold withP; rw [hE, if_neg h]
    refine (swith_bad p A1 n1 c1 A2 n2 c2 pr A3 n3 c3 d w k1 k3.bs (by rw [← l3, hE]; exact h)).mono ?_
    rintro e w' ⟨B1, m1, d1, B2, m2, d2, rfl, O1, O2, hB⟩
    rw [hp, ← hE, l3]
    exact ⟨B1, m1, d1, B2, m2, d2, rfl, O1.mono hb, O2.mono hb, hB⟩

def udE (p : Pkt) : Int := if p.proto ≠ 17 then 12 else if p.dat.length < 8 then 3 else if get16 p.dat 4 ≠ p.dat.length then 4 else if get16 p.dat 6 ≠ 0 ∧ psum p 17 p.dat ≠ 0 then 5 else 0
def rdD (l : List UInt8) : Dgm := ⟨get16 l 0, get16 l 2, get16 l 6 == 0, l.drop 8⟩
def udD (p : Pkt) : Dgm := if udE p = 0 then rdD p.dat else zD
structure DgPost (w : World) (D : Dgm) (E : Int) (e : Ending) (w' : World) : Prop where
  out : ∃ A n c, e = .returned (.tuple #[(.agg #[.int .u16 (D).src, .int .u16 (D).dst, .bool (D).bare, .slice A n c]), .int .i64 E]) ∧ Own w' w.heap.size 5 A n c D.dat ∧ Below w.heap.size w w'
theorem dgPost_no {w w' : World} {E : Int} (hB : Below w.heap.size w w') : DgPost w zD E (.returned (.tuple #[.agg #[.int .u16 0, .int .u16 0, .bool false, .slice none 0 0], .int .i64 E])) w' :=
  ⟨none, 0, 0, rfl, own_nil _ _ _, hB⟩
theorem udp_no (p : Pkt) (hp : p.Ok) (A1 : Option Addr) (n1 c1 : Nat) (A2 : Option Addr) (n2 c2 : Nat) (w : World) (k2 : Bs w A2 n2 c2 p.dat) (E q4 : Int) (b6 : Bool) (hq4 : get16 p.dat 4 = q4) (hb6 : (get16 p.dat 6 == 0) = b6)
    (h : (E = 12 ∧ (p.proto != 17) = true) ∨ (E = 3 ∧ (p.proto != 17) = false ∧ (n2 : Int) < 8) ∨ (E = 4 ∧ (p.proto != 17) = false ∧ 8 ≤ (n2 : Int) ∧ (q4 != (n2 : Int)) = true) ∨ (E = 5 ∧ (p.proto != 17) = false ∧ 8 ≤ (n2 : Int) ∧ (q4 != (n2 : Int)) = false ∧ b6 = false ∧ (psum p 17 p.dat == 0) = false)) :
    Calls Try.prog 17 #[(.agg #[.int .u8 (p).tos, .int .u16 (p).id, .bool (p).keep, .int .u8 (p).ttl, .int .u8 (p).proto, .int .u32 (p).src, .int .u32 (p).dst, .slice A1 n1 c1, .slice A2 n2 c2])] w (DgPost w zD E) := by
  have b2 := k2.max
  have q0 : 0 ≤ q4 := by rw [← hq4]; exact get16_lo _ _
  have q1 : q4 ≤ 65535 := by rw [← hq4]; exact get16_hi _ _
  have hw4 : IntKind.i64.wrap q4 = q4 := by rw [IntKind.wrap_i64]; omega
  have g4 : ∀ W, Bs W A2 n2 c2 p.dat → Calls Try.prog 40 #[.slice A2 n2 c2, .int .i64 4] W fun e w' => e = .returned (.int .u16 q4) ∧ Drawn W w' := fun W k => by have := get16_any A2 n2 c2 p.dat 4 W k; rw [hq4] at this; exact this
  obtain ⟨q6, hq6⟩ : ∃ q, get16 p.dat 6 = q := ⟨_, rfl⟩
  have g6 : ∀ W, Bs W A2 n2 c2 p.dat → Calls Try.prog 40 #[.slice A2 n2 c2, .int .i64 6] W fun e w' => e = .returned (.int .u16 q6) ∧ Drawn W w' := fun W k => by have := get16_any A2 n2 c2 p.dat 6 W k; rw [hq6] at this; exact this
  rw [hq6] at hb6
  clear hq4 hq6
  obtain ⟨k, hk, w1, hw1, P1, Z1, R1⟩ := nwI2 w #[.int .u8 (p).tos, .int .u16 (p).id, .bool (p).keep, .int .u8 (p).ttl, .int .u8 (p).proto, .int .u32 (p).src, .int .u32 (p).dst, .slice A1 n1 c1, .slice A2 n2 c2] 27 #[.int .u16 0, .int .u16 0, .bool false, .slice none 0 0] 32
  have Pc1 := P1.cell
  have Zc1 := Z1.cell
  have Pl1 := P1.lt
  have Zl1 := Z1.lt
  have x1 := (k2).below R1
  rcases h with ⟨rfl, h1⟩ | ⟨rfl, h1, h2⟩ | ⟨rfl, h1, h2, h3⟩ | ⟨rfl, h1, h2, h3, rfl, h5⟩
  · go_enter Try.func17, Try.ntmps17
    go_wp2_with (go_at_call 40; ((with_reducible refine (g6 w1 x1).mono ?_); rintro e w2 ⟨rfl, hD2⟩); have hB2 := hD2.bel; have P2 := P1.below hB2; have Pc2 := P2.cell; clear Pc1; have Z2 := Z1.below hB2; have Zc2 := Z2.cell; clear Zc1; have x2 := x1.below hB2; have R2 := below_then R1 hB2)
    obtain ⟨wf, hwf, Sf⟩ := store4 Z2 (.int .u16 0) (.int .u16 0) (.bool false) (.slice none 0 0)
    rw [hwf]
    have pf := Sf.blk.cell
    exact bodyPost_ret (by simp [results, Try.results17, go_sem, pf]) rfl (dgPost_no (Sf.bel R2 (by omega)))
  · go_enter Try.func17, Try.ntmps17
    go_wp2_with (go_at_call 40; ((with_reducible refine (g6 w1 x1).mono ?_); rintro e w2 ⟨rfl, hD2⟩); have hB2 := hD2.bel; have P2 := P1.below hB2; have Pc2 := P2.cell; clear Pc1; have Z2 := Z1.below hB2; have Zc2 := Z2.cell; clear Zc1; have x2 := x1.below hB2; have R2 := below_then R1 hB2)
    obtain ⟨wf, hwf, Sf⟩ := store4 Z2 (.int .u16 0) (.int .u16 0) (.bool false) (.slice none 0 0)
    rw [hwf]
    have pf := Sf.blk.cell
    exact bodyPost_ret (by simp [results, Try.results17, go_sem, pf]) rfl (dgPost_no (Sf.bel R2 (by omega)))
  · go_enter Try.func17, Try.ntmps17
    go_wp2_with (first
      | (go_at_call 40; ((with_reducible refine (g6 w1 x1).mono ?_); rintro e w2 ⟨rfl, hD2⟩); have hB2 := hD2.bel; have P2 := P1.below hB2; have Pc2 := P2.cell; clear Pc1; have Z2 := Z1.below hB2; have Zc2 := Z2.cell; clear Zc1; have x2 := x1.below hB2; have R2 := below_then R1 hB2)
      | (go_at_call 40; ((with_reducible refine (g4 w2 x2).mono ?_); rintro e w3 ⟨rfl, hD3⟩); have hB3 := hD3.bel; have P3 := P2.below hB3; have Pc3 := P3.cell; clear Pc2; have Z3 := Z2.below hB3; have Zc3 := Z3.cell; clear Zc2; have x3 := x2.below hB3; have R3 := below_then R2 hB3))
    obtain ⟨wf, hwf, Sf⟩ := store4 Z3 (.int .u16 0) (.int .u16 0) (.bool false) (.slice none 0 0)
    rw [hwf]
    have pf := Sf.blk.cell
    exact bodyPost_ret (by simp [results, Try.results17, go_sem, pf]) rfl (dgPost_no (Sf.bel R3 (by omega)))
  · have n2b : n2 ≤ 140737488400000 := by have : q4 = n2 := by simpa using h3
                                          omega
    go_enter Try.func17, Try.ntmps17
    go_wp2_with (first
      | (go_at_call 40; ((with_reducible refine (g6 w1 x1).mono ?_); rintro e w2 ⟨rfl, hD2⟩); have hB2 := hD2.bel; have P2 := P1.below hB2; have Pc2 := P2.cell; clear Pc1; have Z2 := Z1.below hB2; have Zc2 := Z2.cell; clear Zc1; have x2 := x1.below hB2; have R2 := below_then R1 hB2)
      | (go_at_call 40; ((with_reducible refine (g4 w2 x2).mono ?_); rintro e w3 ⟨rfl, hD3⟩); have hB3 := hD3.bel; have P3 := P2.below hB3; have Pc3 := P3.cell; clear Pc2; have Z3 := Z2.below hB3; have Zc3 := Z3.cell; clear Zc2; have x3 := x2.below hB3; have R3 := below_then R2 hB3)
      | (go_at_call 41; ((with_reducible refine (fits_any p hp A1 n1 c1 A2 n2 c2 17 (by omega) (by omega) w3 x3 n2b).mono ?_); rintro e w4 ⟨he4, hB4⟩); (try rw [h5] at he4); subst he4; have P4 := P3.below hB4; have Pc4 := P4.cell; clear Pc3; have Z4 := Z3.below hB4; have Zc4 := Z4.cell; clear Zc3; have x4 := x3.below hB4; have R4 := below_then R3 hB4))
    obtain ⟨wf, hwf, Sf⟩ := store4 Z4 (.int .u16 0) (.int .u16 0) (.bool false) (.slice none 0 0)
    rw [hwf]
    have pf := Sf.blk.cell
    exact bodyPost_ret (by simp [results, Try.results17, go_sem, pf]) rfl (dgPost_no (Sf.bel R4 (by omega)))
theorem udp_ok (p : Pkt) (hp : p.Ok) (A1 : Option Addr) (n1 c1 : Nat) (A2 : Option Addr) (n2 c2 : Nat) (w : World) (k2 : Bs w A2 n2 c2 p.dat) (q4 : Int) (b6 : Bool) (hq4 : get16 p.dat 4 = q4) (hb6 : (get16 p.dat 6 == 0) = b6)
    (h1 : (p.proto != 17) = false) (h2 : 8 ≤ (n2 : Int)) (h3 : (q4 != (n2 : Int)) = false) (h : b6 = true ∨ (b6 = false ∧ (psum p 17 p.dat == 0) = true)) :
    Calls Try.prog 17 #[(.agg #[.int .u8 (p).tos, .int .u16 (p).id, .bool (p).keep, .int .u8 (p).ttl, .int .u8 (p).proto, .int .u32 (p).src, .int .u32 (p).dst, .slice A1 n1 c1, .slice A2 n2 c2])] w (DgPost w (rdD p.dat) 0) := by
  have hlL : p.dat.take n2 = p.dat := List.take_of_length_le (by rw [k2.len]; exact Nat.le_refl _)
  obtain ⟨i8, hi8, -, hs8, -⟩ := info_parts info_u8
  have b2 := k2.max
  have hcap := k2.cap
  obtain ⟨b, off, rfl⟩ := k2.some_ (by omega)
  have hcut : ∀ W, (Instr.slice 25 (.slice (some ⟨b, off, none⟩) n2 c2) (some (.int .i64 8)) none none).run Try.prog W = _ := fun W => cut_l Try.underlying25 hi8 hs8 (some ⟨b, off, none⟩) n2 c2 .i64 8 (by omega) (by omega) W
  obtain ⟨A', n', c', eA, en, ec, hbD⟩ := k2.cutE (lo := 8) (hi := n2) (by omega) (Nat.le_refl _)
  simp only [show (8 : Int).toNat = 8 from rfl, eA, en, ec] at hcut
  rw [hlL] at hbD
  have hn' : n' ≤ n2 := by omega
  clear eA en ec hlL
  have q0 : 0 ≤ q4 := by rw [← hq4]; exact get16_lo _ _
  have q1 : q4 ≤ 65535 := by rw [← hq4]; exact get16_hi _ _
  have hw4 : IntKind.i64.wrap q4 = q4 := by rw [IntKind.wrap_i64]; omega
  have g4 : ∀ W, Bs W (some ⟨b, off, none⟩) n2 c2 p.dat → Calls Try.prog 40 #[.slice (some ⟨b, off, none⟩) n2 c2, .int .i64 4] W fun e w' => e = .returned (.int .u16 q4) ∧ Drawn W w' := fun W k => by have := get16_any (some ⟨b, off, none⟩) n2 c2 p.dat 4 W k; rw [hq4] at this; exact this
  obtain ⟨q6, hq6⟩ : ∃ q, get16 p.dat 6 = q := ⟨_, rfl⟩
  have g6 : ∀ W, Bs W (some ⟨b, off, none⟩) n2 c2 p.dat → Calls Try.prog 40 #[.slice (some ⟨b, off, none⟩) n2 c2, .int .i64 6] W fun e w' => e = .returned (.int .u16 q6) ∧ Drawn W w' := fun W k => by have := get16_any (some ⟨b, off, none⟩) n2 c2 p.dat 6 W k; rw [hq6] at this; exact this
  rw [hq6] at hb6
  have HQ6 := Lib.hid hq6
  clear hq4 hq6
  obtain ⟨v0, hv0⟩ : ∃ q, get16 p.dat 0 = q := ⟨_, rfl⟩
  obtain ⟨v2, hv2⟩ : ∃ q, get16 p.dat 2 = q := ⟨_, rfl⟩
  have g0 : ∀ W, Bs W (some ⟨b, off, none⟩) n2 c2 p.dat → Calls Try.prog 40 #[.slice (some ⟨b, off, none⟩) n2 c2, .int .i64 0] W fun e w' => e = .returned (.int .u16 v0) ∧ Drawn W w' := fun W k => by have := get16_any (some ⟨b, off, none⟩) n2 c2 p.dat 0 W k; rw [hv0] at this; exact this
  have g2 : ∀ W, Bs W (some ⟨b, off, none⟩) n2 c2 p.dat → Calls Try.prog 40 #[.slice (some ⟨b, off, none⟩) n2 c2, .int .i64 2] W fun e w' => e = .returned (.int .u16 v2) ∧ Drawn W w' := fun W k => by have := get16_any (some ⟨b, off, none⟩) n2 c2 p.dat 2 W k; rw [hv2] at this; exact this
  have HD : Hid (rdD p.dat = ⟨v0, v2, b6, p.dat.drop 8⟩) := by unfold Hid rdD; rw [hv0, hv2, HQ6.out, hb6]
  clear hv0 hv2
  have n2b : n2 ≤ 100000 := by have : q4 = n2 := by simpa using h3
                               omega
  obtain ⟨k, hk, w1, hw1, P1, Z1, R1⟩ := nwI2 w #[.int .u8 (p).tos, .int .u16 (p).id, .bool (p).keep, .int .u8 (p).ttl, .int .u8 (p).proto, .int .u32 (p).src, .int .u32 (p).dst, .slice A1 n1 c1, .slice (some ⟨b, off, none⟩) n2 c2] 27 #[.int .u16 0, .int .u16 0, .bool false, .slice none 0 0] 32
  have Pc1 := P1.cell
  have Zc1 := Z1.cell
  have Pl1 := P1.lt
  have Zl1 := Z1.lt
  have x1 := (k2).below R1
  rcases h with rfl | ⟨rfl, h5⟩
  · go_enter Try.func17, Try.ntmps17
    go_wp2_with (first
      | (go_at_call 40; ((with_reducible refine (g6 w1 x1).mono ?_); rintro e w2 ⟨rfl, hD2⟩); have hB2 := hD2.bel; have P2 := P1.below hB2; have Pc2 := P2.cell; clear Pc1; have Z2 := Z1.below hB2; have Zc2 := Z2.cell; clear Zc1; have x2 := x1.below hB2; have R2 := below_then R1 hB2)
      | (go_at_call 40; ((with_reducible refine (g4 w2 x2).mono ?_); rintro e w3 ⟨rfl, hD3⟩); have hB3 := hD3.bel; have P3 := P2.below hB3; have Pc3 := P3.cell; clear Pc2; have Z3 := Z2.below hB3; have Zc3 := Z3.cell; clear Zc2; have x3 := x2.below hB3; have R3 := below_then R2 hB3))
    have D3 := hbD.below R3
    have r3s := R3.size
    refine region_txt 8 (by kernel_rfl) (by kernel_rfl) ?_; (iterate 8 (first | (apply ObsK.skip (by rfl)) | (apply ObsK.v (by rfl); (intro wo hT; (repeat (first | (intro v hv; (skip)) | (intro _ _ k; try have hcv := cv k))); (have bo := x3.below hT; have hsz : w3.heap.size ≤ wo.heap.size := hT.size); refine Goes.mk ?_; go_simp; first | exact goes_v | exact goes_b (by assumption) | (refine goes_enter ?_; first | (go_at_call 40; ((with_reducible refine (g0 wo bo).mono ?_); rintro e w9 ⟨rfl, hD9⟩); exact ret_v hD9.bel) | (go_at_call 40; ((with_reducible refine (g2 wo bo).mono ?_); rintro e w9 ⟨rfl, hD9⟩); exact ret_v hD9.bel) | (go_at_call 42; ((with_reducible refine (clone_any A' n' c' _ wo (D3.below hT)).mono ?_); rintro e w9 ⟨A9, c9, rfl, ho9, hB9⟩); exact ret_p (own_isW ho9 hsz) hB9)))) | (apply ObsK.b (by rfl); (intro wo hT; (repeat (first | (intro v hv; (skip)) | (intro _ _ k; try have hcv := cv k))); (have bo := x3.below hT; have hsz : w3.heap.size ≤ wo.heap.size := hT.size); refine Goes.mk ?_; go_simp; first | exact goes_v | exact goes_b (by assumption) | (refine goes_enter ?_; first | (go_at_call 40; ((with_reducible refine (g0 wo bo).mono ?_); rintro e w9 ⟨rfl, hD9⟩); exact ret_v hD9.bel) | (go_at_call 40; ((with_reducible refine (g2 wo bo).mono ?_); rintro e w9 ⟨rfl, hD9⟩); exact ret_v hD9.bel) | (go_at_call 42; ((with_reducible refine (clone_any A' n' c' _ wo (D3.below hT)).mono ?_); rintro e w9 ⟨A9, c9, rfl, ho9, hB9⟩); exact ret_p (own_isW ho9 hsz) hB9)))) | (apply ObsK.p (q := isW w3.heap.size _) (by rfl) st_isW; (intro wo hT; (repeat (first | (intro v hv; (skip)) | (intro _ _ k; try have hcv := cv k))); (have bo := x3.below hT; have hsz : w3.heap.size ≤ wo.heap.size := hT.size); refine Goes.mk ?_; go_simp; first | exact goes_v | exact goes_b (by assumption) | (refine goes_enter ?_; first | (go_at_call 40; ((with_reducible refine (g0 wo bo).mono ?_); rintro e w9 ⟨rfl, hD9⟩); exact ret_v hD9.bel) | (go_at_call 40; ((with_reducible refine (g2 wo bo).mono ?_); rintro e w9 ⟨rfl, hD9⟩); exact ret_v hD9.bel) | (go_at_call 42; ((with_reducible refine (clone_any A' n' c' _ wo (D3.below hT)).mono ?_); rintro e w9 ⟨A9, c9, rfl, ho9, hB9⟩); exact ret_p (own_isW ho9 hsz) hB9)))))); refine ObsK.nil ?_; intro wz hBz; simp only [finOn, List.drop_succ_cons, List.drop_zero, List.drop_nil]
    rintro v9 ⟨A9, n9, c9, rfl, O9⟩
    go_simp
    have Zz := Z3.below hBz
    have zcz := Zz.cell
    have zl := Z3.lt
    obtain ⟨wf, hwf, Sf⟩ := store4 Zz (.int .u16 v0) (.int .u16 v2) (.bool true) (.slice A9 n9 c9)
    have pf := Sf.blk.cell
    have Tf := Sf.bel (below_then R3 hBz) (by omega)
    have Of := Sf.own O9 (fun a e => by have := O9.ge a e; omega)
    go_wp2_with fail
    refine bodyPost_ret (v := .tuple #[.agg #[.int .u16 v0, .int .u16 v2, .bool true, .slice A9 n9 c9], .int .i64 0]) (by simp [results, Try.results17, go_sem, pf]) rfl (by rw [HD.out]; exact ⟨A9, n9, c9, rfl, Of.mono r3s, Tf⟩)
  · go_enter Try.func17, Try.ntmps17
    go_wp2_with (first
      | (go_at_call 40; ((with_reducible refine (g6 w1 x1).mono ?_); rintro e w2 ⟨rfl, hD2⟩); have hB2 := hD2.bel; have P2 := P1.below hB2; have Pc2 := P2.cell; clear Pc1; have Z2 := Z1.below hB2; have Zc2 := Z2.cell; clear Zc1; have x2 := x1.below hB2; have R2 := below_then R1 hB2)
      | (go_at_call 40; ((with_reducible refine (g4 w2 x2).mono ?_); rintro e w3 ⟨rfl, hD3⟩); have hB3 := hD3.bel; have P3 := P2.below hB3; have Pc3 := P3.cell; clear Pc2; have Z3 := Z2.below hB3; have Zc3 := Z3.cell; clear Zc2; have x3 := x2.below hB3; have R3 := below_then R2 hB3)
      | (go_at_call 41; ((with_reducible refine (fits_any p hp A1 n1 c1 (some ⟨b, off, none⟩) n2 c2 17 (by omega) (by omega) w3 x3 (by omega)).mono ?_); rintro e w4 ⟨he4, hB4⟩); (try rw [h5] at he4); subst he4; have P4 := P3.below hB4; have Pc4 := P4.cell; clear Pc3; have Z4 := Z3.below hB4; have Zc4 := Z4.cell; clear Zc3; have x4 := x3.below hB4; have R4 := below_then R3 hB4))
    have D4 := hbD.below R4
    have r4s := R4.size
    refine region_txt 8 (by kernel_rfl) (by kernel_rfl) ?_; (iterate 8 (first | (apply ObsK.skip (by rfl)) | (apply ObsK.v (by rfl); (intro wo hT; (repeat (first | (intro v hv; (skip)) | (intro _ _ k; try have hcv := cv k))); (have bo := x4.below hT; have hsz : w4.heap.size ≤ wo.heap.size := hT.size); refine Goes.mk ?_; go_simp; first | exact goes_v | exact goes_b (by assumption) | (refine goes_enter ?_; first | (go_at_call 40; ((with_reducible refine (g0 wo bo).mono ?_); rintro e w9 ⟨rfl, hD9⟩); exact ret_v hD9.bel) | (go_at_call 40; ((with_reducible refine (g2 wo bo).mono ?_); rintro e w9 ⟨rfl, hD9⟩); exact ret_v hD9.bel) | (go_at_call 42; ((with_reducible refine (clone_any A' n' c' _ wo (D4.below hT)).mono ?_); rintro e w9 ⟨A9, c9, rfl, ho9, hB9⟩); exact ret_p (own_isW ho9 hsz) hB9)))) | (apply ObsK.b (by rfl); (intro wo hT; (repeat (first | (intro v hv; (skip)) | (intro _ _ k; try have hcv := cv k))); (have bo := x4.below hT; have hsz : w4.heap.size ≤ wo.heap.size := hT.size); refine Goes.mk ?_; go_simp; first | exact goes_v | exact goes_b (by assumption) | (refine goes_enter ?_; first | (go_at_call 40; ((with_reducible refine (g0 wo bo).mono ?_); rintro e w9 ⟨rfl, hD9⟩); exact ret_v hD9.bel) | (go_at_call 40; ((with_reducible refine (g2 wo bo).mono ?_); rintro e w9 ⟨rfl, hD9⟩); exact ret_v hD9.bel) | (go_at_call 42; ((with_reducible refine (clone_any A' n' c' _ wo (D4.below hT)).mono ?_); rintro e w9 ⟨A9, c9, rfl, ho9, hB9⟩); exact ret_p (own_isW ho9 hsz) hB9)))) | (apply ObsK.p (q := isW w4.heap.size _) (by rfl) st_isW; (intro wo hT; (repeat (first | (intro v hv; (skip)) | (intro _ _ k; try have hcv := cv k))); (have bo := x4.below hT; have hsz : w4.heap.size ≤ wo.heap.size := hT.size); refine Goes.mk ?_; go_simp; first | exact goes_v | exact goes_b (by assumption) | (refine goes_enter ?_; first | (go_at_call 40; ((with_reducible refine (g0 wo bo).mono ?_); rintro e w9 ⟨rfl, hD9⟩); exact ret_v hD9.bel) | (go_at_call 40; ((with_reducible refine (g2 wo bo).mono ?_); rintro e w9 ⟨rfl, hD9⟩); exact ret_v hD9.bel) | (go_at_call 42; ((with_reducible refine (clone_any A' n' c' _ wo (D4.below hT)).mono ?_); rintro e w9 ⟨A9, c9, rfl, ho9, hB9⟩); exact ret_p (own_isW ho9 hsz) hB9)))))); refine ObsK.nil ?_; intro wz hBz; simp only [finOn, List.drop_succ_cons, List.drop_zero, List.drop_nil]
    rintro v9 ⟨A9, n9, c9, rfl, O9⟩
    go_simp
    have Zz := Z4.below hBz
    have zcz := Zz.cell
    have zl := Z4.lt
    obtain ⟨wf, hwf, Sf⟩ := store4 Zz (.int .u16 v0) (.int .u16 v2) (.bool false) (.slice A9 n9 c9)
    have pf := Sf.blk.cell
    have Tf := Sf.bel (below_then R4 hBz) (by omega)
    have Of := Sf.own O9 (fun a e => by have := O9.ge a e; omega)
    go_wp2_with fail
    refine bodyPost_ret (v := .tuple #[.agg #[.int .u16 v0, .int .u16 v2, .bool false, .slice A9 n9 c9], .int .i64 0]) (by simp [results, Try.results17, go_sem, pf]) rfl (by rw [HD.out]; exact ⟨A9, n9, c9, rfl, Of.mono r4s, Tf⟩)
theorem ud_ways (p : Pkt) (n2 : Nat) (l2 : p.dat.length = n2) :
    (udE p ≠ 0 ∧ ((udE p = 12 ∧ (p.proto != 17) = true) ∨ (udE p = 3 ∧ (p.proto != 17) = false ∧ (n2 : Int) < 8) ∨ (udE p = 4 ∧ (p.proto != 17) = false ∧ 8 ≤ (n2 : Int) ∧ (get16 p.dat 4 != (n2 : Int)) = true) ∨ (udE p = 5 ∧ (p.proto != 17) = false ∧ 8 ≤ (n2 : Int) ∧ (get16 p.dat 4 != (n2 : Int)) = false ∧ (get16 p.dat 6 == 0) = false ∧ (psum p 17 p.dat == 0) = false))) ∨
    (udE p = 0 ∧ (p.proto != 17) = false ∧ 8 ≤ (n2 : Int) ∧ (get16 p.dat 4 != (n2 : Int)) = false ∧ ((get16 p.dat 6 == 0) = true ∨ ((get16 p.dat 6 == 0) = false ∧ (psum p 17 p.dat == 0) = true))) := by
  unfold udE
  rw [l2]
  by_cases h1 : p.proto = 17
  · by_cases h2 : n2 < 8
    · have h2' : (n2 : Int) < 8 := by omega
      simp [h1, h2, h2']
    · have h2' : 8 ≤ (n2 : Int) := by omega
      by_cases h3 : get16 p.dat 4 = n2
      · by_cases h6 : get16 p.dat 6 = 0
        · simp [h1, h2, h2', h3, h6]
        · by_cases h5 : psum p 17 p.dat = 0
          · simp [h1, h2, h2', h3, h6, h5]
          · simp [h1, h2, h2', h3, h6, h5]
      · simp [h1, h2, h2', h3]
  · simp [h1]
theorem udp_any (p : Pkt) (hp : p.Ok) (A1 : Option Addr) (n1 c1 : Nat) (A2 : Option Addr) (n2 c2 : Nat) (w : World) (k2 : Bs w A2 n2 c2 p.dat) :
    Calls Try.prog 17 #[(.agg #[.int .u8 (p).tos, .int .u16 (p).id, .bool (p).keep, .int .u8 (p).ttl, .int .u8 (p).proto, .int .u32 (p).src, .int .u32 (p).dst, .slice A1 n1 c1, .slice A2 n2 c2])] w (DgPost w (udD p) (udE p)) := by
  unfold udD
  rcases ud_ways p n2 k2.len with ⟨h0, h⟩ | ⟨h0, h1, h2, h3, h⟩
  · rw [if_neg h0]
    exact udp_no p hp A1 n1 c1 A2 n2 c2 w k2 _ _ _ rfl rfl h
  · rw [if_pos h0, h0]
    exact udp_ok p hp A1 n1 c1 A2 n2 c2 w k2 _ _ rfl rfl h1 h2 h3 h
end Go.Proofs.Ytjhgcnoijajffaa
