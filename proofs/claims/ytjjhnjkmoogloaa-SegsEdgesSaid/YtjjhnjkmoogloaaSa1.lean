/- Parts of the proofs of this seat, laid together. -/
import Derived.WalkKit
import Derived.Maps.AppendAt
import Derived.Deep.AppendLies
import Derived.Deep.DeepAppendWide
import Derived.Deep.Draws
import Derived.Deep.QuietTactic
import Derived.BigQuiet
import Derived.Lib.Hide
import Derived.Laws.BytesArg
import Derived.Deep.RegionHeld3
import Derived.Test.YtjjhnjkmoogloaaProg
import Derived.KernelRfl
import Derived.WalkSpells
import Derived.Orders
import Derived.RegionTactic
import Derived.Below
import Derived.Tactics
import Derived.MapKept
import Derived.Laws.CopyRow
import Derived.Lib.AppendZeros
import Derived.Lib.AppendZerosOnto
import Derived.RangeFuncNested
import Derived.RangeFuncCalls
import Derived.RangeFuncLeaves
import Derived.Shelf.Abstract
import Derived.Shelf.RegionOpen
import Derived.OwnWalkIn
import Derived.TacticsInMore
import Derived.LoopNIn
import Derived.LoopIn
import Derived.Sort.QuietTacIn
import Derived.ScopeJumps
import Derived.WalkMore
import Derived.Laws.BitsAllLaws
namespace Go.Proofs.Ytjjhnjkmoogloaa
open Go.RowKit
set_option linter.unusedVariables false
set_option linter.unusedSimpArgs false
def bt (l : List UInt8) (i : Nat) : Int := ((l.getD i 0).toNat : Int)
theorem bt_lo (l : List UInt8) (i : Nat) : 0 ≤ bt l i := by unfold bt; omega
theorem bt_hi (l : List UInt8) (i : Nat) : bt l i ≤ 255 := by
  unfold bt; have := (l.getD i 0).toNat_lt; omega
structure Bs (w : World) (A : Option Addr) (n c : Nat) (l : List UInt8) : Prop where
  len : l.length = n
  cap : n ≤ c
  max : n ≤ 200000000000000
  nil : A = none → c = 0
  rd : 0 < n → ∃ b off, A = some ⟨b, off, none⟩ ∧ ∀ j, j < n → w.cell? ⟨b, off + j, none⟩ = some (.int .u8 (bt l j))
structure Drawn (w w' : World) : Prop where mk :: (out : ∃ n, w' = w.drewN n)
theorem Drawn.refl (w : World) : Drawn w w := ⟨⟨0, rfl⟩⟩
theorem Drawn.step {w w' : World} (h : Drawn w w') (n : Nat) : Drawn w (w'.drewN n) := by
  obtain ⟨m, rfl⟩ := h
  exact ⟨⟨m + n, World.drewN_drewN ..⟩⟩
theorem Drawn.drew {w w' : World} (h : Drawn w w') : Drawn w w'.drew := by
  have := h.step 1
  simpa [World.drewN] using this
section
variable {w w' : World} {A : Option Addr} {n c : Nat} {l : List UInt8}
theorem Bs.keep (h : Bs w A n c l) (hk : ∀ p : Addr, p.block < w.heap.size → w'.cell? p = w.cell? p) : Bs w' A n c l :=
  ⟨h.len, h.cap, h.max, h.nil, fun hn => by
    obtain ⟨b, off, e, hc⟩ := h.rd hn
    exact ⟨b, off, e, fun j hj => (hk _ (World.block_lt_of_cell? w _ (hc j hj))).trans (hc j hj)⟩⟩
theorem Bs.below (h : Bs w A n c l) (hb : Below w.heap.size w w') : Bs w' A n c l := h.keep fun _ hp => hb.cell hp
theorem Bs.drew (h : Bs w A n c l) : Bs w.drew A n c l := ⟨h.len, h.cap, h.max, h.nil, h.rd⟩
theorem Bs.drewN (h : Bs w A n c l) (k : Nat) : Bs (w.drewN k) A n c l := ⟨h.len, h.cap, h.max, h.nil, h.rd⟩
theorem Bs.alloc (h : Bs w A n c l) (o : Obj) : Bs (w.alloc o) A n c l := h.below ((Below.refl _ w).alloc (Nat.le_refl _) o)
end
theorem Bs.none_ (w : World) : Bs w none 0 0 [] := ⟨rfl, Nat.zero_le _, by omega, fun _ => rfl, fun h => absurd h (by omega)⟩
def cu (l : List UInt8) : List Value := l.map fun b => Value.int .u8 (b.toNat : Int)
theorem cu_length (l : List UInt8) : (cu l).length = l.length := by simp [cu]
theorem cu_append (l m : List UInt8) : cu l ++ cu m = cu (l ++ m) := by simp [cu]
theorem cu_at {l : List UInt8} {j : Nat} (h : j < l.length) : (cu l)[j]? = some (.int .u8 (bt l j)) := by
  simp [cu, bt, List.getElem?_eq_getElem h, List.getD_eq_getElem?_getD]
theorem cu_one (l : List UInt8) : ∀ u ∈ cu l, u.oneCell' = true := by
  intro u hu
  obtain ⟨b, _, rfl⟩ := List.mem_map.1 hu
  rfl
structure Own (w : World) (base : Nat) (e : TypeId) (A : Option Addr) (n c : Nat) (l : List UInt8) : Prop where
  len : l.length = n
  max : n ≤ 200000000000000
  row : w.ownsRow base e 1 (.slice A n c) n (cu l)
section
variable {w w' : World} {base : Nat} {e : TypeId} {A : Option Addr} {n c : Nat} {l : List UInt8}
theorem Own.bs (h : Own w base e A n c l) : Bs w A n c l := by
  obtain ⟨hl, hm, h1, h2⟩ := h
  rcases h2 with ⟨h2, rfl⟩ | ⟨g, cap, cur, hv, hb, hg, hnc, hcm, hcs, htake⟩
  · injection h2 with h3 h4 h5
    subst h3 h5
    obtain rfl : l = [] := List.eq_nil_of_length_eq_zero hl
    exact Bs.none_ w
  · injection hv with h3 h4 h5
    subst h3 h5
    refine ⟨hl, hnc, hm, (fun h => by cases h), fun hn => ⟨g, 0, rfl, fun j hj => ?_⟩⟩
    rw [Nat.zero_add, cell_of_row w g j cur e (0, 0) hg]
    have := cu_at (l := l) (j := j) (by omega)
    rw [← htake, List.getElem?_take] at this
    split at this
    · simpa using this
    · cases this
theorem Own.mono {b' : Nat} (h : Own w base e A n c l) (hb : b' ≤ base) : Own w b' e A n c l := by
  obtain ⟨hl, hm, h1, h2⟩ := h
  refine ⟨hl, hm, h1, ?_⟩
  rcases h2 with h2 | ⟨g, cap, cur, hv, hg, r⟩
  · exact .inl h2
  · exact .inr ⟨g, cap, cur, hv, by omega, r⟩
theorem Own.kept {row : Option Nat} (h : Own w base e A n c l) (hg : w.grownBy w' row) (hne : (Value.slice A n c).ownBlock = none ∨ (Value.slice A n c).ownBlock ≠ row) : Own w' base e A n c l :=
  ⟨h.len, h.max, h.row.kept hg hne⟩
theorem Own.drew (h : Own w base e A n c l) : Own w.drew base e A n c l := ⟨h.len, h.max, h.row⟩
theorem Own.drewN (h : Own w base e A n c l) (k : Nat) : Own (w.drewN k) base e A n c l := ⟨h.len, h.max, h.row⟩
theorem Own.alloc (h : Own w base e A n c l) (o : Obj) : Own (w.alloc o) base e A n c l := ⟨h.len, h.max, h.row.alloc o⟩
theorem Own.below (h : Own w base e A n c l) (hb : Below w.heap.size w w') : Own w' base e A n c l :=
  h.kept (row := none) ⟨hb.os, hb.tape, hb.output, hb.size, fun i hi _ => hb.block i hi⟩ (by cases (Value.slice A n c).ownBlock <;> simp)
end
theorem below_drewN {B : Nat} {a w : World} (h : Below B a w) (n : Nat) : Below B a (w.drewN n) := ⟨h.os, h.tape, h.output, h.size, h.block⟩
theorem below_drew {B : Nat} {a w : World} (h : Below B a w) : Below B a w.drew := ⟨h.os, h.tape, h.output, h.size, h.block⟩
theorem below_alloc {B : Nat} {a w : World} (h : Below B a w) (hB : B ≤ a.heap.size) (o : Obj) : Below B a (w.alloc o) := h.alloc (Nat.le_trans hB h.size) o
theorem below_then {w w1 w2 : World} (h : Below w.heap.size w w1) (k : Below w1.heap.size w1 w2) : Below w.heap.size w w2 :=
  h.trans (k.mono h.size)
section
variable {P : Program} {w : World} {A : Option Addr} {n c : Nat} {l : List UInt8}
theorem Bs.cutN (h : Bs w A n c l) {lo hi : Nat} (h1 : lo ≤ hi) (h2 : hi ≤ n) :
    Bs w (if c = lo then A else A.map (·.add (lo * 1))) (hi - lo) (c - lo) ((l.take hi).drop lo) := by
  have hc := h.cap
  refine ⟨by simp [h.len]; omega, by omega, by have := h.max; omega, fun hn => ?_, fun hn => ?_⟩
  · split at hn
    · omega
    · have : A = none := by cases A <;> simp_all
      have := h.nil this
      omega
  · obtain ⟨b, off, rfl, hc⟩ := h.rd (by omega)
    rw [if_neg (by omega)]
    refine ⟨b, off + lo, by simp [Addr.add], fun j hj => ?_⟩
    rw [Nat.add_assoc, hc (lo + j) (by omega)]
    congr 2
    unfold bt
    simp [List.getD_eq_getElem?_getD, List.getElem?_drop, show lo + j < hi by omega]
variable {t e : TypeId} {i : TypeInfo}
theorem cut_h (ht : P.underlying t = some (.slice e)) (hi' : P.info? e = some i) (hz : i.size = 1) (A : Option Addr) (n c : Nat) (kh : IntKind) (h : Int) (h1 : 0 ≤ h) (h2 : h ≤ (c : Int)) (W : World) :
    (Instr.slice t (.slice A n c) none (some (.int kh h)) none).run P W = .ok (.slice (if c = 0 then A else A.map (·.add (0 * 1))) (h.toNat - 0) (c - 0)) W := by
  have hp : P.underlying t = some (.slice (P.elem t)) := by simp [Program.elem, ht]
  have he : P.elem t = e := by rw [ht] at hp; injection hp with hp; injection hp with hp; exact hp.symm
  rw [run_slice_h _ _ _ _ _ hp kh h h1 h2, he]
  simp [sizeOf, typeInfo, hi', hz, Result.andThen, sliced]
theorem cut_l (ht : P.underlying t = some (.slice e)) (hi' : P.info? e = some i) (hz : i.size = 1) (A : Option Addr) (n c : Nat) (kl : IntKind) (l : Int) (h0 : 0 ≤ l) (h1 : l ≤ (n : Int)) (W : World) :
    (Instr.slice t (.slice A n c) (some (.int kl l)) none none).run P W = .ok (.slice (if c = l.toNat then A else A.map (·.add (l.toNat * 1))) (n - l.toNat) (c - l.toNat)) W := by
  have hp : P.underlying t = some (.slice (P.elem t)) := by simp [Program.elem, ht]
  have he : P.elem t = e := by rw [ht] at hp; injection hp with hp; injection hp with hp; exact hp.symm
  rw [run_slice_l _ _ _ _ _ hp kl l h0 h1, he]
  simp [sizeOf, typeInfo, hi', hz, Result.andThen, sliced]
theorem cut_hm (ht : P.underlying t = some (.slice e)) (hi' : P.info? e = some i) (hz : i.size = 1) (A : Option Addr) (n c : Nat) (kh km : IntKind) (h m : Int) (h1 : 0 ≤ h) (h2 : h ≤ m) (h3 : m ≤ (c : Int)) (W : World) :
    (Instr.slice t (.slice A n c) none (some (.int kh h)) (some (.int km m))).run P W = .ok (.slice (if m.toNat = 0 then A else A.map (·.add (0 * 1))) (h.toNat - 0) (m.toNat - 0)) W := by
  have hp : P.underlying t = some (.slice (P.elem t)) := by simp [Program.elem, ht]
  have he : P.elem t = e := by rw [ht] at hp; injection hp with hp; injection hp with hp; exact hp.symm
  rw [run_slice_hm _ _ _ _ _ hp kh km h m h1 h2 h3, he]
  simp [sizeOf, typeInfo, hi', hz, Result.andThen, sliced]
theorem Bs.cutE (h : Bs w A n c l) {lo hi : Nat} (h1 : lo ≤ hi) (h2 : hi ≤ n) : ∃ A' n' c', (if c = lo then A else A.map (·.add (lo * 1))) = A' ∧ hi - lo = n' ∧ c - lo = c' ∧ Bs w A' n' c' ((l.take hi).drop lo) :=
  ⟨_, _, _, rfl, rfl, rfl, h.cutN h1 h2⟩
theorem cut_lh (ht : P.underlying t = some (.slice e)) (hi' : P.info? e = some i) (hz : i.size = 1) (A : Option Addr) (n c : Nat) (kl kh : IntKind) (l h : Int) (h0 : 0 ≤ l) (h1 : l ≤ h) (h2 : h ≤ (c : Int)) (W : World) :
    (Instr.slice t (.slice A n c) (some (.int kl l)) (some (.int kh h)) none).run P W = .ok (.slice (if c = l.toNat then A else A.map (·.add (l.toNat * 1))) (h.toNat - l.toNat) (c - l.toNat)) W := by
  have hp : P.underlying t = some (.slice (P.elem t)) := by simp [Program.elem, ht]
  have he : P.elem t = e := by rw [ht] at hp; injection hp with hp; injection hp with hp; exact hp.symm
  rw [run_slice_lh _ _ _ _ _ hp kl kh l h h0 h1 h2, he]
  simp [sizeOf, typeInfo, hi', hz, Result.andThen, sliced]
end
def str (l : List UInt8) : ByteArray := ⟨l.toArray⟩
theorem conv_bs {P : Program} {src dst e : TypeId} (hs : P.underlying src = some (.slice e)) (he : P.underlying e = some (.int .u8)) (hd : P.underlying dst = some .string)
    {w : World} {A : Option Addr} {n c : Nat} {l : List UInt8} (h : Bs w A n c l) : (convert src dst (.slice A n c)).run P w = .ok (.string (str l)) w := by
  rcases Nat.eq_zero_or_pos n with h0 | h0
  · subst h0
    obtain rfl : l = [] := List.eq_nil_of_length_eq_zero h.len
    cases A with
    | none => exact run_convert_bytes_nil w src e hs he 0 c dst hd
    | some ad =>
      rw [run_convert_bytes_string w src dst e _ 0 c hs he hd]
      simp [Conv.bytesToString, loadCells, loadCellsFrom]
      rfl
  · obtain ⟨b, off, rfl, hc⟩ := h.rd h0
    have hlen := h.len
    have e1 : str l = strOfNums (l.map fun x => (x.toNat : Int)) := by
      unfold str strOfNums
      congr 1
      simp [List.map_map, Function.comp_def]
    rw [e1]
    refine run_convert_bytes_arg w src e hs he b off n c _ (by simpa using hlen) (fun i hi => ?_) dst hd
    rw [hc i hi]
    unfold bt
    simp [List.getD_eq_getElem?_getD, List.getElem?_map, List.getElem?_eq_getElem (show i < l.length by omega)]
theorem Bs.cells {w : World} {A : Option Addr} {n c : Nat} {l : List UInt8} (h : Bs w A n c l) {ad : Addr} (hA : A = some ad) : ∀ j u, (cu l)[j]? = some u → w.cell? (ad.add j) = some u := by
  intro j u hu
  have hj : j < l.length := by
    rcases Nat.lt_or_ge j l.length with hj | hj
    · exact hj
    · rw [List.getElem?_eq_none (by rw [cu_length]; exact hj)] at hu; cases hu
  rw [cu_at hj] at hu
  cases hu
  obtain ⟨b, off, he, hc⟩ := h.rd (by have := h.len; omega)
  rw [hA] at he
  injection he with he
  subst he
  have ha : (⟨b, off, none⟩ : Addr).add j = ⟨b, off + j, none⟩ := by unfold Addr.add; split <;> simp_all
  rw [ha]
  exact hc j (by have := h.len; omega)
theorem own_nil (w : World) (base : Nat) (e : TypeId) : Own w base e none 0 0 [] := ⟨rfl, by omega, World.ownsRow_nil w base e 1⟩
section
variable {P : Program} {ops : Array Oper} {rest : List Oper} {o : Oper} {a : Act} {Q : Exit → Act → World → Prop}
theorem run_append_bs (w : World) (base : Nat) (t ty e : TypeId) (ht : P.underlying t = some (.slice e)) (hinfo : (P.info? e).map (fun i => (i.zero, i.size, i.bytes)) = some (some (.int .u8 0), 1, 1))
    (A : Option Addr) (n c : Nat) (l : List UInt8) (hown : Own w base e A n c l) (A2 : Option Addr) (n2 c2 : Nat) (l2 : List UInt8) (hr : Bs w A2 n2 c2 l2)
    (hmax : n + n2 ≤ 200000000000000) (hbase : base ≤ w.heap.size) :
    ∃ A' c' w', (Builtin.append_ #[t, t] ty #[.slice A n c, .slice A2 n2 c2]).run P w = .ok (.slice A' (n + n2) c') w' ∧ Own w' base e A' (n + n2) c' (l ++ l2) ∧ w.grownBy w' (Value.slice A n c).ownBlock := by
  obtain ⟨i, hi, hz, hs, hb⟩ := info_parts hinfo
  have hlen : (l ++ l2).length = n + n2 := by rw [List.length_append, hown.len, hr.len]
  cases A2 with
  | none =>
    have h0 : n2 = 0 := by
      rcases Nat.eq_zero_or_pos n2 with h0 | h0
      · exact h0
      · obtain ⟨b, off, he, _⟩ := hr.rd h0; cases he
    have hc0 := hr.nil rfl
    subst h0 hc0
    obtain rfl : l2 = [] := List.eq_nil_of_length_eq_zero hr.len
    have hrun := run_append_owned_none (P := P) w base t ty e i 1 ht hi (.slice A n c) n (cu l) hown.row
    exact ⟨A, c, w, hrun, by simpa using hown, World.grownBy.refl _ _⟩
  | some ad =>
    obtain ⟨v', w', hrun, ho, hg, _⟩ := run_append_own_wide (P := P) w base t ty e i (.int .u8 0) 1 1 ht hi hz hs hb rfl (by omega) (.slice A n c) n (cu l) hown.row ad n2 c2 (cu l2) (by rw [cu_length, hr.len]; omega)
      (hr.cells rfl) (cu_one l2) (by simp only [maxLen]; omega) (by omega) hbase
    have hv : ∃ A' c', v' = .slice A' (n + n2) c' := by
      rcases ho.2 with ⟨hv, h0⟩ | ⟨g, cap, cur, hv, _⟩
      · exact ⟨none, 0, by rw [hv, h0]⟩
      · exact ⟨_, cap, hv⟩
    obtain ⟨A', c', rfl⟩ := hv
    rw [cu_append] at ho
    exact ⟨A', c', w', hrun, ⟨hlen, hmax, ho⟩, hg⟩
theorem Own.base_le {w : World} {base : Nat} {e : TypeId} {A : Option Addr} {n c : Nat} {l : List UInt8} (h : Own w base e A n c l) : ∀ k, (Value.slice A n c).ownBlock = some k → base ≤ k :=
  fun k hk => (h.row.lt k hk).1
theorem wpList_append_bs {w0 : World} (w : World) (hgd : o.guard = none) (s x : Operand) (t : TypeId) (ho : o.op = .call { callee := .builtin .append, args := #[s, x], argTypes := #[t, t] })
    (base : Nat) (e : TypeId) (ht : P.underlying t = some (.slice e)) (hinfo : (P.info? e).map (fun i => (i.zero, i.size, i.bytes)) = some (some (.int .u8 0), 1, 1))
    (A : Option Addr) (n c : Nat) (l : List UInt8) (hs : a.eval s = .slice A n c) (hown : Own w base e A n c l) (A2 : Option Addr) (n2 c2 : Nat) (l2 : List UInt8) (hx : a.eval x = .slice A2 n2 c2) (hr : Bs w A2 n2 c2 l2)
    (HB : Below base w0 w) (hmax : n + n2 ≤ 200000000000000) (hbase : base ≤ w.heap.size)
    (h : ∀ A' m c' w', Own w' base e A' m c' (l ++ l2) → Below base w0 w' → w.grownBy w' (Value.slice A n c).ownBlock → base ≤ w'.heap.size → wpList P ops Q rest (a.put o.dst (.slice A' m c')) w') : wpList P ops Q (o :: rest) a w := by
  refine wpList_plain hgd fun K hK => ?_
  obtain ⟨A', c', w', hrun, ho', hg⟩ := run_append_bs (P := P) w base t o.type e ht hinfo A n c l hown A2 n2 c2 l2 hr hmax hbase
  unfold Oper.wp execOp
  simp only [ho, resolve, invoke, builtin, Sem.run_bind, Sem.run_pure, Result.andThen_ok, List.map_toArray, List.map_cons, List.map_nil, hs, hx, hrun]
  exact hK _ _ (h A' (n + n2) c' w' ho' (HB.grown hg hbase hown.base_le) hg (Nat.le_trans hbase hg.size))
theorem Own.far {w w' : World} {base : Nat} {e : TypeId} {A : Option Addr} {n c : Nat} {l : List UInt8} {row : Option Nat} (h : Own w base e A n c l) (hg : w.grownBy w' row) (hr : ∀ k, row = some k → k < base) : Own w' base e A n c l :=
  h.kept hg (by
    cases hv : (Value.slice A n c).ownBlock with
    | none => exact .inl rfl
    | some k => exact .inr fun he => by have := hr k he.symm; have := h.base_le k hv; omega)
theorem own_lit (w : World) (base : Nat) (e : TypeId) (l : List UInt8) (n : Nat) (hn : l.length = n) (hm : n ≤ 200000000000000) (hb : base ≤ w.heap.size) :
    Own (w.alloc (.cells (cu l).toArray e)) base e (some ⟨w.heap.size, 0, none⟩) n n l :=
  ⟨hn, hm, World.ownsRow_lit w _ n hb (by simp only [maxLen]; omega) (by simp [cu_length, hn])⟩
end
def zs (n : Nat) : List UInt8 := List.replicate n 0
theorem zs_length (n : Nat) : (zs n).length = n := by simp [zs]
theorem cu_zs (n : Nat) : (cu (zs n)).toArray = madeCells #[.int .u8 0] n := by
  apply Array.ext'
  rw [toList_madeCells_one]
  simp [cu, zs]
theorem run_make_zs {P : Program} (t e : TypeId) (ht : P.underlying t = some (.slice e)) (hinfo : (P.info? e).map (fun i => (i.zero, i.size, i.bytes)) = some (some (.int .u8 0), 1, 1)) (kl kc : IntKind) (n : Nat) (hn : n ≤ 200000000000000) (W : World) :
    (Instr.makeSlice t (.int kl (n : Int)) (.int kc (n : Int))).run P W = .ok (.slice (some ⟨W.heap.size, 0, none⟩) n n) (W.alloc (.cells (cu (zs n)).toArray e)) := by
  obtain ⟨i, hi, hz, hs, hb⟩ := info_parts hinfo
  have hr := run_make (P := P) W t e i (.int .u8 0) ht hi hz kl kc n n (by omega) (Int.le_refl _) (by rw [hb]; omega) (by omega)
  simp only [Int.toNat_natCast, hs, Nat.mul_one] at hr
  rw [hr, cu_zs]
  rfl
theorem own_zs (w : World) (base : Nat) (e : TypeId) (n : Nat) (hm : n ≤ 200000000000000) (hb : base ≤ w.heap.size) :
    Own (w.alloc (.cells (cu (zs n)).toArray e)) base e (some ⟨w.heap.size, 0, none⟩) n n (zs n) := own_lit w base e (zs n) n (zs_length n) hm hb
theorem own_litk (w : World) (k : Nat) (hk : w.heap.size = k) (base : Nat) (e : TypeId) (l : List UInt8) (n : Nat) (hn : l.length = n) (hm : n ≤ 200000000000000) (hb : base ≤ k) :
    Own (w.alloc (.cells (cu l).toArray e)) base e (some ⟨k, 0, none⟩) n n l := by
  subst hk
  exact own_lit w base e l n hn hm hb
theorem bs_lit {W : World} {e : TypeId} (l : List UInt8) (n : Nat) (hn : l.length = n) (hm : n ≤ 200000000000000) : Bs (W.alloc (.cells (cu l).toArray e)) (some ⟨W.heap.size, 0, none⟩) n n l :=
  (own_lit W W.heap.size e l n hn hm (Nat.le_refl _)).bs
theorem bs_litk {W : World} {k : Nat} {e : TypeId} (l : List UInt8) (n : Nat) (hk : W.heap.size = k) (hn : l.length = n) (hm : n ≤ 200000000000000) : Bs (W.alloc (.cells (cu l).toArray e)) (some ⟨k, 0, none⟩) n n l :=
  (own_litk W k hk k e l n hn hm (Nat.le_refl _)).bs
def ub (x : Int) : UInt8 := UInt8.ofNat (x % 256).toNat
theorem ub_val (x : Int) : ((ub x).toNat : Int) = x % 256 := by
  unfold ub
  rw [UInt8.toNat_ofNat']
  have : (x % 256).toNat < 256 := by omega
  rw [Nat.mod_eq_of_lt (by simpa using this)]
  omega
theorem cu_ub (x : Int) : Value.int .u8 ((ub x).toNat : Int) = .int .u8 (x % 256) := by rw [ub_val]
theorem Own.put {w : World} {base : Nat} {e : TypeId} {A : Option Addr} {n c : Nat} {l : List UInt8} (h : Own w base e A n c l) {i : Nat} (hi : i < n) :
    ∃ g, A = some ⟨g, 0, none⟩ ∧ base ≤ g ∧ g < w.heap.size ∧ w.cell? ⟨g, i, none⟩ = some (.int .u8 (bt l i)) ∧ w.frozen? ⟨g, i, none⟩ = false ∧
      ∀ x : Int, Own (w.setCell ⟨g, i, none⟩ (.int .u8 (x % 256))) base e A n c (l.set i (ub x)) ∧ w.grownBy (w.setCell ⟨g, i, none⟩ (.int .u8 (x % 256))) (some g) := by
  obtain ⟨hl, hm, hr⟩ := h
  obtain ⟨g, cap, hv, hb, hlt⟩ := hr.form (by omega)
  injection hv with h3 h4 h5
  subst h3 h5
  refine ⟨g, rfl, hb, hlt, ?_, hr.frozenAt i, fun x => ?_⟩
  · rw [hr.cellAt i (by omega), cu_at (by omega)]
  · obtain ⟨h1, h2⟩ := hr.stored i (.int .u8 (x % 256))
    refine ⟨⟨by simpa using hl, hm, ?_⟩, h2⟩
    have hc : cu (l.set i (ub x)) = (cu l).set i (.int .u8 (x % 256)) := by
      unfold cu
      rw [List.map_set, cu_ub]
    rw [hc]
    exact h1
theorem Own.ptr {w : World} {base : Nat} {e : TypeId} {A : Option Addr} {n c : Nat} {l : List UInt8} (h : Own w base e A n c l) (hn : 0 < n) :
    ∃ g, A = some ⟨g, 0, none⟩ ∧ base ≤ g ∧ g < w.heap.size := by
  obtain ⟨g, rfl, h1, h2, _⟩ := h.put hn
  exact ⟨g, rfl, h1, h2⟩
theorem Own.at_ {w : World} {base : Nat} {e : TypeId} {g n c : Nat} {l : List UInt8} (h : Own w base e (some ⟨g, 0, none⟩) n c l) {i : Nat} (hi : i < n) :
    w.cell? ⟨g, i, none⟩ = some (.int .u8 (bt l i)) ∧ w.frozen? ⟨g, i, none⟩ = false := by
  obtain ⟨g', he, h1, h2, h3, h4, _⟩ := h.put hi
  injection he with he
  injection he with he
  subst he
  exact ⟨h3, h4⟩
theorem Own.set_ {w : World} {base : Nat} {e : TypeId} {g n c : Nat} {l : List UInt8} (h : Own w base e (some ⟨g, 0, none⟩) n c l) {i : Nat} (hi : i < n) (x : Int) {y : Int} (hy : x % 256 = y) :
    Own (w.setCell ⟨g, i, none⟩ (.int .u8 y)) base e (some ⟨g, 0, none⟩) n c (l.set i (ub x)) := by
  obtain ⟨g', he, h1, h2, h3, h4, h5⟩ := h.put hi
  injection he with he
  injection he with he
  subst he
  subst hy
  exact (h5 x).1
theorem or_shift {a b k : Nat} (hb : b < 2 ^ k) : a * 2 ^ k ||| b = a * 2 ^ k + b := by
  rw [Nat.mul_comm]; exact (Nat.two_pow_add_eq_or_of_lt hb a).symm
theorem or_u16 {x y : Int} (hx : 0 ≤ x) (hx' : x ≤ 255) (hy : 0 ≤ y) (hy' : y ≤ 255) : bits .or .u16 (x * 256) y = x * 256 + y := by
  rw [u16_or _ _ (by omega) (by omega) hy (by omega)]
  obtain ⟨a, rfl⟩ := Int.eq_ofNat_of_zero_le hx
  obtain ⟨b, rfl⟩ := Int.eq_ofNat_of_zero_le hy
  have e : ((a : Int) * 256).toNat = a * 2 ^ 8 := by omega
  rw [e, Int.toNat_natCast, or_shift (by omega)]
  omega
theorem or_u32b {x y : Int} (hx : 0 ≤ x) (hx' : x ≤ 255) (hy : 0 ≤ y) (hy' : y ≤ 255) : bits .or .u32 (x * 256) y = x * 256 + y := by
  rw [u32_or _ _ (by omega) (by omega) hy (by omega)]
  obtain ⟨a, rfl⟩ := Int.eq_ofNat_of_zero_le hx
  obtain ⟨b, rfl⟩ := Int.eq_ofNat_of_zero_le hy
  have e : ((a : Int) * 256).toNat = a * 2 ^ 8 := by omega
  rw [e, Int.toNat_natCast, or_shift (by omega)]
  omega
theorem or_u32 {x y : Int} (hx : 0 ≤ x) (hx' : x ≤ 65535) (hy : 0 ≤ y) (hy' : y ≤ 65535) : bits .or .u32 (x * 65536) y = x * 65536 + y := by
  rw [u32_or _ _ (by omega) (by omega) hy (by omega)]
  obtain ⟨a, rfl⟩ := Int.eq_ofNat_of_zero_le hx
  obtain ⟨b, rfl⟩ := Int.eq_ofNat_of_zero_le hy
  have e : ((a : Int) * 65536).toNat = a * 2 ^ 16 := by omega
  rw [e, Int.toNat_natCast, or_shift (by omega)]
  omega
def get16 (l : List UInt8) (a : Int) : Int := if 0 ≤ a ∧ a + 2 ≤ (l.length : Int) then bt l a.toNat * 256 + bt l (a.toNat + 1) else 0
theorem get16_in {l : List UInt8} {a : Int} (h0 : 0 ≤ a) (h1 : a + 2 ≤ (l.length : Int)) : get16 l a = bt l a.toNat * 256 + bt l (a.toNat + 1) := if_pos ⟨h0, h1⟩
theorem get16_out {l : List UInt8} {a : Int} (h : ¬ (0 ≤ a ∧ a + 2 ≤ (l.length : Int))) : get16 l a = 0 := if_neg h
theorem get16_lo (l : List UInt8) (a : Int) : 0 ≤ get16 l a := by
  unfold get16; split
  · have := bt_lo l a.toNat; have := bt_lo l (a.toNat + 1); omega
  · omega
theorem get16_hi (l : List UInt8) (a : Int) : get16 l a ≤ 65535 := by
  unfold get16; split
  · have := bt_hi l a.toNat; have := bt_hi l (a.toNat + 1); omega
  · omega
def get32 (l : List UInt8) (a : Int) : Int := if 0 ≤ a ∧ a + 4 ≤ (l.length : Int) then get16 l a * 65536 + get16 l (a + 2) else 0
theorem get32_in {l : List UInt8} {a : Int} (h0 : 0 ≤ a) (h1 : a + 4 ≤ (l.length : Int)) : get32 l a = get16 l a * 65536 + get16 l (a + 2) := if_pos ⟨h0, h1⟩
theorem get32_out {l : List UInt8} {a : Int} (h : ¬ (0 ≤ a ∧ a + 4 ≤ (l.length : Int))) : get32 l a = 0 := if_neg h
theorem get32_lo (l : List UInt8) (a : Int) : 0 ≤ get32 l a := by
  unfold get32; split
  · have := get16_lo l a; have := get16_lo l (a + 2); omega
  · omega
theorem get32_hi (l : List UInt8) (a : Int) : get32 l a ≤ 4294967295 := by
  unfold get32; split
  · have := get16_hi l a; have := get16_hi l (a + 2); omega
  · omega
theorem and_u64_65535 {m : Int} (h0 : 0 ≤ m) (h1 : m < 18446744073709551616) : bits .and .u64 m 65535 = m % 65536 := by
  obtain ⟨a, rfl⟩ := Int.eq_ofNat_of_zero_le h0
  have := u64_and_nat a 65535 (by omega) (by omega)
  rw [show ((65535 : Nat) : Int) = 65535 from rfl] at this
  rw [this, Nat.and_two_pow_sub_one_eq_mod a 16]
  omega
def putK (l : List UInt8) (a n : Nat) (v : Int) : Nat → List UInt8
  | 0 => l
  | k + 1 => (putK l a n v k).set (a + n - 1 - k) (ub (v / 2 ^ (8 * k)))
theorem putK_length (l : List UInt8) (a n : Nat) (v : Int) (k : Nat) : (putK l a n v k).length = l.length := by
  induction k with
  | zero => rfl
  | succ k ih => simp [putK, ih]
def put16 (l : List UInt8) (a v : Int) : List UInt8 := if 0 ≤ a ∧ a + 2 ≤ (l.length : Int) then putK l a.toNat 2 v 2 else l
def put32 (l : List UInt8) (a v : Int) : List UInt8 := if 0 ≤ a ∧ a + 4 ≤ (l.length : Int) then putK l a.toNat 4 v 4 else l
theorem put16_length (l : List UInt8) (a v : Int) : (put16 l a v).length = l.length := by unfold put16; split <;> simp [putK_length]
theorem put32_length (l : List UInt8) (a v : Int) : (put32 l a v).length = l.length := by unfold put32; split <;> simp [putK_length]
theorem put16_eq {l : List UInt8} {i : Nat} {v : Int} (h : i + 2 ≤ l.length) : put16 l i v = (l.set i (ub (v / 256))).set (i + 1) (ub v) := by
  rw [put16, if_pos (by omega)]
  simp only [putK, Int.toNat_natCast]
  rw [List.set_comm _ _ (by omega)]
  simp
theorem put32_halves {l : List UInt8} {a v : Int} (h0 : 0 ≤ a) (h : a + 4 ≤ (l.length : Int)) : put32 l a v = put16 (put16 l a (v / 65536)) (a + 2) (v % 65536) := by
  obtain ⟨i, rfl⟩ := Int.eq_ofNat_of_zero_le h0
  have e : (i : Int) + 2 = ((i + 2 : Nat) : Int) := by omega
  rw [e, put16_eq (by rw [put16_length]; omega), put16_eq (by omega), put32, if_pos (by omega)]
  simp only [putK, Int.toNat_natCast]
  have u1 : ub (v % 65536 / 256) = ub (v / 256) := by unfold ub; congr 2; omega
  have u2 : ub (v % 65536) = ub v := by unfold ub; congr 2; omega
  have u3 : v / 65536 / 256 = v / 16777216 := by omega
  rw [u1, u2, u3]
  apply List.ext_getElem?
  intro j
  simp only [List.getElem?_set]
  simp
  by_cases j0 : i = j
  · subst j0; simp; exact fun h => absurd h (by omega)
  by_cases j1 : i + 1 = j
  · subst j1; simp
  by_cases j2 : i + 2 = j
  · subst j2; simp
  by_cases j3 : i + 3 = j
  · subst j3; simp
  simp [*]
def fd (n : Int) : Int := if n = 0 then 0 else (n - 1) % 65535 + 1
theorem fd_lo (n : Int) : 0 ≤ fd n := by unfold fd; split <;> omega
theorem fd_hi (n : Int) : fd n ≤ 65535 := by unfold fd; split <;> omega
theorem fd_small {n : Int} (h0 : 0 ≤ n) (h1 : n ≤ 65535) : fd n = n := by unfold fd; split <;> omega
theorem fd_step {n : Int} (h0 : 0 ≤ n) : fd (n / 65536 + n % 65536) = fd n := by unfold fd; split <;> split <;> omega
theorem not_u16 {x : Int} (h0 : 0 ≤ x) (h1 : x ≤ 65535) : bits .xor .u16 IntKind.u16.max x = 65535 - x := by
  obtain ⟨a, rfl⟩ := Int.eq_ofNat_of_zero_le h0
  have hm : IntKind.u16.max = ((65535 : Nat) : Int) := rfl
  rw [hm, u16_xor_nat 65535 a (by omega) (by omega)]
  have h := BitVec.toNat_not (x := BitVec.ofNat 16 a)
  have ha : a % 65536 = a := Nat.mod_eq_of_lt (by omega)
  rw [← BitVec.allOnes_xor, BitVec.toNat_xor, BitVec.toNat_allOnes, BitVec.toNat_ofNat] at h
  rw [show (2 : Nat) ^ 16 = 65536 from rfl, ha] at h
  have h' : 65535 ^^^ a = 65535 - a := h
  rw [h']
  omega
def ahead (a b : Int) : Int := if 2147483648 ≤ (a - b) % 4294967296 then (a - b) % 4294967296 - 4294967296 else (a - b) % 4294967296
def two (v : Int) : List UInt8 := [ub (v / 256), ub v]
def four (v : Int) : List UInt8 := [ub (v / 16777216), ub (v / 65536), ub (v / 256), ub v]
def pseudo (s d p n : Int) : List UInt8 := four s ++ four d ++ [0, ub p] ++ two (n % 65536)
theorem pseudo_eq (s d p n : Int) : put16 ((put32 (put32 (zs 12) 0 s) 4 d).set 9 (ub p)) 10 (n % 65536) = pseudo s d p n := by
  simp [put16, put32, putK, zs, List.replicate, four, two, pseudo]
def wd (l : List UInt8) (i : Nat) : Int := bt l (2 * i) * 256 + bt l (2 * i + 1)
theorem wd_lo (l : List UInt8) (i : Nat) : 0 ≤ wd l i := by unfold wd; have := bt_lo l (2 * i); have := bt_lo l (2 * i + 1); omega
theorem wd_hi (l : List UInt8) (i : Nat) : wd l i ≤ 65535 := by unfold wd; have := bt_hi l (2 * i); have := bt_hi l (2 * i + 1); omega
theorem bt_out {l : List UInt8} {i : Nat} (h : l.length ≤ i) : bt l i = 0 := by
  unfold bt
  rw [List.getD_eq_getElem?_getD, List.getElem?_eq_none h]
  rfl
theorem wd_odd {l : List UInt8} {i : Nat} (h : l.length ≤ 2 * i + 1) : wd l i = bt l (2 * i) * 256 := by
  unfold wd; rw [bt_out h]; omega
def wsK (l : List UInt8) : Nat → Int
  | 0 => 0
  | k + 1 => wsK l k + wd l k
theorem wsK_lo (l : List UInt8) (k : Nat) : 0 ≤ wsK l k := by
  induction k with
  | zero => exact Int.le_refl _
  | succ k ih => have := wd_lo l k; simp only [wsK]; omega
theorem wsK_hi (l : List UInt8) (k : Nat) : wsK l k ≤ 65535 * (k : Int) := by
  induction k with
  | zero => simp [wsK]
  | succ k ih => have := wd_hi l k; simp only [wsK]; omega
def ws (l : List UInt8) : Int := wsK l ((l.length + 1) / 2)
def csum (l : List UInt8) : Int := 65535 - fd (ws l)
theorem csum_lo (l : List UInt8) : 0 ≤ csum l := by unfold csum; have := fd_hi (ws l); omega
theorem csum_hi (l : List UInt8) : csum l ≤ 65535 := by unfold csum; have := fd_lo (ws l); omega
structure Pkt where
  tos : Int
  id : Int
  keep : Bool
  ttl : Int
  proto : Int
  src : Int
  dst : Int
  opt : List UInt8
  dat : List UInt8
structure Pkt.Ok (p : Pkt) : Prop where
  tos : 0 ≤ p.tos ∧ p.tos ≤ 255
  id : 0 ≤ p.id ∧ p.id ≤ 65535
  ttl : 0 ≤ p.ttl ∧ p.ttl ≤ 255
  proto : 0 ≤ p.proto ∧ p.proto ≤ 255
  src : 0 ≤ p.src ∧ p.src ≤ 4294967295
  dst : 0 ≤ p.dst ∧ p.dst ≤ 4294967295
def zP : Pkt := ⟨0, 0, false, 0, 0, 0, 0, [], []⟩
end Go.Proofs.Ytjjhnjkmoogloaa
namespace Go.Proofs.Ytjjhnjkmoogloaa
set_option linter.unusedVariables false
set_option linter.unusedSimpArgs false
theorem bt_set (l : List UInt8) (i k : Nat) (b : UInt8) : bt (l.set i b) k = if i = k ∧ i < l.length then (b.toNat : Int) else bt l k := by
  unfold bt
  simp only [List.getD_eq_getElem?_getD, List.getElem?_set]
  by_cases h : i = k
  · subst h
    by_cases h2 : i < l.length
    · simp [h2]
    · simp [h2]
  · simp [h]
theorem bt_append_left {a : List UInt8} (b : List UInt8) {i : Nat} (h : i < a.length) : bt (a ++ b) i = bt a i := by
  unfold bt
  simp [List.getD_eq_getElem?_getD, List.getElem?_append_left h]
theorem bt_append_right (a b : List UInt8) (i : Nat) : bt (a ++ b) (a.length + i) = bt b i := by
  unfold bt
  rw [List.getD_eq_getElem?_getD, List.getD_eq_getElem?_getD, List.getElem?_append_right (by omega), Nat.add_sub_cancel_left]
theorem wsK_congr {l l' : List UInt8} : ∀ {k : Nat}, (∀ i, i < k → wd l i = wd l' i) → wsK l k = wsK l' k
  | 0, _ => rfl
  | k + 1, h => by
    simp only [wsK]
    rw [wsK_congr (k := k) (fun i hi => h i (by omega)), h k (by omega)]
theorem wsK_more (l : List UInt8) (k : Nat) : wsK l ((l.length + 1) / 2 + k) = ws l := by
  induction k with
  | zero => rfl
  | succ k ih =>
    rw [← Nat.add_assoc]
    simp only [wsK]
    rw [ih]
    have : wd l ((l.length + 1) / 2 + k) = 0 := by
      unfold wd
      rw [bt_out (by omega), bt_out (by omega)]
      rfl
    omega
theorem bt_zs (n i : Nat) : bt (zs n) i = 0 := by
  unfold bt zs
  rw [List.getD_eq_getElem?_getD, List.getElem?_replicate]
  split <;> rfl
theorem bt_zeros_behind (b : List UInt8) (n i : Nat) : bt (b ++ zs n) i = bt b i := by
  by_cases h : i < b.length
  · exact bt_append_left _ h
  · obtain ⟨k, rfl⟩ : ∃ k, i = b.length + k := ⟨i - b.length, by omega⟩
    rw [bt_append_right, bt_zs, bt_out (by omega)]
theorem ws_behind (b : List UInt8) (n : Nat) : ws (b ++ zs n) = ws b := by
  rw [← wsK_more b (((b ++ zs n).length + 1) / 2 - (b.length + 1) / 2)]
  have e : (b.length + 1) / 2 + (((b ++ zs n).length + 1) / 2 - (b.length + 1) / 2) = ((b ++ zs n).length + 1) / 2 := by rw [List.length_append]; omega
  rw [e]
  unfold ws
  exact wsK_congr fun i _ => by unfold wd; rw [bt_zeros_behind, bt_zeros_behind]
theorem csum_behind (b : List UInt8) (n : Nat) : csum (b ++ zs n) = csum b := by unfold csum; rw [ws_behind]
end Go.Proofs.Ytjjhnjkmoogloaa
namespace Go.Proofs.Ytjjhnjkmoogloaa
open Go.RowKit
set_option linter.unusedVariables false
set_option linter.unusedSimpArgs false
theorem bt_put16 {l : List UInt8} {i : Nat} {v : Int} (h : i + 2 ≤ l.length) (j : Nat) : bt (put16 l i v) j = if j = i then v / 256 % 256 else if j = i + 1 then v % 256 else bt l j := by
  rw [put16_eq h, bt_set, List.length_set, bt_set]
  simp only [ub_val]
  by_cases h1 : j = i
  · rw [if_neg (by omega), if_pos (by omega), if_pos h1]
  · by_cases h2 : j = i + 1
    · rw [if_pos (by omega), if_neg h1, if_pos h2]
    · rw [if_neg (by omega), if_neg (by omega), if_neg h1, if_neg h2]
theorem get16_put16 {l : List UInt8} {i : Nat} {v : Int} (v0 : 0 ≤ v) (v1 : v ≤ 65535) (h : i + 2 ≤ l.length) : get16 (put16 l i v) i = v := by
  rw [get16_in (by omega) (by rw [put16_length]; omega), show ((i : Nat) : Int).toNat = i from by omega, bt_put16 h, bt_put16 h]
  simp
  omega
theorem get16_put16_far {l : List UInt8} {i k : Nat} {v : Int} (h : i + 2 ≤ l.length) (hk : k + 2 ≤ l.length) (hf : k + 2 ≤ i ∨ i + 2 ≤ k) : get16 (put16 l i v) k = get16 l k := by
  rw [get16_in (by omega) (by rw [put16_length]; omega), get16_in (by omega) (by omega), show ((k : Nat) : Int).toNat = k from by omega, bt_put16 h, bt_put16 h]
  rw [if_neg (by omega), if_neg (by omega), if_neg (by omega), if_neg (by omega)]
theorem put32_two {l : List UInt8} {k : Nat} {v : Int} (h : k + 4 ≤ l.length) : put32 l k v = put16 (put16 l k (v / 65536)) ((k + 2 : Nat) : Int) (v % 65536) := by
  rw [put32_halves (by omega) (by omega)]
  congr 1
theorem bt_put32 {l : List UInt8} {k : Nat} {v : Int} (h : k + 4 ≤ l.length) (j : Nat) (hj : j < k ∨ k + 4 ≤ j) : bt (put32 l k v) j = bt l j := by
  rw [put32_two h, bt_put16 (by rw [put16_length]; omega), bt_put16 (by omega), if_neg (by omega), if_neg (by omega), if_neg (by omega), if_neg (by omega)]
theorem get16_put32_hi {l : List UInt8} {k : Nat} {v : Int} (v0 : 0 ≤ v) (v1 : v ≤ 4294967295) (h : k + 4 ≤ l.length) : get16 (put32 l k v) k = v / 65536 := by
  rw [put32_two h, get16_put16_far (by rw [put16_length]; omega) (by rw [put16_length]; omega) (by omega), get16_put16 (by omega) (by omega) (by omega)]
theorem get16_put32_lo {l : List UInt8} {k : Nat} {v : Int} (h : k + 4 ≤ l.length) : get16 (put32 l k v) ((k + 2 : Nat) : Int) = v % 65536 := by
  rw [put32_two h, get16_put16 (by omega) (by omega) (by rw [put16_length]; omega)]
theorem get32_put32 {l : List UInt8} {k : Nat} {v : Int} (v0 : 0 ≤ v) (v1 : v ≤ 4294967295) (h : k + 4 ≤ l.length) : get32 (put32 l k v) k = v := by
  rw [get32_in (by omega) (by rw [put32_length]; omega), get16_put32_hi v0 v1 h, show (k : Int) + 2 = ((k + 2 : Nat) : Int) from by omega, get16_put32_lo h]
  omega
theorem there_yes (A : Option Addr) (n c : Nat) (a k : Int) (w : World) (h0 : 0 ≤ a) (h1 : a ≤ n) (h2 : k ≤ n - a) (hn : n ≤ 200000000000000) :
    Calls Try.prog 72 #[.slice A n c, .int .i64 a, .int .i64 k] w fun e w' => e = .returned (.bool true) ∧ w = w' := by
  go_enter Try.func72, Try.ntmps72
  go_wp2
  go_ret
  exact ⟨rfl, rfl⟩
theorem there_no (A : Option Addr) (n c : Nat) (a k : Int) (w : World) (h : ¬ (0 ≤ a ∧ a ≤ n ∧ k ≤ n - a)) (hn : n ≤ 200000000000000) :
    Calls Try.prog 72 #[.slice A n c, .int .i64 a, .int .i64 k] w fun e w' => e = .returned (.bool false) ∧ w = w' := by
  by_cases h0 : 0 ≤ a
  · by_cases h1 : a ≤ n
    · have h2 : ¬ k ≤ n - a := fun h2 => h ⟨h0, h1, h2⟩
      clear h
      go_enter Try.func72, Try.ntmps72
      go_wp2
      go_ret
      exact ⟨rfl, rfl⟩
    · clear h
      go_enter Try.func72, Try.ntmps72
      go_wp2
      go_ret
      exact ⟨rfl, rfl⟩
  · clear h
    go_enter Try.func72, Try.ntmps72
    go_wp2
    go_ret
    exact ⟨rfl, rfl⟩
theorem get16_any (A : Option Addr) (n c : Nat) (l : List UInt8) (a : Int) (w : World) (hb : Bs w A n c l) :
    Calls Try.prog 38 #[.slice A n c, .int .i64 a] w fun e w' => e = .returned (.int .u16 (get16 l a)) ∧ Drawn w w' := by
  have hmax := hb.max
  by_cases h : 0 ≤ a ∧ a ≤ n ∧ 2 ≤ (n : Int) - a
  · obtain ⟨h0, h1, h2⟩ := h
    have hq : get16 l a = _ := get16_in h0 (by rw [hb.len]; omega)
    rw [hq]; clear hq
    obtain ⟨b, off, rfl, hc⟩ := hb.rd (by omega)
    obtain ⟨i, rfl⟩ := Int.eq_ofNat_of_zero_le h0
    have c0 := hc i (by omega)
    have c1 := hc (i + 1) (by omega)
    clear hc
    have b0 := bt_lo l i
    have b0' := bt_hi l i
    have b1 := bt_lo l (i+1)
    have b1' := bt_hi l (i+1)
    have hor := or_u16 b0 b0' b1 b1'
    have j0 : (i : Int) < (n : Int) := by omega
    have j1 : (i : Int) + 1 < (n : Int) := by omega
    have j2 : 0 ≤ (i : Int) + 1 := by omega
    have j3 : ((i : Int) + 1).toNat = i + 1 := by omega
    have j4 : IntKind.i64.wrap ((i : Int) + 1) = (i : Int) + 1 := IntWalk.i64_in _ (by omega)
    clear h0 h1 h2
    go_enter Try.func38, Try.ntmps38
    go_wp2_with (go_at_call 72; refine (there_yes _ _ _ _ _ _ (by omega) (by omega) (by omega) hmax).mono ?_; rintro e w' ⟨rfl, rfl⟩)
    go_quiet (fail)
    go_wp2
    go_ret
    exact ⟨rfl, (Drawn.refl _).step _⟩
  · rw [get16_out (by rw [hb.len]; omega)]
    go_enter Try.func38, Try.ntmps38
    go_wp2_with (go_at_call 72; refine (there_no _ _ _ _ _ _ h hmax).mono ?_; rintro e w' ⟨rfl, rfl⟩)
    go_ret
    exact ⟨rfl, Drawn.refl _⟩
theorem get32_any (A : Option Addr) (n c : Nat) (l : List UInt8) (a : Int) (w : World) (hb : Bs w A n c l) :
    Calls Try.prog 39 #[.slice A n c, .int .i64 a] w fun e w' => e = .returned (.int .u32 (get32 l a)) ∧ Drawn w w' := by
  have hmax := hb.max
  by_cases h : 0 ≤ a ∧ a ≤ n ∧ 4 ≤ (n : Int) - a
  · obtain ⟨h0, h1, h2⟩ := h
    have hq : get32 l a = _ := get32_in h0 (by rw [hb.len]; omega)
    rw [hq]; clear hq
    have b0 := get16_lo l a
    have b0' := get16_hi l a
    have b1 := get16_lo l (a+2)
    have b1' := get16_hi l (a+2)
    have hor := or_u32 b0 b0' b1 b1'
    have j4 : IntKind.i64.wrap (a + 2) = a + 2 := IntWalk.i64_in _ (by omega)
    go_enter Try.func39, Try.ntmps39
    go_wp2_with (first | (go_at_call 72; refine (there_yes _ _ _ _ _ _ (by omega) (by omega) (by omega) hmax).mono ?_; rintro e w' ⟨rfl, rfl⟩) | (go_at_call 38; refine (get16_any _ _ _ l _ _ (by first | exact hb | exact hb.drewN _)).mono ?_; rintro e w' ⟨rfl, ⟨nq, rfl⟩⟩))
    go_ret
    exact ⟨rfl, by repeat (first | exact Drawn.refl _ | apply Drawn.step | apply Drawn.drew)⟩
  · rw [get32_out (by rw [hb.len]; omega)]
    go_enter Try.func39, Try.ntmps39
    go_wp2_with (go_at_call 72; refine (there_no _ _ _ _ _ _ h hmax).mono ?_; rintro e w' ⟨rfl, rfl⟩)
    go_ret
    exact ⟨rfl, Drawn.refl _⟩
theorem fold_any (n : Int) (h0 : 0 ≤ n) (h1 : n < 18446744073709551616) (w : World) :
    Calls Try.prog 81 #[.int .u64 n] w fun e w' => e = .returned (.int .u16 (fd n)) ∧ w = w' := by
  have hlo := fd_lo n
  have hhi := fd_hi n
  go_enter Try.func81, Try.ntmps81
  go_wp2
  go_loop [0] (fun v => ∃ m : Int, 0 ≤ m ∧ m < 18446744073709551616 ∧ Hid (fd m = fd n) ∧ v = .int .u64 m) (fun v => (intOf v).toNat)
  case atStart => exact ⟨n, h0, h1, rfl, rfl⟩
  case round =>
    obtain ⟨m, hm0, hm1, hm2, rfl⟩ := hrel
    by_cases hs : m / 65536 = 0
    · have hs1 : (m / 65536 != 0) = false := by simpa using hs
      have hs2 : fd m = m := fd_small hm0 (by omega)
      have HQ : Hid (fd n = m) := by rw [← hm2.out]; exact hs2
      have hm3 : m ≤ 65535 := by omega
      clear hs hs2
      go_wp2
      go_ret
      exact ⟨by rw [HQ.out]; rfl, rfl⟩
    · have hs1 : (m / 65536 != 0) = true := by simpa using hs
      have hand := and_u64_65535 hm0 hm1
      go_wp2
      go_round
      case rel => exact ⟨_, by omega, by omega, by rw [fd_step hm0]; exact hm2, rfl⟩
      case measure => simp [intOf]; omega
theorem info_u8 : (Try.prog.info? 5).map (fun i => (i.zero, i.size, i.bytes)) = some (some (.int .u8 0), 1, 1) := by kernel_rfl
theorem cv {w : World} {A : Option Addr} {n c : Nat} {l : List UInt8} (h : Bs w A n c l) : (convert 24 9 (.slice A n c)).run Try.prog w = .ok (.string (str l)) w :=
  conv_bs Try.underlying24 Try.underlying5 Try.underlying9 h
theorem clone_any (A : Option Addr) (n c : Nat) (l : List UInt8) (w : World) (hb : Bs w A n c l) :
    Calls Try.prog 40 #[.slice A n c] w fun e w' => ∃ A' c', e = .returned (.slice A' n c') ∧ Own w' w.heap.size 5 A' n c' l ∧ Below w.heap.size w w' := by
  have hnil := fun W => Lib.run_eql_slice_nil (P := Try.prog) W 24 5 A n c 0 0 Try.underlying24
  cases A with
  | none =>
    have h0 := hb.nil rfl
    have h1 := hb.cap
    obtain rfl : c = 0 := h0
    obtain rfl : n = 0 := by omega
    obtain rfl : l = [] := List.eq_nil_of_length_eq_zero hb.len
    go_enter Try.func40, Try.ntmps40
    go_wp2
    go_ret
    exact ⟨none, 0, rfl, own_nil _ _ _, Below.refl _ _⟩
  | some ad =>
    go_enter Try.func40, Try.ntmps40
    go_wp2_with (at_builtin; refine wpList_append_bs (w0 := w) _ rfl _ _ _ rfl w.heap.size 5 Try.underlying24 info_u8 (some ⟨w.heap.size, 0, none⟩) 0 0 [] rfl (own_lit w _ _ [] 0 rfl (by omega) (Nat.le_refl _)) (some ad) n c l rfl (hb.alloc _) ((Below.refl _ _).alloc (Nat.le_refl _) _) (by have := hb.max; omega) (by simp) ?_; intro A' m c' w' ho hB hg _)
    obtain rfl : m = n := by have := ho.len; have := hb.len; simp at *; omega
    go_ret
    exact ⟨A', c', rfl, ho, hB⟩
theorem put_any (K : Nat) (hK : K ≤ 4) (A : Option Addr) (n c : Nat) (l : List UInt8) (a v : Int) (v0 : 0 ≤ v) (v1 : v ≤ 4294967295) (w : World) (hb : Bs w A n c l) :
    Calls Try.prog 77 #[.slice A n c, .int .i64 a, .int .i64 K, .int .u32 v] w fun e w' => ∃ A' c', e = .returned (.slice A' n c') ∧ Own w' w.heap.size 5 A' n c' (if 0 ≤ a ∧ a + K ≤ (l.length : Int) then putK l a.toNat K v K else l) ∧ Below w.heap.size w w' := by
  have hmax := hb.max
  have hcap := hb.cap
  have hcut : ∀ W, (Instr.slice 24 (.slice A n c) none (some (.int .i64 n)) (some (.int .i64 n))).run Try.prog W = .ok (.slice A n n) W := fun W => by
    obtain ⟨i, hi, _, hz, _⟩ := info_parts info_u8
    rw [cut_hm Try.underlying24 hi hz A n c .i64 .i64 n n (by omega) (by omega) (by omega) W]
    cases A <;> simp [Addr.add]
  have hb2 : Bs w A n n l := ⟨hb.len, Nat.le_refl _, hb.max, fun h => by have := hb.nil h; omega, hb.rd⟩
  by_cases h : 0 ≤ a ∧ a ≤ n ∧ (K : Int) ≤ (n : Int) - a
  · rw [if_pos (by rw [hb.len]; omega)]
    obtain ⟨h0, h1, h2⟩ := h
    go_enter Try.func77, Try.ntmps77
    go_wp2_with (first | (go_at_call 72; refine (there_yes _ _ _ _ _ _ h0 h1 h2 hmax).mono ?_; rintro e w' ⟨rfl, rfl⟩) | (go_at_call 40; refine (clone_any _ _ _ l _ hb2).mono ?_; rintro e w1 ⟨A1, c1, rfl, ho1, hB1⟩))
    obtain ⟨i0, rfl⟩ := Int.eq_ofNat_of_zero_le h0
    have hlen := hb.len
    go_loopw [10, 23] (fun _ k wr => ∃ j : Nat, j ≤ K ∧ k = .int .i64 j ∧ Own wr w.heap.size 5 A1 n c1 (putK l i0 K v j) ∧ Below w.heap.size w wr) (fun _ k _ => K - (intOf k).toNat)
    case atStart => exact ⟨0, by omega, rfl, ho1, hB1⟩
    case round =>
      obtain ⟨j, hj, rfl, ho, hB⟩ := hrel
      by_cases hlt : j < K
      · obtain ⟨g, rfl, hg1, hg2, hcell, hfr, hst⟩ := ho.put (i := i0 + K - 1 - j) (by omega)
        obtain ⟨ho2, hgr⟩ := hst (v / 2 ^ (8 * j))
        have e1 : ((i0 : Int) + K - 1 - j).toNat = i0 + K - 1 - j := by omega
        have e2 : 0 ≤ (i0 : Int) + K - 1 - j := by omega
        have e3 : (i0 : Int) + K - 1 - j < n := by omega
        go_wp2
        refine ⟨⟨j + 1, by omega, by go_num, ho2, hB.setCell (p := ⟨g, i0 + K - 1 - j, none⟩) hg1 _⟩, by simp [intOf]; omega⟩
      · go_wp2
        obtain rfl : j = K := by omega
        go_ret
        exact ⟨_, _, rfl, ho, hB⟩
  · rw [if_neg (by rw [hb.len]; omega)]
    go_enter Try.func77, Try.ntmps77
    go_wp2_with (first | (go_at_call 72; refine (there_no _ _ _ _ _ _ h hmax).mono ?_; rintro e w' ⟨rfl, rfl⟩) | (go_at_call 40; refine (clone_any _ _ _ l _ hb2).mono ?_; rintro e w1 ⟨A1, c1, rfl, ho1, hB1⟩))
    go_ret
    exact ⟨_, _, rfl, ho1, hB1⟩
theorem put16_any (A : Option Addr) (n c : Nat) (l : List UInt8) (a v : Int) (v0 : 0 ≤ v) (v1 : v ≤ 65535) (w : World) (hb : Bs w A n c l) :
    Calls Try.prog 50 #[.slice A n c, .int .i64 a, .int .u16 v] w fun e w' => ∃ A' c', e = .returned (.slice A' n c') ∧ Own w' w.heap.size 5 A' n c' (put16 l a v) ∧ Below w.heap.size w w' := by
  go_enter Try.func50, Try.ntmps50
  go_wp2_with (go_at_call 77; refine (put_any 2 (by omega) _ _ _ l a v v0 (by omega) _ hb).mono ?_; rintro e w1 ⟨A1, c1, rfl, ho1, hB1⟩)
  go_ret
  exact ⟨_, _, rfl, ho1, hB1⟩
theorem put32_any (A : Option Addr) (n c : Nat) (l : List UInt8) (a v : Int) (v0 : 0 ≤ v) (v1 : v ≤ 4294967295) (w : World) (hb : Bs w A n c l) :
    Calls Try.prog 60 #[.slice A n c, .int .i64 a, .int .u32 v] w fun e w' => ∃ A' c', e = .returned (.slice A' n c') ∧ Own w' w.heap.size 5 A' n c' (put32 l a v) ∧ Below w.heap.size w w' := by
  go_enter Try.func60, Try.ntmps60
  go_wp2_with (go_at_call 77; refine (put_any 4 (by omega) _ _ _ l a v v0 v1 _ hb).mono ?_; rintro e w1 ⟨A1, c1, rfl, ho1, hB1⟩)
  go_ret
  exact ⟨_, _, rfl, ho1, hB1⟩
theorem pseudo_any (s d p n : Int) (s0 : 0 ≤ s) (s1 : s ≤ 4294967295) (d0 : 0 ≤ d) (d1 : d ≤ 4294967295) (p0 : 0 ≤ p) (p1 : p ≤ 255) (n0 : -9223372036854775808 ≤ n) (n1 : n ≤ 9223372036854775807) (w : World) :
    Calls Try.prog 68 #[.int .u32 s, .int .u32 d, .int .u8 p, .int .i64 n] w fun e w' => ∃ A' c', e = .returned (.slice A' 12 c') ∧ Own w' w.heap.size 5 A' 12 c' (pseudo s d p n) ∧ Below w.heap.size w w' := by
  have hmk : ∀ W, (Instr.makeSlice 24 (.int .i64 12) (.int .i64 12)).run Try.prog W = .ok (.slice (some ⟨W.heap.size, 0, none⟩) 12 12) (W.alloc (.cells (cu (zs 12)).toArray 5)) :=
    run_make_zs (P := Try.prog) 24 5 Try.underlying24 info_u8 .i64 .i64 12 (by omega)
  go_enter Try.func68, Try.ntmps68
  go_wp2_with fail
  refine (put32_any _ _ _ (zs 12) 0 s s0 s1 _ (own_zs w w.heap.size 5 12 (by omega) (Nat.le_refl _)).bs).mono ?_
  rintro e w1 ⟨A1, c1, rfl, ho1, hB1⟩
  replace hB1 : Below w.heap.size w w1 := below_then ((Below.refl _ w).alloc (Nat.le_refl _) _) hB1
  go_wp2_with fail
  refine (put32_any _ _ _ _ 4 d d0 d1 _ ho1.bs).mono ?_
  rintro e w2 ⟨A2, c2, rfl, ho2, hB2⟩
  replace hB2 : Below w.heap.size w w2 := below_then hB1 hB2
  obtain ⟨g, rfl, hg1, hg2, hcell, hfr, hst⟩ := ho2.put (i := 9) (by omega)
  obtain ⟨ho3, hgr⟩ := hst p
  have hp : p % 256 = p := by omega
  rw [hp] at ho3 hgr
  have hB3 := hB2.setCell (p := ⟨g, 9, none⟩) (Nat.le_trans hB1.size hg1) (.int .u8 p)
  have hr := pseudo_eq s d p n
  clear hp
  go_wp2_with fail
  refine (put16_any _ _ _ _ 10 (n % 65536) (by omega) (by omega) _ ho3.bs).mono ?_
  rintro e w4 ⟨A4, c4, rfl, ho4, hB4⟩
  rw [hr] at ho4
  clear hr
  go_wp2_with fail
  go_ret
  exact ⟨_, _, rfl, ho4.mono hB3.size, below_then hB3 hB4⟩
set_option maxRecDepth 100000

structure Opt where
  kind : Int
  dat : List UInt8
structure Opt.Ok (o : Opt) : Prop where
  kind : 0 ≤ o.kind ∧ o.kind ≤ 255
def zO : Opt := ⟨0, []⟩
structure Seg where
  src : Int
  dst : Int
  seq : Int
  ack : Int
  flags : Int
  win : Int
  urg : Int
  opts : List Opt
  dat : List UInt8
structure Seg.Ok (s : Seg) : Prop where
  src : 0 ≤ s.src ∧ s.src ≤ 65535
  dst : 0 ≤ s.dst ∧ s.dst ≤ 65535
  seq : 0 ≤ s.seq ∧ s.seq ≤ 4294967295
  ack : 0 ≤ s.ack ∧ s.ack ≤ 4294967295
  flags : 0 ≤ s.flags ∧ s.flags ≤ 255
  win : 0 ≤ s.win ∧ s.win ≤ 65535
  urg : 0 ≤ s.urg ∧ s.urg ≤ 65535
  opts : ∀ o ∈ s.opts, o.Ok
structure Dgm where
  src : Int
  dst : Int
  bare : Bool
  dat : List UInt8
structure Dgm.Ok (d : Dgm) : Prop where
  src : 0 ≤ d.src ∧ d.src ≤ 65535
  dst : 0 ≤ d.dst ∧ d.dst ≤ 65535
def zS : Seg := ⟨0, 0, 0, 0, 0, 0, 0, [], []⟩
def eqO (a b : Opt) : Bool := a.kind == b.kind && a.dat == b.dat
theorem eqO_iff (a b : Opt) : eqO a b = true ↔ a = b := by
  unfold eqO
  cases a; cases b
  simp
def eqOs : List Opt → List Opt → Bool
  | [], [] => true
  | a :: x, b :: y => eqO a b && eqOs x y
  | _, _ => false
theorem eqOs_iff : ∀ a b : List Opt, eqOs a b = true ↔ a = b
  | [], [] => by simp [eqOs]
  | [], b :: y => by simp [eqOs]
  | a :: x, [] => by simp [eqOs]
  | a :: x, b :: y => by simp [eqOs, eqO_iff, eqOs_iff x y]
theorem eqOs_self (a : List Opt) : eqOs a a = true := (eqOs_iff a a).2 rfl
theorem eqOs_all {a b : List Opt} (hl : a.length = b.length) (h : ∀ i, i < a.length → a.getD i zO = b.getD i zO) : eqOs a b = true := by
  rw [eqOs_iff]
  apply List.ext_getElem hl
  intro i h1 h2
  have := h i h1
  simpa [List.getD_eq_getElem?_getD, List.getElem?_eq_getElem h1, List.getElem?_eq_getElem h2] using this
theorem eqOs_one {a b : List Opt} {i : Nat} (h : a.getD i zO ≠ b.getD i zO) : eqOs a b = false := by
  cases hq : eqOs a b with
  | false => rfl
  | true => exact absurd (by rw [(eqOs_iff a b).1 hq]) h
theorem eqOs_len {a b : List Opt} (h : a.length ≠ b.length) : eqOs a b = false := by
  cases hq : eqOs a b with
  | false => rfl
  | true => exact absurd (by rw [(eqOs_iff a b).1 hq]) h
def sameS (a b : Seg) : Bool := a.src == b.src && a.dst == b.dst && a.seq == b.seq && a.ack == b.ack && a.flags == b.flags && a.win == b.win && a.urg == b.urg && eqOs a.opts b.opts && a.dat == b.dat
theorem sameS_self (s : Seg) : sameS s s = true := by simp [sameS, eqOs_self]
def allZ (l : List UInt8) : Bool := l.all (· == 0)
def nx (l : List UInt8) : Option (Option (Opt × Nat)) :=
  if l.length = 0 then some none
  else if bt l 0 = 0 then (if allZ l then some none else none)
  else if bt l 0 = 1 then some (some (⟨1, []⟩, 1))
  else if l.length < 2 ∨ bt l 1 < 2 ∨ (l.length : Int) < bt l 1 then none
  else some (some (⟨bt l 0, (l.take (bt l 1).toNat).drop 2⟩, (bt l 1).toNat))
theorem nx_some {l : List UInt8} {o : Opt} {n : Nat} (h : nx l = some (some (o, n))) : 1 ≤ n ∧ n ≤ l.length ∧ o.Ok := by
  have b0 := bt_lo l 0
  have b1 := bt_hi l 0
  unfold nx at h
  split at h
  · cases h
  · split at h
    · split at h <;> cases h
    · split at h
      · simp only [Option.some.injEq, Prod.mk.injEq] at h
        obtain ⟨rfl, rfl⟩ := h
        exact ⟨by omega, by omega, ⟨by decide⟩⟩
      · split at h
        · cases h
        · simp only [Option.some.injEq, Prod.mk.injEq] at h
          obtain ⟨rfl, rfl⟩ := h
          exact ⟨by omega, by omega, ⟨by exact ⟨b0, b1⟩⟩⟩
def optsK : Nat → List UInt8 → Option (List Opt)
  | 0, _ => none
  | k + 1, l => match nx l with
    | none => none
    | some none => some []
    | some (some (o, n)) => (optsK k (l.drop n)).map (o :: ·)
def optsP (l : List UInt8) : Option (List Opt) := optsK (l.length + 1) l
theorem optsK_fuel : ∀ (k j : Nat) (l : List UInt8), l.length < k → l.length < j → optsK k l = optsK j l
  | 0, _, _, h, _ => by omega
  | _, 0, _, _, h => by omega
  | k + 1, j + 1, l, h1, h2 => by
    unfold optsK
    cases h : nx l with
    | none => rfl
    | some x =>
      cases x with
      | none => rfl
      | some y =>
        obtain ⟨o, n⟩ := y
        have hn := nx_some h
        simp only
        rw [optsK_fuel k j (l.drop n) (by rw [List.length_drop]; omega) (by rw [List.length_drop]; omega)]
theorem optsP_none {l : List UInt8} (h : nx l = none) : optsP l = none := by unfold optsP optsK; rw [h]
theorem optsP_end {l : List UInt8} (h : nx l = some none) : optsP l = some [] := by unfold optsP optsK; rw [h]
theorem optsP_some {l : List UInt8} {o : Opt} {n : Nat} (h : nx l = some (some (o, n))) : optsP l = (optsP (l.drop n)).map (o :: ·) := by
  have hn := nx_some h
  unfold optsP
  conv => lhs; unfold optsK
  rw [h]
  simp only
  rw [optsK_fuel l.length ((l.drop n).length + 1) (l.drop n) (by rw [List.length_drop]; omega) (by omega)]
def optB (o : Opt) : List UInt8 := if o.kind = 1 then [ub 1] else [ub o.kind, ub (2 + (o.dat.length : Int))] ++ o.dat
def badO (o : Opt) : Bool := o.kind == 0 || (o.kind == 1 && decide (0 < o.dat.length)) || decide (38 < o.dat.length)
def optsB (os : List Opt) : List UInt8 := os.flatMap optB
def okOs (os : List Opt) : Bool := os.all (fun o => !badO o) && decide ((optsB os).length ≤ 40)
def padN (n : Nat) : Nat := (4 - n % 4) % 4
def optL (os : List Opt) : List UInt8 := optsB os ++ zs (padN (optsB os).length)
theorem optL_len (os : List Opt) : (optL os).length = (optsB os).length + padN (optsB os).length ∧ (optL os).length % 4 = 0 := by
  have : (optL os).length = (optsB os).length + padN (optsB os).length := by unfold optL; rw [List.length_append, zs_length]
  refine ⟨this, ?_⟩
  rw [this]; unfold padN; omega
theorem okOs_len {os : List Opt} (h : okOs os = true) : (optL os).length ≤ 40 := by
  unfold okOs at h
  simp only [Bool.and_eq_true, decide_eq_true_eq] at h
  rw [(optL_len os).1]
  unfold padN
  omega
def hdS (l : List UInt8) : Nat := 4 * (bt l 12 / 16).toNat
def psum (p : Pkt) (pr : Int) (b : List UInt8) : Int := csum (pseudo p.src p.dst pr b.length ++ b)
def tcE (p : Pkt) : Int :=
  if p.proto ≠ 6 then 12 else if p.dat.length < 20 then 3 else if hdS p.dat < 20 ∨ bt p.dat 12 % 16 ≠ 0 then 4 else if p.dat.length < hdS p.dat then 3 else if psum p 6 p.dat ≠ 0 then 5
  else if optsP ((p.dat.take (hdS p.dat)).drop 20) = none then 4 else 0
def rdS (l : List UInt8) : Seg := ⟨get16 l 0, get16 l 2, get32 l 4, get32 l 8, bt l 13, get16 l 14, get16 l 18, (optsP ((l.take (hdS l)).drop 20)).getD [], l.drop (hdS l)⟩
def tcS (p : Pkt) : Seg := if tcE p = 0 then rdS p.dat else zS
def sL (s : Seg) : List UInt8 :=
  two s.src ++ two s.dst ++ four s.seq ++ four s.ack ++ [ub (((20 + (optL s.opts).length : Nat) : Int) / 4 * 16), ub s.flags] ++ two s.win ++ [0, 0] ++ two s.urg ++ optL s.opts ++ s.dat
def sN (s : Seg) : Nat := 20 + (optL s.opts).length + s.dat.length
theorem sL_len (s : Seg) : (sL s).length = sN s := by
  unfold sL sN two four
  simp only [List.length_append, List.length_cons, List.length_nil]
theorem Drawn.bel {w w' : World} (h : Drawn w w') : Below w.heap.size w w' := by
  obtain ⟨n, rfl⟩ := h
  exact below_drewN (Below.refl _ w) n
def dstOf (ops : Array Oper) (j : Nat) : Option Tmp := (ops[j]?).bind (·.dst)
inductive Kd where
  | v (x : Value)
  | b (n : Nat) (l : List UInt8)
  | p (q : World → Value → Prop)
def Kd.holds : Kd → World → Value → Prop
  | .v x, _, u => u = x
  | .b n l, w, u => ∃ A c, u = .slice A n c ∧ Bs w A n c l
  | .p q, w, u => q w u
def Kd.Ok : Kd → Prop
  | .p q => ∀ w w' u, q w u → Below w.heap.size w w' → q w' u
  | _ => True
theorem Kd.keep {K : Kd} (hk : K.Ok) {w w' : World} {v : Value} (h : K.holds w v) (hb : Below w.heap.size w w') : K.holds w' v := by
  cases K with
  | v x => exact h
  | b n l => obtain ⟨A, c, e, k⟩ := h; exact ⟨A, c, e, k.below hb⟩
  | p q => exact hk _ _ _ h hb
def lookK : List (Tmp × Kd) → Tmp → Option Kd
  | [], _ => none
  | (s, K) :: r, t => match Nat.beq s t with
    | true => some K
    | false => lookK r t
def leanOn (ks : List (Tmp × Kd)) (W : World) : List Operand → (Act → Prop) → Act → Prop
  | [], k, a => k a
  | .tmp t :: xs, k, a => match lookK ks t with
    | some (.v x) => leanOn ks W xs k (a.put (some t) x)
    | some (.b n l) => ∀ A c, Bs W A n c l → leanOn ks W xs k (a.put (some t) (.slice A n c))
    | some (.p q) => ∀ v, q W v → leanOn ks W xs k (a.put (some t) v)
    | none => leanOn ks W xs k a
  | .const _ :: xs, k, a => leanOn ks W xs k a
  | .global _ :: xs, k, a => leanOn ks W xs k a
  | .func _ :: xs, k, a => leanOn ks W xs k a
def finOn (W : World) : List (Tmp × Kd) → (Act → Prop) → Act → Prop
  | [], k, a => k a
  | (t, .v x) :: r, k, a => finOn W r k (a.put (some t) x)
  | (t, .b n l) :: r, k, a => ∀ A c, Bs W A n c l → finOn W r k (a.put (some t) (.slice A n c))
  | (t, .p q) :: r, k, a => ∀ v, q W v → finOn W r k (a.put (some t) v)
def OpGoes (P : Program) (R : Value → World → Prop) : Result Next → Prop
  | .ok (.value v) w' => R v w'
  | .ok (.enter f args) w' => Calls P f args w' fun e w'' => ∃ v, e = .returned v ∧ R v w''
  | _ => False
structure Goes (P : Program) (K : Kd) (o : Oper) (W : World) (a : Act) : Prop where
  out : OpGoes P (fun v w' => K.holds w' v ∧ Below W.heap.size W w') ((execOp a.eval o).run P W)
def isSel : Op → Bool
  | .select .. => true
  | _ => false
def wantK (ops : Array Oper) (ks : List (Tmp × Kd)) (g : Option (Nat × Bool)) : Option Bool :=
  match g with
  | none => some true
  | some (g, b) => match dstOf ops g with
    | some t => match lookK ks t with
      | some (.v (.bool c)) => some (c == b)
      | _ => none
    | none => none
def Ob1 (P : Program) (ops : Array Oper) (a0 : Act) (w0 : World) (ks : List (Tmp × Kd)) (o : Oper) (K : Kd) : Prop :=
  (wantK ops ks o.guard = some true ∧ ∀ W, Below w0.heap.size w0 W → leanOn ks W o.op.operands.toList (Goes P K o W) a0) ∨ (wantK ops ks o.guard = some false ∧ K = .v undef)
def ObsK (P : Program) (ops : Array Oper) (a0 : Act) (w0 : World) (fin : List (Tmp × Kd) → Prop) : List (Tmp × Kd) → List Oper → Prop
  | ks, [] => fin ks
  | ks, o :: rest => ∃ K t, o.dst = some t ∧ K.Ok ∧ Ob1 P ops a0 w0 ks o K ∧ ObsK P ops a0 w0 fin ((t, K) :: ks) rest
section
variable {P : Program} {ops : Array Oper} {a0 : Act} {w0 : World} {fin : List (Tmp × Kd) → Prop} {ks : List (Tmp × Kd)} {rest : List Oper}
  {t : Tmp} {op : Op} {ty : TypeId} {pos : String} {after : Array Edge} {g : Option (Nat × Bool)}
theorem ObsK.v {x : Value} (hg : wantK ops ks g = some true) (ho : ∀ W, Below w0.heap.size w0 W → leanOn ks W op.operands.toList (Goes P (.v x) ⟨some t, op, ty, pos, after, g⟩ W) a0)
    (hr : ObsK P ops a0 w0 fin ((t, .v x) :: ks) rest) : ObsK P ops a0 w0 fin ks (⟨some t, op, ty, pos, after, g⟩ :: rest) :=
  ⟨.v x, t, rfl, trivial, .inl ⟨hg, ho⟩, hr⟩
theorem ObsK.b {n : Nat} {l : List UInt8} (hg : wantK ops ks g = some true) (ho : ∀ W, Below w0.heap.size w0 W → leanOn ks W op.operands.toList (Goes P (.b n l) ⟨some t, op, ty, pos, after, g⟩ W) a0)
    (hr : ObsK P ops a0 w0 fin ((t, .b n l) :: ks) rest) : ObsK P ops a0 w0 fin ks (⟨some t, op, ty, pos, after, g⟩ :: rest) :=
  ⟨.b n l, t, rfl, trivial, .inl ⟨hg, ho⟩, hr⟩
theorem ObsK.p {q : World → Value → Prop} (hg : wantK ops ks g = some true) (hk : ∀ w w' v, q w v → Below w.heap.size w w' → q w' v) (ho : ∀ W, Below w0.heap.size w0 W → leanOn ks W op.operands.toList (Goes P (.p q) ⟨some t, op, ty, pos, after, g⟩ W) a0)
    (hr : ObsK P ops a0 w0 fin ((t, .p q) :: ks) rest) : ObsK P ops a0 w0 fin ks (⟨some t, op, ty, pos, after, g⟩ :: rest) :=
  ⟨.p q, t, rfl, hk, .inl ⟨hg, ho⟩, hr⟩
theorem ObsK.skip (hg : wantK ops ks g = some false) (hr : ObsK P ops a0 w0 fin ((t, .v undef) :: ks) rest) : ObsK P ops a0 w0 fin ks (⟨some t, op, ty, pos, after, g⟩ :: rest) :=
  ⟨.v undef, t, rfl, trivial, .inr ⟨hg, rfl⟩, hr⟩
theorem ObsK.nil (h : fin ks) : ObsK P ops a0 w0 fin ks [] := h
theorem goes_v {x : Value} {w : World} : OpGoes P (fun v w' => (Kd.v x).holds w' v ∧ Below w.heap.size w w') (.ok (.value x) w) := ⟨rfl, Below.refl _ _⟩
theorem goes_b {A : Option Addr} {n c : Nat} {l : List UInt8} {w : World} (k : Bs w A n c l) : OpGoes P (fun v w' => (Kd.b n l).holds w' v ∧ Below w.heap.size w w') (.ok (.value (.slice A n c)) w) := ⟨⟨A, c, rfl, k⟩, Below.refl _ _⟩
theorem goes_enter {R : Value → World → Prop} {f : FuncId} {args : Array Value} {w : World} (h : Calls P f args w fun e w'' => ∃ v, e = .returned v ∧ R v w'') : OpGoes P R (.ok (.enter f args) w) := h
theorem ret_v {x : Value} {w w' : World} (h : Below w.heap.size w w') : ∃ v, Ending.returned x = .returned v ∧ (Kd.v x).holds w' v ∧ Below w.heap.size w w' := ⟨_, rfl, rfl, h⟩
theorem ret_b {A : Option Addr} {n c : Nat} {l : List UInt8} {w w' : World} (k : Bs w' A n c l) (h : Below w.heap.size w w') : ∃ v, Ending.returned (.slice A n c) = .returned v ∧ (Kd.b n l).holds w' v ∧ Below w.heap.size w w' := ⟨_, rfl, ⟨_, _, rfl, k⟩, h⟩
theorem ret_p {q : World → Value → Prop} {x : Value} {w w' : World} (k : q w' x) (h : Below w.heap.size w w') : ∃ v, Ending.returned x = .returned v ∧ (Kd.p q).holds w' v ∧ Below w.heap.size w w' := ⟨_, rfl, k, h⟩
def hasOn (o : Oper) (j : Nat) : Bool := o.after.any fun e => e.on == j && Region.binds .any e
def mainB (ops : Array Oper) (m n i : Nat) : Bool := match ops[i]? with
  | some o => (match o.dst with
      | some t => decide (t < n) && (List.range i).all (fun j => dstOf ops j != some t)
      | none => false) && !isSel o.op && o.op.operands.all (fun x => match x with
      | .tmp t => (List.range m).all (fun j => dstOf ops j != some t || (hasOn o j && decide (j < i)))
      | _ => true) && (match o.guard with
      | some (g, _) => hasOn o g && decide (g < i)
      | none => true)
  | none => false
def downB (ops : Array Oper) (i : Nat) : Bool := match ops[i]? with
  | some o => o.after.all fun e => !Region.binds .any e || decide (e.on < i)
  | none => true
def upB (ops : Array Oper) (lo hi : Nat) (j : Nat) : Bool := (List.range (hi + 1 - lo)).any fun k => match ops[lo + k]? with
  | some o => hasOn o j
  | none => false
def regB (ops : Array Oper) (m n : Nat) : Bool :=
  decide (m ≤ ops.size) && (List.range m).all (mainB ops m n) && (List.range ops.size).all (downB ops) &&
    (m == ops.size || (List.range m).all fun j => upB ops (j + 1) m j) && (List.range (ops.size - 1 - m)).all fun k => upB ops (m + k + 1) (m + k + 1) (m + k)
end
theorem lookK_some {t : Tmp} {K : Kd} : ∀ {ks : List (Tmp × Kd)}, lookK ks t = some K → (t, K) ∈ ks
  | (s, K') :: r, h => by
    unfold lookK at h
    cases hb : Nat.beq s t with
    | true =>
      rw [hb] at h
      injection h with h
      subst h
      rw [Nat.eq_of_beq_eq_true hb]
      exact List.mem_cons_self
    | false =>
      rw [hb] at h
      exact List.mem_cons_of_mem _ (lookK_some h)
theorem lookK_none {t : Tmp} : ∀ {ks : List (Tmp × Kd)}, lookK ks t = none → ∀ K, (t, K) ∉ ks
  | [], _, _, hm => by cases hm
  | (s, K') :: r, h, K, hm => by
    unfold lookK at h
    cases hb : Nat.beq s t with
    | true => rw [hb] at h; cases h
    | false =>
      rw [hb] at h
      rcases List.mem_cons.1 hm with e | hm
      · injection e with e1 e2
        subst e1
        rw [Nat.beq_refl] at hb; cases hb
      · exact lookK_none h K hm
theorem put_getD {a : Act} {t s : Tmp} {v : Value} (ht : t < a.tmps.size) : (a.put (some t) v).tmps.getD s undef = if s = t then v else a.tmps.getD s undef := by
  by_cases e : s = t
  · subst e
    simp [Act.put, Array.getD_eq_getD_getElem?, ht]
  · rw [if_neg e]
    simp [Act.put, Array.getD_eq_getD_getElem?, Array.getElem?_setIfInBounds_ne (Ne.symm e)]
theorem leanOn.out {ks : List (Tmp × Kd)} {W : World} {k : Act → Prop} {a' : Act} : ∀ {xs : List Operand} {a : Act}, leanOn ks W xs k a → a.tmps.size = a'.tmps.size →
    (∀ t K, .tmp t ∈ xs → lookK ks t = some K → t < a'.tmps.size ∧ K.holds W (a'.tmps.getD t undef)) →
    ∃ b : Act, k b ∧ b.tmps.size = a.tmps.size ∧ b.defers = a.defers ∧ (∀ t, b.tmps.getD t undef = a.tmps.getD t undef ∨ b.tmps.getD t undef = a'.tmps.getD t undef) ∧
      (∀ t, (∃ K, lookK ks t = some K ∧ .tmp t ∈ xs) → b.tmps.getD t undef = a'.tmps.getD t undef)
  | [], a, h, hs, hv => ⟨a, h, rfl, rfl, fun _ => .inl rfl, fun t ⟨K, _, hm⟩ => by cases hm⟩
  | .tmp t :: xs, a, h, hs, hv => by
    have step : ∀ {K : Kd}, lookK ks t = some K → leanOn ks W xs k (a.put (some t) (a'.tmps.getD t undef)) → ∃ b : Act, k b ∧ b.tmps.size = a.tmps.size ∧ b.defers = a.defers ∧ (∀ t, b.tmps.getD t undef = a.tmps.getD t undef ∨ b.tmps.getD t undef = a'.tmps.getD t undef) ∧
      (∀ s, (∃ K, lookK ks s = some K ∧ .tmp s ∈ .tmp t :: xs) → b.tmps.getD s undef = a'.tmps.getD s undef) := by
      intro K hK h
      have ht : t < a.tmps.size := by rw [hs]; exact (hv t K (List.mem_cons_self) hK).1
      have hs1 : (a.put (some t) (a'.tmps.getD t undef)).tmps.size = a'.tmps.size := by simpa [Act.put] using hs
      obtain ⟨b, hb, e1, e2, e3, e4⟩ := leanOn.out (a' := a') h hs1 (fun s K hm => hv s K (List.mem_cons_of_mem _ hm))
      refine ⟨b, hb, by rw [e1, hs1, hs], e2, fun s => ?_, fun s ⟨K', hK', hm⟩ => ?_⟩
      · rcases e3 s with e | e
        · rw [put_getD ht] at e
          by_cases es : s = t
          · rw [if_pos es] at e; subst es; exact .inr e
          · rw [if_neg es] at e; exact .inl e
        · exact .inr e
      · by_cases hx : Operand.tmp s ∈ xs
        · exact e4 s ⟨K', hK', hx⟩
        · rcases List.mem_cons.1 hm with e | hm
          · injection e with e
            subst e
            rcases e3 s with e | e
            · rw [put_getD ht, if_pos rfl] at e; exact e
            · exact e
          · exact absurd hm hx
    unfold leanOn at h
    cases hl : lookK ks t with
    | none =>
      rw [hl] at h
      obtain ⟨b, hb, e1, e2, e3, e4⟩ := leanOn.out (a' := a') h hs (fun s K hm => hv s K (List.mem_cons_of_mem _ hm))
      refine ⟨b, hb, e1, e2, e3, fun s ⟨K', hK', hm⟩ => ?_⟩
      rcases List.mem_cons.1 hm with e | hm
      · injection e with e
        subst e
        rw [hl] at hK'; cases hK'
      · exact e4 s ⟨K', hK', hm⟩
    | some K =>
      have hh := (hv t K (List.mem_cons_self) hl).2
      rw [hl] at h
      cases K with
      | v x =>
        refine step hl ?_
        have hx : a'.tmps.getD t undef = x := hh
        rw [hx]
        exact h
      | b n l =>
        obtain ⟨A, c, e, hb⟩ := hh
        refine step hl ?_
        rw [e]
        exact h A c hb
      | p q => exact step hl (h _ hh)
  | .const _ :: xs, a, h, hs, hv => by
    obtain ⟨b, hb, e1, e2, e3, e4⟩ := leanOn.out (xs := xs) (a' := a') h hs (fun s K hm => hv s K (List.mem_cons_of_mem _ hm))
    exact ⟨b, hb, e1, e2, e3, fun s ⟨K', hK', hm⟩ => e4 s ⟨K', hK', by rcases List.mem_cons.1 hm with e | hm; cases e; exact hm⟩⟩
  | .global _ :: xs, a, h, hs, hv => by
    obtain ⟨b, hb, e1, e2, e3, e4⟩ := leanOn.out (xs := xs) (a' := a') h hs (fun s K hm => hv s K (List.mem_cons_of_mem _ hm))
    exact ⟨b, hb, e1, e2, e3, fun s ⟨K', hK', hm⟩ => e4 s ⟨K', hK', by rcases List.mem_cons.1 hm with e | hm; cases e; exact hm⟩⟩
  | .func _ :: xs, a, h, hs, hv => by
    obtain ⟨b, hb, e1, e2, e3, e4⟩ := leanOn.out (xs := xs) (a' := a') h hs (fun s K hm => hv s K (List.mem_cons_of_mem _ hm))
    exact ⟨b, hb, e1, e2, e3, fun s ⟨K', hK', hm⟩ => e4 s ⟨K', hK', by rcases List.mem_cons.1 hm with e | hm; cases e; exact hm⟩⟩
theorem finOn.out {W : World} {k : Act → Prop} {a' : Act} : ∀ {ks : List (Tmp × Kd)} {a : Act}, finOn W ks k a → a.tmps.size = a'.tmps.size →
    (∀ t K, (t, K) ∈ ks → t < a'.tmps.size ∧ K.holds W (a'.tmps.getD t undef)) →
    ∃ b : Act, k b ∧ b.tmps.size = a.tmps.size ∧ b.defers = a.defers ∧ (∀ t, (∀ K, (t, K) ∉ ks) → b.tmps.getD t undef = a.tmps.getD t undef) ∧
      (∀ t, (∃ K, (t, K) ∈ ks) → b.tmps.getD t undef = a'.tmps.getD t undef)
  | [], a, h, hs, hv => ⟨a, h, rfl, rfl, fun _ _ => rfl, fun t ⟨K, hm⟩ => by cases hm⟩
  | (t, K) :: r, a, h, hs, hv => by
    have hh := hv t K (List.mem_cons_self)
    have h' : finOn W r k (a.put (some t) (a'.tmps.getD t undef)) := by
      cases K with
      | v x => have hx : a'.tmps.getD t undef = x := hh.2; rw [hx]; exact h
      | b n l => obtain ⟨A, c, e, hb⟩ := hh.2; rw [e]; exact h A c hb
      | p q => exact h _ hh.2
    have ht : t < a.tmps.size := by rw [hs]; exact hh.1
    have hs1 : (a.put (some t) (a'.tmps.getD t undef)).tmps.size = a'.tmps.size := by simpa [Act.put] using hs
    obtain ⟨b, hb, e1, e2, e3, e4⟩ := finOn.out (a' := a') h' hs1 (fun s K hm => hv s K (List.mem_cons_of_mem _ hm))
    refine ⟨b, hb, by rw [e1, hs1, hs], e2, fun s hn => ?_, fun s ⟨K', hm⟩ => ?_⟩
    · rw [e3 s (fun K hm => hn K (List.mem_cons_of_mem _ hm)), put_getD ht, if_neg]
      intro e
      subst e
      exact hn K (List.mem_cons_self)
    · by_cases hx : ∃ K, (s, K) ∈ r
      · exact e4 s hx
      · rcases List.mem_cons.1 hm with e | hm
        · injection e with e1 e2
          subst e1
          rw [e3 s (fun K hm => hx ⟨K, hm⟩), put_getD ht, if_pos rfl]
        · exact absurd ⟨K', hm⟩ hx
theorem ObsK.out {P : Program} {ops : Array Oper} {a0 : Act} {w0 : World} {fin : List (Tmp × Kd) → Prop} : ∀ {l : List Oper} {ks : List (Tmp × Kd)}, ObsK P ops a0 w0 fin ks l →
    ∃ Ks : Nat → Kd, ∃ kz : Nat → List (Tmp × Kd), kz 0 = ks ∧ fin (kz l.length) ∧ ∀ i o, l[i]? = some o → ∃ t, o.dst = some t ∧ (Ks i).Ok ∧ Ob1 P ops a0 w0 (kz i) o (Ks i) ∧ kz (i + 1) = (t, Ks i) :: kz i
  | [], ks, h => ⟨fun _ => .v undef, fun _ => ks, rfl, h, fun i o ho => by simp at ho⟩
  | o :: rest, ks, ⟨K, t, hd, hk, hob, hr⟩ => by
    obtain ⟨Ks, kz, h0, hf, hall⟩ := ObsK.out hr
    refine ⟨fun i => match i with | 0 => K | i + 1 => Ks i, fun i => match i with | 0 => ks | i + 1 => kz i, rfl, hf, fun i o' ho' => ?_⟩
    cases i with
    | zero =>
      simp only [List.getElem?_cons_zero, Option.some.injEq] at ho'
      subst ho'
      exact ⟨t, hd, hk, hob, h0⟩
    | succ i => exact hall i o' (by simpa using ho')
theorem kz_mem {l : List Oper} {Ks : Nat → Kd} {kz : Nat → List (Tmp × Kd)} (h0 : kz 0 = []) (hall : ∀ i o, l[i]? = some o → ∃ t, o.dst = some t ∧ kz (i + 1) = (t, Ks i) :: kz i) :
    ∀ i, i ≤ l.length → ∀ t K, (t, K) ∈ kz i → ∃ j o, j < i ∧ l[j]? = some o ∧ o.dst = some t ∧ K = Ks j
  | 0, _, t, K, hm => by rw [h0] at hm; cases hm
  | i + 1, hi, t, K, hm => by
    have ho : l[i]? = some l[i] := List.getElem?_eq_getElem (by omega)
    obtain ⟨s, hs, he⟩ := hall i _ ho
    rw [he] at hm
    rcases List.mem_cons.1 hm with e | hm
    · injection e with e1 e2
      subst e1 e2
      exact ⟨i, _, Nat.lt_succ_self i, ho, hs, rfl⟩
    · obtain ⟨j, o, hj, r⟩ := kz_mem h0 hall i (by omega) t K hm
      exact ⟨j, o, by omega, r⟩
theorem kz_all {l : List Oper} {Ks : Nat → Kd} {kz : Nat → List (Tmp × Kd)} (hall : ∀ i o, l[i]? = some o → ∃ t, o.dst = some t ∧ kz (i + 1) = (t, Ks i) :: kz i) :
    ∀ i, i ≤ l.length → ∀ j o t, j < i → l[j]? = some o → o.dst = some t → (t, Ks j) ∈ kz i
  | 0, _, j, o, t, hj, _, _ => by omega
  | i + 1, hi, j, o, t, hj, ho, ht => by
    have ho' : l[i]? = some l[i] := List.getElem?_eq_getElem (by omega)
    obtain ⟨s, hs, he⟩ := hall i _ ho'
    rw [he]
    by_cases e : j = i
    · subst e
      rw [ho'] at ho
      injection ho with ho
      subst ho
      rw [hs] at ht
      injection ht with ht
      subst ht
      exact List.mem_cons_self
    · exact List.mem_cons_of_mem _ (kz_all hall i (by omega) j o t (by omega) ho ht)
structure RegOk (ops : Array Oper) (m n : Nat) : Prop where
  le : m ≤ ops.size
  main : ∀ i o, i < m → ops[i]? = some o → ∃ t, o.dst = some t ∧ t < n ∧ (∀ j, j < i → dstOf ops j ≠ some t) ∧ isSel o.op = false ∧
    (∀ s, .tmp s ∈ o.op.operands → ∀ j, j < m → dstOf ops j = some s → hasOn o j = true ∧ j < i) ∧ (∀ g b, o.guard = some (g, b) → hasOn o g = true ∧ g < i)
  down : ∀ i o, ops[i]? = some o → ∀ e ∈ o.after, Region.binds .any e = true → e.on < i
  up : m = ops.size ∨ ∀ j, j < m → ∃ k o, j < k ∧ k ≤ m ∧ ops[k]? = some o ∧ hasOn o j = true
  tail : ∀ k, m ≤ k → k + 1 < ops.size → ∃ o, ops[k + 1]? = some o ∧ hasOn o k = true
theorem upB_out {ops : Array Oper} {lo hi j : Nat} (h : upB ops lo hi j = true) : ∃ k o, lo ≤ k ∧ k ≤ hi ∧ ops[k]? = some o ∧ hasOn o j = true := by
  obtain ⟨k, hk, hh⟩ := List.any_eq_true.1 h
  have := List.mem_range.1 hk
  cases ho : ops[lo + k]? with
  | none => rw [ho] at hh; cases hh
  | some o => rw [ho] at hh; exact ⟨lo + k, o, by omega, by omega, ho, hh⟩
theorem regB_out {ops : Array Oper} {m n : Nat} (h : regB ops m n = true) : RegOk ops m n := by
  unfold regB at h
  simp only [Bool.and_eq_true, decide_eq_true_eq, List.all_eq_true, List.mem_range, Bool.or_eq_true, beq_iff_eq] at h
  obtain ⟨⟨⟨⟨h1, h2⟩, h3⟩, h4⟩, h5⟩ := h
  refine ⟨h1, fun i o hi ho => ?_, fun i o ho e he hb => ?_, ?_, fun k hk hk1 => ?_⟩
  · have := h2 i hi
    unfold mainB at this
    rw [ho] at this
    simp only [Bool.and_eq_true] at this
    obtain ⟨⟨⟨a1, a2⟩, a3⟩, a4⟩ := this
    cases ht : o.dst with
    | none => rw [ht] at a1; cases a1
    | some t =>
      rw [ht] at a1
      simp only [Bool.and_eq_true, decide_eq_true_eq, List.all_eq_true, List.mem_range, bne_iff_ne, ne_eq] at a1
      refine ⟨t, rfl, a1.1, a1.2, by simpa using a2, fun s hs j hj hd => ?_, fun g b hg => ?_⟩
      · rw [Array.all_eq_true] at a3
        obtain ⟨q, hq, hqs⟩ := Array.mem_iff_getElem.1 hs
        have := a3 q hq
        rw [hqs] at this
        simp only [List.all_eq_true, List.mem_range, Bool.or_eq_true, bne_iff_ne, ne_eq, Bool.and_eq_true, decide_eq_true_eq] at this
        exact (this j hj).resolve_left (fun h => h hd)
      · rw [hg] at a4
        simpa using a4
  · have hi : i < ops.size := (Array.getElem?_eq_some_iff.1 ho).1
    have := h3 i hi
    unfold downB at this
    rw [ho] at this
    simp only [Array.all_eq_true] at this
    obtain ⟨k, hk, rfl⟩ := Array.mem_iff_getElem.1 he
    have := this k hk
    rw [hb] at this
    simpa using this
  · rcases h4 with h4 | h4
    · exact .inl h4
    · refine .inr fun j hj => ?_
      obtain ⟨k, o, k1, k2, k3, k4⟩ := upB_out (h4 j hj)
      exact ⟨k, o, by omega, k2, k3, k4⟩
  · have := h5 (k - m) (by omega)
    rw [show m + (k - m) = k from by omega] at this
    obtain ⟨q, o, k1, k2, k3, k4⟩ := upB_out this
    obtain rfl : q = k + 1 := by omega
    exact ⟨o, k3, k4⟩
structure RInv (ops : Array Oper) (a0 : Act) (w0 : World) (Ks : Nat → Kd) (m : Nat) (listed : Array Bool) (a : Act) (w : World) : Prop where
  lsize : listed.size = ops.size
  defers : a.defers = a0.defers
  size : a.tmps.size = a0.tmps.size
  below : Below w0.heap.size w0 w
  other : ∀ t, (∀ j, j < m → dstOf ops j ≠ some t) → a.tmps.getD t undef = a0.tmps.getD t undef
  val : ∀ j t, j < m → listed.getD j false = true → dstOf ops j = some t → (Ks j).holds w (a.tmps.getD t undef)
  down : ∀ i o, ops[i]? = some o → listed.getD i false = true → ∀ e ∈ o.after, Region.binds .any e = true → listed.getD e.on false = true
theorem hasOn_mem {o : Oper} {j : Nat} (h : hasOn o j = true) : ∃ e ∈ o.after, e.on = j ∧ Region.binds .any e = true := by
  unfold hasOn at h
  rw [Array.any_eq_true] at h
  obtain ⟨i, hi, hh⟩ := h
  simp only [Bool.and_eq_true, beq_iff_eq] at hh
  exact ⟨_, Array.getElem_mem hi, hh.1, hh.2⟩
theorem getD_ff {l : Array Bool} {i : Nat} (hi : i < l.size) : l.getD i true = l.getD i false := by
  simp only [Array.getD_eq_getD_getElem?, Array.getElem?_eq_getElem hi, Option.getD_some]
theorem getD_set {l : Array Bool} {i j : Nat} (hi : i < l.size) (b : Bool) : (l.setIfInBounds i true).getD j b = if j = i then true else l.getD j b := by
  by_cases e : j = i
  · subst e; simp [Array.getD_eq_getD_getElem?, hi]
  · simp [Array.getD_eq_getD_getElem?, Array.getElem?_setIfInBounds_ne (Ne.symm e), e]
theorem dstOf_some {ops : Array Oper} {j : Nat} {t : Tmp} (h : dstOf ops j = some t) : ∃ o, ops[j]? = some o ∧ o.dst = some t := by
  unfold dstOf at h
  cases ho : ops[j]? with
  | none => rw [ho] at h; cases h
  | some o => rw [ho] at h; exact ⟨o, rfl, h⟩
theorem dst_inj {ops : Array Oper} {m n : Nat} (h : RegOk ops m n) {i j : Nat} {t : Tmp} (im : i < m) (jm : j < m) (hi : dstOf ops i = some t) (hj : dstOf ops j = some t) : i = j := by
  have key : ∀ i j, j < m → dstOf ops i = some t → dstOf ops j = some t → i < j → False := by
    intro i j jm hi hj hlt
    obtain ⟨o, ho, hd⟩ := dstOf_some hj
    obtain ⟨s, hs, _, hne, _⟩ := h.main j o jm ho
    rw [hd] at hs
    injection hs with hs
    subst hs
    exact hne i hlt hi
  rcases Nat.lt_trichotomy i j with hlt | heq | hlt
  · exact (key i j jm hi hj hlt).elim
  · exact heq
  · exact (key j i im hj hi hlt).elim
theorem all_before {ops : Array Oper} {m n : Nat} (h : RegOk ops m n) {listed : Array Bool} (hd : ∀ i o, ops[i]? = some o → listed.getD i false = true → ∀ e ∈ o.after, Region.binds .any e = true → listed.getD e.on false = true)
    {k : Nat} {ok : Oper} (hk : m ≤ k) (hok : ops[k]? = some ok) (hr : ∀ e ∈ ok.after, Region.binds .any e = true → listed.getD e.on false = true) : ∀ d j, j + d + 1 = k → listed.getD j false = true := by
  have hks : k < ops.size := (Array.getElem?_eq_some_iff.1 hok).1
  intro d
  induction d using Nat.strongRecOn with
  | _ d ih =>
    intro j hj
    have : ∃ q o, j < q ∧ q ≤ k ∧ ops[q]? = some o ∧ hasOn o j = true := by
      by_cases jm : j < m
      · rcases h.up with e | e
        · omega
        · obtain ⟨q, o, q1, q2, q3⟩ := e j jm
          exact ⟨q, o, q1, by omega, q3⟩
      · obtain ⟨o, ho, hh⟩ := h.tail j (by omega) (by omega)
        exact ⟨j + 1, o, by omega, by omega, ho, hh⟩
    obtain ⟨q, o, q1, q2, q3, q4⟩ := this
    obtain ⟨e, he, heo, heb⟩ := hasOn_mem q4
    rw [← heo]
    by_cases e1 : q = k
    · subst e1
      rw [hok] at q3
      injection q3 with q3
      subst q3
      exact hr e he heb
    · exact hd q o q3 (ih (k - q - 1) (by omega) q (by omega)) e he heb
section
variable {P : Program} {Q : Exit → Act → World → Prop}
theorem tail_any {ops : Array Oper} {m n : Nat} (h : RegOk ops m n) : ∀ (fuel k : Nat) (listed : Array Bool) (a : Act) (w : World), m ≤ k → k ≤ ops.size → listed.size = ops.size →
    (∀ i, i < ops.size → listed.getD i false = decide (i < k)) → ops.size - k ≤ fuel → wpList P ops Q (ops.toList.drop k) a w → wpAny P .any ops Q fuel listed a w := by
  intro fuel
  have hnil : ∀ (k : Nat) (listed : Array Bool), listed.size = ops.size → (∀ i, i < ops.size → listed.getD i false = decide (i < k)) → k ≤ ops.size → Region.ready .any ops listed = [] → k = ops.size := by
    intro k listed hs hl hk hr
    rcases Nat.lt_or_ge k ops.size with hlt | hge
    · exfalso
      have hm : k ∈ Region.ready .any ops listed := by
        rw [mem_ready]
        refine ⟨by rw [getD_ff (by omega), hl k hlt]; simp, ops[k], Array.getElem?_eq_getElem hlt, fun e he hb => ?_⟩
        have := h.down k _ (Array.getElem?_eq_getElem hlt) e he hb
        rw [hl _ (by omega)]
        simpa using this
      rw [hr] at hm
      cases hm
    · omega
  induction fuel with
  | zero =>
    intro k listed a w hmk hk hs hl hf hw
    obtain rfl : k = ops.size := by omega
    have hd : ops.toList.drop ops.size = [] := by simp
    rw [hd] at hw
    refine ⟨?_, hw⟩
    unfold Region.ready
    rw [List.filter_eq_nil_iff]
    intro i hi
    have hi := List.mem_range.1 hi
    rw [getD_ff (by omega), hl i hi]
    simp [hi]
  | succ fuel ih =>
    intro k listed a w hmk hk hs hl hf hw
    refine ⟨fun hr => ?_, fun i hi => ?_⟩
    · obtain rfl := hnil k listed hs hl hk hr
      have hd : ops.toList.drop ops.size = [] := by simp
      rw [hd] at hw
      exact hw
    · rw [mem_ready] at hi
      obtain ⟨hn, o, ho, hall⟩ := hi
      have his : i < ops.size := (Array.getElem?_eq_some_iff.1 ho).1
      rw [getD_ff (by omega), hl i his] at hn
      have hik : k ≤ i := by simpa using hn
      have hki : i ≤ k := by
        rcases Nat.lt_or_ge k i with hlt | hge
        · exfalso
          have := all_before h (listed := listed) (fun q oq hq hlq e he hb => by
            have hqs : q < ops.size := (Array.getElem?_eq_some_iff.1 hq).1
            have h1 := h.down q oq hq e he hb
            rw [hl q hqs] at hlq
            rw [hl _ (by omega)]
            simp only [decide_eq_true_eq] at hlq ⊢
            omega) (by omega) ho hall (i - k - 1) k (by omega)
          rw [hl k (by omega)] at this
          simp at this
        · exact hge
      obtain rfl : i = k := by omega
      have hdrop : ops.toList.drop i = o :: ops.toList.drop (i + 1) := by
        have : ops.toList[i]? = some o := by simpa using ho
        rw [List.drop_eq_getElem_cons (by simpa using his)]
        congr 1
        have e2 := (List.getElem?_eq_some_iff.1 this).2
        exact e2
      rw [hdrop] at hw
      have hnext : ∀ a w, wpList P ops Q (ops.toList.drop (i + 1)) a w → wpAny P .any ops Q fuel (listed.setIfInBounds i true) a w := by
        intro a w hw
        refine ih (i + 1) _ a w (by omega) (by omega) (by simpa using hs) (fun j hj => ?_) (by omega) hw
        rw [getD_set (by omega), hl j hj]
        by_cases e : j = i
        · subst e; simp
        · simp [e]; omega
      unfold wpOp
      rw [ho]
      simp only
      unfold wpList at hw
      split
      · rename_i hwant
        rw [if_pos hwant] at hw
        exact hw.imp (Oper.wp_mono hnext) id
      · rename_i hwant
        rw [if_neg hwant] at hw
        exact hnext _ _ hw
theorem region_txt {id : Nat} {l : List Oper} {a : Act} {w : World} (m : Nat) (hm : P.follows .mixedOrders = true) (hchk : regB l.toArray m a.tmps.size = true)
    (hobs : ObsK P l.toArray a w (fun ks => ∀ W, Below w.heap.size w W → finOn W ks (fun a' => wpList P l.toArray Q (l.drop m) a' W) a) [] (l.take m)) :
    (Code.region id l.toArray true).wp P Q a w := by
  have R := regB_out hchk
  obtain ⟨ops, hops⟩ : ∃ ops, l.toArray = ops := ⟨_, rfl⟩
  have hl' : l = ops.toList := by rw [← hops]
  rw [hops] at hobs R ⊢
  rw [hl'] at hobs
  clear hops hl' hchk
  obtain ⟨Ks, kz, hz0, hfin, hall⟩ := hobs.out
  have hmlen : (ops.toList.take m).length = m := by simp [R.le]
  rw [hmlen] at hfin
  have hat : ∀ i o, i < m → ops[i]? = some o → (ops.toList.take m)[i]? = some o := fun i o hi ho => by
    rw [List.getElem?_take, if_pos hi]; simpa using ho
  have hta : ∀ i o, (ops.toList.take m)[i]? = some o → i < m ∧ ops[i]? = some o := fun i o ho => by
    rw [List.getElem?_take] at ho
    split at ho
    · exact ⟨‹_›, by simpa using ho⟩
    · cases ho
  have hall2 : ∀ i o, (ops.toList.take m)[i]? = some o → ∃ t, o.dst = some t ∧ kz (i + 1) = (t, Ks i) :: kz i := fun i o ho => by
    obtain ⟨t, h1, _, _, h2⟩ := hall i o ho
    exact ⟨t, h1, h2⟩
  have hmem : ∀ i, i ≤ m → ∀ t K, (t, K) ∈ kz i → ∃ j, j < i ∧ dstOf ops j = some t ∧ K = Ks j := fun i hi t K hm => by
    obtain ⟨j, o, h1, h2, h3, h4⟩ := kz_mem hz0 hall2 i (by omega) t K hm
    obtain ⟨_, ho⟩ := hta j o h2
    exact ⟨j, h1, by unfold dstOf; rw [ho]; exact h3, h4⟩
  refine wp_region_any hm ?_
  have hd : ∀ i o, ops[i]? = some o → dstOf ops i = o.dst := fun i o ho => by unfold dstOf; rw [ho]; rfl
  have hend : ∀ (listed : Array Bool) (a' : Act) (w' : World), RInv ops a w Ks m listed a' w' → (∀ j, j < m → listed.getD j false = true) → wpList P ops Q (ops.toList.drop m) a' w' := by
    intro listed a' w' hI hlst
    obtain ⟨b, hb, e1, e2, e3, e4⟩ := finOn.out (a' := a') (hfin w' hI.below) hI.size.symm (fun t K hm => by
      obtain ⟨j, hj, hdj, rfl⟩ := hmem m (Nat.le_refl _) t K hm
      obtain ⟨o, ho, hod⟩ := dstOf_some hdj
      obtain ⟨s, hs, hsn, _⟩ := R.main j o hj ho
      rw [hod] at hs
      injection hs with hs
      subst hs
      exact ⟨by rw [hI.size]; exact hsn, hI.val j t hj (hlst j hj) hdj⟩)
    have : b = a' := by
      cases b with
      | mk bt bd =>
        cases a' with
        | mk at' ad =>
          simp only at e1 e2 e3 e4
          have hdf : bd = ad := by rw [e2]; exact hI.defers.symm
          have htm : bt = at' := by
            apply Array.ext
            · rw [e1]; exact hI.size.symm
            · intro t t1 t2
              have : bt.getD t undef = at'.getD t undef := by
                by_cases hx : ∃ K, (t, K) ∈ kz m
                · exact e4 t hx
                · rw [e3 t (fun K hm => hx ⟨K, hm⟩)]
                  refine (hI.other t fun j hj hdj => hx ?_).symm
                  obtain ⟨o, ho, hod⟩ := dstOf_some hdj
                  exact ⟨Ks j, kz_all hall2 m (by omega) j o t hj (hat j o hj ho) hod⟩
              simpa only [Array.getD_eq_getD_getElem?, Array.getElem?_eq_getElem t1, Array.getElem?_eq_getElem t2, Option.getD_some] using this
          subst hdf htm
          rfl
    rw [this] at hb
    exact hb
  have key : ∀ (fuel : Nat) (listed : Array Bool) (a' : Act) (w' : World), RInv ops a w Ks m listed a' w' → (∀ i, m ≤ i → i < ops.size → listed.getD i false = false) →
      ((List.range ops.size).filter fun i => !listed.getD i true).length ≤ fuel → wpAny P .any ops Q fuel listed a' w' := by
    intro fuel
    have hprefix : ∀ (listed : Array Bool), listed.size = ops.size → (∀ j, j < m → listed.getD j false = true) → (∀ i, m ≤ i → i < ops.size → listed.getD i false = false) → ∀ i, i < ops.size → listed.getD i false = decide (i < m) := by
      intro listed hs h1 h2 i hi
      by_cases e : i < m
      · rw [h1 i e]; simp [e]
      · rw [h2 i (by omega) hi]; simp [e]
    induction fuel with
    | zero =>
      intro listed a' w' hI hno hc
      have h0 : ((List.range ops.size).filter fun i => !listed.getD i true) = [] := List.eq_nil_of_length_eq_zero (by omega)
      have hal : ∀ i, i < ops.size → listed.getD i false = true := by
        intro i hi
        rw [List.filter_eq_nil_iff] at h0
        have := h0 i (List.mem_range.2 hi)
        rw [← getD_ff (by rw [hI.lsize]; exact hi)]
        simpa using this
      have hms : m = ops.size := by
        rcases Nat.lt_or_ge m ops.size with hlt | hge
        · have := hno m (Nat.le_refl _) hlt
          rw [hal m hlt] at this
          cases this
        · have := R.le; omega
      have := hend listed a' w' hI (fun j hj => hal j (by omega))
      rw [hms] at this
      have hdr : ops.toList.drop ops.size = [] := by simp
      rw [hdr] at this
      refine ⟨?_, this⟩
      unfold Region.ready
      rw [List.filter_eq_nil_iff] at h0 ⊢
      intro i hi
      have := h0 i hi
      simp only [Bool.not_eq_true] at this ⊢
      rw [this]
      rfl
    | succ fuel ih =>
      intro listed a' w' hI hno hc
      by_cases hdone : ∀ j, j < m → listed.getD j false = true
      · refine tail_any R (fuel + 1) m listed a' w' (Nat.le_refl _) R.le hI.lsize (hprefix listed hI.lsize hdone hno) ?_ (hend listed a' w' hI hdone)
        have hlen : ops.size - m ≤ ((List.range ops.size).filter fun i => !listed.getD i true).length := by
          have hsub : (List.range ops.size).filter (fun i => decide (m ≤ i)) = (List.range ops.size).filter fun i => !listed.getD i true := by
            apply List.filter_congr
            intro i hi
            have hi := List.mem_range.1 hi
            rw [getD_ff (by rw [hI.lsize]; exact hi), hprefix listed hI.lsize hdone hno i hi]
            by_cases e : i < m <;> simp [e] <;> omega
          rw [← hsub]
          have : ∀ N, m ≤ N → ((List.range N).filter fun i => decide (m ≤ i)).length = N - m := by
            intro N hN
            induction N with
            | zero => simp
            | succ N ihN =>
              rw [List.range_succ, List.filter_append, List.length_append]
              by_cases e : m ≤ N
              · rw [ihN e]; simp [e]; omega
              · have : m = N + 1 := by omega
                subst this
                have : (List.range N).filter (fun i => decide (N + 1 ≤ i)) = [] := by
                  rw [List.filter_eq_nil_iff]
                  intro i hi
                  have := List.mem_range.1 hi
                  simp; omega
                rw [this]
                simp
          rw [this _ R.le]
          exact Nat.le_refl _
        omega
      · refine ⟨fun hr => ?_, fun i hi => ?_⟩
        · exfalso
          refine hdone ?_
          intro j
          induction j using Nat.strongRecOn with
          | _ j ihj =>
            intro hj
            cases hlj : listed.getD j false with
            | true => rfl
            | false =>
              exfalso
              have hjs : j < ops.size := by have := R.le; omega
              have hmem : j ∈ Region.ready .any ops listed := by
                rw [mem_ready]
                refine ⟨by rw [getD_ff (by rw [hI.lsize]; exact hjs)]; exact hlj, ops[j], Array.getElem?_eq_getElem hjs, fun e he hb => ?_⟩
                have := R.down j _ (Array.getElem?_eq_getElem hjs) e he hb
                exact ihj _ this (by omega)
              rw [hr] at hmem
              cases hmem
        · have hi0 := hi
          rw [mem_ready] at hi
          obtain ⟨hnl', o, ho, haf⟩ := hi
          have his : i < ops.size := (Array.getElem?_eq_some_iff.1 ho).1
          have hsi : i < listed.size := by rw [hI.lsize]; exact his
          have him : i < m := by
            rcases Nat.lt_or_ge i m with hlt | hge
            · exact hlt
            · exact absurd (fun j hj => all_before R hI.down hge ho haf (i - j - 1) j (by omega)) hdone
          obtain ⟨t, ht, htn, hne, hsel, hrd, hgd⟩ := R.main i o him ho
          obtain ⟨t', ht', hok, hob, hkz⟩ := hall i o (hat i o him ho)
          have hon : ∀ j, hasOn o j = true → listed.getD j false = true := fun j hj => by
            obtain ⟨e, he, heo, heb⟩ := hasOn_mem hj
            rw [← heo]
            exact haf e he heb
          have hnext : ∀ v w'', (Ks i).holds w'' v → Below w'.heap.size w' w'' → wpAny P .any ops Q fuel (listed.setIfInBounds i true) (a'.put o.dst v) w'' := by
            intro v w'' hv hb
            refine ih _ _ _ ⟨by simpa using hI.lsize, ?_, ?_, below_then hI.below hb, ?_, ?_, ?_⟩ ?_ ?_
            · rw [ht]; exact hI.defers
            · rw [ht]; simpa [Act.put] using hI.size
            · intro s hs
              have hst : s ≠ t := fun e => hs i him (by rw [hd i _ ho, ht, e])
              rw [ht, put_getD (by rw [hI.size]; exact htn), if_neg hst]
              exact hI.other s hs
            · intro j s hjm hj hdj
              rw [getD_set hsi] at hj
              rw [ht, put_getD (by rw [hI.size]; exact htn)]
              by_cases e : j = i
              · subst e
                have : s = t := by rw [hd j _ ho, ht] at hdj; injection hdj with hdj; exact hdj.symm
                rw [if_pos this]
                exact hv
              · rw [if_neg e] at hj
                have hst : s ≠ t := fun e2 => e (dst_inj R hjm him hdj (by rw [hd i _ ho, ht, e2]))
                rw [if_neg hst]
                obtain ⟨oj, hoj, hdoj⟩ := dstOf_some hdj
                obtain ⟨_, _, hokj, _, _⟩ := hall j oj (hat j oj hjm hoj)
                exact Kd.keep hokj (hI.val j s hjm hj hdj) hb
            · intro q oq hq hlq e he hb
              rw [getD_set hsi] at hlq ⊢
              by_cases e1 : q = i
              · subst e1
                rw [ho] at hq
                injection hq with hq
                subst hq
                split
                · rfl
                · exact haf e he hb
              · rw [if_neg e1] at hlq
                split
                · rfl
                · exact hI.down q oq hq hlq e he hb
            · intro q hq hqs
              rw [getD_set hsi, if_neg (by omega)]
              exact hno q hq hqs
            · have hnl : (!listed.getD i true) = true := by rw [hnl']; rfl
              have hlt : ((List.range ops.size).filter fun k => !(listed.setIfInBounds i true).getD k true).length < ((List.range ops.size).filter fun k => !listed.getD k true).length := by
                have hsub : ((List.range ops.size).filter fun k => !(listed.setIfInBounds i true).getD k true) = (((List.range ops.size).filter fun k => !listed.getD k true).filter fun k => k != i) := by
                  rw [List.filter_filter]
                  apply List.filter_congr
                  intro k _
                  rw [getD_set hsi]
                  by_cases e : k = i
                  · subst e; simp
                  · simp [e]
                rw [hsub]
                exact List.length_filter_lt_length_iff_exists.2 ⟨i, List.mem_filter.2 ⟨List.mem_range.2 his, hnl⟩, by simp⟩
              omega
          have hlook : ∀ s K, lookK (kz i) s = some K → ∃ j, j < i ∧ dstOf ops j = some s ∧ K = Ks j := fun s K hK => hmem i (by omega) s K (lookK_some hK)
          unfold wpOp
          rw [ho]
          rcases hob with ⟨hwk, hgo⟩ | ⟨hwk, hskip⟩
          · have hw : Region.wanted o (yielded ops a'.tmps) = true := by
              unfold Region.wanted
              cases hg : o.guard with
              | none => rfl
              | some gb =>
                obtain ⟨g, b⟩ := gb
                rw [hg] at hwk
                unfold wantK at hwk
                simp only at hwk
                cases hdg : dstOf ops g with
                | none => rw [hdg] at hwk; cases hwk
                | some s =>
                  rw [hdg] at hwk
                  cases hlk : lookK (kz i) s with
                  | none => simp only [hlk] at hwk; cases hwk
                  | some K =>
                    simp only [hlk] at hwk
                    split at hwk
                    · rename_i hKe
                      injection hKe with hKe
                      subst hKe
                      rename_i c
                      obtain ⟨j, hj, hdj, hKj⟩ := hlook s _ hlk
                      obtain ⟨hong, hgi⟩ := hgd g b hg
                      obtain rfl := dst_inj R (by omega) (by omega) hdj hdg
                      have hv := hI.val j s (by omega) (hon j hong) hdj
                      rw [← hKj] at hv
                      have hy : yielded ops a'.tmps j = some c := by
                        have hv' : a'.tmps.getD s undef = .bool c := hv
                        unfold yielded
                        unfold dstOf at hdj
                        rw [hdj]
                        rw [Array.getD_eq_getD_getElem?] at hv'
                        cases hx : a'.tmps[s]? with
                        | none => rw [hx] at hv'; exact absurd hv' (by simp [undef])
                        | some x =>
                          rw [hx] at hv'
                          simp only [Option.getD_some] at hv'
                          subst hv'
                          simp [hx]
                      simp only [hy]
                      injection hwk
                    · cases hwk
            simp only [hw, if_true]
            refine .inl ?_
            obtain ⟨b, hb, b1, b2, b3, b4⟩ := leanOn.out (a' := a') (hgo w' hI.below) hI.size.symm (fun s K hs hK => by
              obtain ⟨j, hj, hdj, rfl⟩ := hlook s K hK
              obtain ⟨o2, ho2, hod2⟩ := dstOf_some hdj
              obtain ⟨s2, hs2, hsn, _⟩ := R.main j o2 (by omega) ho2
              rw [hod2] at hs2
              injection hs2 with hs2
              subst hs2
              obtain ⟨ha, _⟩ := hrd s (by simpa using hs) j (by omega) hdj
              exact ⟨by rw [hI.size]; exact hsn, hI.val j s (by omega) (hon j ha) hdj⟩)
            have heq : execOp a'.eval o = execOp b.eval o := by
              refine execOp_congr o (fun cs bb hc => by rw [hc] at hsel; cases hsel) fun x hx => ?_
              cases x with
              | tmp s =>
                show a'.tmps.getD s undef = b.tmps.getD s undef
                by_cases hks : ∃ K, lookK (kz i) s = some K
                · obtain ⟨K, hK⟩ := hks
                  exact (b4 s ⟨K, hK, by simpa using hx⟩).symm
                · have ho2 : ∀ j, j < m → dstOf ops j ≠ some s := by
                    intro j hj hdj
                    obtain ⟨_, hji⟩ := hrd s hx j hj hdj
                    obtain ⟨oj, hoj, hdoj⟩ := dstOf_some hdj
                    have := kz_all hall2 i (by omega) j oj s hji (hat j oj hj hoj) hdoj
                    cases hl : lookK (kz i) s with
                    | some K => exact hks ⟨K, hl⟩
                    | none => exact lookK_none hl _ this
                  have e0 := hI.other s ho2
                  rcases b3 s with e | e
                  · rw [e, e0]
                  · exact e.symm
              | const _ => rfl
              | global _ => rfl
              | func _ => rfl
            have hgoes := hb.out
            unfold Oper.wp
            rw [heq]
            generalize (execOp b.eval o).run P w' = r at hgoes
            cases r with
            | ok n w'' =>
              cases n <;> simp only [OpGoes] at hgoes <;> try exact hgoes.elim
              case value v => exact hnext v w'' hgoes.1 hgoes.2
              case enter f args =>
                refine Calls.mono hgoes ?_
                rintro e w3 ⟨v, rfl, hv, hb⟩
                exact hnext v w3 hv hb
            | halt x w'' => exact hgoes.elim
          · have hw : Region.wanted o (yielded ops a'.tmps) = false := by
              unfold Region.wanted
              cases hg : o.guard with
              | none => rw [hg] at hwk; cases hwk
              | some gb =>
                obtain ⟨g, b⟩ := gb
                rw [hg] at hwk
                unfold wantK at hwk
                simp only at hwk
                cases hdg : dstOf ops g with
                | none => rw [hdg] at hwk; cases hwk
                | some s =>
                  rw [hdg] at hwk
                  cases hlk : lookK (kz i) s with
                  | none => simp only [hlk] at hwk; cases hwk
                  | some K =>
                    simp only [hlk] at hwk
                    split at hwk
                    · rename_i hKe
                      injection hKe with hKe
                      subst hKe
                      rename_i c
                      obtain ⟨j, hj, hdj, hKj⟩ := hlook s _ hlk
                      obtain ⟨hong, hgi⟩ := hgd g b hg
                      obtain rfl := dst_inj R (by omega) (by omega) hdj hdg
                      have hv := hI.val j s (by omega) (hon j hong) hdj
                      rw [← hKj] at hv
                      have hy : yielded ops a'.tmps j = some c := by
                        have hv' : a'.tmps.getD s undef = .bool c := hv
                        unfold yielded
                        unfold dstOf at hdj
                        rw [hdj]
                        rw [Array.getD_eq_getD_getElem?] at hv'
                        cases hx : a'.tmps[s]? with
                        | none => rw [hx] at hv'; exact absurd hv' (by simp [undef])
                        | some x =>
                          rw [hx] at hv'
                          simp only [Option.getD_some] at hv'
                          subst hv'
                          simp [hx]
                      simp only [hy]
                      injection hwk
                    · cases hwk
            simp only [hw]
            exact hnext _ _ (by rw [hskip]; rfl) (Below.refl _ _)
  refine key ops.size _ a _ ⟨by simp, rfl, rfl, Below.drew (Below.refl _ _), fun _ _ => rfl, fun j t _ hj => ?_, fun i o _ hj => ?_⟩ ?_ ?_
  · exfalso
    revert hj
    simp only [Array.getD_eq_getD_getElem?, Array.getElem?_replicate]
    split <;> simp
  · exfalso
    revert hj
    simp only [Array.getD_eq_getD_getElem?, Array.getElem?_replicate]
    split <;> simp
  · intro i _ hi
    simp [Array.getD_eq_getD_getElem?, Array.getElem?_replicate, hi]
  · exact Nat.le_trans (List.length_filter_le _ _) (by simp)
end
structure Blk (w : World) (k : Nat) (cs : Array Value) (t : TypeId) : Prop where
  rd : w.heap[k]? = some (.cells cs t (0, 0))
section
variable {w w' : World} {k : Nat} {cs : Array Value} {t : TypeId}
theorem Blk.lt (h : Blk w k cs t) : k < w.heap.size := (Array.getElem?_eq_some_iff.1 h.rd).1
theorem blk_new (w : World) (cs : Array Value) (t : TypeId) (k : Nat) (hk : w.heap.size = k) : Blk (w.alloc (.cells cs t)) k cs t := by
  subst hk
  exact ⟨(Go.MapKept.heap_alloc w _).1⟩
theorem Blk.below (h : Blk w k cs t) (hb : Below w.heap.size w w') : Blk w' k cs t := ⟨(hb.block k h.lt).trans h.rd⟩
theorem Blk.alloc (h : Blk w k cs t) (o : Obj) : Blk (w.alloc o) k cs t := h.below ((Below.refl _ w).alloc (Nat.le_refl _) o)
theorem Blk.drewN (h : Blk w k cs t) (n : Nat) : Blk (w.drewN n) k cs t := ⟨h.rd⟩
theorem Blk.drew (h : Blk w k cs t) : Blk w.drew k cs t := ⟨h.rd⟩
theorem Blk.cell (h : Blk w k cs t) : (∀ j, w.cell? ⟨k, j, none⟩ = cs[j]?) ∧ (∀ j, w.frozen? ⟨k, j, none⟩ = false) := by
  refine ⟨fun j => ?_, fun j => ?_⟩
  · simp [World.cell?, h.rd]
  · simp [World.frozen?, h.rd]
theorem Blk.set_ (h : Blk w k cs t) (j : Nat) (v : Value) : Blk (w.setCell ⟨k, j, none⟩ v) k (cs.setIfInBounds j v) t := by
  constructor
  have hk := h.lt
  have hr := h.rd
  unfold World.setCell
  simp [Array.getElem?_modify, hr]
theorem Blk.far (h : Blk w k cs t) (p : Addr) (hp : p.block ≠ k) (v : Value) : Blk (w.setCell p v) k cs t := by
  constructor
  have hr := h.rd
  unfold World.setCell
  simp [Array.getElem?_modify, hr, hp]
end
theorem bw1 {w W : World} {o : Obj} (h : w.alloc o = W) : Below w.heap.size w W := by rw [← h]; (repeat (first | with_reducible exact Below.refl _ _ | with_reducible refine below_drew ?_ | with_reducible refine below_drewN ?_ _ | with_reducible refine below_alloc ?_ (Nat.le_refl _) _ | with_reducible refine Below.setCell ?_ (by first | exact Nat.le_refl _ | (simp only []; omega)) _ | with_reducible assumption))
theorem bw2 {w W : World} {o o2 : Obj} (h : (w.alloc o).alloc o2 = W) : Below w.heap.size w W := by rw [← h]; (repeat (first | with_reducible exact Below.refl _ _ | with_reducible refine below_drew ?_ | with_reducible refine below_drewN ?_ _ | with_reducible refine below_alloc ?_ (Nat.le_refl _) _ | with_reducible refine Below.setCell ?_ (by first | exact Nat.le_refl _ | (simp only []; omega)) _ | with_reducible assumption))
theorem bw3 {w W : World} {o o2 o3 : Obj} (h : ((w.alloc o).alloc o2).alloc o3 = W) : Below w.heap.size w W := by rw [← h]; (repeat (first | with_reducible exact Below.refl _ _ | with_reducible refine below_drew ?_ | with_reducible refine below_drewN ?_ _ | with_reducible refine below_alloc ?_ (Nat.le_refl _) _ | with_reducible refine Below.setCell ?_ (by first | exact Nat.le_refl _ | (simp only []; omega)) _ | with_reducible assumption))
theorem bw4 {w W : World} {o o2 o3 o4 : Obj} (h : (((w.alloc o).alloc o2).alloc o3).alloc o4 = W) : Below w.heap.size w W := by rw [← h]; (repeat (first | with_reducible exact Below.refl _ _ | with_reducible refine below_drew ?_ | with_reducible refine below_drewN ?_ _ | with_reducible refine below_alloc ?_ (Nat.le_refl _) _ | with_reducible refine Below.setCell ?_ (by first | exact Nat.le_refl _ | (simp only []; omega)) _ | with_reducible assumption))
theorem nw1 (w : World) (a : Array Value) (ta : TypeId) : ∃ W, w.alloc (.cells a ta) = W ∧ Below w.heap.size w W ∧ ∃ k : Nat, w.heap.size = k ∧ Blk W k a ta :=
  ⟨_, rfl, bw1 rfl, _, rfl, blk_new w a ta _ rfl⟩
theorem nwI1 (w : World) (a : Array Value) (ta : TypeId) : ∃ k : Nat, w.heap.size = k ∧ ∃ W, w.alloc (.cells a ta) = W ∧ Blk W k a ta ∧ Below w.heap.size w W :=
  ⟨_, rfl, _, rfl, blk_new _ a ta _ (by simp), bw1 rfl⟩
theorem nwI2 (w : World) (a : Array Value) (ta : TypeId) (b : Array Value) (tb : TypeId) : ∃ k : Nat, w.heap.size = k ∧ ∃ W, (w.alloc (.cells a ta)).alloc (.cells b tb) = W ∧ Blk W k a ta ∧ Blk W (k + 1) b tb ∧ Below w.heap.size w W :=
  ⟨_, rfl, _, rfl, (blk_new _ a ta _ (by simp)).alloc _, blk_new _ b tb _ (by simp), bw2 rfl⟩
theorem nwI3 (w : World) (a : Array Value) (ta : TypeId) (b : Array Value) (tb : TypeId) (c : Array Value) (tc : TypeId) : ∃ k : Nat, w.heap.size = k ∧ ∃ W, ((w.alloc (.cells a ta)).alloc (.cells b tb)).alloc (.cells c tc) = W ∧ Blk W k a ta ∧ Blk W (k + 1) b tb ∧ Blk W (k + 1 + 1) c tc ∧ Below w.heap.size w W :=
  ⟨_, rfl, _, rfl, ((blk_new _ a ta _ (by simp)).alloc _).alloc _, (blk_new _ b tb _ (by simp)).alloc _, blk_new _ c tc _ (by simp), bw3 rfl⟩
theorem nwI4 (w : World) (a : Array Value) (ta : TypeId) (b : Array Value) (tb : TypeId) (c : Array Value) (tc : TypeId) (d : Array Value) (td : TypeId) : ∃ k : Nat, w.heap.size = k ∧ ∃ W, (((w.alloc (.cells a ta)).alloc (.cells b tb)).alloc (.cells c tc)).alloc (.cells d td) = W ∧ Blk W k a ta ∧ Blk W (k + 1) b tb ∧ Blk W (k + 1 + 1) c tc ∧ Blk W (k + 1 + 1 + 1) d td ∧ Below w.heap.size w W :=
  ⟨_, rfl, _, rfl, (((blk_new _ a ta _ (by simp)).alloc _).alloc _).alloc _, ((blk_new _ b tb _ (by simp)).alloc _).alloc _, (blk_new _ c tc _ (by simp)).alloc _, blk_new _ d td _ (by simp), bw4 rfl⟩
theorem Bs.at_ {w : World} {b off n c : Nat} {l : List UInt8} (h : Bs w (some ⟨b, off, none⟩) n c l) {j : Nat} (hj : j < n) : w.cell? ⟨b, off + j, none⟩ = some (.int .u8 (bt l j)) := by
  obtain ⟨b', o', e, hc⟩ := h.rd (by omega)
  injection e with e
  injection e with e1 e2 e3
  subst e1 e2
  exact hc j hj
theorem Bs.takeN {w : World} {A : Option Addr} {n c : Nat} {l : List UInt8} (h : Bs w A n c l) {k : Nat} (hk : k ≤ n) : Bs w A k c (l.take k) :=
  ⟨by rw [List.length_take, h.len]; omega, by have := h.cap; omega, by have := h.max; omega, h.nil, fun hn => by
    obtain ⟨b, o, e, hc⟩ := h.rd (by omega)
    refine ⟨b, o, e, fun j hj => ?_⟩
    rw [hc j (by omega)]
    congr 2
    unfold bt
    simp [List.getD_eq_getElem?_getD, hj]⟩
theorem Bs.away {w : World} {A : Option Addr} {n c : Nat} {l : List UInt8} (h : Bs w A n c l) (p : Addr) (hp : ∀ a, A = some a → p.block ≠ a.block) (v : Value) : Bs (w.setCell p v) A n c l :=
  ⟨h.len, h.cap, h.max, h.nil, fun hn => by
    obtain ⟨b, o, e, hc⟩ := h.rd hn
    exact ⟨b, o, e, fun j hj => (World.cell?_setCell_far w p ⟨b, o + j, none⟩ v (hp ⟨b, o, none⟩ e)).trans (hc j hj)⟩⟩
theorem Own.ge {w : World} {base : Nat} {e : TypeId} {A : Option Addr} {n c : Nat} {l : List UInt8} (h : Own w base e A n c l) : ∀ a, A = some a → base ≤ a.block := by
  intro a ha
  subst ha
  rcases h.row.2 with ⟨hv, _⟩ | ⟨g, cap, cur, hv, hb, _⟩
  · injection hv with hv; cases hv
  · injection hv with hv
    injection hv with hv
    subst hv
    exact hb
theorem grownBy_setCell (w : World) (p : Addr) (v : Value) : w.grownBy (w.setCell p v) (some p.block) :=
  ⟨rfl, rfl, rfl, by simp [World.setCell], fun k hk hne => by
    have hne' : ¬ p.block = k := fun e => hne (by rw [e])
    unfold World.setCell
    simp [Array.getElem?_modify, hne']⟩
theorem Own.away {w : World} {base : Nat} {e : TypeId} {A : Option Addr} {n c : Nat} {l : List UInt8} (h : Own w base e A n c l) (p : Addr) (v : Value) (hp : ∀ a, A = some a → a.block ≠ p.block) : Own (w.setCell p v) base e A n c l :=
  h.kept (grownBy_setCell w p v) (by
    rcases h.row.2 with ⟨hv, _⟩ | ⟨g, cap, cur, hv, _⟩
    · rw [hv]; exact .inl rfl
    · injection hv with h1 h2 h3
      subst h1 h3
      refine .inr fun he => ?_
      simp [Value.ownBlock] at he
      exact hp _ rfl he)
structure Sto (W : World) (r : Nat) (wf : World) (cs : Array Value) (t : TypeId) : Prop where
  blk : Blk wf r cs t
  bel : ∀ {B w0}, Below B w0 W → B ≤ r → Below B w0 wf
  bs : ∀ {A n c l}, Bs W A n c l → (∀ a, A = some a → a.block ≠ r) → Bs wf A n c l
  other : ∀ {k cs' t'}, k ≠ r → Blk W k cs' t' → Blk wf k cs' t'
  own : ∀ {B e A n c l}, Own W B e A n c l → (∀ a, A = some a → a.block ≠ r) → Own wf B e A n c l
theorem Sto.nil {W : World} {r : Nat} {cs : Array Value} {t : TypeId} (h : Blk W r cs t) : Sto W r W cs t := ⟨h, fun b _ => b, fun b _ => b, fun _ b => b, fun b _ => b⟩
theorem Sto.set {W : World} {r : Nat} {wf : World} {cs : Array Value} {t : TypeId} (h : Sto W r wf cs t) (j : Nat) (v : Value) : Sto W r (wf.setCell ⟨r, j, none⟩ v) (cs.setIfInBounds j v) t :=
  ⟨h.blk.set_ j v, fun b hB => (h.bel b hB).setCell (p := ⟨r, j, none⟩) hB v, fun b ha => (h.bs b ha).away _ (fun a e => Ne.symm (ha a e)) v, fun hk b => (h.other hk b).far _ (Ne.symm hk) v, fun b ha => (h.own b ha).away _ v ha⟩
theorem store1 {W : World} {r : Nat} {cs : Array Value} {t : TypeId} (R : Blk W r cs t) (j : Nat) (v : Value) : ∃ wf, W.setCell ⟨r, j, none⟩ v = wf ∧ Sto W r wf (cs.setIfInBounds j v) t := ⟨_, rfl, (Sto.nil R).set j v⟩
theorem store9 {W : World} {r : Nat} {c0 c1 c2 c3 c4 c5 c6 c7 c8 : Value} {t : TypeId} (R : Blk W r #[c0, c1, c2, c3, c4, c5, c6, c7, c8] t) (v0 v1 v2 v3 v4 v5 v6 v7 v8 : Value) :
    ∃ wf, (((((((((W.setCell ⟨r, 0, none⟩ v0).setCell ⟨r, 1, none⟩ v1).setCell ⟨r, 2, none⟩ v2).setCell ⟨r, 3, none⟩ v3).setCell ⟨r, 4, none⟩ v4).setCell ⟨r, 5, none⟩ v5).setCell ⟨r, 6, none⟩ v6).setCell ⟨r, 7, none⟩ v7).setCell ⟨r, 8, none⟩ v8) = wf ∧ Sto W r wf #[v0, v1, v2, v3, v4, v5, v6, v7, v8] t := by
  have h := (((((((((Sto.nil R).set 0 v0).set 1 v1).set 2 v2).set 3 v3).set 4 v4).set 5 v5).set 6 v6).set 7 v7).set 8 v8
  simp only [List.setIfInBounds_toArray, List.set_cons_zero, List.set_cons_succ] at h
  exact ⟨_, rfl, h⟩
theorem Bs.far {w : World} {b off n c : Nat} {l : List UInt8} (h : Bs w (some ⟨b, off, none⟩) n c l) (p : Addr) (hp : p.block ≠ b) (v : Value) : Bs (w.setCell p v) (some ⟨b, off, none⟩) n c l :=
  ⟨h.len, h.cap, h.max, h.nil, fun hn => by
    obtain ⟨b', o', e, hc⟩ := h.rd hn
    injection e with e
    injection e with e1 e2 e3
    subst e1 e2
    exact ⟨b, off, rfl, fun j hj => (World.cell?_setCell_far w p ⟨b, off + j, none⟩ v hp).trans (hc j hj)⟩⟩
section
variable {P : Program}
end
def isW (B : Nat) (l : List UInt8) : World → Value → Prop := fun W v => ∃ A n c, v = .slice A n c ∧ Own W B 5 A n c l
theorem st_isW {B : Nat} {l : List UInt8} : ∀ w w' v, isW B l w v → Below w.heap.size w w' → isW B l w' v := fun _ _ _ ⟨A, n, c, e, k⟩ hb => ⟨A, n, c, e, k.below hb⟩
theorem own_isW {w : World} {base B : Nat} {A : Option Addr} {n c : Nat} {l : List UInt8} (h : Own w base 5 A n c l) (hr : B ≤ base) : isW B l w (.slice A n c) := ⟨A, n, c, rfl, h.mono hr⟩
def isNew (B : Nat) (cs : Array Value) (t : TypeId) : World → Value → Prop := fun W v => ∃ g, v = .pointer (some ⟨g, 0, none⟩) ∧ B ≤ g ∧ Blk W g cs t
theorem st_isNew {B : Nat} {cs : Array Value} {t : TypeId} : ∀ w w' v, isNew B cs t w v → Below w.heap.size w w' → isNew B cs t w' v := fun _ _ _ ⟨g, e, h, k⟩ hb => ⟨g, e, h, k.below hb⟩
theorem goes_new {B : Nat} {W : World} {cs : Array Value} {t : TypeId} (h : B ≤ W.heap.size) : OpGoes Try.prog (fun v w' => (Kd.p (isNew B cs t)).holds w' v ∧ Below W.heap.size W w') (.ok (.value (.pointer (some ⟨W.heap.size, 0, none⟩))) (W.alloc (.cells cs t))) :=
  ⟨⟨_, rfl, h, blk_new W cs t _ rfl⟩, (Below.refl _ W).alloc (Nat.le_refl _) _⟩
theorem cu2 {x y : Int} (x0 : 0 ≤ x) (x1 : x ≤ 255) (y0 : 0 ≤ y) (y1 : y ≤ 255) : (cu [ub x, ub y]).toArray = #[.int .u8 x, .int .u8 y] := by
  simp [cu, ub_val]; omega
theorem lit2 {e : TypeId} {x y : Int} (x0 : 0 ≤ x) (x1 : x ≤ 255) (y0 : 0 ≤ y) (y1 : y ≤ 255) (W : World) : Own (W.alloc (.cells #[.int .u8 x, .int .u8 y] e)) W.heap.size e (some ⟨W.heap.size, 0, none⟩) 2 2 [ub x, ub y] := by
  rw [← cu2 x0 x1 y0 y1]; exact own_lit W _ e _ 2 rfl (by omega) (Nat.le_refl _)
theorem ext_refl (w : World) (g : Nat) : w.grownBy w (some g) := World.grownBy.refl _ _
theorem ext_trans {a b c : World} {g : Nat} (h : a.grownBy b (some g)) (k : b.grownBy c (some g)) : a.grownBy c (some g) :=
  ⟨k.os.trans h.os, k.tape.trans h.tape, k.output.trans h.output, Nat.le_trans h.size k.size, fun i hi hne => (k.block i (Nat.lt_of_lt_of_le hi h.size) hne).trans (h.block i hi hne)⟩
theorem ext_below {a b : World} {g : Nat} (h : Below a.heap.size a b) : a.grownBy b (some g) := ⟨h.os, h.tape, h.output, h.size, fun i hi _ => h.block i hi⟩
section
variable {w W : World} {g : Nat}
theorem Blk.ext {k : Nat} {cs : Array Value} {t : TypeId} (h : Blk w k cs t) (hE : w.grownBy W (some g)) (hk : k ≠ g) : Blk W k cs t := ⟨(hE.block k h.lt (by simpa using hk)).trans h.rd⟩
theorem Bs.ext {v : World} {A : Option Addr} {n c : Nat} {l : List UInt8} (h : Bs v A n c l) (hB : Below v.heap.size v w) (hg : v.heap.size ≤ g) (hE : w.grownBy W (some g)) : Bs W A n c l :=
  h.keep fun p hp => by
    have h1 : W.cell? p = w.cell? p := by
      unfold World.cell?
      rw [hE.block p.block (Nat.lt_of_lt_of_le hp hB.size) (by intro e; injection e with e; omega)]
    rw [h1]
    exact hB.cell hp
end
def Kd.OkX (g : Nat) : Kd → Prop
  | .v _ => True
  | .b _ _ => False
  | .p q => ∀ w w' u, q w u → w.grownBy w' (some g) → q w' u
theorem Kd.keepX {g : Nat} {K : Kd} (hk : K.OkX g) {w w' : World} {v : Value} (h : K.holds w v) (hb : w.grownBy w' (some g)) : K.holds w' v := by
  cases K with
  | v x => exact h
  | b n l => exact hk.elim
  | p q => exact hk _ _ _ h hb
structure GoesX (P : Program) (K : Kd) (g : Nat) (J : World → Prop) (o : Oper) (W : World) (a : Act) : Prop where
  out : OpGoes P (fun v w' => K.holds w' v ∧ W.grownBy w' (some g) ∧ J w') ((execOp a.eval o).run P W)
def Ob1X (P : Program) (ops : Array Oper) (a0 : Act) (w0 : World) (g : Nat) (J : Nat → World → Prop) (c : Nat) (x : Bool) (ks : List (Tmp × Kd)) (o : Oper) (K : Kd) : Prop :=
  (x = false ∧ wantK ops ks o.guard = some true ∧ ∀ W, w0.grownBy W (some g) → leanOn ks W o.op.operands.toList (Goes P K o W) a0) ∨
  (x = true ∧ wantK ops ks o.guard = some true ∧ ∀ W, w0.grownBy W (some g) → J c W → leanOn ks W o.op.operands.toList (GoesX P K g (J (c + 1)) o W) a0) ∨
  (x = false ∧ wantK ops ks o.guard = some false ∧ K = .v undef)
def lastX (exs : List Nat) (i : Nat) : Bool := match exs.getLast? with
  | some j => j == i
  | none => false
def ObsX (P : Program) (ops : Array Oper) (a0 : Act) (w0 : World) (g : Nat) (J : Nat → World → Prop) (exs : List Nat) (fin : List (Tmp × Kd) → Prop) : Nat → Nat → List (Tmp × Kd) → List Oper → Prop
  | _, _, ks, [] => fin ks
  | i, c, ks, o :: rest => ∃ K t, o.dst = some t ∧ (K.Ok ∧ (lastX exs i = true ∨ K.OkX g)) ∧ Ob1X P ops a0 w0 g J c (exs.elem i) ks o K ∧ ObsX P ops a0 w0 g J exs fin (i + 1) (bif exs.elem i then c + 1 else c) ((t, K) :: ks) rest
section
variable {P : Program} {ops : Array Oper} {a0 : Act} {w0 : World} {g : Nat} {J : Nat → World → Prop} {exs : List Nat} {fin : List (Tmp × Kd) → Prop} {i c : Nat} {ks : List (Tmp × Kd)} {rest : List Oper}
  {t : Tmp} {op : Op} {ty : TypeId} {pos : String} {after : Array Edge} {gd : Option (Nat × Bool)}
theorem ObsX.v {x : Value} (hx : exs.elem i = false) (hg : wantK ops ks gd = some true) (ho : ∀ W, w0.grownBy W (some g) → leanOn ks W op.operands.toList (Goes P (.v x) ⟨some t, op, ty, pos, after, gd⟩ W) a0)
    (hr : ObsX P ops a0 w0 g J exs fin (i + 1) c ((t, .v x) :: ks) rest) : ObsX P ops a0 w0 g J exs fin i c ks (⟨some t, op, ty, pos, after, gd⟩ :: rest) :=
  ⟨.v x, t, rfl, ⟨trivial, .inr trivial⟩, .inl ⟨hx, hg, ho⟩, by rw [hx]; exact hr⟩
theorem ObsX.p {q : World → Value → Prop} (hx : exs.elem i = false) (hg : wantK ops ks gd = some true) (hkb : ∀ w w' v, q w v → Below w.heap.size w w' → q w' v) (hk : ∀ w w' v, q w v → w.grownBy w' (some g) → q w' v) (ho : ∀ W, w0.grownBy W (some g) → leanOn ks W op.operands.toList (Goes P (.p q) ⟨some t, op, ty, pos, after, gd⟩ W) a0)
    (hr : ObsX P ops a0 w0 g J exs fin (i + 1) c ((t, .p q) :: ks) rest) : ObsX P ops a0 w0 g J exs fin i c ks (⟨some t, op, ty, pos, after, gd⟩ :: rest) :=
  ⟨.p q, t, rfl, ⟨hkb, .inr hk⟩, .inl ⟨hx, hg, ho⟩, by rw [hx]; exact hr⟩
theorem ObsX.ev {x : Value} (hx : exs.elem i = true) (hg : wantK ops ks gd = some true) (ho : ∀ W, w0.grownBy W (some g) → J c W → leanOn ks W op.operands.toList (GoesX P (.v x) g (J (c + 1)) ⟨some t, op, ty, pos, after, gd⟩ W) a0)
    (hr : ObsX P ops a0 w0 g J exs fin (i + 1) (c + 1) ((t, .v x) :: ks) rest) : ObsX P ops a0 w0 g J exs fin i c ks (⟨some t, op, ty, pos, after, gd⟩ :: rest) :=
  ⟨.v x, t, rfl, ⟨trivial, .inr trivial⟩, .inr (.inl ⟨hx, hg, ho⟩), by rw [hx]; exact hr⟩
theorem ObsX.ep {q : World → Value → Prop} (hx : exs.elem i = true) (hg : wantK ops ks gd = some true) (hl : lastX exs i = true) (hkb : ∀ w w' v, q w v → Below w.heap.size w w' → q w' v) (ho : ∀ W, w0.grownBy W (some g) → J c W → leanOn ks W op.operands.toList (GoesX P (.p q) g (J (c + 1)) ⟨some t, op, ty, pos, after, gd⟩ W) a0)
    (hr : ObsX P ops a0 w0 g J exs fin (i + 1) (c + 1) ((t, .p q) :: ks) rest) : ObsX P ops a0 w0 g J exs fin i c ks (⟨some t, op, ty, pos, after, gd⟩ :: rest) :=
  ⟨.p q, t, rfl, ⟨hkb, .inl hl⟩, .inr (.inl ⟨hx, hg, ho⟩), by rw [hx]; exact hr⟩
theorem ObsX.skip (hx : exs.elem i = false) (hg : wantK ops ks gd = some false) (hr : ObsX P ops a0 w0 g J exs fin (i + 1) c ((t, .v undef) :: ks) rest) : ObsX P ops a0 w0 g J exs fin i c ks (⟨some t, op, ty, pos, after, gd⟩ :: rest) :=
  ⟨.v undef, t, rfl, ⟨trivial, .inr trivial⟩, .inr (.inr ⟨hx, hg, rfl⟩), by rw [hx]; exact hr⟩
theorem ObsX.nil (h : fin ks) : ObsX P ops a0 w0 g J exs fin i c ks [] := h
end
def czX (exs : List Nat) : Nat → Nat
  | 0 => 0
  | i + 1 => bif exs.elem i then czX exs i + 1 else czX exs i
def exB (ops : Array Oper) (m : Nat) (exs : List Nat) : Bool := (List.range exs.length).all fun q => decide (exs.getD q 0 < m) && czX exs (exs.getD q 0) == q && (q == 0 || match ops[exs.getD q 0]? with
  | some o => hasOn o (exs.getD (q - 1) 0)
  | none => false)
theorem ObsX.out {P : Program} {ops : Array Oper} {a0 : Act} {w0 : World} {g : Nat} {J : Nat → World → Prop} {exs : List Nat} {fin : List (Tmp × Kd) → Prop} : ∀ {l : List Oper} {i0 : Nat} {ks : List (Tmp × Kd)}, ObsX P ops a0 w0 g J exs fin i0 (czX exs i0) ks l →
    ∃ Ks : Nat → Kd, ∃ kz : Nat → List (Tmp × Kd), kz 0 = ks ∧ fin (kz l.length) ∧ ∀ i o, l[i]? = some o → ∃ t, o.dst = some t ∧ ((Ks i).Ok ∧ (lastX exs (i0 + i) = true ∨ (Ks i).OkX g)) ∧ Ob1X P ops a0 w0 g J (czX exs (i0 + i)) (exs.elem (i0 + i)) (kz i) o (Ks i) ∧ kz (i + 1) = (t, Ks i) :: kz i
  | [], i0, ks, h => ⟨fun _ => .v undef, fun _ => ks, rfl, h, fun i o ho => by simp at ho⟩
  | o :: rest, i0, ks, ⟨K, t, hd, hk, hob, hr⟩ => by
    have hr' : ObsX P ops a0 w0 g J exs fin (i0 + 1) (czX exs (i0 + 1)) ((t, K) :: ks) rest := hr
    obtain ⟨Ks, kz, h0, hf, hall⟩ := ObsX.out hr'
    refine ⟨fun i => match i with | 0 => K | i + 1 => Ks i, fun i => match i with | 0 => ks | i + 1 => kz i, rfl, hf, fun i o' ho' => ?_⟩
    cases i with
    | zero =>
      simp only [List.getElem?_cons_zero, Option.some.injEq] at ho'
      subst ho'
      exact ⟨t, hd, hk, hob, h0⟩
    | succ i =>
      have := hall i o' (by simpa using ho')
      rw [show i0 + 1 + i = i0 + (i + 1) from by omega] at this
      exact this
structure RInvX (ops : Array Oper) (a0 : Act) (w0 : World) (Ks : Nat → Kd) (m : Nat) (g : Nat) (J : Nat → World → Prop) (exs : List Nat) (listed : Array Bool) (a : Act) (w : World) : Prop where
  lsize : listed.size = ops.size
  defers : a.defers = a0.defers
  size : a.tmps.size = a0.tmps.size
  ext : w0.grownBy w (some g)
  cnt : ∃ c, c ≤ exs.length ∧ (∀ q, q < exs.length → listed.getD (exs.getD q 0) false = decide (q < c)) ∧ J c w
  other : ∀ t, (∀ j, j < m → dstOf ops j ≠ some t) → a.tmps.getD t undef = a0.tmps.getD t undef
  val : ∀ j t, j < m → listed.getD j false = true → dstOf ops j = some t → (Ks j).holds w (a.tmps.getD t undef)
  down : ∀ i o, ops[i]? = some o → listed.getD i false = true → ∀ e ∈ o.after, Region.binds .any e = true → listed.getD e.on false = true
section
variable {P : Program} {Q : Exit → Act → World → Prop}
theorem regionX {id : Nat} {l : List Oper} {a : Act} {w : World} (m : Nat) (exs : List Nat) (g : Nat) (J : Nat → World → Prop) (hm : P.follows .mixedOrders = true) (hchk : regB l.toArray m a.tmps.size = true) (hex : exB l.toArray m exs = true)
    (hJ0 : J 0 w) (hJs : ∀ c W W', J c W → Below W.heap.size W W' → J c W')
    (hobs : ObsX P l.toArray a w g J exs (fun ks => ∀ W, w.grownBy W (some g) → J exs.length W → finOn W ks (fun a' => wpList P l.toArray Q (l.drop m) a' W) a) 0 0 [] (l.take m)) :
    (Code.region id l.toArray true).wp P Q a w := by
  have R := regB_out hchk
  obtain ⟨ops, hops⟩ : ∃ ops, l.toArray = ops := ⟨_, rfl⟩
  have hl' : l = ops.toList := by rw [← hops]
  rw [hops] at hobs R hex ⊢
  rw [hl'] at hobs
  clear hops hl' hchk
  have hex' : ∀ q, q < exs.length → exs.getD q 0 < m ∧ czX exs (exs.getD q 0) = q ∧ (q = 0 ∨ ∃ o, ops[exs.getD q 0]? = some o ∧ hasOn o (exs.getD (q - 1) 0) = true) := by
    intro q hq
    have h := (List.all_eq_true.1 hex) q (List.mem_range.2 hq)
    simp only [Bool.and_eq_true, decide_eq_true_eq, beq_iff_eq, Bool.or_eq_true] at h
    refine ⟨h.1.1, h.1.2, h.2.imp (fun h => h) fun h2 => ?_⟩
    cases ho : ops[exs.getD q 0]? with
    | none => rw [ho] at h2; cases h2
    | some o => rw [ho] at h2; exact ⟨o, rfl, h2⟩
  have hidx : ∀ i, exs.elem i = true → ∃ q, q < exs.length ∧ exs.getD q 0 = i := by
    intro i hi
    obtain ⟨q, hq, e⟩ := List.mem_iff_getElem.1 (List.elem_iff.1 hi)
    exact ⟨q, hq, by rw [List.getD_eq_getElem?_getD, List.getElem?_eq_getElem hq]; exact e⟩
  have hmemE : ∀ q, q < exs.length → exs.elem (exs.getD q 0) = true := by
    intro q hq
    rw [List.elem_iff, List.getD_eq_getElem?_getD, List.getElem?_eq_getElem hq]
    exact List.getElem_mem hq
  obtain ⟨Ks, kz, hz0, hfin, hall⟩ := ObsX.out (i0 := 0) hobs
  simp only [Nat.zero_add] at hall
  have hmlen : (ops.toList.take m).length = m := by simp [R.le]
  rw [hmlen] at hfin
  have hat : ∀ i o, i < m → ops[i]? = some o → (ops.toList.take m)[i]? = some o := fun i o hi ho => by
    rw [List.getElem?_take, if_pos hi]; simpa using ho
  have hta : ∀ i o, (ops.toList.take m)[i]? = some o → i < m ∧ ops[i]? = some o := fun i o ho => by
    rw [List.getElem?_take] at ho
    split at ho
    · exact ⟨‹_›, by simpa using ho⟩
    · cases ho
  have hall2 : ∀ i o, (ops.toList.take m)[i]? = some o → ∃ t, o.dst = some t ∧ kz (i + 1) = (t, Ks i) :: kz i := fun i o ho => by
    obtain ⟨t, h1, _, _, h2⟩ := hall i o ho
    exact ⟨t, h1, h2⟩
  have hmem : ∀ i, i ≤ m → ∀ t K, (t, K) ∈ kz i → ∃ j, j < i ∧ dstOf ops j = some t ∧ K = Ks j := fun i hi t K hm => by
    obtain ⟨j, o, h1, h2, h3, h4⟩ := kz_mem hz0 hall2 i (by omega) t K hm
    obtain ⟨_, ho⟩ := hta j o h2
    exact ⟨j, h1, by unfold dstOf; rw [ho]; exact h3, h4⟩
  refine wp_region_any hm ?_
  have hd : ∀ i o, ops[i]? = some o → dstOf ops i = o.dst := fun i o ho => by unfold dstOf; rw [ho]; rfl
  have hend : ∀ (listed : Array Bool) (a' : Act) (w' : World), RInvX ops a w Ks m g J exs listed a' w' → (∀ j, j < m → listed.getD j false = true) → wpList P ops Q (ops.toList.drop m) a' w' := by
    intro listed a' w' hI hlst
    have HJX : J exs.length w' := by
      obtain ⟨c, hc, hq, hj⟩ := hI.cnt
      have : c = exs.length := by
        rcases Nat.lt_or_ge c exs.length with hlt | hge
        · have h1 := hq c hlt
          rw [hlst _ (hex' c hlt).1] at h1
          simp at h1
        · omega
      rw [← this]; exact hj
    obtain ⟨b, hb, e1, e2, e3, e4⟩ := finOn.out (a' := a') (hfin w' hI.ext HJX) hI.size.symm (fun t K hm => by
      obtain ⟨j, hj, hdj, rfl⟩ := hmem m (Nat.le_refl _) t K hm
      obtain ⟨o, ho, hod⟩ := dstOf_some hdj
      obtain ⟨s, hs, hsn, _⟩ := R.main j o hj ho
      rw [hod] at hs
      injection hs with hs
      subst hs
      exact ⟨by rw [hI.size]; exact hsn, hI.val j t hj (hlst j hj) hdj⟩)
    have : b = a' := by
      cases b with
      | mk bt bd =>
        cases a' with
        | mk at' ad =>
          simp only at e1 e2 e3 e4
          have hdf : bd = ad := by rw [e2]; exact hI.defers.symm
          have htm : bt = at' := by
            apply Array.ext
            · rw [e1]; exact hI.size.symm
            · intro t t1 t2
              have : bt.getD t undef = at'.getD t undef := by
                by_cases hx : ∃ K, (t, K) ∈ kz m
                · exact e4 t hx
                · rw [e3 t (fun K hm => hx ⟨K, hm⟩)]
                  refine (hI.other t fun j hj hdj => hx ?_).symm
                  obtain ⟨o, ho, hod⟩ := dstOf_some hdj
                  exact ⟨Ks j, kz_all hall2 m (by omega) j o t hj (hat j o hj ho) hod⟩
              simpa only [Array.getD_eq_getD_getElem?, Array.getElem?_eq_getElem t1, Array.getElem?_eq_getElem t2, Option.getD_some] using this
          subst hdf htm
          rfl
    rw [this] at hb
    exact hb
  have key : ∀ (fuel : Nat) (listed : Array Bool) (a' : Act) (w' : World), RInvX ops a w Ks m g J exs listed a' w' → (∀ i, m ≤ i → i < ops.size → listed.getD i false = false) →
      ((List.range ops.size).filter fun i => !listed.getD i true).length ≤ fuel → wpAny P .any ops Q fuel listed a' w' := by
    intro fuel
    have hprefix : ∀ (listed : Array Bool), listed.size = ops.size → (∀ j, j < m → listed.getD j false = true) → (∀ i, m ≤ i → i < ops.size → listed.getD i false = false) → ∀ i, i < ops.size → listed.getD i false = decide (i < m) := by
      intro listed hs h1 h2 i hi
      by_cases e : i < m
      · rw [h1 i e]; simp [e]
      · rw [h2 i (by omega) hi]; simp [e]
    induction fuel with
    | zero =>
      intro listed a' w' hI hno hc
      have h0 : ((List.range ops.size).filter fun i => !listed.getD i true) = [] := List.eq_nil_of_length_eq_zero (by omega)
      have hal : ∀ i, i < ops.size → listed.getD i false = true := by
        intro i hi
        rw [List.filter_eq_nil_iff] at h0
        have := h0 i (List.mem_range.2 hi)
        rw [← getD_ff (by rw [hI.lsize]; exact hi)]
        simpa using this
      have hms : m = ops.size := by
        rcases Nat.lt_or_ge m ops.size with hlt | hge
        · have := hno m (Nat.le_refl _) hlt
          rw [hal m hlt] at this
          cases this
        · have := R.le; omega
      have := hend listed a' w' hI (fun j hj => hal j (by omega))
      rw [hms] at this
      have hdr : ops.toList.drop ops.size = [] := by simp
      rw [hdr] at this
      refine ⟨?_, this⟩
      unfold Region.ready
      rw [List.filter_eq_nil_iff] at h0 ⊢
      intro i hi
      have := h0 i hi
      simp only [Bool.not_eq_true] at this ⊢
      rw [this]
      rfl
    | succ fuel ih =>
      intro listed a' w' hI hno hc
      by_cases hdone : ∀ j, j < m → listed.getD j false = true
      · refine tail_any R (fuel + 1) m listed a' w' (Nat.le_refl _) R.le hI.lsize (hprefix listed hI.lsize hdone hno) ?_ (hend listed a' w' hI hdone)
        have hlen : ops.size - m ≤ ((List.range ops.size).filter fun i => !listed.getD i true).length := by
          have hsub : (List.range ops.size).filter (fun i => decide (m ≤ i)) = (List.range ops.size).filter fun i => !listed.getD i true := by
            apply List.filter_congr
            intro i hi
            have hi := List.mem_range.1 hi
            rw [getD_ff (by rw [hI.lsize]; exact hi), hprefix listed hI.lsize hdone hno i hi]
            by_cases e : i < m <;> simp [e] <;> omega
          rw [← hsub]
          have : ∀ N, m ≤ N → ((List.range N).filter fun i => decide (m ≤ i)).length = N - m := by
            intro N hN
            induction N with
            | zero => simp
            | succ N ihN =>
              rw [List.range_succ, List.filter_append, List.length_append]
              by_cases e : m ≤ N
              · rw [ihN e]; simp [e]; omega
              · have : m = N + 1 := by omega
                subst this
                have : (List.range N).filter (fun i => decide (N + 1 ≤ i)) = [] := by
                  rw [List.filter_eq_nil_iff]
                  intro i hi
                  have := List.mem_range.1 hi
                  simp; omega
                rw [this]
                simp
          rw [this _ R.le]
          exact Nat.le_refl _
        omega
      · refine ⟨fun hr => ?_, fun i hi => ?_⟩
        · exfalso
          refine hdone ?_
          intro j
          induction j using Nat.strongRecOn with
          | _ j ihj =>
            intro hj
            cases hlj : listed.getD j false with
            | true => rfl
            | false =>
              exfalso
              have hjs : j < ops.size := by have := R.le; omega
              have hmem : j ∈ Region.ready .any ops listed := by
                rw [mem_ready]
                refine ⟨by rw [getD_ff (by rw [hI.lsize]; exact hjs)]; exact hlj, ops[j], Array.getElem?_eq_getElem hjs, fun e he hb => ?_⟩
                have := R.down j _ (Array.getElem?_eq_getElem hjs) e he hb
                exact ihj _ this (by omega)
              rw [hr] at hmem
              cases hmem
        · have hi0 := hi
          rw [mem_ready] at hi
          obtain ⟨hnl', o, ho, haf⟩ := hi
          have his : i < ops.size := (Array.getElem?_eq_some_iff.1 ho).1
          have hsi : i < listed.size := by rw [hI.lsize]; exact his
          have him : i < m := by
            rcases Nat.lt_or_ge i m with hlt | hge
            · exact hlt
            · exact absurd (fun j hj => all_before R hI.down hge ho haf (i - j - 1) j (by omega)) hdone
          obtain ⟨t, ht, htn, hne, hsel, hrd, hgd⟩ := R.main i o him ho
          obtain ⟨t', ht', hok, hob, hkz⟩ := hall i o (hat i o him ho)
          have hon : ∀ j, hasOn o j = true → listed.getD j false = true := fun j hj => by
            obtain ⟨e, he, heo, heb⟩ := hasOn_mem hj
            rw [← heo]
            exact haf e he heb
          have hnext : ∀ v w'', (Ks i).holds w'' v → w'.grownBy w'' (some g) → (∀ j, j < m → listed.getD j false = true → ∀ u, (Ks j).holds w' u → (Ks j).holds w'' u) → (∃ c, c ≤ exs.length ∧ (∀ q, q < exs.length → (listed.setIfInBounds i true).getD (exs.getD q 0) false = decide (q < c)) ∧ J c w'') → wpAny P .any ops Q fuel (listed.setIfInBounds i true) (a'.put o.dst v) w'' := by
            intro v w'' hv hb hkeep hcn
            refine ih _ _ _ ⟨by simpa using hI.lsize, ?_, ?_, ext_trans hI.ext hb, hcn, ?_, ?_, ?_⟩ ?_ ?_
            · rw [ht]; exact hI.defers
            · rw [ht]; simpa [Act.put] using hI.size
            · intro s hs
              have hst : s ≠ t := fun e => hs i him (by rw [hd i _ ho, ht, e])
              rw [ht, put_getD (by rw [hI.size]; exact htn), if_neg hst]
              exact hI.other s hs
            · intro j s hjm hj hdj
              rw [getD_set hsi] at hj
              rw [ht, put_getD (by rw [hI.size]; exact htn)]
              by_cases e : j = i
              · subst e
                have : s = t := by rw [hd j _ ho, ht] at hdj; injection hdj with hdj; exact hdj.symm
                rw [if_pos this]
                exact hv
              · rw [if_neg e] at hj
                have hst : s ≠ t := fun e2 => e (dst_inj R hjm him hdj (by rw [hd i _ ho, ht, e2]))
                rw [if_neg hst]
                exact hkeep j hjm hj _ (hI.val j s hjm hj hdj)
            · intro q oq hq hlq e he hb
              rw [getD_set hsi] at hlq ⊢
              by_cases e1 : q = i
              · subst e1
                rw [ho] at hq
                injection hq with hq
                subst hq
                split
                · rfl
                · exact haf e he hb
              · rw [if_neg e1] at hlq
                split
                · rfl
                · exact hI.down q oq hq hlq e he hb
            · intro q hq hqs
              rw [getD_set hsi, if_neg (by omega)]
              exact hno q hq hqs
            · have hnl : (!listed.getD i true) = true := by rw [hnl']; rfl
              have hlt : ((List.range ops.size).filter fun k => !(listed.setIfInBounds i true).getD k true).length < ((List.range ops.size).filter fun k => !listed.getD k true).length := by
                have hsub : ((List.range ops.size).filter fun k => !(listed.setIfInBounds i true).getD k true) = (((List.range ops.size).filter fun k => !listed.getD k true).filter fun k => k != i) := by
                  rw [List.filter_filter]
                  apply List.filter_congr
                  intro k _
                  rw [getD_set hsi]
                  by_cases e : k = i
                  · subst e; simp
                  · simp [e]
                rw [hsub]
                exact List.length_filter_lt_length_iff_exists.2 ⟨i, List.mem_filter.2 ⟨List.mem_range.2 his, hnl⟩, by simp⟩
              omega
          have hlook : ∀ s K, lookK (kz i) s = some K → ∃ j, j < i ∧ dstOf ops j = some s ∧ K = Ks j := fun s K hK => hmem i (by omega) s K (lookK_some hK)
          have hokj : ∀ j, j < m → (Ks j).Ok ∧ (lastX exs j = true ∨ (Ks j).OkX g) := by
            intro j hj
            have hjs : j < ops.size := by have := R.le; omega
            obtain ⟨_, _, h1, _⟩ := hall j ops[j] (hat j _ hj (Array.getElem?_eq_getElem hjs))
            exact h1
          have hkN : ∀ w'', Below w'.heap.size w' w'' → ∀ j, j < m → listed.getD j false = true → ∀ u, (Ks j).holds w' u → (Ks j).holds w'' u := fun w'' hB j hj _ u hu => Kd.keep (hokj j hj).1 hu hB
          have hcntN : exs.elem i = false → ∀ w'', Below w'.heap.size w' w'' → ∃ c, c ≤ exs.length ∧ (∀ q, q < exs.length → (listed.setIfInBounds i true).getD (exs.getD q 0) false = decide (q < c)) ∧ J c w'' := by
            intro hx w'' hB
            obtain ⟨c, hc, hq, hj⟩ := hI.cnt
            refine ⟨c, hc, fun q hql => ?_, hJs c _ _ hj hB⟩
            rw [getD_set hsi, if_neg (fun e => by have h1 := hmemE q hql; rw [e, hx] at h1; cases h1)]
            exact hq q hql
          unfold wpOp
          rw [ho]
          rcases hob with ⟨hxx, hwk, hgo⟩ | ⟨hxx, hwk, hgo⟩ | ⟨hxx, hwk, hskip⟩
          · have hw : Region.wanted o (yielded ops a'.tmps) = true := by
              unfold Region.wanted
              cases hg : o.guard with
              | none => rfl
              | some gb =>
                obtain ⟨g, b⟩ := gb
                rw [hg] at hwk
                unfold wantK at hwk
                simp only at hwk
                cases hdg : dstOf ops g with
                | none => rw [hdg] at hwk; cases hwk
                | some s =>
                  rw [hdg] at hwk
                  cases hlk : lookK (kz i) s with
                  | none => simp only [hlk] at hwk; cases hwk
                  | some K =>
                    simp only [hlk] at hwk
                    split at hwk
                    · rename_i hKe
                      injection hKe with hKe
                      subst hKe
                      rename_i c
                      obtain ⟨j, hj, hdj, hKj⟩ := hlook s _ hlk
                      obtain ⟨hong, hgi⟩ := hgd g b hg
                      obtain rfl := dst_inj R (by omega) (by omega) hdj hdg
                      have hv := hI.val j s (by omega) (hon j hong) hdj
                      rw [← hKj] at hv
                      have hy : yielded ops a'.tmps j = some c := by
                        have hv' : a'.tmps.getD s undef = .bool c := hv
                        unfold yielded
                        unfold dstOf at hdj
                        rw [hdj]
                        rw [Array.getD_eq_getD_getElem?] at hv'
                        cases hx : a'.tmps[s]? with
                        | none => rw [hx] at hv'; exact absurd hv' (by simp [undef])
                        | some x =>
                          rw [hx] at hv'
                          simp only [Option.getD_some] at hv'
                          subst hv'
                          simp [hx]
                      simp only [hy]
                      injection hwk
                    · cases hwk
            simp only [hw, if_true]
            refine .inl ?_
            obtain ⟨b, hb, b1, b2, b3, b4⟩ := leanOn.out (a' := a') (hgo w' hI.ext) hI.size.symm (fun s K hs hK => by
              obtain ⟨j, hj, hdj, rfl⟩ := hlook s K hK
              obtain ⟨o2, ho2, hod2⟩ := dstOf_some hdj
              obtain ⟨s2, hs2, hsn, _⟩ := R.main j o2 (by omega) ho2
              rw [hod2] at hs2
              injection hs2 with hs2
              subst hs2
              obtain ⟨ha, _⟩ := hrd s (by simpa using hs) j (by omega) hdj
              exact ⟨by rw [hI.size]; exact hsn, hI.val j s (by omega) (hon j ha) hdj⟩)
            have heq : execOp a'.eval o = execOp b.eval o := by
              refine execOp_congr o (fun cs bb hc => by rw [hc] at hsel; cases hsel) fun x hx => ?_
              cases x with
              | tmp s =>
                show a'.tmps.getD s undef = b.tmps.getD s undef
                by_cases hks : ∃ K, lookK (kz i) s = some K
                · obtain ⟨K, hK⟩ := hks
                  exact (b4 s ⟨K, hK, by simpa using hx⟩).symm
                · have ho2 : ∀ j, j < m → dstOf ops j ≠ some s := by
                    intro j hj hdj
                    obtain ⟨_, hji⟩ := hrd s hx j hj hdj
                    obtain ⟨oj, hoj, hdoj⟩ := dstOf_some hdj
                    have := kz_all hall2 i (by omega) j oj s hji (hat j oj hj hoj) hdoj
                    cases hl : lookK (kz i) s with
                    | some K => exact hks ⟨K, hl⟩
                    | none => exact lookK_none hl _ this
                  have e0 := hI.other s ho2
                  rcases b3 s with e | e
                  · rw [e, e0]
                  · exact e.symm
              | const _ => rfl
              | global _ => rfl
              | func _ => rfl
            have hgoes := hb.out
            unfold Oper.wp
            rw [heq]
            generalize (execOp b.eval o).run P w' = r at hgoes
            cases r with
            | ok n w'' =>
              cases n <;> simp only [OpGoes] at hgoes <;> try exact hgoes.elim
              case value v => exact hnext v w'' hgoes.1 (ext_below hgoes.2) (hkN _ hgoes.2) (hcntN hxx _ hgoes.2)
              case enter f args =>
                refine Calls.mono hgoes ?_
                rintro e w3 ⟨v, rfl, hv, hb⟩
                exact hnext v w3 hv (ext_below hb) (hkN _ hb) (hcntN hxx _ hb)
            | halt x w'' => exact hgoes.elim
          · obtain ⟨q, hql, hqe⟩ := hidx i hxx
            obtain ⟨c, hc, hqs, hj⟩ := hI.cnt
            obtain ⟨hq1, hq2, hq3⟩ := hex' q hql
            have hqc : q = c := by
              have h1 := hqs q hql
              rw [hqe, ← getD_ff hsi, hnl'] at h1
              have h2 : ¬ q < c := by simpa using h1.symm
              rcases hq3 with h3 | ⟨o3, ho3, hh3⟩
              · omega
              · rw [hqe, ho] at ho3
                injection ho3 with ho3
                subst ho3
                have h4 := hon _ hh3
                by_cases h0 : q = 0
                · omega
                · rw [hqs (q - 1) (by omega)] at h4
                  have : q - 1 < c := by simpa using h4
                  omega
            rw [hqe] at hq2
            rw [hq2, hqc] at hgo
            have hkE : ∀ w'', w'.grownBy w'' (some g) → ∀ j, j < m → listed.getD j false = true → ∀ u, (Ks j).holds w' u → (Ks j).holds w'' u := by
              intro w'' hE j hjm hjl u hu
              rcases (hokj j hjm).2 with h1 | h1
              · exfalso
                have hlast : j = exs.getD (exs.length - 1) 0 := by
                  unfold lastX at h1
                  rw [List.getLast?_eq_getElem?, List.getElem?_eq_getElem (by omega)] at h1
                  rw [List.getD_eq_getElem?_getD, List.getElem?_eq_getElem (by omega)]
                  simp only [beq_iff_eq] at h1
                  exact h1.symm
                rw [hlast, hqs _ (by omega)] at hjl
                have : exs.length - 1 < c := by simpa using hjl
                omega
              · exact Kd.keepX h1 hu hE
            have hcntE : ∀ w'', J (c + 1) w'' → ∃ c, c ≤ exs.length ∧ (∀ q, q < exs.length → (listed.setIfInBounds i true).getD (exs.getD q 0) false = decide (q < c)) ∧ J c w'' := by
              intro w'' hj2
              refine ⟨c + 1, by omega, fun p hp => ?_, hj2⟩
              rw [getD_set hsi]
              by_cases e : exs.getD p 0 = i
              · have hp2 := (hex' p hp).2.1
                rw [e, hq2] at hp2
                rw [if_pos e]
                have : p < c + 1 := by omega
                simp [this]
              · rw [if_neg e, hqs p hp]
                have hpq : p ≠ q := fun h => e (by rw [h]; exact hqe)
                by_cases hpc : p < c
                · simp [hpc, Nat.lt_succ_of_lt hpc]
                · have : ¬ p < c + 1 := by omega
                  simp [hpc, this]
            have hw : Region.wanted o (yielded ops a'.tmps) = true := by
              unfold Region.wanted
              cases hg : o.guard with
              | none => rfl
              | some gb =>
                obtain ⟨g, b⟩ := gb
                rw [hg] at hwk
                unfold wantK at hwk
                simp only at hwk
                cases hdg : dstOf ops g with
                | none => rw [hdg] at hwk; cases hwk
                | some s =>
                  rw [hdg] at hwk
                  cases hlk : lookK (kz i) s with
                  | none => simp only [hlk] at hwk; cases hwk
                  | some K =>
                    simp only [hlk] at hwk
                    split at hwk
                    · rename_i hKe
                      injection hKe with hKe
                      subst hKe
                      rename_i c
                      obtain ⟨j, hj, hdj, hKj⟩ := hlook s _ hlk
                      obtain ⟨hong, hgi⟩ := hgd g b hg
                      obtain rfl := dst_inj R (by omega) (by omega) hdj hdg
                      have hv := hI.val j s (by omega) (hon j hong) hdj
                      rw [← hKj] at hv
                      have hy : yielded ops a'.tmps j = some c := by
                        have hv' : a'.tmps.getD s undef = .bool c := hv
                        unfold yielded
                        unfold dstOf at hdj
                        rw [hdj]
                        rw [Array.getD_eq_getD_getElem?] at hv'
                        cases hx : a'.tmps[s]? with
                        | none => rw [hx] at hv'; exact absurd hv' (by simp [undef])
                        | some x =>
                          rw [hx] at hv'
                          simp only [Option.getD_some] at hv'
                          subst hv'
                          simp [hx]
                      simp only [hy]
                      injection hwk
                    · cases hwk
            simp only [hw, if_true]
            refine .inl ?_
            obtain ⟨b, hb, b1, b2, b3, b4⟩ := leanOn.out (a' := a') (hgo w' hI.ext hj) hI.size.symm (fun s K hs hK => by
              obtain ⟨j, hj, hdj, rfl⟩ := hlook s K hK
              obtain ⟨o2, ho2, hod2⟩ := dstOf_some hdj
              obtain ⟨s2, hs2, hsn, _⟩ := R.main j o2 (by omega) ho2
              rw [hod2] at hs2
              injection hs2 with hs2
              subst hs2
              obtain ⟨ha, _⟩ := hrd s (by simpa using hs) j (by omega) hdj
              exact ⟨by rw [hI.size]; exact hsn, hI.val j s (by omega) (hon j ha) hdj⟩)
            have heq : execOp a'.eval o = execOp b.eval o := by
              refine execOp_congr o (fun cs bb hc => by rw [hc] at hsel; cases hsel) fun x hx => ?_
              cases x with
              | tmp s =>
                show a'.tmps.getD s undef = b.tmps.getD s undef
                by_cases hks : ∃ K, lookK (kz i) s = some K
                · obtain ⟨K, hK⟩ := hks
                  exact (b4 s ⟨K, hK, by simpa using hx⟩).symm
                · have ho2 : ∀ j, j < m → dstOf ops j ≠ some s := by
                    intro j hj hdj
                    obtain ⟨_, hji⟩ := hrd s hx j hj hdj
                    obtain ⟨oj, hoj, hdoj⟩ := dstOf_some hdj
                    have := kz_all hall2 i (by omega) j oj s hji (hat j oj hj hoj) hdoj
                    cases hl : lookK (kz i) s with
                    | some K => exact hks ⟨K, hl⟩
                    | none => exact lookK_none hl _ this
                  have e0 := hI.other s ho2
                  rcases b3 s with e | e
                  · rw [e, e0]
                  · exact e.symm
              | const _ => rfl
              | global _ => rfl
              | func _ => rfl
            have hgoes := hb.out
            unfold Oper.wp
            rw [heq]
            generalize (execOp b.eval o).run P w' = r at hgoes
            cases r with
            | ok n w'' =>
              cases n <;> simp only [OpGoes] at hgoes <;> try exact hgoes.elim
              case value v => exact hnext v w'' hgoes.1 hgoes.2.1 (hkE _ hgoes.2.1) (hcntE _ hgoes.2.2)
              case enter f args =>
                refine Calls.mono hgoes ?_
                rintro e w3 ⟨v, rfl, hv, hb, hj3⟩
                exact hnext v w3 hv hb (hkE _ hb) (hcntE _ hj3)
            | halt x w'' => exact hgoes.elim
          · have hw : Region.wanted o (yielded ops a'.tmps) = false := by
              unfold Region.wanted
              cases hg : o.guard with
              | none => rw [hg] at hwk; cases hwk
              | some gb =>
                obtain ⟨g, b⟩ := gb
                rw [hg] at hwk
                unfold wantK at hwk
                simp only at hwk
                cases hdg : dstOf ops g with
                | none => rw [hdg] at hwk; cases hwk
                | some s =>
                  rw [hdg] at hwk
                  cases hlk : lookK (kz i) s with
                  | none => simp only [hlk] at hwk; cases hwk
                  | some K =>
                    simp only [hlk] at hwk
                    split at hwk
                    · rename_i hKe
                      injection hKe with hKe
                      subst hKe
                      rename_i c
                      obtain ⟨j, hj, hdj, hKj⟩ := hlook s _ hlk
                      obtain ⟨hong, hgi⟩ := hgd g b hg
                      obtain rfl := dst_inj R (by omega) (by omega) hdj hdg
                      have hv := hI.val j s (by omega) (hon j hong) hdj
                      rw [← hKj] at hv
                      have hy : yielded ops a'.tmps j = some c := by
                        have hv' : a'.tmps.getD s undef = .bool c := hv
                        unfold yielded
                        unfold dstOf at hdj
                        rw [hdj]
                        rw [Array.getD_eq_getD_getElem?] at hv'
                        cases hx : a'.tmps[s]? with
                        | none => rw [hx] at hv'; exact absurd hv' (by simp [undef])
                        | some x =>
                          rw [hx] at hv'
                          simp only [Option.getD_some] at hv'
                          subst hv'
                          simp [hx]
                      simp only [hy]
                      injection hwk
                    · cases hwk
            simp only [hw]
            exact hnext _ _ (by rw [hskip]; rfl) (ext_refl _ _) (hkN _ (Below.refl _ _)) (hcntN hxx _ (Below.refl _ _))
  refine key ops.size _ a _ ⟨by simp, rfl, rfl, ext_below (Below.drew (Below.refl _ _)), ⟨0, Nat.zero_le _, fun q _ => by simp [Array.getD_eq_getD_getElem?, Array.getElem?_replicate]; split <;> simp, hJs 0 _ _ hJ0 (Below.drew (Below.refl _ _))⟩, fun _ _ => rfl, fun j t _ hj => ?_, fun i o _ hj => ?_⟩ ?_ ?_
  · exfalso
    revert hj
    simp only [Array.getD_eq_getD_getElem?, Array.getElem?_replicate]
    split <;> simp
  · exfalso
    revert hj
    simp only [Array.getD_eq_getD_getElem?, Array.getElem?_replicate]
    split <;> simp
  · intro i _ hi
    simp [Array.getD_eq_getD_getElem?, Array.getElem?_replicate, hi]
  · exact Nat.le_trans (List.length_filter_le _ _) (by simp)
end
theorem below_ext {B : Nat} {a b c : World} {g : Nat} (h : Below B a b) (hE : b.grownBy c (some g)) (hg : B ≤ g) (hB : B ≤ b.heap.size) : Below B a c := h.grown hE hB (fun k e => by injection e with e; omega)
def isN (g n : Nat) (l : List UInt8) : World → Value → Prop := fun W v => ∃ A c, v = .slice A n c ∧ Bs W A n c l ∧ ∀ a, A = some a → a.block ≠ g ∧ a.block < W.heap.size
theorem st_isN {g n : Nat} {l : List UInt8} : ∀ w w' v, isN g n l w v → Below w.heap.size w w' → isN g n l w' v := fun _ _ _ ⟨A, c, e, k, h⟩ hb => ⟨A, c, e, k.below hb, fun a e => ⟨(h a e).1, Nat.lt_of_lt_of_le (h a e).2 hb.size⟩⟩
theorem sx_isN {g n : Nat} {l : List UInt8} : ∀ w w' v, isN g n l w v → w.grownBy w' (some g) → isN g n l w' v := fun w w' _ ⟨A, c, e, k, h⟩ hE =>
  ⟨A, c, e, ⟨k.len, k.cap, k.max, k.nil, fun hn => by
    obtain ⟨b, off, eA, hc⟩ := k.rd hn
    have hb := h _ eA
    refine ⟨b, off, eA, fun j hj => ?_⟩
    rw [← hc j hj]
    unfold World.cell?
    rw [hE.block b hb.2 (by intro e; injection e with e; exact hb.1 e)]⟩, fun a e => ⟨(h a e).1, Nat.lt_of_lt_of_le (h a e).2 hE.size⟩⟩
theorem goes_litN {g n : Nat} {W : World} {l : List UInt8} {cs : Array Value} (hc : (cu l).toArray = cs) (hn : l.length = n) (hm : n ≤ 200000000000000) (hg : g < W.heap.size) :
    OpGoes Try.prog (fun v w' => (Kd.p (isN g n l)).holds w' v ∧ Below W.heap.size W w') (.ok (.value (.slice (some ⟨W.heap.size, 0, none⟩) n n)) (W.alloc (.cells cs 5))) := by
  subst hc
  exact ⟨⟨_, _, rfl, bs_lit l n hn hm, fun a e => by injection e with e; subst e; simp; omega⟩, (Below.refl _ W).alloc (Nat.le_refl _) _⟩
theorem goes_appX {o : Oper} {a : Act} {W : World} {g : Nat} (s x : Operand) (ho : o.op = .call { callee := .builtin .append, args := #[s, x], argTypes := #[24, 24] }) {B n c : Nat} {A : Option Addr} {l : List UInt8} (hs : a.eval s = .slice A n c)
    (hown : Own W B 5 A n c l) (hg : ∀ k, (Value.slice A n c).ownBlock = some k → k = g) {A2 : Option Addr} {n2 c2 : Nat} {l2 : List UInt8} (hx : a.eval x = .slice A2 n2 c2) (hr : Bs W A2 n2 c2 l2) (hmax : n + n2 ≤ 200000000000000) (hB : B ≤ W.heap.size) {J : World → Prop} (hJ : ∀ w', J w') :
    OpGoes Try.prog (fun v w' => (Kd.p (isW B (l ++ l2))).holds w' v ∧ W.grownBy w' (some g) ∧ J w') ((execOp a.eval o).run Try.prog W) := by
  obtain ⟨A', c', w', hrun, hown', hgr⟩ := run_append_bs (P := Try.prog) W B 24 o.type 5 Try.underlying24 info_u8 A n c l hown A2 n2 c2 l2 hr hmax hB
  unfold execOp
  simp only [ho, resolve, invoke, builtin, Sem.run_bind, Sem.run_pure, Result.andThen_ok, List.map_toArray, List.map_cons, List.map_nil, hs, hx, hrun]
  refine ⟨⟨A', _, c', rfl, hown'⟩, ⟨hgr.os, hgr.tape, hgr.output, hgr.size, fun k hk hne => hgr.block k hk ?_⟩, hJ _⟩
  intro e
  exact hne (by rw [hg k e.symm])
set_option maxHeartbeats 4000000
theorem Own.ne_blk {w : World} {base : Nat} {e t : TypeId} {A : Option Addr} {n c g : Nat} {l : List UInt8} {cs : Array Value} (h : Own w base e A n c l) (G : Blk w g cs t) (ht : t ≠ e) : ∀ k, (Value.slice A n c).ownBlock = some k → k ≠ g := by
  intro k hk e'
  subst e'
  rcases h.row.2 with ⟨hv, _⟩ | ⟨g', cap, cur, hv, hb, hg, _⟩
  · injection hv with h1 h2 h3
    subst h1
    simp [Value.ownBlock] at hk
  · injection hv with h1 h2 h3
    subst h1
    simp only [Value.ownBlock, Option.some.injEq] at hk
    subst hk
    have := hg.symm.trans G.rd
    simp only [Option.some.injEq, Obj.cells.injEq] at this
    exact ht this.2.1.symm
theorem Blk.grown {w w' : World} {k : Nat} {cs : Array Value} {t : TypeId} {row : Option Nat} (h : Blk w k cs t) (hg : w.grownBy w' row) (hr : ∀ r, row = some r → r ≠ k) : Blk w' k cs t :=
  ⟨(hg.block k h.lt (fun e => hr k e.symm rfl)).trans h.rd⟩
theorem below_grown {B base : Nat} {a b c : World} {e : TypeId} {A : Option Addr} {n d : Nat} {l : List UInt8} (h : Below B a b) (hg : b.grownBy c (Value.slice A n d).ownBlock) (O : Own b base e A n d l) (h1 : B ≤ base) (h2 : B ≤ b.heap.size) : Below B a c :=
  h.grown hg h2 (fun k hk => Nat.le_trans h1 (O.base_le k hk))
def twos (vs : List Int) : List UInt8 := vs.flatMap two
def u16s (vs : List Int) : Array Value := (vs.map (Value.int .u16)).toArray
theorem u16s_at {vs : List Int} {j : Nat} (h : j < vs.length) : (u16s vs)[j]? = some (.int .u16 (vs.getD j 0)) := by
  simp [u16s, List.getElem?_eq_getElem h, List.getD_eq_getElem?_getD]
theorem twos_take {vs : List Int} {j : Nat} (h : j < vs.length) : twos (vs.take (j + 1)) = twos (vs.take j) ++ [ub (vs.getD j 0 / 256), ub (vs.getD j 0 % 256)] := by
  unfold twos
  rw [List.take_succ_eq_append_getElem h, List.flatMap_append]
  have e : vs.getD j 0 = vs[j] := by simp [List.getD_eq_getElem?_getD, List.getElem?_eq_getElem h]
  have e2 : ub (vs[j] % 256) = ub vs[j] := by unfold ub; congr 2; omega
  rw [e, e2]
  simp [two]
theorem getD_bd {vs : List Int} {a b : Int} (h : ∀ v ∈ vs, a ≤ v ∧ v ≤ b) {j : Nat} (hj : j < vs.length) : a ≤ vs.getD j 0 ∧ vs.getD j 0 ≤ b := by
  rw [List.getD_eq_getElem?_getD, List.getElem?_eq_getElem hj]
  exact h _ (List.getElem_mem hj)
def keepT (h : Nat) (w w' : World) : Prop := ∀ k cs t, t ≠ 5 → k ≠ h → Blk w k cs t → Blk w' k cs t
theorem keepT.refl (h : Nat) (w : World) : keepT h w w := fun _ _ _ _ _ k => k
theorem keepT.trans {h : Nat} {a b c : World} (k : keepT h a b) (l : keepT h b c) : keepT h a c := fun i cs t ht hi b => l i cs t ht hi (k i cs t ht hi b)
theorem keepT.alloc {h : Nat} {a b : World} (k : keepT h a b) (o : Obj) : keepT h a (b.alloc o) := fun i cs t ht hi b => (k i cs t ht hi b).alloc o
theorem keepT.grown {h base n c : Nat} {a b d : World} {A : Option Addr} {l : List UInt8} (k : keepT h a b) (O : Own b base 5 A n c l) (hg : b.grownBy d (Value.slice A n c).ownBlock) : keepT h a d := fun i cs t ht hi bl => (k i cs t ht hi bl).grown hg (O.ne_blk (k i cs t ht hi bl) ht)
theorem keepT.set {h : Nat} {a b : World} (k : keepT h a b) (j : Nat) (v : Value) : keepT h a (b.setCell ⟨h, j, none⟩ v) := fun i cs t ht hi bl => (k i cs t ht hi bl).far ⟨h, j, none⟩ (Ne.symm hi) v
structure HPost (B base hb : Nat) (cs : Array Value) (T : TypeId) (l : List UInt8) (w : World) (e : Ending) (w' : World) : Prop where
  out : e = .returned (.tuple #[]) ∧ ∃ A n c, Blk w' hb (cs.setIfInBounds 0 (.slice A n c)) T ∧ Own w' base 5 A n c l ∧ Below B w w' ∧ keepT hb w w'
theorem htwo_any (B base hb : Nat) (cs : Array Value) (T : TypeId) (A : Option Addr) (n c : Nat) (l : List UInt8) (g mc m : Nat) (vs : List Int) (hm : vs.length = m) (hm9 : m ≤ 20) (w : World) (H : Blk w hb cs T) (h0 : cs[0]? = some (.slice A n c))
    (O : Own w base 5 A n c l) (hn : n ≤ 100000) (G : Blk w g (u16s vs) 22) (hv : ∀ v ∈ vs, 0 ≤ v ∧ v ≤ 65535) (hT : T ≠ 5) (hT2 : hb ≠ g) (b1 : B ≤ hb) (b2 : B ≤ base) (b3 : B ≤ w.heap.size) (b4 : base ≤ w.heap.size) :
    Calls Try.prog 45 #[.pointer (some ⟨hb, 0, none⟩), .slice (some ⟨g, 0, none⟩) m mc] w (HPost B base hb cs T (l ++ twos vs) w) := by
  have h75 : 22 ≠ 5 := by decide
  have hcs : 0 < cs.size := (Array.getElem?_eq_some_iff.1 h0).1
  have HM := Lib.hid hm
  have HV := Lib.hid hv
  have HC0 := Lib.hid h0
  clear hm hv h0
  go_enter Try.func45, Try.ntmps45
  go_wp2_with fail
  go_loopw [8] (fun i wr => ∃ (j : Nat) (A' : Option Addr) (n' c' : Nat), j ≤ m ∧ i = .int .i64 j ∧ n' ≤ 100000 + 2 * j ∧ Blk wr hb (cs.setIfInBounds 0 (.slice A' n' c')) T ∧ Own wr base 5 A' n' c' (l ++ twos (vs.take j)) ∧ keepT hb w wr ∧ Below B w wr) (fun i _ => m - (intOf i).toNat)
  case atStart =>
    refine ⟨0, A, n, c, by omega, rfl, by omega, ?_, by simpa [twos] using O, keepT.refl _ _, Below.refl _ _⟩
    have : cs.setIfInBounds 0 (.slice A n c) = cs := by
      apply Array.ext_getElem?
      intro i
      rw [Array.getElem?_setIfInBounds]
      split
      · rename_i e; subst e; rw [HC0.out]
      · rfl
    rw [this]; exact H
  case round =>
    obtain ⟨j, Aj, nj, cj, hj, rfl, hnj, Hj, Oj, Kj, Bj⟩ := hrel
    have Gj := Kj g (u16s vs) 22 h75 (Ne.symm hT2) G
    by_cases hlt : j < m
    · have gj := Gj.cell.1 j
      rw [u16s_at (by rw [HM.out]; exact hlt)] at gj
      obtain ⟨v0, v1⟩ := getD_bd HV.out (j := j) (by rw [HM.out]; exact hlt)
      have htk := twos_take (vs := vs) (j := j) (by rw [HM.out]; exact hlt)
      obtain ⟨v, hv⟩ : ∃ v, vs.getD j 0 = v := ⟨_, rfl⟩
      rw [hv] at gj v0 v1 htk
      have HTK := Lib.hid htk
      clear hv htk
      have hc0 : wr.cell? ⟨hb, 0, none⟩ = some (.slice Aj nj cj) := by rw [Hj.cell.1]; simp [hcs]
      have hjl := Hj.lt
      have hji : (j : Int) < m := by omega
      have hb4 : base ≤ wr.heap.size := Nat.le_trans b4 Bj.size
      have L2 := lit2 (e := 5) (x := v / 256) (y := v % 256) (by omega) (by omega) (by omega) (by omega) wr
      have ne1 := Oj.ne_blk Hj hT
      have ne2 := Oj.ne_blk Gj h75
      go_wp2_with (at_builtin; refine wpList_append_bs (w0 := wr.alloc (.cells #[.int .u8 (v / 256), .int .u8 (v % 256)] 5)) _ rfl _ _ _ rfl base 5 Try.underlying24 info_u8 Aj nj cj _ rfl (Oj.alloc _) (some ⟨_, 0, none⟩) 2 2 _ rfl L2.bs (Below.refl _ _) (by omega) (by simp; omega) ?_; intro A2 n2 c2 w2 O2 hB2 hgr hz2; have H2 := (Hj.alloc (.cells #[.int .u8 (v / 256), .int .u8 (v % 256)] 5)).grown hgr ne1; have K2 := (Kj.alloc (.cells #[.int .u8 (v / 256), .int .u8 (v % 256)] 5)).grown (Oj.alloc _) hgr; have B2 := below_grown (Bj.alloc (Nat.le_trans b3 Bj.size) (.cells #[.int .u8 (v / 256), .int .u8 (v % 256)] 5)) hgr (Oj.alloc _) b2 (by have := Bj.size; simp; omega); have hf2 : w2.cell? ⟨hb, 0, none⟩ = some (.slice Aj nj cj) := (by rw [H2.cell.1]; simp [hcs]); have hfz := H2.cell.2)
      have u2 : n2 = nj + 2 := by have := O2.len; have := Oj.len; simp at *; omega
      have nb2 := O2.ne_blk H2 hT
      have Hf := H2.set_ 0 (.slice A2 n2 c2)
      rw [Array.setIfInBounds_setIfInBounds] at Hf
      have Of := O2.away ⟨hb, 0, none⟩ (.slice A2 n2 c2) (fun a e => nb2 a.block (by rw [e]; rfl))
      exact ⟨⟨j + 1, A2, n2, c2, by omega, by go_num, by omega, Hf, by rw [HTK.out, ← List.append_assoc]; exact Of, K2.set 0 _, B2.setCell (p := ⟨hb, 0, none⟩) b1 _⟩, by simp [intOf]; omega⟩
    · obtain rfl : j = m := by omega
      go_wp2_with fail
      rw [show vs.take j = vs from List.take_of_length_le (by rw [HM.out]; exact Nat.le_refl _)] at Oj
      go_end0
      exact ⟨rfl, Aj, nj, cj, Hj, Oj, Bj, Kj⟩
def fours (vs : List Int) : List UInt8 := vs.flatMap four
def u32s (vs : List Int) : Array Value := (vs.map (Value.int .u32)).toArray
theorem u32s_at {vs : List Int} {j : Nat} (h : j < vs.length) : (u32s vs)[j]? = some (.int .u32 (vs.getD j 0)) := by
  simp [u32s, List.getElem?_eq_getElem h, List.getD_eq_getElem?_getD]
theorem fours_take {vs : List Int} {j : Nat} (h : j < vs.length) : fours (vs.take (j + 1)) = fours (vs.take j) ++ twos [vs.getD j 0 / 65536, vs.getD j 0 % 65536] := by
  unfold fours
  rw [List.take_succ_eq_append_getElem h, List.flatMap_append]
  have e : vs.getD j 0 = vs[j] := by simp [List.getD_eq_getElem?_getD, List.getElem?_eq_getElem h]
  have e1 : ub (vs[j] / 65536 / 256) = ub (vs[j] / 16777216) := by unfold ub; congr 2; omega
  have e2 : ub (vs[j] % 65536 / 256) = ub (vs[j] / 256) := by unfold ub; congr 2; omega
  have e3 : ub (vs[j] % 65536) = ub vs[j] := by unfold ub; congr 2; omega
  rw [e]
  simp [four, twos, two, e1, e2, e3]
theorem hfour_any (B base hb : Nat) (cs : Array Value) (T : TypeId) (A : Option Addr) (n c : Nat) (l : List UInt8) (g mc m : Nat) (vs : List Int) (hm : vs.length = m) (hm9 : m ≤ 20) (w : World) (H : Blk w hb cs T) (h0 : cs[0]? = some (.slice A n c))
    (O : Own w base 5 A n c l) (hn : n ≤ 10000) (G : Blk w g (u32s vs) 23) (hv : ∀ v ∈ vs, 0 ≤ v ∧ v ≤ 4294967295) (hT : T ≠ 5) (hT2 : hb ≠ g) (b1 : B ≤ hb) (b2 : B ≤ base) (b3 : B ≤ w.heap.size) (b4 : base ≤ w.heap.size) :
    Calls Try.prog 46 #[.pointer (some ⟨hb, 0, none⟩), .slice (some ⟨g, 0, none⟩) m mc] w (HPost B base hb cs T (l ++ fours vs) w) := by
  have h75 : 23 ≠ 5 := by decide
  have hcs : 0 < cs.size := (Array.getElem?_eq_some_iff.1 h0).1
  have HM := Lib.hid hm
  have HV := Lib.hid hv
  have HC0 := Lib.hid h0
  clear hm hv h0
  go_enter Try.func46, Try.ntmps46
  go_wp2_with fail
  go_loopw [8] (fun i wr => ∃ (j : Nat) (A' : Option Addr) (n' c' : Nat), j ≤ m ∧ i = .int .i64 j ∧ n' ≤ 10000 + 4 * j ∧ Blk wr hb (cs.setIfInBounds 0 (.slice A' n' c')) T ∧ Own wr base 5 A' n' c' (l ++ fours (vs.take j)) ∧ keepT hb w wr ∧ Below B w wr) (fun i _ => m - (intOf i).toNat)
  case atStart =>
    refine ⟨0, A, n, c, by omega, rfl, by omega, ?_, by simpa [fours] using O, keepT.refl _ _, Below.refl _ _⟩
    have : cs.setIfInBounds 0 (.slice A n c) = cs := by
      apply Array.ext_getElem?
      intro i
      rw [Array.getElem?_setIfInBounds]
      split
      · rename_i e; subst e; simp [HC0.out]
      · rfl
    rw [this]; exact H
  case round =>
    obtain ⟨j, Aj, nj, cj, hj, rfl, hnj, Hj, Oj, Kj, Bj⟩ := hrel
    have Gj := Kj g (u32s vs) 23 h75 (Ne.symm hT2) G
    by_cases hlt : j < m
    · have gj := Gj.cell.1 j
      rw [u32s_at (by rw [HM.out]; exact hlt)] at gj
      obtain ⟨v0, v1⟩ := getD_bd HV.out (j := j) (by rw [HM.out]; exact hlt)
      have htk := fours_take (vs := vs) (j := j) (by rw [HM.out]; exact hlt)
      obtain ⟨v, hv⟩ : ∃ v, vs.getD j 0 = v := ⟨_, rfl⟩
      rw [hv] at gj v0 v1 htk
      have HTK := Lib.hid htk
      clear hv htk
      have hjl := Hj.lt
      have hji : (j : Int) < m := by omega
      have hsz := Bj.size
      have h2 := htwo_any B base hb (cs.setIfInBounds 0 (.slice Aj nj cj)) T Aj nj cj (l ++ fours (vs.take j)) wr.heap.size 2 2 [v / 65536, v % 65536] rfl (by omega) (wr.alloc (.cells #[.int .u16 (v / 65536), .int .u16 (v % 65536)] 22)) (Hj.alloc _) (by simp [hcs]) (Oj.alloc _) (by omega) (blk_new wr _ _ _ rfl) (by intro x hx; simp at hx; omega) hT (by omega) b1 b2 (by simp; omega) (by simp; omega)
      have hwr : IntKind.u16.wrap v = v % 65536 := by rw [IntKind.wrap_u16]
      go_wp2_with (go_at_call 45; ((with_reducible refine (h2).mono ?_); rintro e w2 hpost); (obtain ⟨rfl, A2, n2, c2, H2, O2, B2, K2⟩ := hpost.out))
      rw [Array.setIfInBounds_setIfInBounds] at H2
      have u2 : n2 = nj + 4 := by have := O2.len; have := Oj.len; simp [twos, two] at *; omega
      exact ⟨⟨j + 1, A2, n2, c2, by omega, by go_num, by omega, H2, by rw [HTK.out, ← List.append_assoc]; exact O2, (Kj.alloc _).trans K2, (Bj.alloc (by omega) _).trans B2⟩, by simp [intOf]; omega⟩
    · obtain rfl : j = m := by omega
      go_wp2_with fail
      rw [show vs.take j = vs from List.take_of_length_le (by rw [HM.out]; exact Nat.le_refl _)] at Oj
      go_end0
      exact ⟨rfl, Aj, nj, cj, Hj, Oj, Bj, Kj⟩
set_option maxHeartbeats 1000000
theorem own_grown (w : World) (e : TypeId) (k : Nat) (h0 : 0 < k) (hk : k ≤ 200000000000000) :
    Own (w.drew.alloc (.cells (Builtin.zeroCells #[.int .u8 0] k ++ Builtin.zeroCells #[.int .u8 0] (grownCap w k 0 e - k)) e)) w.heap.size e (some ⟨w.heap.size, 0, none⟩) 0 (grownCap w k 0 e) [] := by
  have hge := grownCap_ge w k 0 e
  refine ⟨rfl, by omega, ⟨rfl, .inr ⟨w.heap.size, _, _, rfl, Nat.le_refl _, heap_alloc_new w.drew _, Nat.zero_le _, grownCap_le_maxLen w k 0 e (by simp only [maxLen]; omega), ?_, ?_⟩⟩⟩
  · simp [Array.size_append, size_zeroCells]; omega
  · simp [cu]
theorem grow_any (k : Nat) (hk : k ≤ 200000000000000) (w : World) :
    Calls Try.prog 76 #[.slice none 0 0, .int .i64 (k : Int)] w fun e w' => ∃ A c, e = .returned (.slice A 0 c) ∧ Own w' w.heap.size 5 A 0 c [] ∧ Below w.heap.size w w' := by
  obtain ⟨i8, hi8, hz8, hs8, hb8⟩ := info_parts info_u8
  by_cases h0 : k = 0
  · subst h0
    go_enter Try.func76, Try.ntmps76
    go_wp2_with fail
    go_ret
    exact ⟨none, 0, rfl, own_nil _ _ _, Below.refl _ _⟩
  · have hk0 : (0 : Int) < k := by omega
    have hrun := Lib.run_append_nil_zeros (P := Try.prog) w 24 3 24 5 i8 (.int .u8 0) .i64 .i64 Try.underlying24 Try.underlying3 hi8 hz8 k (by omega) (by omega) (by omega) (by rw [hb8]; omega)
    have hown := own_grown w 5 k (by omega) hk
    have hge := grownCap_ge w k 0 5
    have hB : Below w.heap.size w (w.drew.alloc (.cells (Builtin.zeroCells #[.int .u8 0] k ++ Builtin.zeroCells #[.int .u8 0] (grownCap w k 0 5 - k)) 5)) := (Below.drew (Below.refl _ w)).alloc (Nat.le_refl _) _
    simp only [Value.cells] at hrun
    generalize w.drew.alloc (.cells (Builtin.zeroCells #[.int .u8 0] k ++ Builtin.zeroCells #[.int .u8 0] (grownCap w k 0 5 - k)) 5) = w1 at hrun hown hB
    generalize grownCap w k 0 5 = cp at hrun hown hge
    have hcut : ∀ W, (Instr.slice 24 (.slice (some ⟨w.heap.size, 0, none⟩) k cp) none (some (.int .i64 0)) none).run Try.prog W = .ok (.slice (some ⟨w.heap.size, 0, none⟩) 0 cp) W := fun W => by
      rw [cut_h Try.underlying24 hi8 hs8 (some ⟨w.heap.size, 0, none⟩) k cp .i64 0 (by omega) (by omega) W]; simp [Addr.add]
    have hcut0 : ∀ W, (Instr.slice 24 (.slice none 0 0) none (some (.int .i64 0)) none).run Try.prog W = .ok (.slice none 0 0) W := fun W => by
      rw [cut_h Try.underlying24 hi8 hs8 none 0 0 .i64 0 (by omega) (by omega) W]; simp
    go_enter Try.func76, Try.ntmps76
    go_wp2_with (at_builtin; refine Lib.wpList_append_run _ rfl _ _ _ _ rfl _ _ rfl rfl _ _ hrun ?_)
    go_ret
    exact ⟨_, _, rfl, hown, hB⟩
def catL (L : Nat → List UInt8) : Nat → List UInt8
  | 0 => []
  | k + 1 => catL L k ++ L k
def catN (n : Nat → Nat) : Nat → Nat
  | 0 => 0
  | k + 1 => catN n k + n k
theorem catN_le {n : Nat → Nat} : ∀ {k m : Nat}, k ≤ m → catN n k ≤ catN n m
  | k, 0, h => by obtain rfl : k = 0 := by omega
                  exact Nat.le_refl _
  | k, m + 1, h => by
    by_cases e : k = m + 1
    · subst e; exact Nat.le_refl _
    · have := catN_le (n := n) (show k ≤ m by omega)
      simp only [catN]; omega
theorem concat_any (g m c : Nat) (f : Nat → Option Addr) (n : Nat → Nat) (d : Nat → Nat) (L : Nat → List UInt8) (hm : m ≤ 1000) (w : World) (hg : g < w.heap.size) (hc : ∀ j, j < m → w.cell? ⟨g, j, none⟩ = some (.slice (f j) (n j) (d j)))
    (hb : ∀ j, j < m → Bs w (f j) (n j) (d j) (L j)) (htot : catN n m ≤ 200000000000000) :
    Calls Try.prog 49 #[.slice (some ⟨g, 0, none⟩) m c] w fun e w' => ∃ A n c', e = .returned (.slice A n c') ∧ Own w' w.heap.size 5 A n c' (catL L m) ∧ Below w.heap.size w w' := by
  have hlen : ∀ k, k ≤ m → (catL L k).length = catN n k := by
    intro k
    induction k with
    | zero => intro _; rfl
    | succ k ih =>
      intro hk
      simp only [catL, catN, List.length_append]
      rw [ih (by omega), (hb k (by omega)).len]
  have HL := Lib.hid hlen
  have hmono : ∀ k, k ≤ m → catN n k ≤ catN n m := fun k hk => catN_le hk
  have HM := Lib.hid hmono
  have HN : Hid (∀ k, catN n (k + 1) = catN n k + n k) := fun _ => rfl
  have HA : Hid (∀ k, catL L (k + 1) = catL L k ++ L k) := fun _ => rfl
  clear hlen hmono
  go_enter Try.func49, Try.ntmps49
  go_wp2_with fail
  go_loop [3, 11] (fun s i => ∃ k : Nat, k ≤ m ∧ i = .int .i64 k ∧ s = .int .i64 (catN n k)) (fun _ i => m - (intOf i).toNat)
  case atStart => exact ⟨0, by omega, rfl, rfl⟩
  case round =>
    obtain ⟨k, hk, rfl, rfl⟩ := hrel
    by_cases hlt : k < m
    · have ck := hc k hlt
      have b1 := HM.out (k + 1) (by omega)
      have b2 := HN.out k
      have b3 := HM.out k (by omega)
      have hki : (k : Int) < m := by omega
      obtain ⟨s, hs⟩ : ∃ s : Nat, catN n k = s := ⟨_, rfl⟩
      obtain ⟨t, ht⟩ : ∃ t : Nat, n k = t := ⟨_, rfl⟩
      obtain ⟨u, hu⟩ : ∃ u : Nat, s + t = u := ⟨_, rfl⟩
      have hui : (s : Int) + t = u := by omega
      have hul : (u : Int) ≤ 200000000000000 := by omega
      have HU : Hid (catN n (k + 1) = u) := by unfold Hid; omega
      rw [ht] at ck
      rw [hs]
      clear b1 b2 b3 hs hu
      go_wp2_with fail
      exact ⟨⟨k + 1, by omega, by go_num, by rw [HU.out]⟩, by simp [intOf]; omega⟩
    · obtain rfl : k = m := by omega
      obtain ⟨s, hs⟩ : ∃ s : Nat, catN n k = s := ⟨_, rfl⟩
      rw [hs] at htot ⊢
      have HS := Lib.hid hs
      clear hs
      go_wp2_with (go_at_call 76; ((with_reducible refine (grow_any s (by omega) _).mono ?_); rintro e w1 ⟨A1, c1, rfl, ho1, hB1⟩))
      go_loopw [6, 27] (fun v i wr => ∃ (j : Nat) (A : Option Addr) (q cc : Nat), j ≤ k ∧ i = .int .i64 j ∧ v = .slice A q cc ∧ Own wr w.heap.size 5 A q cc (catL L j) ∧ Below w.heap.size w wr) (fun _ i _ => k - (intOf i).toNat)
      case atStart => exact ⟨0, A1, 0, c1, by omega, rfl, rfl, ho1, hB1⟩
      case round =>
        obtain ⟨j, A2, q, cc, hj, rfl, rfl, ho2, hB2⟩ := hrel
        by_cases hlt2 : j < k
        · have cj := (hB2.cell (p := ⟨g, j, none⟩) hg).trans (hc j hlt2)
          have hji : (j : Int) < k := by omega
          have q1 : q = catN n j := by rw [← ho2.len, HL.out j (by omega)]
          have q2 := HM.out (j + 1) (by omega)
          have q3 := HN.out j
          have q4 := HS.out
          have bj := (hb j hlt2).below hB2
          have hql : q + n j ≤ 200000000000000 := by omega
          clear q1 q2 q3 q4
          go_wp2_with (at_builtin; refine wpList_append_bs (w0 := w) _ rfl _ _ _ rfl w.heap.size 5 Try.underlying24 info_u8 A2 q cc _ rfl ho2 (f j) (n j) (d j) (L j) rfl bj hB2 (by omega) (by first | exact Nat.le_refl _ | exact Below.size hB2 | omega | (simp <;> omega)) ?_; intro A3 n3 c3 w3 ho3 hB3 _ hz3)
          go_roundw
          case rel => exact ⟨j + 1, A3, n3, c3, by omega, by go_num, rfl, by rw [HA.out]; exact ho3, hB3⟩
          case measure => simp [intOf]; omega
        · obtain rfl : j = k := by omega
          go_wp2
          go_ret
          exact ⟨_, _, _, rfl, ho2, hB2⟩
set_option maxHeartbeats 4000000
def rightP (p : Pkt) : Bool := decide (p.opt.length ≤ 40) && decide (p.opt.length % 4 = 0) && decide (20 + p.opt.length + p.dat.length ≤ 65535)
theorem right_any (p : Pkt) (A1 : Option Addr) (n1 c1 : Nat) (A2 : Option Addr) (n2 c2 : Nat) (w : World) (k1 : Bs w A1 n1 c1 p.opt) (k2 : Bs w A2 n2 c2 p.dat) :
    Calls Try.prog 75 #[(.agg #[.int .u8 (p).tos, .int .u16 (p).id, .bool (p).keep, .int .u8 (p).ttl, .int .u8 (p).proto, .int .u32 (p).src, .int .u32 (p).dst, .slice A1 n1 c1, .slice A2 n2 c2])] w fun e w' => e = .returned (.bool (rightP p)) ∧ Below w.heap.size w w' := by
  have e1 := k1.len
  have e2 := k2.len
  have b1 := k1.max
  have b2 := k2.max
  have HR : Hid (rightP p = (decide (n1 ≤ 40) && decide (n1 % 4 = 0) && decide (20 + n1 + n2 ≤ 65535))) := by unfold Hid rightP; rw [e1, e2]
  clear e1 e2
  go_enter Try.func75, Try.ntmps75
  go_wp2_with fail
  all_goals go_ret
  all_goals refine ⟨?_, by (repeat (first | with_reducible exact Below.refl _ _ | with_reducible refine below_drew ?_ | with_reducible refine below_drewN ?_ _ | with_reducible refine below_alloc ?_ (Nat.le_refl _) _ | with_reducible refine Below.setCell ?_ (by first | exact Nat.le_refl _ | (simp only []; omega)) _ | with_reducible assumption))⟩
  all_goals rw [HR.out]
  all_goals congr 2
  all_goals (try (simp; done))
  all_goals (focus (simp; first | omega | (rw [Bool.eq_iff_iff]; simp; omega)))
def wiE (p : Pkt) (n : Nat) : Int := if 40 < p.opt.length ∨ p.opt.length % 4 ≠ 0 then 4 else if 65535 < 20 + p.opt.length + n then 8 else 0
def withP (p : Pkt) (pr : Int) (d : List UInt8) : Pkt := if wiE p d.length = 0 then { p with proto := pr, dat := d } else zP
structure WiPost (w : World) (P : Pkt) (E : Int) (e : Ending) (w' : World) : Prop where
  out : ∃ B1 m1 d1 B2 m2 d2, e = .returned (.tuple #[(.agg #[.int .u8 (P).tos, .int .u16 (P).id, .bool (P).keep, .int .u8 (P).ttl, .int .u8 (P).proto, .int .u32 (P).src, .int .u32 (P).dst, .slice B1 m1 d1, .slice B2 m2 d2]), .int .i64 E]) ∧ Own w' w.heap.size 5 B1 m1 d1 P.opt ∧ Own w' w.heap.size 5 B2 m2 d2 P.dat ∧ Below w.heap.size w w'
theorem wiPost_no {w w' : World} {E : Int} (hB : Below w.heap.size w w') : WiPost w zP E (.returned (.tuple #[.agg #[.int .u8 0, .int .u16 0, .bool false, .int .u8 0, .int .u8 0, .int .u32 0, .int .u32 0, .slice none 0 0, .slice none 0 0], .int .i64 E])) w' :=
  ⟨none, 0, 0, none, 0, 0, rfl, own_nil _ _ _, own_nil _ _ _, hB⟩
theorem wiE_4 {p : Pkt} {n1 n : Nat} (l1 : p.opt.length = n1) (h : 40 < (n1 : Int) ∨ n1 % 4 ≠ 0) : wiE p n = 4 := by unfold wiE; rw [l1, if_pos (by omega)]
theorem wiE_8 {p : Pkt} {n1 n : Nat} (l1 : p.opt.length = n1) (h1 : (n1 : Int) ≤ 40) (h2 : n1 % 4 = 0) (h3 : 65535 < 20 + (n1 : Int) + n) : wiE p n = 8 := by unfold wiE; rw [l1, if_neg (by omega), if_pos (by omega)]
theorem wiE_0 {p : Pkt} {n1 n : Nat} (l1 : p.opt.length = n1) (h1 : (n1 : Int) ≤ 40) (h2 : n1 % 4 = 0) (h3 : 20 + (n1 : Int) + n ≤ 65535) : wiE p n = 0 := by unfold wiE; rw [l1, if_neg (by omega), if_neg (by omega)]
theorem m4_no {n : Nat} (h : n % 4 = 0) : ((n : Int) % 4 != 0) = false := by simp; omega
theorem m4_yes {n : Nat} (h : n % 4 ≠ 0) : ((n : Int) % 4 != 0) = true := by simp; omega
structure Os (w : World) (A : Option Addr) (n c : Nat) (os : List Opt) : Prop where
  len : os.length = n
  cap : n ≤ c
  max : n ≤ 4398046511104
  nil : A = none → c = 0
  ok : ∀ o ∈ os, o.Ok
  rd : 0 < n → ∃ b off, A = some ⟨b, off, none⟩ ∧ ∀ j, j < n → w.cell? ⟨b, off + j * 2, none⟩ = some (.int .u8 (os.getD j zO).kind) ∧ ∃ B m d, w.cell? ⟨b, off + j * 2 + 1, none⟩ = some (.slice B m d) ∧ Bs w B m d (os.getD j zO).dat
section
variable {w w' : World} {A : Option Addr} {n c : Nat} {os : List Opt}
theorem Os.below (h : Os w A n c os) (hb : Below w.heap.size w w') : Os w' A n c os :=
  ⟨h.len, h.cap, h.max, h.nil, h.ok, fun hn => by
    obtain ⟨b, off, e, hc⟩ := h.rd hn
    refine ⟨b, off, e, fun j hj => ?_⟩
    obtain ⟨h1, B, m, d, h2, h3⟩ := hc j hj
    exact ⟨(hb.cell (World.block_lt_of_cell? w _ h1)).trans h1, B, m, d, (hb.cell (World.block_lt_of_cell? w _ h2)).trans h2, h3.below hb⟩⟩
theorem Os.alloc (h : Os w A n c os) (o : Obj) : Os (w.alloc o) A n c os := h.below ((Below.refl _ w).alloc (Nat.le_refl _) o)
theorem Os.none_ (w : World) : Os w none 0 0 [] := ⟨rfl, Nat.zero_le _, by omega, fun _ => rfl, (fun o h => by cases h), fun h => absurd h (by omega)⟩
theorem Os.at_ok (h : Os w A n c os) {j : Nat} (hj : j < n) : 0 ≤ (os.getD j zO).kind ∧ (os.getD j zO).kind ≤ 255 := by
  have hl := h.len
  rw [List.getD_eq_getElem?_getD, List.getElem?_eq_getElem (by omega)]
  exact (h.ok _ (List.getElem_mem (by omega))).kind
end
theorem optsB_take {os : List Opt} {j : Nat} (h : j < os.length) : optsB (os.take (j + 1)) = optsB (os.take j) ++ optB (os.getD j zO) := by
  unfold optsB
  rw [List.take_succ_eq_append_getElem h, List.flatMap_append]
  simp [List.getD_eq_getElem?_getD, List.getElem?_eq_getElem h]
theorem okOs_bad {os : List Opt} {j : Nat} (h : j < os.length) (hb : badO (os.getD j zO) = true) : okOs os = false := by
  unfold okOs
  have : os.all (fun o => !badO o) = false := by
    rw [List.all_eq_false]
    refine ⟨os[j], List.getElem_mem h, ?_⟩
    simp only [List.getD_eq_getElem?_getD, List.getElem?_eq_getElem h, Option.getD_some] at hb
    simp [hb]
  rw [this]; rfl
theorem optsB_len {os : List Opt} (j : Nat) : (optsB (os.take j)).length ≤ (optsB os).length := by
  conv => rhs; rw [← List.take_append_drop j os]
  unfold optsB
  rw [List.flatMap_append, List.length_append]
  omega
theorem okOs_long {os : List Opt} {j : Nat} (h : 40 < (optsB (os.take j)).length) : okOs os = false := by
  have := optsB_len (os := os) j
  unfold okOs
  rw [decide_eq_false (by omega), Bool.and_false]
theorem okOs_yes {os : List Opt} (h : ∀ j, j < os.length → badO (os.getD j zO) = false) (hl : (optsB os).length ≤ 40) : okOs os = true := by
  unfold okOs
  rw [decide_eq_true hl, Bool.and_true, List.all_eq_true]
  intro o ho
  obtain ⟨j, hj, e⟩ := List.mem_iff_getElem.1 ho
  have := h j hj
  simp only [List.getD_eq_getElem?_getD, List.getElem?_eq_getElem hj, Option.getD_some, e] at this
  simp [this]
theorem badO_ways (o : Opt) (m : Nat) (hm : o.dat.length = m) : (badO o = true ∧ ((o.kind == 0) = true ∨ ((o.kind == 0) = false ∧ (o.kind == 1) = true ∧ 0 < (m : Int)) ∨ ((o.kind == 0) = false ∧ (o.kind == 1) = false ∧ 38 < (m : Int)))) ∨
    (badO o = false ∧ (((o.kind == 0) = false ∧ (o.kind == 1) = true ∧ m = 0 ∧ optB o = [ub 1]) ∨ ((o.kind == 0) = false ∧ (o.kind == 1) = false ∧ m ≤ 38 ∧ optB o = [ub o.kind] ++ [ub (2 + (m : Int))] ++ o.dat))) := by
  unfold badO optB
  rw [hm]
  by_cases h0 : o.kind = 0
  · simp [h0]
  · by_cases h1 : o.kind = 1
    · by_cases h2 : m = 0
      · subst h2; simp [h1]
      · left; simp [h1]; omega
    · by_cases h2 : m ≤ 38
      · right; simp [h0, h1]; omega
      · left; simp [h0, h1]; omega
set_option maxHeartbeats 1000000
structure OwnG (w : World) (base : Nat) (e : TypeId) (size : Nat) (A : Option Addr) (n c : Nat) (xs : List Value) : Prop where
  row : w.ownsRow base e size (.slice A n c) n xs
section
variable {w w' : World} {base : Nat} {e : TypeId} {size : Nat} {A : Option Addr} {n c : Nat} {xs : List Value}
theorem OwnG.len (h : OwnG w base e size A n c xs) : xs.length = n * size := h.row.1
theorem OwnG.kept {row : Option Nat} (h : OwnG w base e size A n c xs) (hg : w.grownBy w' row) (hne : (Value.slice A n c).ownBlock = none ∨ (Value.slice A n c).ownBlock ≠ row) : OwnG w' base e size A n c xs := ⟨h.row.kept hg hne⟩
theorem OwnG.alloc (h : OwnG w base e size A n c xs) (o : Obj) : OwnG (w.alloc o) base e size A n c xs := ⟨h.row.alloc o⟩
theorem ownG_nil (w : World) (base : Nat) (e : TypeId) (size : Nat) : OwnG w base e size none 0 0 [] := ⟨World.ownsRow_nil w base e size⟩
theorem OwnG.below (h : OwnG w base e size A n c xs) (hb : Below w.heap.size w w') : OwnG w' base e size A n c xs :=
  h.kept (row := none) ⟨hb.os, hb.tape, hb.output, hb.size, fun i hi _ => hb.block i hi⟩ (by cases (Value.slice A n c).ownBlock <;> simp)
theorem OwnG.mono {b' : Nat} (h : OwnG w base e size A n c xs) (hb : b' ≤ base) : OwnG w b' e size A n c xs := by
  obtain ⟨h1, h2⟩ := h.row
  refine ⟨h1, ?_⟩
  rcases h2 with h2 | ⟨g, cap, cur, hv, hg, r⟩
  · exact .inl h2
  · exact .inr ⟨g, cap, cur, hv, by omega, r⟩
theorem OwnG.base_le (h : OwnG w base e size A n c xs) : ∀ k, (Value.slice A n c).ownBlock = some k → base ≤ k := fun k hk => (h.row.lt k hk).1
end
theorem new1 (w : World) (x : Value) (t : TypeId) : ∀ (q : Nat) u, [x][q]? = some u → (w.alloc (.cells #[x] t)).cell? ((⟨w.heap.size, 0, none⟩ : Addr).add q) = some u := by
  intro q u h
  have h1 := (blk_new w #[x] t _ rfl).cell.1 q
  have h2 : (⟨w.heap.size, 0, none⟩ : Addr).add q = ⟨w.heap.size, q, none⟩ := by cases q <;> simp [Addr.add]
  rw [h2, h1]
  simpa using h
section
variable {P : Program} {ops : Array Oper} {rest : List Oper} {o : Oper} {a : Act} {Q : Exit → Act → World → Prop}
theorem wpList_appG {w0 : World} (w : World) (hgd : o.guard = none) (s x : Operand) (t : TypeId) (ho : o.op = .call { callee := .builtin .append, args := #[s, x], argTypes := #[t, t] })
    (base : Nat) (e : TypeId) (i : TypeInfo) (z : Value) (size bytes : Nat) (ht : P.underlying t = some (.slice e)) (hi : P.info? e = some i) (hz : i.zero = some z) (hsize : i.size = size) (hby : i.bytes = bytes) (hzs : z.cells.size = size) (hsz : 0 < size) (hbs : bytes ≤ 64)
    (A : Option Addr) (n c : Nat) (xs : List Value) (hs : a.eval s = .slice A n c) (hown : OwnG w base e size A n c xs) (ad : Addr) (m c2 : Nat) (news : List Value) (hx : a.eval x = .slice (some ad) m c2) (hl : news.length = m * size)
    (hnews : ∀ j u, news[j]? = some u → w.cell? (ad.add j) = some u) (h1 : ∀ u ∈ news, u.oneCell' = true)
    (HB : Below base w0 w) (hmax : n + m ≤ 3000000000000) (hbase : base ≤ w.heap.size)
    (h : ∀ A' c' w', OwnG w' base e size A' (n + m) c' (xs ++ news) → Below base w0 w' → w.grownBy w' (Value.slice A n c).ownBlock → base ≤ w'.heap.size → wpList P ops Q rest (a.put o.dst (.slice A' (n + m) c')) w') : wpList P ops Q (o :: rest) a w := by
  refine wpList_plain hgd fun K hK => ?_
  obtain ⟨v', w', hrun, hrow, hg, _⟩ := run_append_own_wide (P := P) w base t o.type e i z size bytes ht hi hz hsize hby hzs hsz (.slice A n c) n xs hown.row ad m c2 news hl hnews h1 (by simp only [maxLen]; omega) (by
      have : ((n + m) + (n + m) / 4 + 192) * bytes ≤ ((n + m) + (n + m) / 4 + 192) * 64 := Nat.mul_le_mul_left _ hbs
      omega) hbase
  have hv : ∃ A' c', v' = .slice A' (n + m) c' := by
    rcases hrow.2 with ⟨hv, h0⟩ | ⟨g, cap, cur, hv, _⟩
    · exact ⟨none, 0, by rw [hv, h0]⟩
    · exact ⟨_, cap, hv⟩
  obtain ⟨A', c', rfl⟩ := hv
  unfold Oper.wp execOp
  simp only [ho, resolve, invoke, builtin, Sem.run_bind, Sem.run_pure, Result.andThen_ok, List.map_toArray, List.map_cons, List.map_nil, hs, hx, hrun]
  exact hK _ _ (h A' c' w' ⟨hrow⟩ (HB.grown hg hbase hown.base_le) hg (Nat.le_trans hbase hg.size))
end
theorem OwnG.ne_own {w : World} {b1 b2 : Nat} {e1 e2 : TypeId} {s : Nat} {A B : Option Addr} {n c m d : Nat} {xs : List Value} {l : List UInt8} (h : OwnG w b1 e1 s A n c xs) (k : Own w b2 e2 B m d l) (hne : e1 ≠ e2) :
    (Value.slice B m d).ownBlock = none ∨ (Value.slice B m d).ownBlock ≠ (Value.slice A n c).ownBlock := by
  rcases h.row.2 with ⟨hv, _⟩ | ⟨g, cap, cur, hv, _, hg, _⟩
  · injection hv with h1 h2 h3
    subst h1
    cases B with
    | none => left; simp [Value.ownBlock]
    | some b => right; simp [Value.ownBlock]
  · injection hv with h1 h2 h3
    subst h1
    rcases k.row.2 with ⟨hv2, _⟩ | ⟨g2, cap2, cur2, hv2, _, hg2, _⟩
    · injection hv2 with h1 h2 h3
      subst h1
      left; simp [Value.ownBlock]
    · injection hv2 with h1 h2 h3
      subst h1
      right
      simp only [Value.ownBlock, ne_eq, Option.some.injEq]
      intro e
      subst e
      have := hg.symm.trans hg2
      simp only [Option.some.injEq, Obj.cells.injEq] at this
      exact hne this.2.1
structure OsO (w : World) (base : Nat) (A : Option Addr) (n c : Nat) (os : List Opt) : Prop where
  len : os.length = n
  own : ∃ xs, OwnG w base 66 2 A n c xs ∧ ∀ j, j < n → xs[j * 2]? = some (.int .u8 (os.getD j zO).kind) ∧ ∃ B m d, xs[j * 2 + 1]? = some (.slice B m d) ∧ Own w base 5 B m d (os.getD j zO).dat
theorem osO_nil (w : World) (base : Nat) : OsO w base none 0 0 [] := ⟨rfl, [], ownG_nil _ _ _ _, fun j hj => by omega⟩
theorem OsO.below {w w' : World} {base : Nat} {A : Option Addr} {n c : Nat} {os : List Opt} (h : OsO w base A n c os) (hb : Below w.heap.size w w') : OsO w' base A n c os := by
  obtain ⟨xs, hx, hj⟩ := h.own
  refine ⟨h.len, xs, hx.below hb, fun j hjn => ?_⟩
  obtain ⟨h1, B, m, d, h2, h3⟩ := hj j hjn
  exact ⟨h1, B, m, d, h2, h3.below hb⟩
theorem OsO.mono {w : World} {base b' : Nat} {A : Option Addr} {n c : Nat} {os : List Opt} (h : OsO w base A n c os) (hb : b' ≤ base) : OsO w b' A n c os := by
  obtain ⟨xs, hx, hj⟩ := h.own
  refine ⟨h.len, xs, hx.mono hb, fun j hjn => ?_⟩
  obtain ⟨h1, B, m, d, h2, h3⟩ := hj j hjn
  exact ⟨h1, B, m, d, h2, h3.mono hb⟩
theorem OsO.snoc {w w' : World} {base : Nat} {A A' : Option Addr} {n c c' : Nat} {os : List Opt} {xs : List Value} (h : OsO w base A n c os) (hx : OwnG w base 66 2 A n c xs)
    (hj : ∀ j, j < n → xs[j * 2]? = some (.int .u8 (os.getD j zO).kind) ∧ ∃ B m d, xs[j * 2 + 1]? = some (.slice B m d) ∧ Own w base 5 B m d (os.getD j zO).dat)
    (hg : w.grownBy w' (Value.slice A n c).ownBlock) (o : Opt) {B : Option Addr} {m d : Nat} (hd : Own w base 5 B m d o.dat) (ho : OwnG w' base 66 2 A' (n + 1) c' (xs ++ [.int .u8 o.kind, .slice B m d])) :
    OsO w' base A' (n + 1) c' (os ++ [o]) := by
  have hT : 66 ≠ 5 := by decide
  have hl := hx.len
  have hos := h.len
  refine ⟨by simp [hos], _, ho, fun j hjn => ?_⟩
  by_cases hlt : j < n
  · obtain ⟨h1, B', m', d', h2, h3⟩ := hj j hlt
    have e : (os ++ [o]).getD j zO = os.getD j zO := by
      rw [List.getD_eq_getElem?_getD, List.getD_eq_getElem?_getD, List.getElem?_append_left (by omega)]
    rw [e, List.getElem?_append_left (by omega), List.getElem?_append_left (by omega)]
    exact ⟨h1, B', m', d', h2, h3.kept hg (hx.ne_own h3 hT)⟩
  · obtain rfl : j = n := by omega
    have e : (os ++ [o]).getD j zO = o := by
      rw [List.getD_eq_getElem?_getD, List.getElem?_append_right (by omega), hos, Nat.sub_self]; rfl
    rw [e, List.getElem?_append_right (by omega), List.getElem?_append_right (by omega), hl, Nat.sub_self, show j * 2 + 1 - j * 2 = 1 from by omega]
    exact ⟨rfl, B, m, d, rfl, hd.kept hg (hx.ne_own hd hT)⟩
theorem OsO.os {w : World} {base : Nat} {A : Option Addr} {n c : Nat} {os : List Opt} (h : OsO w base A n c os) (hn : n ≤ 4398046511104) (hok : ∀ o ∈ os, o.Ok) : Os w A n c os := by
  obtain ⟨xs, hx, hj⟩ := h.own
  rcases hx.row.2 with ⟨hv, h0⟩ | ⟨g, cap, cur, hv, _, hg, hnc, hcm, hcs, htake⟩
  · injection hv with h1 h2 h3
    subst h1 h2 h3
    exact ⟨h.len, Nat.le_refl _, by omega, fun _ => rfl, hok, fun h => by omega⟩
  · injection hv with h1 h2 h3
    subst h1 h3
    refine ⟨h.len, hnc, hn, (fun h => by cases h), hok, fun _ => ⟨g, 0, rfl, fun j hjn => ?_⟩⟩
    have hc : ∀ q v, xs[q]? = some v → w.cell? ⟨g, q, none⟩ = some v := fun q v hq => by
      rw [cell_of_row w g q cur 66 (0, 0) hg]
      rw [← htake, List.getElem?_take] at hq
      split at hq
      · simpa using hq
      · cases hq
    obtain ⟨h1, B, m, d, h2, h3⟩ := hj j hjn
    rw [Nat.zero_add]
    exact ⟨hc _ _ h1, B, m, d, hc _ _ h2, h3.bs⟩
set_option maxHeartbeats 4000000
theorem str_toListS (l : List UInt8) : (str l).toList = l := by rw [ByteArray.toList_eq]; rfl
theorem str_beqS (l m : List UInt8) : ((str l).toList == (str m).toList) = (l == m) := by rw [str_toListS, str_toListS]

theorem rtsame_any (a b : Seg) (OA : Option Addr) (on oc : Nat) (DA : Option Addr) (dn dc : Nat) (OB : Option Addr) (bn bc : Nat) (EB : Option Addr) (en ec : Nat) (w : World) (K1 : Os w OA on oc a.opts) (k1 : Bs w DA dn dc a.dat) (K2 : Os w OB bn bc b.opts) (k2 : Bs w EB en ec b.dat) :
    Calls Try.prog 17 #[(.agg #[.int .u16 (a).src, .int .u16 (a).dst, .int .u32 (a).seq, .int .u32 (a).ack, .int .u8 (a).flags, .int .u16 (a).win, .int .u16 (a).urg, .slice OA on oc, .slice DA dn dc]), (.agg #[.int .u16 (b).src, .int .u16 (b).dst, .int .u32 (b).seq, .int .u32 (b).ack, .int .u8 (b).flags, .int .u16 (b).win, .int .u16 (b).urg, .slice OB bn bc, .slice EB en ec])] w fun e w' => e = .returned (.bool (sameS a b)) ∧ Below w.heap.size w w' := by
  have l1 := K1.len
  have l2 := K2.len
  have mx := K1.max
  have str := str_beqS a.dat b.dat
  have HL1 := Lib.hid l1
  have HL2 := Lib.hid l2
  have hln : ¬ ((on : Int) = bn) → eqOs a.opts b.opts = false := fun h => eqOs_len (by rw [l1, l2]; omega)
  clear l1 l2
  obtain ⟨k, hk, w1, hw1, A1, B1, R1⟩ := nwI2 w #[.int .u16 (a).src, .int .u16 (a).dst, .int .u32 (a).seq, .int .u32 (a).ack, .int .u8 (a).flags, .int .u16 (a).win, .int .u16 (a).urg, .slice OA on oc, .slice DA dn dc] 29 #[.int .u16 (b).src, .int .u16 (b).dst, .int .u32 (b).seq, .int .u32 (b).ack, .int .u8 (b).flags, .int .u16 (b).win, .int .u16 (b).urg, .slice OB bn bc, .slice EB en ec] 29
  have Ac1 := A1.cell
  have Bc1 := B1.cell
  have Al1 := A1.lt
  have Bl1 := B1.lt
  have x1 := (k1).below R1
  have y1 := (k2).below R1
  have cx := cv x1
  have cy := cv y1
  go_enter Try.func17, Try.ntmps17
  go_wp2_with fail
  all_goals first | (focus (go_ret; refine ⟨?_, R1⟩; simp_all [sameS]; done)) | skip
  rename_i h1 h2 h3 h4 h5 h6 h7 h8 h9 _ _
  have HS : Hid (sameS a b = eqOs a.opts b.opts) := by
    unfold Hid
    have h9' : (a.dat == b.dat) = true := by simpa using h9
    have h10 : a.dat = b.dat := by simpa using h9'
    simp [sameS, h1, h2, h3, h4, h5, h6, h7, h10]
  have hbn : on = bn := by omega
  subst hbn
  clear h1 h2 h3 h4 h5 h6 h7 h8 h9 hln str cx cy hw1 hk
  go_loopw [5] (fun i wr => ∃ j, j ≤ on ∧ i = .int .i64 (j : Nat) ∧ Below w1.heap.size w1 wr ∧ Hid (∀ i, i < j → a.opts.getD i zO = b.opts.getD i zO)) (fun i _ => on - (intOf i).toNat)
  case atStart => exact ⟨0, by omega, rfl, Below.refl _ _, fun i hi => by omega⟩
  case round =>
    obtain ⟨j, hj, rfl, Bj, Gj⟩ := hrel
    have W0 : Below w.heap.size w wr := R1.trans (Bj.mono R1.size)
    have Ar := A1.below Bj
    have Br := B1.below Bj
    have arc := Ar.cell
    have brc := Br.cell
    by_cases hlt : j < on
    · have hji : (j : Int) < on := by omega
      obtain ⟨q1, o1, rfl, hc1⟩ := K1.rd (by omega)
      obtain ⟨q2, o2, rfl, hc2⟩ := K2.rd (by omega)
      obtain ⟨cK0, X1, m1, g1, cD0, b10⟩ := hc1 j hlt
      obtain ⟨dK0, X2, m2, g2, dD0, b20⟩ := hc2 j hlt
      have cK := (W0.cell (World.block_lt_of_cell? w _ cK0)).trans cK0
      have cD := (W0.cell (World.block_lt_of_cell? w _ cD0)).trans cD0
      have dK := (W0.cell (World.block_lt_of_cell? w _ dK0)).trans dK0
      have dD := (W0.cell (World.block_lt_of_cell? w _ dD0)).trans dD0
      have b1 := b10.below W0
      have b2 := b20.below W0
      obtain ⟨u, hu⟩ : ∃ o, a.opts.getD j zO = o := ⟨_, rfl⟩
      obtain ⟨v, hv⟩ : ∃ o, b.opts.getD j zO = o := ⟨_, rfl⟩
      rw [hu] at cK b1
      rw [hv] at dK b2
      have HU := Lib.hid hu
      have HV := Lib.hid hv
      have str2 := str_beqS u.dat v.dat
      clear hc1 hc2 cK0 cD0 dK0 dD0 b10 b20 hu hv
      rcases Bool.eq_false_or_eq_true (u.kind == v.kind) with hk1 | hk1
      · have hk1' : (u.kind != v.kind) = false := by simp [bne, hk1]
        have hkk : Hid (u.kind = v.kind) := by simpa [Hid] using hk1
        clear hk1
        rcases Bool.eq_false_or_eq_true (u.dat == v.dat) with hdt | hdt
        · have huv : Hid (u = v) := by
            have h1 := hkk.out
            have h2 : u.dat = v.dat := by simpa using hdt
            cases u; cases v; simp only at h1 h2; subst h1 h2; rfl
          go_wp2_with fail
          refine region_txt 30 (by kernel_rfl) (by kernel_rfl) ?_; (iterate 30 (first | (apply ObsK.skip (by rfl)) | (apply ObsK.v (by rfl); (intro wo hT; (repeat (first | (intro _ _ k; try have hcv := cv k))); (have ac := (Ar.below hT).cell; have bc := (Br.below hT).cell; have c1 := (hT.cell (World.block_lt_of_cell? wr _ cK)).trans cK; have c2 := (hT.cell (World.block_lt_of_cell? wr _ cD)).trans cD; have c3 := (hT.cell (World.block_lt_of_cell? wr _ dK)).trans dK; have c4 := (hT.cell (World.block_lt_of_cell? wr _ dD)).trans dD; have e1 := cv (b1.below hT); have e2 := cv (b2.below hT)); refine Goes.mk ?_; go_simp; first | exact goes_v | exact goes_b (by assumption) | (refine goes_enter ?_; first | fail))) | (apply ObsK.b (by rfl); (intro wo hT; (repeat (first | (intro _ _ k; try have hcv := cv k))); (have ac := (Ar.below hT).cell; have bc := (Br.below hT).cell; have c1 := (hT.cell (World.block_lt_of_cell? wr _ cK)).trans cK; have c2 := (hT.cell (World.block_lt_of_cell? wr _ cD)).trans cD; have c3 := (hT.cell (World.block_lt_of_cell? wr _ dK)).trans dK; have c4 := (hT.cell (World.block_lt_of_cell? wr _ dD)).trans dD; have e1 := cv (b1.below hT); have e2 := cv (b2.below hT)); refine Goes.mk ?_; go_simp; first | exact goes_v | exact goes_b (by assumption) | (refine goes_enter ?_; first | fail))))); refine ObsK.nil ?_; intro wz hBz; simp only [finOn, List.drop_succ_cons, List.drop_zero, List.drop_nil]
          go_simp
          have Wz := W0.trans (hBz.mono W0.size)
          go_wp2_with fail
          exact ⟨⟨j + 1, by omega, by go_num, Bj.trans (hBz.mono Bj.size), fun i hi => by
            by_cases e : i = j
            · rw [e, HU.out, HV.out]; exact huv.out
            · exact Gj.out i (by omega)⟩, by simp [intOf]; omega⟩
        · have hee : Hid (eqOs a.opts b.opts = false) := eqOs_one (i := j) (by rw [HU.out, HV.out]; intro e; rw [e] at hdt; simp at hdt)
          go_wp2_with fail
          refine region_txt 30 (by kernel_rfl) (by kernel_rfl) ?_; (iterate 30 (first | (apply ObsK.skip (by rfl)) | (apply ObsK.v (by rfl); (intro wo hT; (repeat (first | (intro _ _ k; try have hcv := cv k))); (have ac := (Ar.below hT).cell; have bc := (Br.below hT).cell; have c1 := (hT.cell (World.block_lt_of_cell? wr _ cK)).trans cK; have c2 := (hT.cell (World.block_lt_of_cell? wr _ cD)).trans cD; have c3 := (hT.cell (World.block_lt_of_cell? wr _ dK)).trans dK; have c4 := (hT.cell (World.block_lt_of_cell? wr _ dD)).trans dD; have e1 := cv (b1.below hT); have e2 := cv (b2.below hT)); refine Goes.mk ?_; go_simp; first | exact goes_v | exact goes_b (by assumption) | (refine goes_enter ?_; first | fail))) | (apply ObsK.b (by rfl); (intro wo hT; (repeat (first | (intro _ _ k; try have hcv := cv k))); (have ac := (Ar.below hT).cell; have bc := (Br.below hT).cell; have c1 := (hT.cell (World.block_lt_of_cell? wr _ cK)).trans cK; have c2 := (hT.cell (World.block_lt_of_cell? wr _ cD)).trans cD; have c3 := (hT.cell (World.block_lt_of_cell? wr _ dK)).trans dK; have c4 := (hT.cell (World.block_lt_of_cell? wr _ dD)).trans dD; have e1 := cv (b1.below hT); have e2 := cv (b2.below hT)); refine Goes.mk ?_; go_simp; first | exact goes_v | exact goes_b (by assumption) | (refine goes_enter ?_; first | fail))))); refine ObsK.nil ?_; intro wz hBz; simp only [finOn, List.drop_succ_cons, List.drop_zero, List.drop_nil]
          go_simp
          have Wz := W0.trans (hBz.mono W0.size)
          go_wp2_with fail
          exact bodyPost_ret (v := .bool false) (by simp [results, Try.results17, go_sem]) rfl ⟨by rw [HS.out, hee.out], Wz⟩
      · have hk1' : (u.kind != v.kind) = true := by simp [bne, hk1]
        have hkk : Hid (eqOs a.opts b.opts = false) := eqOs_one (i := j) (by rw [HU.out, HV.out]; intro e; rw [e] at hk1; simp at hk1)
        clear hk1
        go_wp2_with fail
        refine region_txt 30 (by kernel_rfl) (by kernel_rfl) ?_; (iterate 30 (first | (apply ObsK.skip (by rfl)) | (apply ObsK.v (by rfl); (intro wo hT; (repeat (first | (intro _ _ k; try have hcv := cv k))); (have ac := (Ar.below hT).cell; have bc := (Br.below hT).cell; have c1 := (hT.cell (World.block_lt_of_cell? wr _ cK)).trans cK; have c2 := (hT.cell (World.block_lt_of_cell? wr _ cD)).trans cD; have c3 := (hT.cell (World.block_lt_of_cell? wr _ dK)).trans dK; have c4 := (hT.cell (World.block_lt_of_cell? wr _ dD)).trans dD; have e1 := cv (b1.below hT); have e2 := cv (b2.below hT)); refine Goes.mk ?_; go_simp; first | exact goes_v | exact goes_b (by assumption) | (refine goes_enter ?_; first | fail))) | (apply ObsK.b (by rfl); (intro wo hT; (repeat (first | (intro _ _ k; try have hcv := cv k))); (have ac := (Ar.below hT).cell; have bc := (Br.below hT).cell; have c1 := (hT.cell (World.block_lt_of_cell? wr _ cK)).trans cK; have c2 := (hT.cell (World.block_lt_of_cell? wr _ cD)).trans cD; have c3 := (hT.cell (World.block_lt_of_cell? wr _ dK)).trans dK; have c4 := (hT.cell (World.block_lt_of_cell? wr _ dD)).trans dD; have e1 := cv (b1.below hT); have e2 := cv (b2.below hT)); refine Goes.mk ?_; go_simp; first | exact goes_v | exact goes_b (by assumption) | (refine goes_enter ?_; first | fail))))); refine ObsK.nil ?_; intro wz hBz; simp only [finOn, List.drop_succ_cons, List.drop_zero, List.drop_nil]
        go_simp
        have Wz := W0.trans (hBz.mono W0.size)
        go_wp2_with fail
        exact bodyPost_ret (v := .bool false) (by simp [results, Try.results17, go_sem]) rfl ⟨by rw [HS.out, hkk.out], Wz⟩
    · obtain rfl : j = on := by omega
      have hji : ¬ (j : Int) < j := by omega
      go_wp2_with fail
      have he : eqOs a.opts b.opts = true := eqOs_all (by rw [HL1.out, HL2.out]) (fun i hi => Gj.out i (by rw [← HL1.out]; exact hi))
      exact bodyPost_ret (v := .bool true) (by simp [results, Try.results17, go_sem]) rfl ⟨by rw [HS.out, he], W0⟩

def isSk (o : Opt) : Bool := o.kind == 5 && (decide (0 < o.dat.length) && (decide (o.dat.length ≤ 32) && o.dat.length % 8 == 0))
def skI (os : List Opt) : Int := match os.findIdx? isSk with
  | some j => j
  | none => -1
theorem skI_at {os : List Opt} {j : Nat} (h : j < os.length) (hs : isSk (os.getD j zO) = true) (hb : ∀ i, i < j → isSk (os.getD i zO) = false) : skI os = j := by
  have g : ∀ i (h : i < os.length), os.getD i zO = os[i] := fun i h => by simp [List.getD_eq_getElem?_getD, List.getElem?_eq_getElem h]
  have : os.findIdx? isSk = some j := by
    rw [List.findIdx?_eq_some_iff_getElem]
    refine ⟨h, by rw [← g j h]; exact hs, fun i hi => ?_⟩
    have := hb i hi
    rw [g i (by omega)] at this
    simp [this]
  unfold skI
  rw [this]
theorem skI_none {os : List Opt} (hb : ∀ i, i < os.length → isSk (os.getD i zO) = false) : skI os = -1 := by
  have : os.findIdx? isSk = none := by
    rw [List.findIdx?_eq_none_iff]
    intro x hx
    obtain ⟨i, hi, rfl⟩ := List.mem_iff_getElem.1 hx
    have := hb i hi
    simpa [List.getD_eq_getElem?_getD, List.getElem?_eq_getElem hi] using this
  unfold skI
  rw [this]
theorem sk1_any (u : Opt) (A1 : Option Addr) (n1 c1 : Nat) (w : World) (k1 : Bs w A1 n1 c1 u.dat) :
    Calls Try.prog 79 #[(.agg #[.int .u8 (u).kind, .slice A1 n1 c1])] w fun e w' => e = .returned (.bool (isSk u)) ∧ Below w.heap.size w w' := by
  have l1 := k1.len
  have m1 := k1.max
  have hr : ((n1 : Int)).tmod 8 = ((n1 % 8 : Nat) : Int) := by rw [Int.tmod_eq_emod_of_nonneg (by omega)]; omega
  obtain ⟨z, hz⟩ : ∃ z : Nat, n1 % 8 = z := ⟨_, rfl⟩
  rw [hz] at hr
  have HS : Hid (isSk u = (u.kind == 5 && (decide (0 < (n1 : Int)) && (decide ((n1 : Int) ≤ 32) && (z : Int) == 0)))) := by
    unfold Hid isSk
    rw [l1, hz]
    congr 2
    · simp
    · congr 1
      · simp; omega
      · rw [Bool.eq_iff_iff]; simp
  clear l1 hz
  go_enter Try.func79, Try.ntmps79
  go_wp2_with fail
  all_goals go_ret
  all_goals refine ⟨?_, by (repeat (first | with_reducible exact Below.refl _ _ | with_reducible refine below_drew ?_ | with_reducible refine below_drewN ?_ _ | with_reducible refine below_alloc ?_ (Nat.le_refl _) _ | with_reducible refine Below.setCell ?_ (by first | exact Nat.le_refl _ | (simp only []; omega)) _ | with_reducible assumption))⟩
  all_goals rw [HS.out]
  all_goals simp_all
  all_goals omega
theorem idxfun_any (a : List Opt) (OA : Option Addr) (on oc : Nat) (w : World) (K1 : Os w OA on oc a) :
    Calls Try.prog 78 #[.slice OA on oc, .func (.func 79) #[] #[]] w fun e w' => e = .returned (.int .i64 (skI a)) ∧ Below w.heap.size w w' := by
  have HL1 := Lib.hid K1.len
  have mx := K1.max
  go_enter Try.func78, Try.ntmps78
  go_wp2_with fail
  go_loopw [8] (fun i wr => ∃ j, j ≤ on ∧ i = .int .i64 (j : Nat) ∧ Below w.heap.size w wr ∧ Hid (∀ i, i < j → isSk (a.getD i zO) = false)) (fun i _ => on - (intOf i).toNat)
  case atStart => exact ⟨0, by omega, rfl, Below.refl _ _, fun i hi => by omega⟩
  case round =>
    obtain ⟨j, hj, rfl, W0, Gj⟩ := hrel
    by_cases hlt : j < on
    · have hji : (j : Int) < on := by omega
      obtain ⟨q1, o1, rfl, hc1⟩ := K1.rd (by omega)
      obtain ⟨cK0, X1, m1, g1, cD0, b10⟩ := hc1 j hlt
      have cK := (W0.cell (World.block_lt_of_cell? w _ cK0)).trans cK0
      have cD := (W0.cell (World.block_lt_of_cell? w _ cD0)).trans cD0
      obtain ⟨u, hu⟩ : ∃ o, a.getD j zO = o := ⟨_, rfl⟩
      have b1 := b10.below W0
      rw [hu] at cK b1
      have HU := Lib.hid hu
      have hs := sk1_any u X1 m1 g1 wr b1
      clear hc1 cK0 cD0 b10 hu b1
      rcases Bool.eq_false_or_eq_true (isSk u) with hq | hq
      · rw [hq] at hs
        have hee : Hid (skI a = j) := skI_at (by rw [HL1.out]; exact hlt) (by rw [HU.out]; exact hq) Gj.out
        clear hq
        go_wp2_with (go_at_call 79; ((with_reducible refine (hs).mono ?_); rintro e w4 ⟨rfl, hB4⟩))
        go_ret
        exact ⟨by rw [hee.out]; rfl, W0.trans (hB4.mono W0.size)⟩
      · rw [hq] at hs
        have huv : Hid (isSk u = false) := hq
        clear hq
        go_wp2_with (go_at_call 79; ((with_reducible refine (hs).mono ?_); rintro e w4 ⟨rfl, hB4⟩))
        exact ⟨⟨j + 1, by omega, by go_num, W0.trans (hB4.mono W0.size), fun i hi => by
          by_cases e : i = j
          · rw [e, HU.out]; exact huv.out
          · exact Gj.out i (by omega)⟩, by simp [intOf]; omega⟩
    · obtain rfl : j = on := by omega
      go_wp2_with fail
      have he : skI a = -1 := skI_none (fun i hi => Gj.out i (by rw [← HL1.out]; exact hi))
      go_ret
      exact ⟨by rw [he]; rfl, W0⟩
theorem ssack_any (a : Seg) (OA : Option Addr) (on oc : Nat) (D : Value) (w : World) (K1 : Os w OA on oc a.opts) :
    Calls Try.prog 57 #[.agg #[.int .u16 a.src, .int .u16 a.dst, .int .u32 a.seq, .int .u32 a.ack, .int .u8 a.flags, .int .u16 a.win, .int .u16 a.urg, .slice OA on oc, D]] w fun e w' => e = .returned (.int .i64 (skI a.opts)) ∧ Below w.heap.size w w' := by
  have hs := fun W K => idxfun_any a.opts OA on oc W K
  obtain ⟨q, hq⟩ : ∃ q, skI a.opts = q := ⟨_, rfl⟩
  rw [hq] at hs ⊢
  clear hq
  go_enter Try.func57, Try.ntmps57
  go_wp2_with (go_at_call 78; ((with_reducible refine (hs _ (K1.alloc _)).mono ?_); rintro e w2 ⟨rfl, hB2⟩))
  go_ret
  exact ⟨rfl, below_then ((Below.refl w.heap.size w).alloc (Nat.le_refl _) _) hB2⟩
theorem rsack_any (a : Seg) (OA : Option Addr) (on oc : Nat) (D : Value) (w : World) (K1 : Os w OA on oc a.opts) :
    Calls Try.prog 58 #[.agg #[.int .u16 a.src, .int .u16 a.dst, .int .u32 a.seq, .int .u32 a.ack, .int .u8 a.flags, .int .u16 a.win, .int .u16 a.urg, .slice OA on oc, D]] w fun e w' => e = .returned (.int .i64 (skI a.opts)) ∧ Below w.heap.size w w' := by
  have HL1 := Lib.hid K1.len
  have mx := K1.max
  obtain ⟨os, hos⟩ : ∃ os, a.opts = os := ⟨_, rfl⟩
  rw [hos] at K1 HL1 ⊢
  clear hos
  obtain ⟨k, hk, w1, hw1, A1, R1⟩ := nwI1 w #[.int .u16 a.src, .int .u16 a.dst, .int .u32 a.seq, .int .u32 a.ack, .int .u8 a.flags, .int .u16 a.win, .int .u16 a.urg, .slice OA on oc, D] 29
  have Ac1 := A1.cell
  have Al1 := A1.lt
  go_enter Try.func58, Try.ntmps58
  go_wp2_with fail
  clear hk hw1
  go_loopw [3] (fun i wr => ∃ j, j ≤ on ∧ i = .int .i64 (j : Nat) ∧ wr = w1 ∧ Hid (∀ i, i < j → isSk (os.getD i zO) = false)) (fun i _ => on - (intOf i).toNat)
  case atStart => exact ⟨0, by omega, rfl, rfl, fun i hi => by omega⟩
  case round =>
    obtain ⟨j, hj, rfl, rfl, Gj⟩ := hrel
    by_cases hlt : j < on
    · have hji : (j : Int) < on := by omega
      obtain ⟨q1, o1, rfl, hc1⟩ := K1.rd (by omega)
      obtain ⟨cK0, X1, m1, g1, cD0, b10⟩ := hc1 j hlt
      have cK := (R1.cell (World.block_lt_of_cell? w _ cK0)).trans cK0
      have cD := (R1.cell (World.block_lt_of_cell? w _ cD0)).trans cD0
      obtain ⟨u, hu⟩ : ∃ o, os.getD j zO = o := ⟨_, rfl⟩
      rw [hu] at cK b10
      have HU := Lib.hid hu
      have l1 := b10.len
      have mm := b10.max
      have hr : ((m1 : Int)).tmod 8 = ((m1 % 8 : Nat) : Int) := by rw [Int.tmod_eq_emod_of_nonneg (by omega)]; omega
      obtain ⟨z, hz⟩ : ∃ z : Nat, m1 % 8 = z := ⟨_, rfl⟩
      rw [hz] at hr
      have HS : Hid (isSk u = (u.kind == 5 && (decide (0 < (m1 : Int)) && (decide ((m1 : Int) ≤ 32) && (z : Int) == 0)))) := by
        unfold Hid isSk
        rw [l1, hz]
        congr 2
        · simp
        · congr 1
          · simp; omega
          · rw [Bool.eq_iff_iff]; simp
      have hat : Hid (isSk u = true → skI os = j) := fun h => skI_at (by rw [HL1.out]; exact hlt) (by rw [HU.out]; exact h) Gj.out
      have hno : Hid (isSk u = false → ∀ i, i < j + 1 → isSk (os.getD i zO) = false) := fun h i hi => by
        by_cases e : i = j
        · rw [e, HU.out]; exact h
        · exact Gj.out i (by omega)
      clear hc1 cK0 cD0 b10 hu l1 hz
      obtain ⟨κ, hκ⟩ : ∃ κ, u.kind = κ := ⟨_, rfl⟩
      rw [hκ] at cK HS
      clear hκ
      rcases Bool.eq_false_or_eq_true (κ == 5 && (decide (0 < (m1 : Int)) && (decide ((m1 : Int) ≤ 32) && (z : Int) == 0))) with hq | hq
      · have hee : Hid (skI os = j) := hat.out (by rw [HS.out]; exact hq)
        clear hat hno HS
        simp only [Bool.and_eq_true, decide_eq_true_eq, beq_iff_eq] at hq
        obtain ⟨f1, f2, f3, f4⟩ := hq
        subst f1
        go_wp2_with fail
        go_ret
        exact ⟨by rw [hee.out]; rfl, R1⟩
      · have huv : Hid (∀ i, i < j + 1 → isSk (os.getD i zO) = false) := hno.out (by rw [HS.out]; exact hq)
        clear hat hno HS
        go_wp2_with fail
        · exfalso; simp_all
        · exact ⟨⟨j + 1, by omega, by go_num, trivial, huv.out⟩, by simp [intOf]; omega⟩
        all_goals exact ⟨⟨j + 1, by omega, by go_num, trivial, huv.out⟩, by simp [intOf]; omega⟩
    · obtain rfl : j = on := by omega
      go_wp2_with fail
      have he : skI os = -1 := skI_none (fun i hi => Gj.out i (by rw [← HL1.out]; exact hi))
      go_ret
      exact ⟨by rw [he]; rfl, R1⟩
theorem rget16_any (A : Option Addr) (n c : Nat) (l : List UInt8) (a : Int) (w : World) (hb : Bs w A n c l) :
    Calls Try.prog 43 #[.slice A n c, .int .i64 a] w fun e w' => e = .returned (.int .u16 (get16 l a)) ∧ Drawn w w' := by
  have hmax := hb.max
  by_cases ha : a < 0
  · rw [get16_out (by rw [hb.len]; omega)]
    go_enter Try.func43, Try.ntmps43
    go_wp2
    go_ret
    exact ⟨rfl, Drawn.refl _⟩
  · by_cases hn : (n : Int) < 2
    · rw [get16_out (by rw [hb.len]; omega)]
      go_enter Try.func43, Try.ntmps43
      go_wp2
      go_ret
      exact ⟨rfl, Drawn.refl _⟩
    · by_cases h3 : a > (n : Int) - 2
      · rw [get16_out (by rw [hb.len]; omega)]
        go_enter Try.func43, Try.ntmps43
        go_wp2
        go_ret
        exact ⟨rfl, Drawn.refl _⟩
      · have hq : get16 l a = _ := get16_in (by omega) (by rw [hb.len]; omega)
        rw [hq]; clear hq
        obtain ⟨b, off, rfl, hc⟩ := hb.rd (by omega)
        obtain ⟨i, rfl⟩ := Int.eq_ofNat_of_zero_le (show 0 ≤ a by omega)
        have c0 := hc i (by omega)
        have c1 := hc (i + 1) (by omega)
        clear hc
        have b0 := bt_lo l i
        have b0' := bt_hi l i
        have b1 := bt_lo l (i+1)
        have b1' := bt_hi l (i+1)
        have hor := or_u16 b0 b0' b1 b1'
        have j0 : (i : Int) < (n : Int) := by omega
        have j1 : (i : Int) + 1 < (n : Int) := by omega
        have j2 : 0 ≤ (i : Int) + 1 := by omega
        have j3 : ((i : Int) + 1).toNat = i + 1 := by omega
        have j4 : IntKind.i64.wrap ((i : Int) + 1) = (i : Int) + 1 := IntWalk.i64_in _ (by omega)
        go_enter Try.func43, Try.ntmps43
        go_wp2
        go_quiet (fail)
        go_wp2
        go_ret
        exact ⟨rfl, (Drawn.refl _).step _⟩
theorem rget32_any (A : Option Addr) (n c : Nat) (l : List UInt8) (a : Int) (w : World) (hb : Bs w A n c l) :
    Calls Try.prog 44 #[.slice A n c, .int .i64 a] w fun e w' => e = .returned (.int .u32 (get32 l a)) ∧ Drawn w w' := by
  have hmax := hb.max
  by_cases ha : a < 0
  · rw [get32_out (by rw [hb.len]; omega)]
    go_enter Try.func44, Try.ntmps44
    go_wp2_with fail
    go_ret
    exact ⟨rfl, Drawn.refl _⟩
  · by_cases hn : (n : Int) < 4
    · rw [get32_out (by rw [hb.len]; omega)]
      go_enter Try.func44, Try.ntmps44
      go_wp2_with fail
      go_ret
      exact ⟨rfl, Drawn.refl _⟩
    · by_cases h3 : a > (n : Int) - 4
      · rw [get32_out (by rw [hb.len]; omega)]
        go_enter Try.func44, Try.ntmps44
        go_wp2_with fail
        go_ret
        exact ⟨rfl, Drawn.refl _⟩
      · have hq : get32 l a = _ := get32_in (by omega) (by rw [hb.len]; omega)
        rw [hq]; clear hq
        have b0 := get16_lo l a
        have b0' := get16_hi l a
        have b1 := get16_lo l (a+2)
        have b1' := get16_hi l (a+2)
        have hor := or_u32 b0 b0' b1 b1'
        have j4 : IntKind.i64.wrap (a + 2) = a + 2 := IntWalk.i64_in _ (by omega)
        go_enter Try.func44, Try.ntmps44
        go_wp2_with (go_at_call 43; refine (rget16_any _ _ _ l _ _ (by first | exact hb | exact hb.drewN _)).mono ?_; rintro e w' ⟨rfl, ⟨nq, rfl⟩⟩)
        go_ret
        exact ⟨rfl, by repeat (first | exact Drawn.refl _ | apply Drawn.step | apply Drawn.drew)⟩
theorem rput16_any (A : Option Addr) (n c : Nat) (l : List UInt8) (a v : Int) (v0 : 0 ≤ v) (v1 : v ≤ 65535) (w : World) (hb : Bs w A n c l) :
    Calls Try.prog 56 #[.slice A n c, .int .i64 a, .int .u16 v] w fun e w' => ∃ A' c', e = .returned (.slice A' n c') ∧ Own w' w.heap.size 5 A' n c' (put16 l a v) ∧ Below w.heap.size w w' := by
  have hmax := hb.max
  have hlen := Lib.hid hb.len
  by_cases ha : a < 0
  · have hq : put16 l a v = l := if_neg (by omega)
    rw [hq]; clear hq
    go_enter Try.func56, Try.ntmps56
    go_wp2_with (at_builtin; refine wpList_append_bs (w0 := w) _ rfl _ _ _ rfl w.heap.size 5 Try.underlying24 info_u8 none 0 0 [] rfl (own_nil _ _ _) A n c l rfl hb (Below.refl _ _) (by omega) (Nat.le_refl _) ?_; intro A1 m c1 w1 ho hB hg _)
    obtain rfl : m = n := by have := ho.len; have := hlen.out; simp at *; omega
    go_ret
    exact ⟨_, _, rfl, ho, hB⟩
  · by_cases hn : (n : Int) < 2
    · have hq : put16 l a v = l := if_neg (by rw [hlen.out]; omega)
      rw [hq]; clear hq
      go_enter Try.func56, Try.ntmps56
      go_wp2_with (at_builtin; refine wpList_append_bs (w0 := w) _ rfl _ _ _ rfl w.heap.size 5 Try.underlying24 info_u8 none 0 0 [] rfl (own_nil _ _ _) A n c l rfl hb (Below.refl _ _) (by omega) (Nat.le_refl _) ?_; intro A1 m c1 w1 ho hB hg _)
      obtain rfl : m = n := by have := ho.len; have := hlen.out; simp at *; omega
      go_ret
      exact ⟨_, _, rfl, ho, hB⟩
    · by_cases h3 : a > (n : Int) - 2
      · have hq : put16 l a v = l := if_neg (by rw [hlen.out]; omega)
        rw [hq]; clear hq
        go_enter Try.func56, Try.ntmps56
        go_wp2_with (at_builtin; refine wpList_append_bs (w0 := w) _ rfl _ _ _ rfl w.heap.size 5 Try.underlying24 info_u8 none 0 0 [] rfl (own_nil _ _ _) A n c l rfl hb (Below.refl _ _) (by omega) (Nat.le_refl _) ?_; intro A1 m c1 w1 ho hB hg _)
        obtain rfl : m = n := by have := ho.len; have := hlen.out; simp at *; omega
        go_ret
        exact ⟨_, _, rfl, ho, hB⟩
      · obtain ⟨i, rfl⟩ := Int.eq_ofNat_of_zero_le (show 0 ≤ a by omega)
        have hq : put16 l i v = (l.set i (ub (v / 256))).set (i + 1) (ub v) := by
          rw [put16, if_pos (by rw [hlen.out]; omega)]
          simp only [putK, Int.toNat_natCast]
          rw [List.set_comm _ _ (by omega)]
          simp
        rw [hq]; clear hq
        go_enter Try.func56, Try.ntmps56
        go_wp2_with (at_builtin; refine wpList_append_bs (w0 := w) _ rfl _ _ _ rfl w.heap.size 5 Try.underlying24 info_u8 none 0 0 [] rfl (own_nil _ _ _) A n c l rfl hb (Below.refl _ _) (by omega) (Nat.le_refl _) ?_; intro A1 m c1 w1 ho hB hg _; obtain rfl : m = n := (by have := ho.len; have := hlen.out; simp at *; omega); obtain ⟨g, rfl, hg1, hg2⟩ := ho.ptr (by omega); obtain ⟨d1, d2⟩ := ho.at_ (i := i) (by omega); obtain ⟨d3, d4⟩ := ho.at_ (i := i + 1) (by omega))
        have hB2 := (hB.setCell (p := ⟨g, i, none⟩) hg1 (.int .u8 (v / 256))).setCell (p := ⟨g, i + 1, none⟩) hg1 (.int .u8 (v % 256))
        have ho3 := (ho.set_ (i := i) (by omega) (v / 256) (y := v / 256) (by omega)).set_ (i := i + 1) (by omega) v rfl
        go_ret
        exact ⟨_, _, rfl, ho3, hB2⟩
theorem rput32_any (A : Option Addr) (n c : Nat) (l : List UInt8) (a v : Int) (v0 : 0 ≤ v) (v1 : v ≤ 4294967295) (w : World) (hb : Bs w A n c l) :
    Calls Try.prog 61 #[.slice A n c, .int .i64 a, .int .u32 v] w fun e w' => ∃ A' c', e = .returned (.slice A' n c') ∧ Own w' w.heap.size 5 A' n c' (put32 l a v) ∧ Below w.heap.size w w' := by
  have hmax := hb.max
  have hlen := Lib.hid hb.len
  by_cases h : a < 0 ∨ (n : Int) < 4 ∨ a > (n : Int) - 4
  · have hq : put32 l a v = l := if_neg (by rw [hlen.out]; omega)
    rw [hq]; clear hq
    have fin : Calls Try.prog 61 #[.slice A n c, .int .i64 a, .int .u32 v] w fun e w' => ∃ A' c', e = .returned (.slice A' n c') ∧ Own w' w.heap.size 5 A' n c' l ∧ Below w.heap.size w w' := by
      rcases h with h | h | h
      · go_enter Try.func61, Try.ntmps61
        go_wp2_with (at_builtin; refine wpList_append_bs (w0 := w) _ rfl _ _ _ rfl w.heap.size 5 Try.underlying24 info_u8 (some ⟨w.heap.size, 0, none⟩) 0 0 [] rfl (own_lit w _ _ [] 0 rfl (by omega) (Nat.le_refl _)) A n c l rfl (hb.alloc _) ((Below.refl _ _).alloc (Nat.le_refl _) _) (by omega) (by simp) ?_; intro A1 m c1 w1 ho hB hg _)
        obtain rfl : m = n := by have := ho.len; have := hlen.out; simp at *; omega
        go_ret
        exact ⟨_, _, rfl, ho, hB⟩
      · by_cases ha : a < 0
        · go_enter Try.func61, Try.ntmps61
          go_wp2_with (at_builtin; refine wpList_append_bs (w0 := w) _ rfl _ _ _ rfl w.heap.size 5 Try.underlying24 info_u8 (some ⟨w.heap.size, 0, none⟩) 0 0 [] rfl (own_lit w _ _ [] 0 rfl (by omega) (Nat.le_refl _)) A n c l rfl (hb.alloc _) ((Below.refl _ _).alloc (Nat.le_refl _) _) (by omega) (by simp) ?_; intro A1 m c1 w1 ho hB hg _)
          obtain rfl : m = n := by have := ho.len; have := hlen.out; simp at *; omega
          go_ret
          exact ⟨_, _, rfl, ho, hB⟩
        · go_enter Try.func61, Try.ntmps61
          go_wp2_with (at_builtin; refine wpList_append_bs (w0 := w) _ rfl _ _ _ rfl w.heap.size 5 Try.underlying24 info_u8 (some ⟨w.heap.size, 0, none⟩) 0 0 [] rfl (own_lit w _ _ [] 0 rfl (by omega) (Nat.le_refl _)) A n c l rfl (hb.alloc _) ((Below.refl _ _).alloc (Nat.le_refl _) _) (by omega) (by simp) ?_; intro A1 m c1 w1 ho hB hg _)
          obtain rfl : m = n := by have := ho.len; have := hlen.out; simp at *; omega
          go_ret
          exact ⟨_, _, rfl, ho, hB⟩
      · by_cases ha : a < 0
        · go_enter Try.func61, Try.ntmps61
          go_wp2_with (at_builtin; refine wpList_append_bs (w0 := w) _ rfl _ _ _ rfl w.heap.size 5 Try.underlying24 info_u8 (some ⟨w.heap.size, 0, none⟩) 0 0 [] rfl (own_lit w _ _ [] 0 rfl (by omega) (Nat.le_refl _)) A n c l rfl (hb.alloc _) ((Below.refl _ _).alloc (Nat.le_refl _) _) (by omega) (by simp) ?_; intro A1 m c1 w1 ho hB hg _)
          obtain rfl : m = n := by have := ho.len; have := hlen.out; simp at *; omega
          go_ret
          exact ⟨_, _, rfl, ho, hB⟩
        · by_cases hn : (n : Int) < 4
          · go_enter Try.func61, Try.ntmps61
            go_wp2_with (at_builtin; refine wpList_append_bs (w0 := w) _ rfl _ _ _ rfl w.heap.size 5 Try.underlying24 info_u8 (some ⟨w.heap.size, 0, none⟩) 0 0 [] rfl (own_lit w _ _ [] 0 rfl (by omega) (Nat.le_refl _)) A n c l rfl (hb.alloc _) ((Below.refl _ _).alloc (Nat.le_refl _) _) (by omega) (by simp) ?_; intro A1 m c1 w1 ho hB hg _)
            obtain rfl : m = n := by have := ho.len; have := hlen.out; simp at *; omega
            go_ret
            exact ⟨_, _, rfl, ho, hB⟩
          · go_enter Try.func61, Try.ntmps61
            go_wp2_with (at_builtin; refine wpList_append_bs (w0 := w) _ rfl _ _ _ rfl w.heap.size 5 Try.underlying24 info_u8 (some ⟨w.heap.size, 0, none⟩) 0 0 [] rfl (own_lit w _ _ [] 0 rfl (by omega) (Nat.le_refl _)) A n c l rfl (hb.alloc _) ((Below.refl _ _).alloc (Nat.le_refl _) _) (by omega) (by simp) ?_; intro A1 m c1 w1 ho hB hg _)
            obtain rfl : m = n := by have := ho.len; have := hlen.out; simp at *; omega
            go_ret
            exact ⟨_, _, rfl, ho, hB⟩
    exact fin
  · have hq : put32 l a v = put16 (put16 l a (v / 65536)) (a + 2) (v % 65536) := put32_halves (by omega) (by rw [hlen.out]; omega)
    rw [hq]; clear hq
    have h1 : ¬ a < 0 := by omega
    have h2 : ¬ (n : Int) < 4 := by omega
    have h3 : ¬ a > (n : Int) - 4 := by omega
    clear h
    go_enter Try.func61, Try.ntmps61
    go_wp2_with fail
    refine (rput16_any _ _ _ l a (v / 65536) (by omega) (by omega) _ hb).mono ?_
    rintro e w1 ⟨A1, c1, rfl, ho1, hB1⟩
    go_wp2_with fail
    refine (rput16_any _ _ _ _ (a + 2) (v % 65536) (by omega) (by omega) _ ho1.bs).mono ?_
    rintro e w2 ⟨A2, c2, rfl, ho2, hB2⟩
    go_wp2_with fail
    go_ret
    exact ⟨_, _, rfl, ho2.mono hB1.size, below_then hB1 hB2⟩
def edg (l : List UInt8) (k : Nat) : List Int := (List.range k).map fun i => get32 l ((4 * i : Nat) : Int)
def sks (s : Seg) : List Int := if skI s.opts < 0 then [] else edg (s.opts.getD (skI s.opts).toNat zO).dat ((s.opts.getD (skI s.opts).toNat zO).dat.length / 4)
def u32L (l : List Int) : List Value := l.map (Value.int .u32)
theorem edg_succ (l : List UInt8) (k : Nat) : u32L (edg l (k + 1)) = u32L (edg l k) ++ [.int .u32 (get32 l ((4 * k : Nat) : Int))] := by
  unfold edg u32L
  rw [List.range_succ, List.map_append, List.map_append]
  rfl
theorem skI_cases (os : List Opt) : skI os = -1 ∨ ∃ j, j < os.length ∧ skI os = (j : Nat) ∧ isSk (os.getD j zO) = true := by
  unfold skI
  cases h : os.findIdx? isSk with
  | none => left; rfl
  | some j =>
    right
    obtain ⟨h1, h2, _⟩ := List.findIdx?_eq_some_iff_getElem.1 h
    exact ⟨j, h1, rfl, by simpa [List.getD_eq_getElem?_getD, List.getElem?_eq_getElem h1] using h2⟩
structure SkPost (w : World) (l : List Int) (e : Ending) (w' : World) : Prop where
  out : ∃ A n c, e = .returned (.slice A n c) ∧ OwnG w' w.heap.size 23 1 A n c (u32L l) ∧ Below w.heap.size w w'
theorem info_u32 : (Try.prog.info? 23).map (fun i => (i.zero, i.size, i.bytes)) = some (some (.int .u32 0), 1, 4) := by kernel_rfl
theorem sacks_any (s : Seg) (OA : Option Addr) (on oc : Nat) (DA : Option Addr) (dn dc : Nat) (w : World) (K1 : Os w OA on oc s.opts) :
    Calls Try.prog 23 #[(.agg #[.int .u16 (s).src, .int .u16 (s).dst, .int .u32 (s).seq, .int .u32 (s).ack, .int .u8 (s).flags, .int .u16 (s).win, .int .u16 (s).urg, .slice OA on oc, .slice DA dn dc])] w (SkPost w (sks s)) := by
  have HL1 := Lib.hid K1.len
  have mx := K1.max
  have hs := fun W K => ssack_any s OA on oc (.slice DA dn dc) W K
  obtain ⟨os, hos⟩ : ∃ os, s.opts = os := ⟨_, rfl⟩
  have HSK : Hid (sks s = if skI os < 0 then [] else edg (os.getD (skI os).toNat zO).dat ((os.getD (skI os).toNat zO).dat.length / 4)) := by unfold Hid sks; rw [hos]
  rw [hos] at K1 HL1 hs
  clear hos
  obtain ⟨k, hk, w1, hw1, A1, R1⟩ := nwI1 w #[.int .u16 (s).src, .int .u16 (s).dst, .int .u32 (s).seq, .int .u32 (s).ack, .int .u8 (s).flags, .int .u16 (s).win, .int .u16 (s).urg, .slice OA on oc, .slice DA dn dc] 29
  have Ac1 := A1.cell
  have Al1 := A1.lt
  have K11 := K1.below R1
  rcases skI_cases os with hk1 | ⟨j, hj, hk1, hsk⟩
  · have HE : Hid (sks s = []) := by rw [Hid, HSK.out, hk1]; rfl
    rw [hk1] at hs
    clear hk1
    go_enter Try.func23, Try.ntmps23
    go_wp2_with (go_at_call 57; ((with_reducible refine (hs w1 K11).mono ?_); rintro e w2 ⟨rfl, hB2⟩); have A2 := A1.below hB2; have Ac2 := A2.cell; clear Ac1; have R2 := below_then R1 hB2)
    go_ret
    exact ⟨none, 0, 0, rfl, by rw [HE.out]; exact ownG_nil _ _ _ _, R2⟩
  · have HJ := Lib.hid hk1
    have hjn : j < on := by rw [← HL1.out]; exact hj
    obtain ⟨q1, o1, rfl, hc1⟩ := K1.rd (by omega)
    obtain ⟨cK0, X1, m1, g1, cD0, b10⟩ := hc1 j hjn
    obtain ⟨u, hu⟩ : ∃ o, os.getD j zO = o := ⟨_, rfl⟩
    rw [hu] at b10 hsk
    obtain ⟨d, hd⟩ : ∃ d, u.dat = d := ⟨_, rfl⟩
    have l1 := b10.len
    have hm : m1 ≤ 32 ∧ m1 % 4 = 0 := by
      unfold isSk at hsk
      simp only [Bool.and_eq_true, decide_eq_true_eq, beq_iff_eq, l1] at hsk
      omega
    have HE : Hid (sks s = edg d (m1 / 4)) := by rw [Hid, HSK.out, hk1, if_neg (by omega), show ((j : Nat) : Int).toNat = j from rfl, hu, l1, hd]
    rw [hd] at b10 l1
    rw [hk1] at hs
    obtain ⟨hm1, hm4⟩ := hm
    have hji : (j : Int) < on := by omega
    have cD1 := (R1.cell (World.block_lt_of_cell? w _ cD0)).trans cD0
    have HM4 := Lib.hid hm4
    clear hk1 hsk hu hd cK0 l1 hj hc1 hm4
    go_enter Try.func23, Try.ntmps23
    go_wp2_with (go_at_call 57; ((with_reducible refine (hs w1 K11).mono ?_); rintro e w2 ⟨rfl, hB2⟩); have A2 := A1.below hB2; have Ac2 := A2.cell; clear Ac1; have R2 := below_then R1 hB2)
    have cD2 := (hB2.cell (World.block_lt_of_cell? w1 _ cD1)).trans cD1
    have b2 := b10.below R2
    clear hk hw1 hs cD0 cD1
    go_loopw [4, 5] (fun out i wr => ∃ (k t : Nat) (A' : Option Addr) (c' : Nat), t ≤ m1 ∧ Hid (t = 4 * k) ∧ k ≤ 8 ∧ i = .int .i64 (t : Int) ∧ out = .slice A' k c' ∧ OwnG wr w2.heap.size 23 1 A' k c' (u32L (edg d k)) ∧ Below w2.heap.size w2 wr) (fun _ i _ => m1 - (intOf i).toNat)
    case atStart => exact ⟨0, 0, none, 0, by omega, rfl, by omega, rfl, rfl, ownG_nil _ _ _ _, Below.refl _ _⟩
    case round =>
      obtain ⟨k, t, Ak, ck, ht, htk, hk8, rfl, rfl, Ok, Bk⟩ := hrel
      have Ar := A2.below Bk
      have arc := Ar.cell
      have cDr := (Bk.cell (World.block_lt_of_cell? w2 _ cD2)).trans cD2
      have br := b2.below Bk
      by_cases hlt : t < m1
      · have hti : (t : Int) < m1 := by omega
        obtain ⟨v, hv⟩ : ∃ v, get32 d (t : Int) = v := ⟨_, rfl⟩
        have g4 := get32_any X1 m1 g1 d (t : Int) wr br
        rw [hv] at g4
        have HV : Hid (u32L (edg d (k + 1)) = u32L (edg d k) ++ [.int .u32 v]) := by rw [Hid, edg_succ, ← htk.out, hv]
        clear hv
        obtain ⟨ii, hi, hz, hs', hb'⟩ := info_parts info_u32
        go_wp2_with (first
          | (go_at_call 39; ((with_reducible refine (g4).mono ?_); rintro e w3 ⟨rfl, hD3⟩); have hB3 := hD3.bel; have O3 := Ok.below hB3; have Bk3 := Bk.trans (hB3.mono Bk.size); have s3 := Bk3.size)
          | (at_builtin; refine wpList_appG (w0 := w2) _ rfl _ _ _ rfl w2.heap.size 23 ii (.int .u32 0) 1 4 Try.underlying45 hi hz hs' hb' rfl (by omega) (by omega) Ak k ck _ rfl (O3.alloc _) ⟨_, 0, none⟩ 1 1 [.int .u32 v] rfl rfl (new1 _ _ _) (by intro u h; simp at h; subst h; rfl) (Bk3.alloc s3 _) (by omega) (by simp; omega) ?_; intro A4 c4 w4 O4 hB4 _ hz4))
        exact ⟨⟨k + 1, t + 4, A4, c4, by have := htk.out; have := HM4.out; omega, by have := htk.out; unfold Hid; omega, by have := htk.out; omega, by go_num, rfl, by rw [HV.out]; exact O4, hB4⟩, by simp [intOf]; omega⟩
      · have hti : ¬ (t : Int) < m1 := by omega
        have hkm : Hid (m1 / 4 = k) := by have := htk.out; unfold Hid; omega
        go_wp2_with fail
        go_ret
        exact ⟨Ak, k, ck, rfl, by rw [HE.out, hkm.out]; exact Ok.mono R2.size, below_then R2 Bk⟩
theorem rsacks_any (s : Seg) (OA : Option Addr) (on oc : Nat) (DA : Option Addr) (dn dc : Nat) (w : World) (K1 : Os w OA on oc s.opts) :
    Calls Try.prog 24 #[(.agg #[.int .u16 (s).src, .int .u16 (s).dst, .int .u32 (s).seq, .int .u32 (s).ack, .int .u8 (s).flags, .int .u16 (s).win, .int .u16 (s).urg, .slice OA on oc, .slice DA dn dc])] w (SkPost w (sks s)) := by
  have HL1 := Lib.hid K1.len
  have mx := K1.max
  have hs := fun W K => rsack_any s OA on oc (.slice DA dn dc) W K
  obtain ⟨os, hos⟩ : ∃ os, s.opts = os := ⟨_, rfl⟩
  have HSK : Hid (sks s = if skI os < 0 then [] else edg (os.getD (skI os).toNat zO).dat ((os.getD (skI os).toNat zO).dat.length / 4)) := by unfold Hid sks; rw [hos]
  rw [hos] at K1 HL1 hs
  clear hos
  obtain ⟨k, hk, w1, hw1, A1, R1⟩ := nwI1 w #[.int .u16 (s).src, .int .u16 (s).dst, .int .u32 (s).seq, .int .u32 (s).ack, .int .u8 (s).flags, .int .u16 (s).win, .int .u16 (s).urg, .slice OA on oc, .slice DA dn dc] 29
  have Ac1 := A1.cell
  have Al1 := A1.lt
  have K11 := K1.below R1
  rcases skI_cases os with hk1 | ⟨j, hj, hk1, hsk⟩
  · have HE : Hid (sks s = []) := by rw [Hid, HSK.out, hk1]; rfl
    rw [hk1] at hs
    clear hk1
    go_enter Try.func24, Try.ntmps24
    go_wp2_with (go_at_call 58; ((with_reducible refine (hs w1 K11).mono ?_); rintro e w2 ⟨rfl, hB2⟩); have A2 := A1.below hB2; have Ac2 := A2.cell; clear Ac1; have R2 := below_then R1 hB2)
    go_ret
    exact ⟨none, 0, 0, rfl, by rw [HE.out]; exact ownG_nil _ _ _ _, R2⟩
  · have HJ := Lib.hid hk1
    have hjn : j < on := by rw [← HL1.out]; exact hj
    obtain ⟨q1, o1, rfl, hc1⟩ := K1.rd (by omega)
    obtain ⟨cK0, X1, m1, g1, cD0, b10⟩ := hc1 j hjn
    obtain ⟨u, hu⟩ : ∃ o, os.getD j zO = o := ⟨_, rfl⟩
    rw [hu] at b10 hsk
    obtain ⟨d, hd⟩ : ∃ d, u.dat = d := ⟨_, rfl⟩
    have l1 := b10.len
    have hm : m1 ≤ 32 ∧ m1 % 4 = 0 := by
      unfold isSk at hsk
      simp only [Bool.and_eq_true, decide_eq_true_eq, beq_iff_eq, l1] at hsk
      omega
    have HE : Hid (sks s = edg d (m1 / 4)) := by rw [Hid, HSK.out, hk1, if_neg (by omega), show ((j : Nat) : Int).toNat = j from rfl, hu, l1, hd]
    rw [hd] at b10 l1
    rw [hk1] at hs
    obtain ⟨hm1, hm4⟩ := hm
    have hji : (j : Int) < on := by omega
    have cD1 := (R1.cell (World.block_lt_of_cell? w _ cD0)).trans cD0
    have HM4 := Lib.hid hm4
    clear hk1 hsk hu hd cK0 l1 hj hc1 hm4
    go_enter Try.func24, Try.ntmps24
    go_wp2_with (go_at_call 58; ((with_reducible refine (hs w1 K11).mono ?_); rintro e w2 ⟨rfl, hB2⟩); have A2 := A1.below hB2; have Ac2 := A2.cell; clear Ac1; have R2 := below_then R1 hB2)
    have cD2 := (hB2.cell (World.block_lt_of_cell? w1 _ cD1)).trans cD1
    have b2 := b10.below R2
    clear hk hw1 hs cD0 cD1
    go_loopw [3, 5] (fun out i wr => ∃ (k t : Nat) (A' : Option Addr) (c' : Nat), t ≤ m1 ∧ Hid (t = 4 * k) ∧ k ≤ 8 ∧ i = .int .i64 (t : Int) ∧ out = .slice A' k c' ∧ OwnG wr w2.heap.size 23 1 A' k c' (u32L (edg d k)) ∧ Below w2.heap.size w2 wr) (fun _ i _ => m1 - (intOf i).toNat)
    case atStart => exact ⟨0, 0, none, 0, by omega, rfl, by omega, rfl, rfl, ownG_nil _ _ _ _, Below.refl _ _⟩
    case round =>
      obtain ⟨k, t, Ak, ck, ht, htk, hk8, rfl, rfl, Ok, Bk⟩ := hrel
      have Ar := A2.below Bk
      have arc := Ar.cell
      have cDr := (Bk.cell (World.block_lt_of_cell? w2 _ cD2)).trans cD2
      have br := b2.below Bk
      by_cases hlt : t < m1
      · have hti : (t : Int) < m1 := by omega
        obtain ⟨v, hv⟩ : ∃ v, get32 d (t : Int) = v := ⟨_, rfl⟩
        have g4 := rget32_any X1 m1 g1 d (t : Int) wr br
        rw [hv] at g4
        have HV : Hid (u32L (edg d (k + 1)) = u32L (edg d k) ++ [.int .u32 v]) := by rw [Hid, edg_succ, ← htk.out, hv]
        clear hv
        obtain ⟨ii, hi, hz, hs', hb'⟩ := info_parts info_u32
        go_wp2_with (first
          | (go_at_call 44; ((with_reducible refine (g4).mono ?_); rintro e w3 ⟨rfl, hD3⟩); have hB3 := hD3.bel; have O3 := Ok.below hB3; have Bk3 := Bk.trans (hB3.mono Bk.size); have s3 := Bk3.size)
          | (at_builtin; refine wpList_appG (w0 := w2) _ rfl _ _ _ rfl w2.heap.size 23 ii (.int .u32 0) 1 4 Try.underlying45 hi hz hs' hb' rfl (by omega) (by omega) Ak k ck _ rfl (O3.alloc _) ⟨_, 0, none⟩ 1 1 [.int .u32 v] rfl rfl (new1 _ _ _) (by intro u h; simp at h; subst h; rfl) (Bk3.alloc s3 _) (by omega) (by simp; omega) ?_; intro A4 c4 w4 O4 hB4 _ hz4))
        exact ⟨⟨k + 1, t + 4, A4, c4, by have := htk.out; have := HM4.out; omega, by have := htk.out; unfold Hid; omega, by have := htk.out; omega, by go_num, rfl, by rw [HV.out]; exact O4, hB4⟩, by simp [intOf]; omega⟩
      · have hti : ¬ (t : Int) < m1 := by omega
        have hkm : Hid (m1 / 4 = k) := by have := htk.out; unfold Hid; omega
        go_wp2_with fail
        go_ret
        exact ⟨Ak, k, ck, rfl, by rw [HE.out, hkm.out]; exact Ok.mono R2.size, below_then R2 Bk⟩
def optsAt (l : List UInt8) (t : Nat) (os : List Opt) : Prop := optsP l = (optsP (l.drop t)).map (os ++ ·)
theorem optsAt_0 (l : List UInt8) : optsAt l 0 [] := by
  unfold optsAt
  rw [List.drop_zero]
  cases optsP l <;> simp
theorem optsAt_none {l : List UInt8} {t : Nat} {os : List Opt} (h : optsAt l t os) (hn : nx (l.drop t) = none) : optsP l = none := by rw [h, optsP_none hn]; rfl
theorem optsAt_end {l : List UInt8} {t : Nat} {os : List Opt} (h : optsAt l t os) (hn : nx (l.drop t) = some none) : optsP l = some os := by rw [h, optsP_end hn]; simp
theorem optsAt_some {l : List UInt8} {t : Nat} {os : List Opt} {o : Opt} {n : Nat} (h : optsAt l t os) (hn : nx (l.drop t) = some (some (o, n))) : optsAt l (t + n) (os ++ [o]) := by
  unfold optsAt at *
  rw [h, optsP_some hn, List.drop_drop]
  cases optsP (l.drop (t + n)) <;> simp
theorem nx_ways (l : List UInt8) (t : Nat) (ht : t < l.length) :
    ((bt l t == 0) = true ∧ nx (l.drop t) = if allZ (l.drop t) then some none else none) ∨
    ((bt l t == 0) = false ∧ (bt l t == 1) = true ∧ nx (l.drop t) = some (some (⟨1, []⟩, 1))) ∨
    ((bt l t == 0) = false ∧ (bt l t == 1) = false ∧ ((l.length : Int) ≤ (t : Int) + 1 ∨ ((t : Int) + 1 < l.length ∧ (bt l (t + 1) < 2 ∨ (2 ≤ bt l (t + 1) ∧ (l.length : Int) < t + bt l (t + 1))))) ∧ nx (l.drop t) = none) ∨
    ((bt l t == 0) = false ∧ (bt l t == 1) = false ∧ (t : Int) + 1 < l.length ∧ 2 ≤ bt l (t + 1) ∧ (t : Int) + bt l (t + 1) ≤ l.length ∧ nx (l.drop t) = some (some (⟨bt l t, ((l.drop t).take (bt l (t + 1)).toNat).drop 2⟩, (bt l (t + 1)).toNat))) := by
  have h0 : bt (l.drop t) 0 = bt l t := by simp [bt]
  have h1 : bt (l.drop t) 1 = bt l (t + 1) := by simp [bt]
  have hl : (l.drop t).length = l.length - t := List.length_drop
  unfold nx
  rw [h0, h1, hl, if_neg (by omega)]
  by_cases c0 : bt l t = 0
  · left; simp [c0]
  · by_cases c1 : bt l t = 1
    · right; left; simp [c1]
    · right; right
      by_cases c2 : l.length - t < 2 ∨ bt l (t + 1) < 2 ∨ ((l.length - t : Nat) : Int) < bt l (t + 1)
      · left
        refine ⟨by simpa using c0, by simpa using c1, by omega, ?_⟩
        rw [if_neg c0, if_neg c1, if_pos c2]
      · right
        refine ⟨by simpa using c0, by simpa using c1, by omega, by omega, by omega, ?_⟩
        rw [if_neg c0, if_neg c1, if_neg c2]
end Go.Proofs.Ytjjhnjkmoogloaa
namespace Go.Proofs.Ytjjhnjkmoogloaa
open Go.RowKit Go.Shelf
set_option linter.unusedVariables false
set_option linter.unusedSimpArgs false
structure Loops (D : Nat) (r : Loop) (j : Option Code) (W : World) : Prop where
  loop : W.heap[D + 1]? = some (.loop { r with state := if j.isNone then .ready else .done, pending := j })
  defers : W.heap[D]? = some (.deferred (some []))
theorem Loops.keep {D : Nat} {r : Loop} {j : Option Code} {W W' : World} (h : Loops D r j W) (hk : KeepsFrom D W W') : Loops D r j W' :=
  ⟨hk.same _ _ (by omega) h.loop rfl, hk.same _ _ (Nat.le_refl _) h.defers rfl⟩
theorem keeps_setCell {B : Nat} (W : World) (p : Addr) (u : Value) : KeepsFrom B W (W.setCell p u) := (KeepsOthers.setCell W p u).from B
theorem keeps_alloc {B : Nat} (W : World) (o : Obj) : KeepsFrom B W (W.alloc o) := (KeepsOthers.alloc W o).from B
theorem keeps_below {B : Nat} {W W' : World} (h : Below W.heap.size W W') : KeepsFrom B W W' :=
  ⟨h.size, fun k o _ hk _ => (h.block k (Array.getElem?_eq_some_iff.1 hk).1).trans hk⟩
theorem below_putObj {B : Nat} {a W : World} (h : Below B a W) {l : Nat} (hl : B ≤ l) (o : Obj) : Below B a (W.putObj l o) :=
  h.trans ⟨rfl, rfl, rfl, by simp, fun k hk => World.putObj_heap_other (by omega)⟩
theorem cell_putObj {W : World} {l : Nat} {p : Addr} (h : p.block ≠ l) (o : Obj) : (W.putObj l o).cell? p = W.cell? p := World.cell?_of_block (World.putObj_heap_other h)
theorem frozen_putObj {W : World} {l : Nat} {p : Addr} (h : p.block ≠ l) (o : Obj) : (W.putObj l o).frozen? p = W.frozen? p := World.frozen?_of_block (World.putObj_heap_other h)
def roundEnd {β : Type} (D : Nat) (I : β → World → Prop) (Ix : Code → β → World → Prop) (s : β) (W : World) : Exit → Act → World → Prop
  | .normal, _, W' => KeepsFrom D W W' ∧ I s W'
  | .ret, _, W' => KeepsFrom D W W' ∧ Ix .ret s W'
  | .exit id, _, W' => KeepsFrom D W W' ∧ Ix (.exit id) s W'
  | .goto t, _, W' => KeepsFrom D W W' ∧ Ix (.goto t) s W'
  | .panic _, _, _ => False
  | .outgrown, _, _ => False
def iterEnd {β : Type} (S : β → Prop) (I : β → World → Prop) (Ix : Code → β → World → Prop) (R : World → Prop) (Rx : Code → World → Prop) (e : Ending) (W' : World) : Prop :=
  (∃ v, e = .returned v) ∧ ((∃ s, S s ∧ I s W' ∧ R W') ∨ ∃ c s, Ix c s W' ∧ Rx c W')
def roundSaid {β : Type} (next : β) (I : β → World → Prop) (Ix : Code → β → World → Prop) (R : World → Prop) (Rx : Code → World → Prop) (e : Ending) (W' : World) : Prop :=
  (e = .returned (.bool true) ∧ I next W' ∧ R W') ∨ (e = .returned (.bool false) ∧ ∃ c, Ix c next W' ∧ Rx c W')
theorem range_law {α β : Type} {F : Fence} {n : Nat} {P : Program} {g : Operand} {ps : Array Tmp} {assign body : Code} {Q : Exit → Act → World → Prop} {a : Act} {w : World}
    (hro : F.round = none) (h1 : 1 ≤ n) {gf : Nat} {lb : Array Value} (hg : a.eval g = .func (.func gf) #[] lb) (hFg : F.fn gf) (eg : ∀ args w, (callFunc gf args).run P w = .ok (.enter gf args) w)
    (encs : α → Array Value) (hps : ∀ x, (encs x).size = ps.size) (step : β → α → β) (s0 : β) (S : β → Prop)
    (I : β → World → Prop) (Ix : Code → β → World → Prop)
    (hI : ∀ s W o, I s W → I s (W.putObj (w.heap.size + 1) o)) (hIx : ∀ c s W o, Ix c s W → Ix c s (W.putObj (w.heap.size + 1) o))
    (h0 : ∀ o o', I s0 ((w.alloc o).alloc o')) (a₁ : α → Act)
    (hassign : ∀ (x : α) (W : World) (K : Act → World → Prop), K (a₁ x) W →
      assign.wpIn (F.inRound (w.heap.size + 1)) (n - 1 - 1) P (Exit.then K (fun _ _ _ => False)) { tmps := (ps.zip (encs x)).foldl (fun t (p, v) => t.setIfInBounds p v) a.tmps, defers := [] } W)
    (ok : β → α → Prop)
    (hbody : ∀ (s : β) (x : α) (W : World), ok s x → I s W → w.heap.size + 2 ≤ W.heap.size → body.wpIn (F.inRound (w.heap.size + 1)) (n - 1 - 1) P (roundEnd w.heap.size I Ix (step s x) W) (a₁ x) W)
    (hiter : ∀ (R : World → Prop) (Rx : Code → World → Prop) (W1 : World), (∀ W W', R W → KeepsFrom w.heap.size W W' → R W') → (∀ W, R W → w.heap.size + 2 ≤ W.heap.size) →
      (∀ s x W, ok s x → I s W → R W → YieldAt F (n - 1 - 1) P (w.heap.size + 1) (encs x) W (roundSaid (step s x) I Ix R Rx)) →
      I s0 W1 → R W1 → w.heap.size + 2 = W1.heap.size → CallsIn F (n - 1) P gf (#[.func (.yield (w.heap.size + 1)) #[] #[]] ++ lb) W1 (iterEnd S I Ix R Rx))
    (hdone : ∀ (s : β) (W : World), S s → I s W → W.heap[w.heap.size]? = some (.deferred (some [])) → Q .normal { a with defers := { target := .collected w.heap.size, args := #[] } :: a.defers } W)
    (hstop : ∀ (c : Code) (s : β) (W : World), Ix c s W → W.heap[w.heap.size]? = some (.deferred (some [])) → c.wpIn F n P Q { a with defers := { target := .collected w.heap.size, args := #[] } :: a.defers } W) :
    (Code.rangeFunc g ps assign body).wpIn F n P Q a w := by
  refine wpIn_rangeFunc fun fn hfn => ?_
  rw [hro]
  obtain ⟨D, hD⟩ : ∃ D, w.heap.size = D := ⟨_, rfl⟩
  obtain ⟨r, hr⟩ : ∃ r : Loop, ({ state := .ready, pending := none, fn, tmps := a.tmps, params := ps, assign, body, defers := D } : Loop) = r := ⟨_, rfl⟩
  have hrun := run_enterLoop_outer (P := P) (w := w) fn a.tmps ps assign body
  rw [hD] at hrun hI hIx hbody hiter hdone hstop hassign
  rw [hr] at hrun
  have hready : ({ r with state := if (none : Option Code).isNone then .ready else .done, pending := none } : Loop) = r := by rw [← hr]; rfl
  obtain ⟨W1, hW1⟩ : ∃ W1, (w.alloc (.deferred (some []))).alloc (.loop r) = W1 := ⟨_, rfl⟩
  have hsz : D + 2 = W1.heap.size := by rw [← hW1, ← hD]; simp
  have hL1 : Loops D r none W1 := by
    refine ⟨?_, ?_⟩
    · rw [hready, ← hW1]
      have := World.alloc_heap_new (w.alloc (.deferred (some []))) (.loop r)
      rwa [World.size_alloc, hD] at this
    · rw [← hW1, ← hD]
      exact (Below.heap_alloc _ _ _ (by simp)).trans (World.alloc_heap_new w _)
  rw [hW1] at hrun
  refine ⟨D + 1, _, W1, { target := .fn (.func gf) lb, args := #[.func (.yield (D + 1)) #[] #[]] }, W1, gf, #[.func (.yield (D + 1)) #[] #[]] ++ lb, W1, hrun, ?_, ?_, ?_, fun _ => h1, ?_⟩
  · simp only [resolve, hg]
    simp [go_sem]
  · intro f' hf'
    simp [Target.leads] at hf'
    subst hf'
    exact hFg
  · simp [invoke, go_sem, eg]
  refine (hiter (Loops D r none) (fun c W => Loops D r (some c) W) W1 (fun W W' h hk => h.keep hk) (fun W h => (Array.getElem?_eq_some_iff.1 h.loop).1) ?_ (by rw [← hW1]; exact h0 _ _) hL1 hsz).mono ?_
  · intro s x W hok hi hl
    have hl0 := hl.loop
    rw [hready] at hl0
    have hlt : D + 1 < W.heap.size := (Array.getElem?_eq_some_iff.1 hl0).1
    have hpar : r.params = ps := by rw [← hr]
    have hy := run_yield (P := P) (args := encs x) hl0 (by rw [hpar]; exact hps x)
    obtain ⟨W2, hW2⟩ : ∃ W2, W.putObj (D + 1) (.loop { r with state := .busy }) = W2 := ⟨_, rfl⟩
    have hb2 : W2.heap[D + 1]? = some (.loop { r with state := .busy }) := by rw [← hW2]; exact World.putObj_heap_same hlt
    have hd2 : W2.heap[D]? = some (.deferred (some [])) := by rw [← hW2]; exact (World.putObj_heap_other (by omega)).trans hl.defers
    have hs2 : D + 2 ≤ W2.heap.size := (Array.getElem?_eq_some_iff.1 hb2).1
    have hi2 : I s W2 := by rw [← hW2]; exact hI _ _ _ hi
    have hend : ∀ (j : Option Code) (W3 : World), KeepsFrom D W2 W3 → (Instr.endRound (D + 1) j).run P W3 = .ok (.bool j.isNone) (W3.putObj (D + 1) (.loop { r with state := if j.isNone then .ready else .done, pending := j })) ∧ Loops D r j (W3.putObj (D + 1) (.loop { r with state := if j.isNone then .ready else .done, pending := j })) := by
      intro j W3 hk
      have hb3 := hk.same _ _ (by omega) hb2 rfl
      have hd3 := hk.same _ _ (Nat.le_refl _) hd2 rfl
      have he := run_endRound (P := P) j hb3
      exact ⟨he, World.putObj_heap_same (Array.getElem?_eq_some_iff.1 hb3).1, (World.putObj_heap_other (by omega)).trans hd3⟩
    refine ⟨r.fn, _, r.assign, r.body, hy, ?_⟩
    have e1 : r.fn = fn := by rw [← hr]
    have e2 : r.assign = assign := by rw [← hr]
    have e3 : r.body = body := by rw [← hr]
    have e4 : r.tmps = a.tmps := by rw [← hr]
    rw [e1, e2, e3, hpar, e4]
    refine roundIn_of_wpIn hfn (hassign x W _ ⟨W2, ?_, ?_⟩)
    · rw [← hW2]
      exact run_beginRound hl0 (by rw [← hr])
    refine wpIn_mono (hbody s x W2 hok hi2 hs2) ?_
    intro e a3 W3 hp
    cases e with
    | normal =>
      obtain ⟨hk, hi3⟩ := hp
      obtain ⟨hr3, hl3⟩ := hend none W3 hk
      exact ⟨_, _, hr3, .inl ⟨rfl, hI _ _ _ hi3, hl3⟩⟩
    | ret =>
      obtain ⟨hk, hi3⟩ := hp
      obtain ⟨hr3, hl3⟩ := hend (some .ret) W3 hk
      exact ⟨_, _, hr3, .inr ⟨rfl, .ret, hIx _ _ _ _ hi3, hl3⟩⟩
    | exit id =>
      obtain ⟨hk, hi3⟩ := hp
      obtain ⟨hr3, hl3⟩ := hend (some (.exit id)) W3 hk
      exact ⟨_, _, hr3, .inr ⟨rfl, .exit id, hIx _ _ _ _ hi3, hl3⟩⟩
    | goto t =>
      obtain ⟨hk, hi3⟩ := hp
      obtain ⟨hr3, hl3⟩ := hend (some (.goto t)) W3 hk
      exact ⟨_, _, hr3, .inr ⟨rfl, .goto t, hIx _ _ _ _ hi3, hl3⟩⟩
    | panic ch => exact hp.elim
    | outgrown => exact hp.elim
  · rintro e W2 ⟨⟨v, rfl⟩, ⟨s, hS, hi, hl⟩ | ⟨c, s, hi, hl⟩⟩
    · have h2 := run_endLoop (P := P) hl.loop (by simp)
      exact ⟨none, _, h2, hdone s _ hS (hI _ _ _ hi) ((World.putObj_heap_other (by omega)).trans hl.defers)⟩
    · have h2 := run_endLoop (P := P) hl.loop (by simp)
      exact ⟨some c, _, h2, hstop c s _ (hIx _ _ _ _ hi) ((World.putObj_heap_other (by omega)).trans hl.defers)⟩
attribute [local go_sem] Oper.semAt_some
set_option linter.unusedVariables false
set_option maxRecDepth 100000
def leftIn (B : Nat) (W : World) : Nat := match W.cell? ⟨B, 0, none⟩ with
  | some (.slice _ n _) => n
  | _ => 0
theorem leftIn_eq {B : Nat} {W : World} {A : Option Addr} {n c : Nat} (h : W.cell? ⟨B, 0, none⟩ = some (.slice A n c)) : leftIn B W = n := by simp [leftIn, h]
def SumI (w : World) (B : Nat) (C : Nat → World → Prop) (s : Nat × Value) (W : World) : Prop :=
  C s.1 W ∧ W.cell? ⟨B, 0, none⟩ = some s.2 ∧ W.frozen? ⟨B, 0, none⟩ = false ∧ Below w.heap.size w W
def SumOk (w : World) (l : List UInt8) (n : Nat) (s : Nat × Value) (x : Int) : Prop :=
  x = wd l s.1 ∧ 2 * s.1 < n
theorem bt_drop (l : List UInt8) (k i : Nat) : bt (l.drop k) i = bt l (k + i) := by
  unfold bt
  simp [List.getD_eq_getElem?_getD, List.getElem?_drop]
set_option maxHeartbeats 1000000 in
theorem words1_in (D B : Nat) (w : World) (l : List UInt8) (n : Nat) (hl : l.length = n) (hB : w.heap.size ≤ B) (hBD : B < D) (hn : n ≤ 200000000000000) (C : Nat → World → Prop) (R : World → Prop) (Rx : Code → World → Prop)
    (hC : ∀ k W u, C k W → C k (W.setCell ⟨B, 0, none⟩ u)) (hR : ∀ W W', R W → KeepsFrom D W W' → R W')
    (hY : ∀ s x W, SumOk w l n s x → SumI w B C s W → R W → YieldAt Fence.wide 1 Try.prog (D + 1) #[.int .u32 x] W (roundSaid (s.1 + 1, s.2) (SumI w B C) (fun _ _ _ => False) R Rx)) (W1 : World) (A0 : Option Addr) (c0 : Nat)
    (hb0 : Bs w A0 n c0 l) (h0 : SumI w B C (0, .slice A0 n c0) W1) (hR0 : R W1) :
    CallsIn Fence.wide 2 Try.prog 87 (#[.func (.yield (D + 1)) #[] #[]] ++ #[.pointer (some ⟨B, 0, none⟩)]) W1 (iterEnd (fun s => n ≤ 2 * s.1 ∧ 2 * s.1 ≤ n + 1) (SumI w B C) (fun _ _ _ => False) R Rx) := by
  obtain ⟨i8, hi8, _, hs8, _⟩ := info_parts info_u8
  refine callsIn_of_wp Try.func87 rfl trivial ?_ rfl
  simp only [Try.ntmps87, List.size_toArray, List.length_cons, List.length_nil, Nat.reduceAdd, Nat.reduceSub, Array.replicate_succ, Array.replicate_zero, List.push_toArray, List.append_toArray, List.nil_append, List.cons_append]
  gi_wp2
  gi_loopw [3] (fun _ wr => ∃ k A m c, m + 2 * k = max n (2 * k) ∧ 2 * k ≤ n + 1 ∧ Bs w A m c (l.drop (2 * k)) ∧ SumI w B C (k, .slice A m c) wr ∧ R wr) (fun _ wr => leftIn B wr)
  case atStart => exact ⟨0, A0, n, c0, by omega, by omega, by simpa using hb0, h0, hR0⟩
  case round =>
    obtain ⟨k, A, m, c, hm, hk, hb, hi, hr⟩ := hrel
    have hi' := hi
    obtain ⟨hc, hcell, hfz, hbel⟩ := hi
    have hlf := leftIn_eq hcell
    dsimp only at hcell hc
    by_cases h2 : 2 * k < n
    · have hm0 : 0 < m := by omega
      have hbr := hb.below hbel
      obtain ⟨b, off, rfl, hcs⟩ := hbr.rd hm0
      have g0 := hcs 0 hm0
      rw [bt_drop, Nat.add_zero, Nat.add_zero] at g0
      have b0 := bt_lo l (2 * k)
      have b0' := bt_hi l (2 * k)
      have b1 := bt_lo l (2 * k + 1)
      have b1' := bt_hi l (2 * k + 1)
      have hcap := hb.cap
      by_cases h3 : 1 < m
      · have g1 := hcs 1 h3
        rw [bt_drop] at g1
        have hor := or_u32b b0 b0' b1 b1'
        obtain ⟨fn, tmps, assign, body, hy, hR2⟩ := hY (k, _) (bt l (2 * k) * 256 + bt l (2 * k + 1)) wr ⟨rfl, h2⟩ hi' hr
        have hcut : ∀ W, (Instr.slice 24 (.slice (some ⟨b, off, none⟩) m c) (some (.int .i64 2)) none none).run Try.prog W = _ := fun W => cut_l Try.underlying24 hi8 hs8 (some ⟨b, off, none⟩) m c .i64 2 (by omega) (by omega) W
        obtain ⟨A', n', c', eA, en, ec, hb2⟩ := hb.cutE (lo := 2) (hi := m) (by omega) (Nat.le_refl _)
        simp only [show (2 : Int).toNat = 2 from rfl, eA, en, ec] at hcut
        have hb3 : Bs w A' n' c' (l.drop (2 * (k + 1))) := by
          rw [List.take_of_length_le (by rw [hb.len]; exact Nat.le_refl _), List.drop_drop] at hb2
          exact hb2
        have en1 : n' + 2 = m := by omega
        have en2 : m ≤ n' + 2 := by omega
        have en3 : n' + 2 ≤ m := by omega
        clear eA en ec hb2 hcs en1 hm
        have HM : Hid (m + 2 * k = n) := by unfold Hid; have := hb.len; simp at this; omega
        clear hlf
        gi_wp2
        refine hR2.mono ?_
        rintro e W2 (⟨rfl, ⟨hc2, hcell2, hfz2, hbel2⟩, hr2⟩ | ⟨_, _, hx, _⟩)
        · dsimp only at hcell2 hc2
          gi_wp2
          go_roundw
          case rel => exact ⟨k + 1, A', n', c', by have := HM.out; omega, by omega, hb3, ⟨hC _ _ _ hc2, by rw [World.cell?_setCell_same' _ _ _ (by rw [hcell2]; rfl)], by rw [World.frozen?_setCell]; exact hfz2, hbel2.setCell (p := ⟨B, 0, none⟩) hB _⟩, hR _ _ hr2 (keeps_setCell _ _ _)⟩
          case measure => rw [leftIn_eq (World.cell?_setCell_same' W2 _ _ (by rw [hcell2]; rfl)), leftIn_eq hcell]; omega
        · exact hx.elim
      · have hm1 : m ≤ 1 := by omega
        have hwd : wd l k = bt l (2 * k) * 256 := wd_odd (by have := hb.len; simp at this; omega)
        obtain ⟨fn, tmps, assign, body, hy, hR2⟩ := hY (k, _) (bt l (2 * k) * 256) wr ⟨hwd.symm, h2⟩ hi' hr
        obtain rfl : m = 1 := by omega
        have hcut : ∀ W, (Instr.slice 24 (.slice (some ⟨b, off, none⟩) 1 c) (some (.int .i64 1)) none none).run Try.prog W = _ := fun W => cut_l Try.underlying24 hi8 hs8 (some ⟨b, off, none⟩) 1 c .i64 1 (by omega) (by omega) W
        obtain ⟨A', n', c', eA, en, ec, hb2⟩ := hb.cutE (lo := 1) (hi := 1) (by omega) (Nat.le_refl _)
        simp only [show (1 : Int).toNat = 1 from rfl, eA, en, ec] at hcut
        have hb3 : Bs w A' n' c' (l.drop (2 * (k + 1))) := by
          have e : (List.take 1 (l.drop (2 * k))).drop 1 = l.drop (2 * (k + 1)) := by
            have h4 := hb.len
            simp only [List.length_drop] at h4
            rw [List.drop_eq_nil_of_le (by simp; omega), List.drop_eq_nil_of_le (by omega)]
          rw [e] at hb2
          exact hb2
        have en1 : n' ≤ 0 := by omega
        have HM : Hid (1 + 2 * k = n) := by unfold Hid; have := hb.len; simp at this; omega
        clear eA en ec hb2 hcs hm hlf hwd
        gi_wp2
        refine hR2.mono ?_
        rintro e W2 (⟨rfl, ⟨hc2, hcell2, hfz2, hbel2⟩, hr2⟩ | ⟨_, _, hx, _⟩)
        · dsimp only at hcell2 hc2
          gi_wp2
          go_roundw
          case rel => exact ⟨k + 1, A', n', c', by have := HM.out; omega, by have := HM.out; omega, hb3, ⟨hC _ _ _ hc2, by rw [World.cell?_setCell_same' _ _ _ (by rw [hcell2]; rfl)], by rw [World.frozen?_setCell]; exact hfz2, hbel2.setCell (p := ⟨B, 0, none⟩) hB _⟩, hR _ _ hr2 (keeps_setCell _ _ _)⟩
          case measure => rw [leftIn_eq (World.cell?_setCell_same' W2 _ _ (by rw [hcell2]; rfl)), leftIn_eq hcell]; omega
        · exact hx.elim
    · have hm0 : m ≤ 0 := by omega
      have hm1 : ¬ (0 : Int) < m := by omega
      clear hlf hm
      gi_wp2
      go_end0
      exact ⟨⟨_, rfl⟩, .inl ⟨(k, _), ⟨by omega, hk⟩, hi', hr⟩⟩
set_option maxHeartbeats 1000000 in
theorem words_any (A : Option Addr) (n c : Nat) (w : World) :
    Calls Try.prog 80 #[.slice A n c] w fun e w' => e = .returned (.func (.func 87) #[] #[.pointer (some ⟨w.heap.size, 0, none⟩)]) ∧ w' = w.alloc (.cells #[.slice A n c] 24) := by
  have hmf : ∀ (fn : Fn) (first cap : Array Value) (w : World), (Instr.makeFunc fn first cap).run Try.prog w = .ok (.func fn first cap) w := fun _ _ _ _ => rfl
  go_enter Try.func80, Try.ntmps80
  go_wp2
  go_ret
  exact ⟨rfl, rfl⟩
set_option maxHeartbeats 1000000 in
theorem sum_any (A : Option Addr) (n c : Nat) (l : List UInt8) (w : World) (hb : Bs w A n c l) :
    Calls Try.prog 65 #[.slice A n c] w fun e w' => e = .returned (.int .u16 (csum l)) ∧ Below w.heap.size w w' := by
  refine (callsIn_wide (n := 3)).1 ?_
  refine callsIn_of_wp_marks Try.func65 rfl trivial ?_ rfl
  simp only [Try.ntmps65, List.size_toArray, List.length_cons, List.length_nil, Nat.reduceAdd, Nat.reduceSub, Array.replicate_succ, Array.replicate_zero, List.push_toArray, List.append_toArray, List.nil_append, List.cons_append]
  gi_wp2_with (refine ⟨trivial, ?_⟩; gi_at_call 80; refine (callsIn_wide.2 (words_any A n c _)).mono ?_; rintro e w' ⟨rfl, rfl⟩)
  obtain ⟨W0, hW0⟩ : ∃ W0, ((w.alloc (Obj.cells #[Value.int IntKind.u64 0] 109)).alloc (Obj.cells #[Value.slice A n c] 24)) = W0 := ⟨_, rfl⟩
  have hsz : W0.heap.size = w.heap.size + 2 := by rw [← hW0]; simp
  have hbel : Below w.heap.size w W0 := by rw [← hW0]; exact ((Below.refl _ w).alloc (Nat.le_refl _) _).alloc (by simp) _
  have hn1 : W0.cell? ⟨w.heap.size, 0, none⟩ = some (.int .u64 0) := by rw [← hW0]; simp [go_sem]
  have hn2 : W0.frozen? ⟨w.heap.size, 0, none⟩ = false := by rw [← hW0]; simp [go_sem]
  have hn3 : W0.cell? ⟨w.heap.size + 1, 0, none⟩ = some (.slice A n c) := by rw [← hW0]; simp [go_sem]
  have hn4 : W0.frozen? ⟨w.heap.size + 1, 0, none⟩ = false := by rw [← hW0]; simp [go_sem]
  rw [hW0]
  clear hW0
  have hmax := hb.max
  have hlen := Lib.hid hb.len
  have hC : ∀ (k : Nat) (W : World) (u : Value), (W.cell? ⟨w.heap.size, 0, none⟩ = some (.int .u64 (wsK l k)) ∧ W.frozen? ⟨w.heap.size, 0, none⟩ = false) → ((W.setCell ⟨w.heap.size + 1, 0, none⟩ u).cell? ⟨w.heap.size, 0, none⟩ = some (.int .u64 (wsK l k)) ∧ (W.setCell ⟨w.heap.size + 1, 0, none⟩ u).frozen? ⟨w.heap.size, 0, none⟩ = false) := by
    rintro k W u ⟨h1, h2⟩
    exact ⟨by rw [World.cell?_setCell_other _ _ _ _ (by simp)]; exact h1, by rw [World.frozen?_setCell]; exact h2⟩
  refine range_law rfl (by omega) (gf := 87) (lb := #[.pointer (some ⟨w.heap.size + 1, 0, none⟩)]) rfl trivial (enters_of Try.func87 (by kernel_rfl) rfl)
    (fun x : Int => #[.int .u32 x]) (fun _ => rfl) (fun s _ => (s.1 + 1, s.2)) (0, .slice A n c) (fun s => n ≤ 2 * s.1 ∧ 2 * s.1 ≤ n + 1)
    (SumI w (w.heap.size + 1) fun k W => W.cell? ⟨w.heap.size, 0, none⟩ = some (.int .u64 (wsK l k)) ∧ W.frozen? ⟨w.heap.size, 0, none⟩ = false) (fun _ _ _ => False)
    ?hI (fun _ _ _ _ h => h) ?h0
    (fun x => { tmps := #[.slice A n c, undef, .int .u16 0, .pointer (some ⟨w.heap.size, 0, none⟩), .int .u32 x, .slice A n c, .func (.func 87) #[] #[.pointer (some ⟨w.heap.size + 1, 0, none⟩)], .int .u32 x, undef, undef, undef, undef, undef, undef, undef], defers := [] })
    ?assign (SumOk w l n) ?body ?iter ?done (fun _ _ _ h => h.elim)
  case hI =>
    rintro s W o ⟨⟨h1, h2⟩, h3, h4, h5⟩
    rw [hsz]
    exact ⟨⟨by rw [cell_putObj (by show w.heap.size ≠ _; omega)]; exact h1, by rw [frozen_putObj (by show w.heap.size ≠ _; omega)]; exact h2⟩, by rw [cell_putObj (by show w.heap.size + 1 ≠ _; omega)]; exact h3, by rw [frozen_putObj (by show w.heap.size + 1 ≠ _; omega)]; exact h4, below_putObj h5 (by omega) _⟩
  case h0 =>
    intro o o'
    have hb' : Below W0.heap.size W0 ((W0.alloc o).alloc o') := ((Below.refl _ W0).alloc (Nat.le_refl _) _).alloc (by simp) _
    exact ⟨⟨(hb'.cell (p := ⟨w.heap.size, 0, none⟩) (by show w.heap.size < _; omega)).trans hn1, (hb'.frozen (p := ⟨w.heap.size, 0, none⟩) (by show w.heap.size < _; omega)).trans hn2⟩,
      (hb'.cell (p := ⟨w.heap.size + 1, 0, none⟩) (by show w.heap.size + 1 < _; omega)).trans hn3, (hb'.frozen (p := ⟨w.heap.size + 1, 0, none⟩) (by show w.heap.size + 1 < _; omega)).trans hn4, hbel.trans (hb'.mono (by omega))⟩
  case assign =>
    intro x W K hK
    gi_wp2
    exact hK
  case body =>
    rintro s x W ⟨rfl, hk⟩ ⟨⟨h1, h2⟩, h3, h4, h5⟩ hz
    have y0 := wd_lo l s.1
    have y1 := wd_hi l s.1
    have x0 := wsK_lo l s.1
    have x1 := wsK_hi l s.1
    gi_wp2
    exact ⟨keeps_setCell _ _ _, ⟨World.cell?_setCell_same' _ _ _ (by rw [h1]; rfl), by rw [World.frozen?_setCell]; exact h2⟩, by rw [World.cell?_setCell_other _ _ _ _ (by simp)]; exact h3, by rw [World.frozen?_setCell]; exact h4, h5.setCell (p := ⟨w.heap.size, 0, none⟩) (Nat.le_refl _) _⟩
  case iter =>
    intro R Rx W1 hRk hRs hY h0 hR0 hz
    exact words1_in W0.heap.size (w.heap.size + 1) w l n hlen.out (by omega) (by omega) hmax _ R Rx hC hRk (fun s x W => hY s x W) W1 A c hb h0 hR0
  case done =>
    rintro s W ⟨hs1, hs2⟩ ⟨⟨h1, h2⟩, h3, h4, h5⟩ hK
    obtain ⟨k, v⟩ := s
    dsimp only at hs1 hs2 h1 h3
    have HW : Hid (65535 - fd (wsK l k) = csum l) := by
      unfold Hid csum ws
      rw [hlen.out, show (n + 1) / 2 = k from by omega]
    have x0 := wsK_lo l k
    have x1 := wsK_hi l k
    have hsg : IntKind.u16.signed = false := rfl
    have x3 := not_u16 (fd_lo (wsK l k)) (fd_hi _)
    gi_wp2_with (refine ⟨trivial, ?_⟩; gi_at_call 81; refine (callsIn_wide.2 (fold_any _ x0 (by omega) _)).mono ?_; rintro e w' ⟨rfl, rfl⟩)
    rw [hsz] at hK
    refine ⟨by simp, .inl ⟨_, _, rfl, run_takeDeferred hK, ?_⟩⟩
    refine ⟨_, results_tmp rfl _ _ _, ?_, below_putObj h5 (by omega) _⟩
    exact congrArg (fun z => Ending.returned (.int .u16 z)) HW.out
theorem good_any (A : Option Addr) (n c : Nat) (l : List UInt8) (w : World) (hb : Bs w A n c l) :
    Calls Try.prog 67 #[.slice A n c] w fun e w' => e = .returned (.bool (csum l == 0)) ∧ Below w.heap.size w w' := by
  go_enter Try.func67, Try.ntmps67
  go_wp2_with (go_at_call 65; refine (sum_any _ _ _ l _ hb).mono ?_; rintro e w1 ⟨rfl, hB⟩)
  go_ret
  exact ⟨rfl, hB⟩
end Go.Proofs.Ytjjhnjkmoogloaa
namespace Go.Proofs.Ytjjhnjkmoogloaa
open Go.RowKit Go.Shelf
set_option linter.unusedVariables false
set_option linter.unusedSimpArgs false
attribute [local go_sem] Oper.semAt_some
set_option linter.unusedVariables false
set_option linter.unusedSimpArgs false
set_option maxHeartbeats 4000000
set_option maxRecDepth 100000
theorem split2_any (x : Int) (w : World) : Calls Try.prog 71 #[.int .u8 x] w fun e w' => e = .returned (.bool (x != 0)) ∧ w' = w := by
  go_enter Try.func71, Try.ntmps71
  go_wp2
  go_ret
  exact ⟨rfl, rfl⟩
theorem allZ_at {l : List UInt8} {j : Nat} (h : j < l.length) (hx : bt l j ≠ 0) : allZ l = false := by
  unfold allZ
  rw [List.all_eq_false]
  refine ⟨l[j], List.getElem_mem h, ?_⟩
  intro e
  simp only [beq_iff_eq] at e
  apply hx
  unfold bt
  rw [List.getD_eq_getElem?_getD, List.getElem?_eq_getElem h, Option.getD_some, e]
  rfl
theorem allZ_all {l : List UInt8} (h : ∀ j, j < l.length → bt l j = 0) : allZ l = true := by
  unfold allZ
  rw [List.all_eq_true]
  intro x hx
  obtain ⟨j, hj, rfl⟩ := List.mem_iff_getElem.1 hx
  have := h j hj
  unfold bt at this
  rw [List.getD_eq_getElem?_getD, List.getElem?_eq_getElem hj, Option.getD_some] at this
  simp only [beq_iff_eq]
  exact UInt8.toNat_inj.1 (by simpa using this)
theorem idxZ_any (A : Option Addr) (n c : Nat) (l : List UInt8) (w : World) (hb : Bs w A n c l) :
    Calls Try.prog 84 #[.slice A n c, .func (.func 71) #[] #[]] w fun e w' => (∃ r : Int, e = .returned (.int .i64 r) ∧ decide (0 ≤ r) = !allZ l) ∧ Below w.heap.size w w' := by
  have HL := Lib.hid hb.len
  have mx := hb.max
  go_enter Try.func84, Try.ntmps84
  go_wp2_with fail
  go_loopw [8] (fun i wr => ∃ j, j ≤ n ∧ i = .int .i64 (j : Nat) ∧ Below w.heap.size w wr ∧ Hid (∀ i, i < j → bt l i = 0)) (fun i _ => n - (intOf i).toNat)
  case atStart => exact ⟨0, by omega, rfl, Below.refl _ _, fun i hi => by omega⟩
  case round =>
    obtain ⟨j, hj, rfl, W0, Gj⟩ := hrel
    by_cases hlt : j < n
    · have hji : (j : Int) < n := by omega
      obtain ⟨b, off, rfl, hc⟩ := (hb.below W0).rd (by omega)
      have g0 := hc j hlt
      obtain ⟨x, hx⟩ : ∃ x, bt l j = x := ⟨_, rfl⟩
      rw [hx] at g0
      have HX := Lib.hid hx
      clear hc hx
      have hs := fun W => split2_any x W
      by_cases hq : x = 0
      · subst hq
        go_wp2_with (go_at_call 71; ((with_reducible refine (hs _).mono ?_); rintro e w4 ⟨rfl, rfl⟩))
        exact ⟨⟨j + 1, by omega, by go_num, W0, fun i hi => by
          by_cases e : i = j
          · rw [e]; exact HX.out
          · exact Gj.out i (by omega)⟩, by simp [intOf]; omega⟩
      · have hq2 : (x != 0) = true := by simpa using hq
        have hee : Hid (allZ l = false) := allZ_at (by rw [HL.out]; exact hlt) (by rw [HX.out]; exact hq)
        rw [hq2] at hs
        clear hq hq2
        go_wp2_with (go_at_call 71; ((with_reducible refine (hs _).mono ?_); rintro e w4 ⟨rfl, rfl⟩))
        go_ret
        exact ⟨⟨_, rfl, by rw [hee.out]; simp⟩, W0⟩
    · obtain rfl : j = n := by omega
      go_wp2_with fail
      have he : allZ l = true := allZ_all (fun i hi => Gj.out i (by rw [← HL.out]; exact hi))
      go_ret
      exact ⟨⟨_, rfl, by rw [he]; rfl⟩, W0⟩
theorem cont_any (A : Option Addr) (n c : Nat) (l : List UInt8) (w : World) (hb : Bs w A n c l) :
    Calls Try.prog 70 #[.slice A n c, .func (.func 71) #[] #[]] w fun e w' => e = .returned (.bool (!allZ l)) ∧ Below w.heap.size w w' := by
  go_enter Try.func70, Try.ntmps70
  go_wp2_with (go_at_call 84; ((with_reducible refine (idxZ_any A n c l _ hb).mono ?_); rintro e w4 ⟨⟨r, rfl, hr⟩, hB4⟩))
  go_ret
  exact ⟨rfl, hB4⟩
structure SpX where
  o : Opt
  A : Option Addr
  n : Nat
  c : Nat
  ok : Bool
structure SpS where
  os : List Opt
  v : Value
  pd : Option SpX
  bad : Bool
def spStep (s : SpS) (x : SpX) : SpS := ⟨if x.ok then s.os ++ [x.o] else s.os, s.v, none, !x.ok⟩
def encX (x : SpX) : Array Value := #[.agg #[.int .u8 x.o.kind, .slice x.A x.n x.c], .bool x.ok]
def SplI (w : World) (B : Nat) (C : List Opt → World → Prop) (s : SpS) (W : World) : Prop :=
  C s.os W ∧ W.cell? ⟨B, 0, none⟩ = some s.v ∧ W.frozen? ⟨B, 0, none⟩ = false ∧ Below w.heap.size w W ∧ s.bad = false ∧ ∀ x, s.pd = some x → x.ok = true → Own W w.heap.size 5 x.A x.n x.c x.o.dat
def SplOk (l : List UInt8) (s : SpS) (x : SpX) : Prop := s.pd = some x ∧ (x.ok = false → optsP l = none) ∧ (x.ok = true → s.os.length < l.length)
theorem SplI.below {w : World} {B : Nat} {C : List Opt → World → Prop} (hC : ∀ os W W', C os W → Below W.heap.size W W' → C os W') {s : SpS} {W W' : World} (h : SplI w B C s W) (hb : Below W.heap.size W W') : SplI w B C s W' := by
  obtain ⟨h1, h2, h3, h4, h5, h6⟩ := h
  have hlt := World.block_lt_of_cell? W _ h2
  exact ⟨hC _ _ _ h1 hb, (hb.cell hlt).trans h2, (hb.frozen hlt).trans h3, below_then h4 hb, h5, fun x hx ho => (h6 x hx ho).below hb⟩
theorem SplI.with_ {w : World} {B : Nat} {C : List Opt → World → Prop} {s : SpS} {W : World} (h : SplI w B C s W) (x : SpX) (hx : x.ok = true → Own W w.heap.size 5 x.A x.n x.c x.o.dat) : SplI w B C ⟨s.os, s.v, some x, s.bad⟩ W := by
  obtain ⟨h1, h2, h3, h4, h5, h6⟩ := h
  exact ⟨h1, h2, h3, h4, h5, fun y hy ho => by simp only [Option.some.injEq] at hy; subst hy; exact hx ho⟩
end Go.Proofs.Ytjjhnjkmoogloaa
namespace Go.Proofs.Ytjjhnjkmoogloaa
open Go.RowKit Go.Shelf
set_option linter.unusedVariables false
set_option linter.unusedSimpArgs false
attribute [local go_sem] Oper.semAt_some
set_option linter.unusedVariables false
set_option linter.unusedSimpArgs false
set_option maxHeartbeats 8000000
set_option maxRecDepth 100000
theorem roundBad {w : World} {B : Nat} {C : List Opt → World → Prop} {Ix : Code → SpS → World → Prop} {R : World → Prop} {Rx : Code → World → Prop} {s : SpS} {x : SpX} (hx : x.ok = false) {S : SpS → Prop} {e : Ending} {W : World}
    (h : roundSaid (spStep s x) (SplI w B C) Ix R Rx e W) : (∃ b, e = .returned (.bool b)) ∧ ∃ c s, Ix c s W ∧ Rx c W := by
  rcases h with ⟨rfl, ⟨_, _, _, _, hb, _⟩, _⟩ | ⟨rfl, c, h1, h2⟩
  · simp [spStep, hx] at hb
  · exact ⟨⟨_, rfl⟩, c, _, h1, h2⟩
theorem roundGood {w : World} {B : Nat} {C : List Opt → World → Prop} {Ix : Code → SpS → World → Prop} {R : World → Prop} {Rx : Code → World → Prop} (hIx : ∀ c s W, Ix c s W → s.bad = true) {s : SpS} {x : SpX} (hx : x.ok = true) {e : Ending} {W : World}
    (h : roundSaid (spStep s x) (SplI w B C) Ix R Rx e W) : e = .returned (.bool true) ∧ SplI w B C (spStep s x) W ∧ R W := by
  rcases h with h | ⟨_, c, h1, h2⟩
  · exact h
  · have := hIx _ _ _ h1
    simp [spStep, hx] at this
theorem wrap_i64 {x : Int} (h0 : 0 ≤ x) (h1 : x ≤ 255) : IntKind.i64.wrap x = x := by
  simp [IntKind.wrap, IntKind.signed, IntKind.bits]
  split <;> omega
theorem split1_in (D B : Nat) (w : World) (l : List UInt8) (n : Nat) (hl : l.length = n) (hB : w.heap.size ≤ B) (hBD : B < D) (hn : n ≤ 200000000000000) (C : List Opt → World → Prop) (Ix : Code → SpS → World → Prop) (R : World → Prop) (Rx : Code → World → Prop)
    (hC : ∀ os W W', C os W → Below W.heap.size W W' → C os W') (hCs : ∀ os W u, C os W → C os (W.setCell ⟨B, 0, none⟩ u)) (hIx : ∀ c s W, Ix c s W → s.bad = true) (hR : ∀ W W', R W → KeepsFrom D W W' → R W')
    (hY : ∀ s x W, SplOk l s x → SplI w B C s W → R W → YieldAt Fence.wide 1 Try.prog (D + 1) (encX x) W (roundSaid (spStep s x) (SplI w B C) Ix R Rx)) (W1 : World) (A0 : Option Addr) (c0 : Nat)
    (hb0 : Bs w A0 n c0 l) (h0 : SplI w B C ⟨[], .slice A0 n c0, none, false⟩ W1) (hR0 : R W1) :
    CallsIn Fence.wide 2 Try.prog 69 (#[.func (.yield (D + 1)) #[] #[]] ++ #[.pointer (some ⟨B, 0, none⟩)]) W1 (iterEnd (fun s => optsP l = some s.os) (SplI w B C) Ix R Rx) := by
  obtain ⟨i8, hi8, _, hs8, _⟩ := info_parts info_u8
  refine callsIn_of_wp Try.func69 rfl trivial ?_ rfl
  simp only [Try.ntmps69, List.size_toArray, List.length_cons, List.length_nil, Nat.reduceAdd, Nat.reduceSub, Array.replicate_succ, Array.replicate_zero, List.push_toArray, List.append_toArray, List.nil_append, List.cons_append]
  gi_wp2
  gi_loopw [3, 4] (fun _ _ wr => ∃ t os A m c, Hid (m + t = n) ∧ Hid (os.length ≤ t) ∧ Hid (optsAt l t os) ∧ Bs w A m c (l.drop t) ∧ SplI w B C ⟨os, .slice A m c, none, false⟩ wr ∧ R wr) (fun _ _ wr => leftIn B wr)
  case atStart => exact ⟨0, [], A0, n, c0, by unfold Hid; omega, by unfold Hid; simp, optsAt_0 l, by simpa using hb0, h0, hR0⟩
  case round =>
    obtain ⟨t, os, A, m, c, hm, hk, hat, hb, hi, hr⟩ := hrel
    have hi' := hi
    obtain ⟨hc, hcell, hfz, hbel, -, -⟩ := hi
    have hlf := leftIn_eq hcell
    dsimp only at hcell hc
    have hBlt := World.block_lt_of_cell? wr _ hcell
    dsimp only at hBlt
    have hbad : ∀ W, optsP l = none → SplI w B C ⟨os, .slice A m c, none, false⟩ W → R W → YieldAt Fence.wide 1 Try.prog (D + 1) #[.agg #[.int .u8 0, .slice none 0 0], .bool false] W (roundSaid (spStep ⟨os, .slice A m c, some ⟨zO, none, 0, 0, false⟩, false⟩ ⟨zO, none, 0, 0, false⟩) (SplI w B C) Ix R Rx) := fun W hnone hi hr =>
      hY ⟨os, .slice A m c, some ⟨zO, none, 0, 0, false⟩, false⟩ ⟨zO, none, 0, 0, false⟩ W ⟨rfl, fun _ => hnone, fun h => by cases h⟩ (hi.with_ _ (fun h => by cases h)) hr
    by_cases h2 : 0 < m
    · have hbr := hb.below hbel
      obtain ⟨b, off, rfl, hcs⟩ := hbr.rd h2
      have g0 := hcs 0 h2
      rw [bt_drop, Nat.add_zero, Nat.add_zero] at g0
      have b0 := bt_lo l t
      have b0' := bt_hi l t
      have hcap := hb.cap
      have hblt := World.block_lt_of_cell? wr _ g0
      dsimp only at hblt
      rcases nx_ways l t (by have := hm.out; omega) with ⟨q0, hnx⟩ | ⟨q0, q1, hnx⟩ | ⟨q0, q1, q2, hnx⟩ | ⟨q0, q1, q2, q3, q4, hnx⟩
      · have hz0 : bt l t = 0 := by simpa using q0
        rw [hz0] at g0
        have HN := Lib.hid hnx
        clear q0 hnx b0 b0' hcs
        obtain ⟨z, hz⟩ : ∃ z, allZ (l.drop t) = z := ⟨_, rfl⟩
        have hcn := fun W k => cont_any (some ⟨b, off, none⟩) m c (l.drop t) W k
        rw [hz] at hcn
        have HZ := Lib.hid hz
        clear hz hz0
        cases z with
        | true =>
          have HO : Hid (optsP l = some os) := optsAt_end hat.out (by rw [HN.out, HZ.out]; rfl)
          clear HN HZ
          gi_wp2_with (refine ⟨trivial, ?_⟩; gi_at_call 70; refine (callsIn_wide.2 (hcn _ hbr)).mono ?_; rintro e w2 ⟨rfl, hB2⟩)
          go_end0
          exact ⟨⟨_, rfl⟩, .inl ⟨_, HO.out, hi'.below hC hB2, hR _ _ hr (keeps_below hB2)⟩⟩
        | false =>
          have HO : Hid (optsP l = none) := optsAt_none hat.out (by rw [HN.out, HZ.out]; rfl)
          clear HN HZ
          gi_wp2_with (refine ⟨trivial, ?_⟩; gi_at_call 70; refine (callsIn_wide.2 (hcn _ hbr)).mono ?_; rintro e w2 ⟨rfl, hB2⟩; obtain ⟨fn, tmps, assign, body, hy, hR2⟩ := hbad w2 HO.out (hi'.below hC hB2) (hR _ _ hr (keeps_below hB2)))
          refine hR2.mono ?_
          rintro e W2 hrs
          obtain ⟨⟨bb, rfl⟩, cc, ss, hx1, hx2⟩ := roundBad (S := fun _ => True) rfl hrs
          gi_wp2
          go_end0
          exact ⟨⟨_, rfl⟩, .inr ⟨cc, ss, hx1, hx2⟩⟩
      · have hz0 : bt l t = 1 := by simpa using q1
        rw [hz0] at g0
        have HS : Hid (optsAt l (t + 1) (os ++ [⟨1, []⟩])) := optsAt_some hat.out hnx
        clear q0 q1 hnx b0 b0' hcs hz0
        have hbA : Below wr.heap.size wr (wr.alloc (.cells #[.int .u8 1, .slice none 0 0] 66)) := (Below.refl _ _).alloc (Nat.le_refl _) _
        obtain ⟨fn, tmps, assign, body, hy, hR2⟩ := hY ⟨os, .slice (some ⟨b, off, none⟩) m c, some ⟨⟨1, []⟩, none, 0, 0, true⟩, false⟩ ⟨⟨1, []⟩, none, 0, 0, true⟩ _ ⟨rfl, (fun h => by cases h), fun _ => by have := hk.out; have := hm.out; simp only; omega⟩ ((hi'.below hC hbA).with_ ⟨⟨1, []⟩, none, 0, 0, true⟩ (fun _ => own_nil _ _ _)) (hR _ _ hr (keeps_below hbA))
        dsimp only [encX] at hy
        have hcut : ∀ W, (Instr.slice 24 (.slice (some ⟨b, off, none⟩) m c) (some (.int .i64 1)) none none).run Try.prog W = _ := fun W => cut_l Try.underlying24 hi8 hs8 (some ⟨b, off, none⟩) m c .i64 1 (by omega) (by omega) W
        obtain ⟨A', n', c', eA, en, ec, hb2⟩ := hb.cutE (lo := 1) (hi := m) (by omega) (Nat.le_refl _)
        simp only [show (1 : Int).toNat = 1 from rfl, eA, en, ec] at hcut
        have hb3 : Bs w A' n' c' (l.drop (t + 1)) := by
          rw [List.take_of_length_le (by rw [hb.len]; exact Nat.le_refl _), List.drop_drop] at hb2
          exact hb2
        have HM : Hid (n' + 1 = m) := by unfold Hid; omega
        clear eA en ec hb2 hlf
        gi_wp2
        refine hR2.mono ?_
        rintro e W3 hrs
        obtain ⟨rfl, hi3, hr3⟩ := roundGood hIx rfl hrs
        obtain ⟨hc3, hcell3, hfz3, hbel3, -, -⟩ := hi3
        dsimp only [spStep] at hcell3 hc3
        gi_wp2
        go_roundw
        case rel => exact ⟨t + 1, os ++ [⟨1, []⟩], A', n', c', by have := HM.out; have := hm.out; unfold Hid; omega, by have := hk.out; unfold Hid; simp; omega, HS, hb3, ⟨hCs _ _ _ hc3, by rw [World.cell?_setCell_same' _ _ _ (by rw [hcell3]; rfl)], by rw [World.frozen?_setCell]; exact hfz3, hbel3.setCell (p := ⟨B, 0, none⟩) hB _, rfl, fun x h => by cases h⟩, hR _ _ hr3 (keeps_setCell _ _ _)⟩
        case measure => rw [leftIn_eq (World.cell?_setCell_same' W3 _ _ (by rw [hcell3]; rfl)), leftIn_eq hcell]; have := HM.out; omega
      · have HO := Lib.hid (optsAt_none hat.out hnx)
        have h2i : 0 < (m : Int) := by omega
        obtain ⟨k0, hk0⟩ : ∃ k0, bt l t = k0 := ⟨_, rfl⟩
        rw [hk0] at g0 q0 q1
        have e0 : (k0 != 0) = true := by simpa using q0
        have e1 : (k0 != 1) = true := by simpa using q1
        have hml := hm.out
        clear hnx b0 b0' hk0 hlf
        by_cases h3 : (m : Int) < 2
        · clear q2 hcs hml
          gi_wp2_with (gi_quiet_th (fail); obtain ⟨fn, tmps, assign, body, hy, hR2⟩ := hbad (wr.drewN nq) HO.out (hi'.below hC (below_drewN (Below.refl _ wr) nq)) (hR _ _ hr (keeps_below (below_drewN (Below.refl _ wr) nq))))
          refine hR2.mono ?_
          rintro e W2 hrs
          obtain ⟨⟨bb, rfl⟩, cc, ss, hx1, hx2⟩ := roundBad (S := fun _ => True) rfl hrs
          gi_wp2
          go_end0
          exact ⟨⟨_, rfl⟩, .inr ⟨cc, ss, hx1, hx2⟩⟩
        · obtain ⟨k1, hk1⟩ : ∃ k1, bt l (t + 1) = k1 := ⟨_, rfl⟩
          have g1 := hcs 1 (by omega)
          rw [bt_drop, hk1] at g1
          rw [hk1] at q2
          have b1 := bt_lo l (t + 1)
          have b1' := bt_hi l (t + 1)
          rw [hk1] at b1 b1'
          have hq : k1 < 2 ∨ (¬ k1 < 2 ∧ (m : Int) < k1) := by omega
          have h31 : (1 : Int) < m := by omega
          have h34 : IntKind.i64.wrap k1 = k1 := wrap_i64 (by omega) (by omega)
          have h32 : decide ((m : Int) < 2) = false := by simpa using h3
          clear q2 hcs hml hk1
          rcases hq with h4 | ⟨h4, h5⟩
          · gi_wp2_with (gi_quiet_th (fail); obtain ⟨fn, tmps, assign, body, hy, hR2⟩ := hbad (wr.drewN nq) HO.out (hi'.below hC (below_drewN (Below.refl _ wr) nq)) (hR _ _ hr (keeps_below (below_drewN (Below.refl _ wr) nq))))
            refine hR2.mono ?_
            rintro e W2 hrs
            obtain ⟨⟨bb, rfl⟩, cc, ss, hx1, hx2⟩ := roundBad (S := fun _ => True) rfl hrs
            gi_wp2
            go_end0
            exact ⟨⟨_, rfl⟩, .inr ⟨cc, ss, hx1, hx2⟩⟩
          · gi_wp2_with (gi_quiet_th (fail); obtain ⟨fn, tmps, assign, body, hy, hR2⟩ := hbad (wr.drewN nq) HO.out (hi'.below hC (below_drewN (Below.refl _ wr) nq)) (hR _ _ hr (keeps_below (below_drewN (Below.refl _ wr) nq))))
            refine hR2.mono ?_
            rintro e W2 hrs
            obtain ⟨⟨bb, rfl⟩, cc, ss, hx1, hx2⟩ := roundBad (S := fun _ => True) rfl hrs
            gi_wp2
            go_end0
            exact ⟨⟨_, rfl⟩, .inr ⟨cc, ss, hx1, hx2⟩⟩
      · obtain ⟨k0, hk0⟩ : ∃ k0, bt l t = k0 := ⟨_, rfl⟩
        obtain ⟨n1, hk1⟩ : ∃ n1 : Nat, bt l (t + 1) = (n1 : Int) := ⟨(bt l (t + 1)).toNat, by have := bt_lo l (t + 1); omega⟩
        have g1 := hcs 1 (by have := hm.out; omega)
        have b1' := bt_hi l (t + 1)
        rw [bt_drop, hk1] at g1
        rw [hk0] at g0 q0 q1 hnx b0 b0'
        rw [hk1] at q3 q4 hnx b1'
        simp only [Int.toNat_natCast] at hnx
        have e0 : (k0 != 0) = true := by simpa using q0
        have e1 : (k0 != 1) = true := by simpa using q1
        have HS : Hid (optsAt l (t + n1) (os ++ [⟨k0, ((l.drop t).take n1).drop 2⟩])) := optsAt_some hat.out hnx
        have hml := hm.out
        have i1 : ¬ (m : Int) < 2 := by omega
        have i0 : (1 : Int) < m := by omega
        have i7 : IntKind.i64.wrap (n1 : Int) = n1 := wrap_i64 (by omega) (by omega)
        have i2 : ¬ (n1 : Int) < 2 := by omega
        have i3 : ¬ (m : Int) < (n1 : Int) := by omega
        have i4 : decide ((m : Int) < 2) = false := by simpa using i1
        have i5 : decide ((n1 : Int) < 2) = false := by simpa using i2
        have i6 : decide ((m : Int) < (n1 : Int)) = false := by simpa using i3
        have hcut : ∀ W, (Instr.slice 24 (.slice (some ⟨b, off, none⟩) m c) (some (.int .i64 (n1 : Int))) none none).run Try.prog W = _ := fun W => cut_l Try.underlying24 hi8 hs8 (some ⟨b, off, none⟩) m c .i64 (n1 : Int) (by omega) (by omega) W
        obtain ⟨A', n', c', eA, en, ec, hb2⟩ := hb.cutE (lo := n1) (hi := m) (by omega) (Nat.le_refl _)
        simp only [Int.toNat_natCast, eA, en, ec] at hcut
        have hb3 : Bs w A' n' c' (l.drop (t + n1)) := by
          rw [List.take_of_length_le (by rw [hb.len]; exact Nat.le_refl _), List.drop_drop] at hb2
          exact hb2
        have HM : Hid (n' + n1 = m) := by unfold Hid; omega
        have HN1 : Hid (2 ≤ n1 ∧ n1 ≤ m) := by unfold Hid; omega
        clear q0 q1 q3 q4 hnx hcs hk0 hk1 eA en ec hb2 hlf hml
        by_cases h6 : (n1 : Int) > 2
        · have hcut2 : ∀ W, (Instr.slice 24 (.slice (some ⟨b, off, none⟩) m c) (some (.int .i64 2)) (some (.int .i64 (n1 : Int))) none).run Try.prog W = _ := fun W => cut_lh Try.underlying24 hi8 hs8 (some ⟨b, off, none⟩) m c .i64 .i64 2 (n1 : Int) (by omega) (by omega) (by have := HN1.out; omega) W
          obtain ⟨A'', n'', c'', eA, en, ec, hb4⟩ := hb.cutE (lo := 2) (hi := n1) (by omega) HN1.out.2
          simp only [Int.toNat_natCast, show (2 : Int).toNat = 2 from rfl, eA, en, ec] at hcut2
          clear eA en ec
          obtain ⟨d, hd⟩ : ∃ d, ((l.drop t).take n1).drop 2 = d := ⟨_, rfl⟩
          rw [hd] at hb4 HS
          clear hd
          gi_wp2_with (first
            | (gi_quiet_th (fail); (obtain ⟨wq, hwq⟩ : ∃ W, wr.drewN nq = W := ⟨_, rfl⟩); rw [hwq]; have hbq : Below wr.heap.size wr wq := (by rw [← hwq]; exact below_drewN (Below.refl _ wr) nq); have hcellq := (hbq.cell hBlt).trans hcell; have hfzq := (hbq.frozen (p := ⟨B, 0, none⟩) hBlt).trans hfz; have g0q := (hbq.cell hblt).trans g0; have g1q := (hbq.cell (p := ⟨b, off + 1, none⟩) hblt).trans g1; have hBltq := Nat.lt_of_lt_of_le hBlt hbq.size; have hbltq := Nat.lt_of_lt_of_le hblt hbq.size; clear hwq)
            | (refine ⟨trivial, ?_⟩; gi_at_call 40; refine (callsIn_wide.2 (clone_any A'' n'' c'' d _ ((hb4.below (below_then hbel hbq)).alloc _))).mono ?_; rintro e w3 ⟨A4, c4, rfl, ho4, hB3⟩; (obtain ⟨kP, hkP⟩ : ∃ k, wq.heap.size = k := ⟨_, rfl⟩); have P3 := (blk_new wq #[.int .u8 k0, .slice none 0 0] 66 kP hkP).below hB3; have pc3 := P3.cell; (obtain ⟨w5, hw5, S5⟩ := store1 P3 1 (.slice A4 n'' c4)); have pc5 := S5.blk.cell; have hb5 : Below wr.heap.size wr w5 := S5.bel (below_then hbq (below_then ((Below.refl _ _).alloc (Nat.le_refl _) _) hB3)) (by rw [← hkP]; exact hbq.size); obtain ⟨fn, tmps, assign, body, hy, hR2⟩ := hY ⟨os, .slice (some ⟨b, off, none⟩) m c, some ⟨⟨k0, d⟩, A4, n'', c4, true⟩, false⟩ ⟨⟨k0, d⟩, A4, n'', c4, true⟩ w5 ⟨rfl, (fun h => by cases h), fun _ => by have := hk.out; have := hm.out; simp only; omega⟩ ((hi'.below hC hb5).with_ ⟨⟨k0, d⟩, A4, n'', c4, true⟩ (fun _ => (S5.own ho4 (fun a e => by have := ho4.ge a e; simp only [World.size_alloc] at this; omega)).mono (by have := hbel.size; have := hbq.size; simp only [World.size_alloc]; omega))) (hR _ _ hr (keeps_below hb5)); dsimp only [encX] at hy))
          refine hR2.mono ?_
          rintro e W3 hrs
          obtain ⟨rfl, hi3, hr3⟩ := roundGood hIx rfl hrs
          obtain ⟨hc3, hcell3, hfz3, hbel3, -, -⟩ := hi3
          dsimp only [spStep] at hcell3 hc3
          gi_wp2
          go_roundw
          case rel => exact ⟨t + n1, os ++ [⟨k0, d⟩], A', n', c', by have := HM.out; have := hm.out; unfold Hid; omega, by have := hk.out; have := HN1.out; unfold Hid; simp; omega, HS, hb3, ⟨hCs _ _ _ hc3, by rw [World.cell?_setCell_same' _ _ _ (by rw [hcell3]; rfl)], by rw [World.frozen?_setCell]; exact hfz3, hbel3.setCell (p := ⟨B, 0, none⟩) hB _, rfl, fun x h => by cases h⟩, hR _ _ hr3 (keeps_setCell _ _ _)⟩
          case measure => rw [leftIn_eq (World.cell?_setCell_same' W3 _ _ (by rw [hcell3]; rfl)), leftIn_eq hcell]; have := HM.out; have := HN1.out; omega
        · obtain rfl : n1 = 2 := by have := HN1.out; omega
          rw [show ((l.drop t).take 2).drop 2 = [] from List.drop_eq_nil_of_le (by rw [List.length_take]; omega)] at HS
          have hcut3 : ∀ W, (Instr.slice 24 (.slice (some ⟨b, off, none⟩) m c) (some (.int .i64 2)) none none).run Try.prog W = .ok (.slice A' n' c') W := hcut
          clear hcut
          gi_wp2_with (gi_quiet_th (fail); (obtain ⟨wq, hwq⟩ : ∃ W, wr.drewN nq = W := ⟨_, rfl⟩); rw [hwq]; have hbq : Below wr.heap.size wr wq := (by rw [← hwq]; exact below_drewN (Below.refl _ wr) nq); have hcellq := (hbq.cell hBlt).trans hcell; have hfzq := (hbq.frozen (p := ⟨B, 0, none⟩) hBlt).trans hfz; have g0q := (hbq.cell hblt).trans g0; have g1q := (hbq.cell (p := ⟨b, off + 1, none⟩) hblt).trans g1; have hBltq := Nat.lt_of_lt_of_le hBlt hbq.size; have hbltq := Nat.lt_of_lt_of_le hblt hbq.size; clear hwq; have hbA : Below wr.heap.size wr (wq.alloc (.cells #[.int .u8 k0, .slice none 0 0] 66)) := below_then hbq ((Below.refl _ _).alloc (Nat.le_refl _) _); obtain ⟨fn, tmps, assign, body, hy, hR2⟩ := hY ⟨os, .slice (some ⟨b, off, none⟩) m c, some ⟨⟨k0, []⟩, none, 0, 0, true⟩, false⟩ ⟨⟨k0, []⟩, none, 0, 0, true⟩ _ ⟨rfl, (fun h => by cases h), fun _ => by have := hk.out; have := hm.out; simp only; omega⟩ ((hi'.below hC hbA).with_ ⟨⟨k0, []⟩, none, 0, 0, true⟩ (fun _ => own_nil _ _ _)) (hR _ _ hr (keeps_below hbA)); dsimp only [encX] at hy)
          refine hR2.mono ?_
          rintro e W3 hrs
          obtain ⟨rfl, hi3, hr3⟩ := roundGood hIx rfl hrs
          obtain ⟨hc3, hcell3, hfz3, hbel3, -, -⟩ := hi3
          dsimp only [spStep] at hcell3 hc3
          gi_wp2
          go_roundw
          case rel => exact ⟨t + 2, os ++ [⟨k0, []⟩], A', n', c', by have := HM.out; have := hm.out; unfold Hid; omega, by have := hk.out; have := HN1.out; unfold Hid; simp; omega, HS, hb3, ⟨hCs _ _ _ hc3, by rw [World.cell?_setCell_same' _ _ _ (by rw [hcell3]; rfl)], by rw [World.frozen?_setCell]; exact hfz3, hbel3.setCell (p := ⟨B, 0, none⟩) hB _, rfl, fun x h => by cases h⟩, hR _ _ hr3 (keeps_setCell _ _ _)⟩
          case measure => rw [leftIn_eq (World.cell?_setCell_same' W3 _ _ (by rw [hcell3]; rfl)), leftIn_eq hcell]; have := HM.out; have := HN1.out; omega
    · have hm0 : m ≤ 0 := by omega
      obtain rfl : m = 0 := by omega
      have HO : Hid (optsP l = some os) := optsAt_end hat.out (by rw [List.drop_of_length_le (by have := hm.out; omega)]; rfl)
      have hcn := fun W k => cont_any A 0 c (l.drop t) W k
      rw [show allZ (l.drop t) = true from by rw [List.drop_of_length_le (by have := hm.out; omega)]; rfl] at hcn
      clear hlf
      gi_wp2_with (refine ⟨trivial, ?_⟩; gi_at_call 70; refine (callsIn_wide.2 (hcn _ (hb.below hbel))).mono ?_; rintro e w2 ⟨rfl, hB2⟩)
      go_end0
      exact ⟨⟨_, rfl⟩, .inl ⟨_, HO.out, hi'.below hC hB2, hR _ _ hr (keeps_below hB2)⟩⟩
end Go.Proofs.Ytjjhnjkmoogloaa
namespace Go.Proofs.Ytjjhnjkmoogloaa
open Go.RowKit Go.Shelf
set_option linter.unusedVariables false
set_option linter.unusedSimpArgs false
theorem wp_scope_fwd {P : Program} {a : Act} {w : World} {Q : Exit → Act → World → Prop} {c rest : Code} (l : Nat) (J : Act → World → Prop) (hf : findLabel c l = some rest)
    (first : c.wp P (Exit.jump l J Q) a w) (pass : ∀ a w, J a w → rest.wp P (Exit.noGoto Q) a w) : (Code.scope c).wp P Q a w := by
  refine wp_scope_jumps l J (fun _ _ => 0) hf first fun a w h => ?_
  refine wp_mono (pass a w h) ?_
  intro e a w hq
  cases e <;> first | exact hq | exact hq.elim
theorem wpIn_scope_fwd {P : Program} {a : Act} {w : World} {Q : Exit → Act → World → Prop} {n : Nat} {c rest : Code} (l : Nat) (J : Act → World → Prop) (hf : findLabel c l = some rest)
    (first : c.wpIn Fence.wide n P (Exit.jump l J Q) a w) (pass : ∀ a w, J a w → rest.wpIn Fence.wide n P (Exit.noGoto Q) a w) : (Code.scope c).wpIn Fence.wide n P Q a w :=
  wpIn_wide.2 (wp_scope_fwd l J hf (wpIn_wide.1 first) fun a w h => wpIn_wide.1 (pass a w h))
section
variable {Q : Exit → Act → World → Prop} {a : Act} {w : World} {J : Act → World → Prop} {l : Nat}
theorem jump_normal : Exit.jump l J Q .normal a w = Q .normal a w := rfl
theorem jump_exit (id : Nat) : Exit.jump l J Q (.exit id) a w = Q (.exit id) a w := rfl
theorem jump_ret : Exit.jump l J Q .ret a w = Q .ret a w := rfl
theorem jump_panic (ch : List PanicEntry) : Exit.jump l J Q (.panic ch) a w = Q (.panic ch) a w := rfl
theorem jump_goto : Exit.jump l J Q (.goto l) a w = J a w := by simp [Exit.jump]
end
theorem slots {a : Act} {n : Nat} (h : a.tmps.size = n) : ∃ f : Nat → Value, a.tmps = ((List.range n).map f).toArray ∧ ∀ i v, i < n → a.tmps[i]? = some v → f i = v := by
  refine ⟨fun i => a.tmps.getD i undef, ?_, fun i v hi hv => by simp [hv]⟩
  apply Array.ext_getElem?
  intro i
  by_cases hi : i < n
  · have : i < a.tmps.size := by omega
    simp [hi, this, Array.getD_eq_getD_getElem?]
  · rw [Array.getElem?_eq_none (by omega)]
    simp [hi]
end Go.Proofs.Ytjjhnjkmoogloaa
namespace Go.Proofs.Ytjjhnjkmoogloaa
open Go.RowKit
set_option linter.unusedVariables false
set_option linter.unusedSimpArgs false
theorem and_u8_15 {x : Int} (h0 : 0 ≤ x) (h1 : x ≤ 255) : bits .and .u8 x 15 = x % 16 := by
  obtain ⟨a, rfl⟩ := Int.eq_ofNat_of_zero_le h0
  have := u8_and_nat a 15 (by omega) (by omega)
  rw [show ((15 : Nat) : Int) = 15 from rfl] at this
  rw [this, Nat.and_two_pow_sub_one_eq_mod a 4]
  omega
end Go.Proofs.Ytjjhnjkmoogloaa
