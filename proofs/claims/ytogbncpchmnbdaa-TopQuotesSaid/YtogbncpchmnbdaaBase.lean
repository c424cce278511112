import Derived.WalkKit
import Derived.Maps.AppendAt
import Derived.Deep.AppendLies
import Derived.Deep.DeepAppendWide
import Derived.Deep.Draws
import Derived.Deep.QuietTactic
import Derived.BigQuiet
import Derived.Lib.Hide
import Derived.Laws.BytesArg
import Derived.Deep.RegionHeld3
namespace Go.Proofs.Ytogbncpchmnbdaa
open Go.RowKit
set_option linter.unusedVariables false

/-! ### Bytes: a slice value that reads as a list of bytes -/

/-- The byte at place i as a number. -/
def bt (l : List UInt8) (i : Nat) : Int := ((l.getD i 0).toNat : Int)
theorem bt_lo (l : List UInt8) (i : Nat) : 0 ≤ bt l i := by unfold bt; omega
theorem bt_hi (l : List UInt8) (i : Nat) : bt l i ≤ 255 := by
  unfold bt; have := (l.getD i 0).toNat_lt; omega

theorem block_of_add (a : Addr) (n : Nat) : (a.add n).block = a.block := by unfold Addr.add; split <;> rfl
theorem add_of_add (a : Addr) (i j : Nat) : (a.add i).add j = a.add (i + j) := by
  unfold Addr.add
  by_cases hi : i = 0 <;> by_cases hj : j = 0 <;> simp [hi, hj, Nat.add_assoc]

structure Bs (w : World) (A : Option Addr) (n c : Nat) (l : List UInt8) : Prop where
  len : l.length = n
  cap : n ≤ c
  max : n ≤ 200000000000000
  nil : A = none → c = 0
  rd : 0 < n → ∃ b off, A = some ⟨b, off, none⟩ ∧ ∀ j, j < n → w.cell? ⟨b, off + j, none⟩ = some (.int .u8 (bt l j))

/-- The world is the old one, some orders having been drawn. -/
structure Drawn (w w' : World) : Prop where mk :: (out : ∃ n, w' = w.drewN n)
theorem Drawn.refl (w : World) : Drawn w w := ⟨⟨0, rfl⟩⟩
theorem Drawn.step {w w' : World} (h : Drawn w w') (n : Nat) : Drawn w (w'.drewN n) := by
  obtain ⟨m, rfl⟩ := h
  exact ⟨⟨m + n, World.drewN_drewN ..⟩⟩
theorem Drawn.drew {w w' : World} (h : Drawn w w') : Drawn w w'.drew := by
  have := h.step 1
  simpa [World.drewN] using this

section
variable {w w' : World} {A : Option Addr} {n c : Nat} {l : List UInt8}
theorem Bs.keep (h : Bs w A n c l) (hk : ∀ p : Addr, p.block < w.heap.size → w'.cell? p = w.cell? p) : Bs w' A n c l :=
  ⟨h.len, h.cap, h.max, h.nil, fun hn => by
    obtain ⟨b, off, e, hc⟩ := h.rd hn
    exact ⟨b, off, e, fun j hj => (hk _ (World.block_lt_of_cell? w _ (hc j hj))).trans (hc j hj)⟩⟩
theorem Bs.below (h : Bs w A n c l) (hb : Below w.heap.size w w') : Bs w' A n c l := h.keep fun _ hp => hb.cell hp
theorem Bs.drew (h : Bs w A n c l) : Bs w.drew A n c l := ⟨h.len, h.cap, h.max, h.nil, h.rd⟩
theorem Bs.drewN (h : Bs w A n c l) (k : Nat) : Bs (w.drewN k) A n c l := ⟨h.len, h.cap, h.max, h.nil, h.rd⟩
theorem Bs.alloc (h : Bs w A n c l) (o : Obj) : Bs (w.alloc o) A n c l := h.below ((Below.refl _ w).alloc (Nat.le_refl _) o)
end
theorem Bs.none_ (w : World) : Bs w none 0 0 [] := ⟨rfl, Nat.zero_le _, by omega, fun _ => rfl, fun h => absurd h (by omega)⟩

/-- The cells of a row of bytes. -/
def cu (l : List UInt8) : List Value := l.map fun b => Value.int .u8 (b.toNat : Int)
theorem cu_length (l : List UInt8) : (cu l).length = l.length := by simp [cu]
theorem cu_append (l m : List UInt8) : cu l ++ cu m = cu (l ++ m) := by simp [cu]
theorem cu_at {l : List UInt8} {j : Nat} (h : j < l.length) : (cu l)[j]? = some (.int .u8 (bt l j)) := by
  simp [cu, bt, List.getElem?_eq_getElem h, List.getD_eq_getElem?_getD]
theorem cu_one (l : List UInt8) : ∀ u ∈ cu l, u.oneCell' = true := by
  intro u hu
  obtain ⟨b, _, rfl⟩ := List.mem_map.1 hu
  rfl

/-- A row of bytes of the call's own, from block base on. -/
structure Own (w : World) (base : Nat) (e : TypeId) (A : Option Addr) (n c : Nat) (l : List UInt8) : Prop where
  len : l.length = n
  max : n ≤ 200000000000000
  row : w.ownsRow base e 1 (.slice A n c) n (cu l)
section
variable {w w' : World} {base : Nat} {e : TypeId} {A : Option Addr} {n c : Nat} {l : List UInt8}
theorem Own.bs (h : Own w base e A n c l) : Bs w A n c l := by
  obtain ⟨hl, hm, h1, h2⟩ := h
  rcases h2 with ⟨h2, rfl⟩ | ⟨g, cap, cur, hv, hb, hg, hnc, hcm, hcs, htake⟩
  · injection h2 with h3 h4 h5
    subst h3 h5
    obtain rfl : l = [] := List.eq_nil_of_length_eq_zero hl
    exact Bs.none_ w
  · injection hv with h3 h4 h5
    subst h3 h5
    refine ⟨hl, hnc, hm, (fun h => by cases h), fun hn => ⟨g, 0, rfl, fun j hj => ?_⟩⟩
    rw [Nat.zero_add, cell_of_row w g j cur e (0, 0) hg]
    have := cu_at (l := l) (j := j) (by omega)
    rw [← htake, List.getElem?_take] at this
    split at this
    · simpa using this
    · cases this
theorem Own.mono {b' : Nat} (h : Own w base e A n c l) (hb : b' ≤ base) : Own w b' e A n c l := by
  obtain ⟨hl, hm, h1, h2⟩ := h
  refine ⟨hl, hm, h1, ?_⟩
  rcases h2 with h2 | ⟨g, cap, cur, hv, hg, r⟩
  · exact .inl h2
  · exact .inr ⟨g, cap, cur, hv, by omega, r⟩
theorem Own.kept {row : Option Nat} (h : Own w base e A n c l) (hg : w.grownBy w' row) (hne : (Value.slice A n c).ownBlock = none ∨ (Value.slice A n c).ownBlock ≠ row) : Own w' base e A n c l :=
  ⟨h.len, h.max, h.row.kept hg hne⟩
theorem Own.drew (h : Own w base e A n c l) : Own w.drew base e A n c l := ⟨h.len, h.max, h.row⟩
theorem Own.drewN (h : Own w base e A n c l) (k : Nat) : Own (w.drewN k) base e A n c l := ⟨h.len, h.max, h.row⟩
theorem Own.alloc (h : Own w base e A n c l) (o : Obj) : Own (w.alloc o) base e A n c l := ⟨h.len, h.max, h.row.alloc o⟩
theorem Own.below (h : Own w base e A n c l) (hb : Below w.heap.size w w') : Own w' base e A n c l :=
  h.kept (row := none) ⟨hb.os, hb.tape, hb.output, hb.size, fun i hi _ => hb.block i hi⟩ (by cases (Value.slice A n c).ownBlock <;> simp)
end
theorem below_drewN {B : Nat} {a w : World} (h : Below B a w) (n : Nat) : Below B a (w.drewN n) := ⟨h.os, h.tape, h.output, h.size, h.block⟩
theorem below_drew {B : Nat} {a w : World} (h : Below B a w) : Below B a w.drew := ⟨h.os, h.tape, h.output, h.size, h.block⟩
theorem below_alloc {B : Nat} {a w : World} (h : Below B a w) (hB : B ≤ a.heap.size) (o : Obj) : Below B a (w.alloc o) := h.alloc (Nat.le_trans hB h.size) o
/-- Two steps. -/
theorem below_then {w w1 w2 : World} (h : Below w.heap.size w w1) (k : Below w1.heap.size w1 w2) : Below w.heap.size w w2 :=
  h.trans (k.mono h.size)

/-! ### Cuts -/
section
variable {P : Program} {w : World} {A : Option Addr} {n c : Nat} {l : List UInt8}
theorem Bs.cutN (h : Bs w A n c l) {lo hi : Nat} (h1 : lo ≤ hi) (h2 : hi ≤ n) :
    Bs w (if c = lo then A else A.map (·.add (lo * 1))) (hi - lo) (c - lo) ((l.take hi).drop lo) := by
  have hc := h.cap
  refine ⟨by simp [h.len]; omega, by omega, by have := h.max; omega, fun hn => ?_, fun hn => ?_⟩
  · split at hn
    · omega
    · have : A = none := by cases A <;> simp_all
      have := h.nil this
      omega
  · obtain ⟨b, off, rfl, hc⟩ := h.rd (by omega)
    rw [if_neg (by omega)]
    refine ⟨b, off + lo, by simp [Addr.add], fun j hj => ?_⟩
    rw [Nat.add_assoc, hc (lo + j) (by omega)]
    congr 2
    unfold bt
    simp [List.getD_eq_getElem?_getD, List.getElem?_drop, show lo + j < hi by omega]
variable {t e : TypeId} {i : TypeInfo}
theorem cut_h (ht : P.underlying t = some (.slice e)) (hi' : P.info? e = some i) (hz : i.size = 1) (A : Option Addr) (n c : Nat) (kh : IntKind) (h : Int) (h1 : 0 ≤ h) (h2 : h ≤ (c : Int)) (W : World) :
    (Instr.slice t (.slice A n c) none (some (.int kh h)) none).run P W = .ok (.slice (if c = 0 then A else A.map (·.add (0 * 1))) (h.toNat - 0) (c - 0)) W := by
  have hp : P.underlying t = some (.slice (P.elem t)) := by simp [Program.elem, ht]
  have he : P.elem t = e := by rw [ht] at hp; injection hp with hp; injection hp with hp; exact hp.symm
  rw [run_slice_h _ _ _ _ _ hp kh h h1 h2, he]
  simp [sizeOf, typeInfo, hi', hz, Result.andThen, sliced]
theorem cut_l (ht : P.underlying t = some (.slice e)) (hi' : P.info? e = some i) (hz : i.size = 1) (A : Option Addr) (n c : Nat) (kl : IntKind) (l : Int) (h0 : 0 ≤ l) (h1 : l ≤ (n : Int)) (W : World) :
    (Instr.slice t (.slice A n c) (some (.int kl l)) none none).run P W = .ok (.slice (if c = l.toNat then A else A.map (·.add (l.toNat * 1))) (n - l.toNat) (c - l.toNat)) W := by
  have hp : P.underlying t = some (.slice (P.elem t)) := by simp [Program.elem, ht]
  have he : P.elem t = e := by rw [ht] at hp; injection hp with hp; injection hp with hp; exact hp.symm
  rw [run_slice_l _ _ _ _ _ hp kl l h0 h1, he]
  simp [sizeOf, typeInfo, hi', hz, Result.andThen, sliced]
theorem cut_lhm (ht : P.underlying t = some (.slice e)) (hi' : P.info? e = some i) (hz : i.size = 1) (A : Option Addr) (n c : Nat) (kl kh km : IntKind) (l h m : Int) (h0 : 0 ≤ l) (h1 : l ≤ h) (h2 : h ≤ m) (h3 : m ≤ (c : Int)) (W : World) :
    (Instr.slice t (.slice A n c) (some (.int kl l)) (some (.int kh h)) (some (.int km m))).run P W = .ok (.slice (if m.toNat = l.toNat then A else A.map (·.add (l.toNat * 1))) (h.toNat - l.toNat) (m.toNat - l.toNat)) W := by
  have hp : P.underlying t = some (.slice (P.elem t)) := by simp [Program.elem, ht]
  have he : P.elem t = e := by rw [ht] at hp; injection hp with hp; injection hp with hp; exact hp.symm
  rw [run_slice_lhm _ _ _ _ _ hp kl kh km l h m h0 h1 h2 h3, he]
  simp [sizeOf, typeInfo, hi', hz, Result.andThen, sliced]
theorem cut_hm (ht : P.underlying t = some (.slice e)) (hi' : P.info? e = some i) (hz : i.size = 1) (A : Option Addr) (n c : Nat) (kh km : IntKind) (h m : Int) (h1 : 0 ≤ h) (h2 : h ≤ m) (h3 : m ≤ (c : Int)) (W : World) :
    (Instr.slice t (.slice A n c) none (some (.int kh h)) (some (.int km m))).run P W = .ok (.slice (if m.toNat = 0 then A else A.map (·.add (0 * 1))) (h.toNat - 0) (m.toNat - 0)) W := by
  have hp : P.underlying t = some (.slice (P.elem t)) := by simp [Program.elem, ht]
  have he : P.elem t = e := by rw [ht] at hp; injection hp with hp; injection hp with hp; exact hp.symm
  rw [run_slice_hm _ _ _ _ _ hp kh km h m h1 h2 h3, he]
  simp [sizeOf, typeInfo, hi', hz, Result.andThen, sliced]
/-- Where a cut stands: what the walk makes of it, and what it reads as. For 'Hid' no use: the equation is a rule of the walk. -/
theorem Bs.cutE (h : Bs w A n c l) {lo hi : Nat} (h1 : lo ≤ hi) (h2 : hi ≤ n) : ∃ A' n' c', (if c = lo then A else A.map (·.add (lo * 1))) = A' ∧ hi - lo = n' ∧ c - lo = c' ∧ Bs w A' n' c' ((l.take hi).drop lo) :=
  ⟨_, _, _, rfl, rfl, rfl, h.cutN h1 h2⟩
theorem cut_lh (ht : P.underlying t = some (.slice e)) (hi' : P.info? e = some i) (hz : i.size = 1) (A : Option Addr) (n c : Nat) (kl kh : IntKind) (l h : Int) (h0 : 0 ≤ l) (h1 : l ≤ h) (h2 : h ≤ (c : Int)) (W : World) :
    (Instr.slice t (.slice A n c) (some (.int kl l)) (some (.int kh h)) none).run P W = .ok (.slice (if c = l.toNat then A else A.map (·.add (l.toNat * 1))) (h.toNat - l.toNat) (c - l.toNat)) W := by
  have hp : P.underlying t = some (.slice (P.elem t)) := by simp [Program.elem, ht]
  have he : P.elem t = e := by rw [ht] at hp; injection hp with hp; injection hp with hp; exact hp.symm
  rw [run_slice_lh _ _ _ _ _ hp kl kh l h h0 h1 h2, he]
  simp [sizeOf, typeInfo, hi', hz, Result.andThen, sliced]
end

/-! ### string(b) -/
def str (l : List UInt8) : ByteArray := ⟨l.toArray⟩
theorem str_inj {l m : List UInt8} (h : str l = str m) : l = m := by
  have := congrArg (fun s : ByteArray => s.data.toList) h
  simpa [str] using this
theorem conv_bs {P : Program} {src dst e : TypeId} (hs : P.underlying src = some (.slice e)) (he : P.underlying e = some (.int .u8)) (hd : P.underlying dst = some .string)
    {w : World} {A : Option Addr} {n c : Nat} {l : List UInt8} (h : Bs w A n c l) : (convert src dst (.slice A n c)).run P w = .ok (.string (str l)) w := by
  rcases Nat.eq_zero_or_pos n with h0 | h0
  · subst h0
    obtain rfl : l = [] := List.eq_nil_of_length_eq_zero h.len
    cases A with
    | none => exact run_convert_bytes_nil w src e hs he 0 c dst hd
    | some ad =>
      rw [run_convert_bytes_string w src dst e _ 0 c hs he hd]
      simp [Conv.bytesToString, loadCells, loadCellsFrom]
      rfl
  · obtain ⟨b, off, rfl, hc⟩ := h.rd h0
    have hlen := h.len
    have e1 : str l = strOfNums (l.map fun x => (x.toNat : Int)) := by
      unfold str strOfNums
      congr 1
      simp [List.map_map, Function.comp_def]
    rw [e1]
    refine run_convert_bytes_arg w src e hs he b off n c _ (by simpa using hlen) (fun i hi => ?_) dst hd
    rw [hc i hi]
    unfold bt
    simp [List.getD_eq_getElem?_getD, List.getElem?_map, List.getElem?_eq_getElem (show i < l.length by omega)]

/-! ### append -/
theorem Bs.cells {w : World} {A : Option Addr} {n c : Nat} {l : List UInt8} (h : Bs w A n c l) {ad : Addr} (hA : A = some ad) : ∀ j u, (cu l)[j]? = some u → w.cell? (ad.add j) = some u := by
  intro j u hu
  have hj : j < l.length := by
    rcases Nat.lt_or_ge j l.length with hj | hj
    · exact hj
    · rw [List.getElem?_eq_none (by rw [cu_length]; exact hj)] at hu; cases hu
  rw [cu_at hj] at hu
  cases hu
  obtain ⟨b, off, he, hc⟩ := h.rd (by have := h.len; omega)
  rw [hA] at he
  injection he with he
  subst he
  have ha : (⟨b, off, none⟩ : Addr).add j = ⟨b, off + j, none⟩ := by unfold Addr.add; split <;> simp_all
  rw [ha]
  exact hc j (by have := h.len; omega)
theorem own_nil (w : World) (base : Nat) (e : TypeId) : Own w base e none 0 0 [] := ⟨rfl, by omega, World.ownsRow_nil w base e 1⟩
section
variable {P : Program} {ops : Array Oper} {rest : List Oper} {o : Oper} {a : Act} {Q : Exit → Act → World → Prop}
theorem run_append_bs (w : World) (base : Nat) (t ty e : TypeId) (ht : P.underlying t = some (.slice e)) (hinfo : (P.info? e).map (fun i => (i.zero, i.size, i.bytes)) = some (some (.int .u8 0), 1, 1))
    (A : Option Addr) (n c : Nat) (l : List UInt8) (hown : Own w base e A n c l) (A2 : Option Addr) (n2 c2 : Nat) (l2 : List UInt8) (hr : Bs w A2 n2 c2 l2)
    (hmax : n + n2 ≤ 200000000000000) (hbase : base ≤ w.heap.size) :
    ∃ A' c' w', (Builtin.append_ #[t, t] ty #[.slice A n c, .slice A2 n2 c2]).run P w = .ok (.slice A' (n + n2) c') w' ∧ Own w' base e A' (n + n2) c' (l ++ l2) ∧ w.grownBy w' (Value.slice A n c).ownBlock := by
  obtain ⟨i, hi, hz, hs, hb⟩ := info_parts hinfo
  have hlen : (l ++ l2).length = n + n2 := by rw [List.length_append, hown.len, hr.len]
  cases A2 with
  | none =>
    have h0 : n2 = 0 := by
      rcases Nat.eq_zero_or_pos n2 with h0 | h0
      · exact h0
      · obtain ⟨b, off, he, _⟩ := hr.rd h0; cases he
    have hc0 := hr.nil rfl
    subst h0 hc0
    obtain rfl : l2 = [] := List.eq_nil_of_length_eq_zero hr.len
    have hrun := run_append_owned_none (P := P) w base t ty e i 1 ht hi (.slice A n c) n (cu l) hown.row
    exact ⟨A, c, w, hrun, by simpa using hown, World.grownBy.refl _ _⟩
  | some ad =>
    obtain ⟨v', w', hrun, ho, hg, _⟩ := run_append_own_wide (P := P) w base t ty e i (.int .u8 0) 1 1 ht hi hz hs hb rfl (by omega) (.slice A n c) n (cu l) hown.row ad n2 c2 (cu l2) (by rw [cu_length, hr.len]; omega)
      (hr.cells rfl) (cu_one l2) (by simp only [maxLen]; omega) (by omega) hbase
    have hv : ∃ A' c', v' = .slice A' (n + n2) c' := by
      rcases ho.2 with ⟨hv, h0⟩ | ⟨g, cap, cur, hv, _⟩
      · exact ⟨none, 0, by rw [hv, h0]⟩
      · exact ⟨_, cap, hv⟩
    obtain ⟨A', c', rfl⟩ := hv
    rw [cu_append] at ho
    exact ⟨A', c', w', hrun, ⟨hlen, hmax, ho⟩, hg⟩

theorem Own.base_le {w : World} {base : Nat} {e : TypeId} {A : Option Addr} {n c : Nat} {l : List UInt8} (h : Own w base e A n c l) : ∀ k, (Value.slice A n c).ownBlock = some k → base ≤ k :=
  fun k hk => (h.row.lt k hk).1

theorem wpList_append_bs {w0 : World} (w : World) (hgd : o.guard = none) (s x : Operand) (t : TypeId) (ho : o.op = .call { callee := .builtin .append, args := #[s, x], argTypes := #[t, t] })
    (base : Nat) (e : TypeId) (ht : P.underlying t = some (.slice e)) (hinfo : (P.info? e).map (fun i => (i.zero, i.size, i.bytes)) = some (some (.int .u8 0), 1, 1))
    (A : Option Addr) (n c : Nat) (l : List UInt8) (hs : a.eval s = .slice A n c) (hown : Own w base e A n c l) (A2 : Option Addr) (n2 c2 : Nat) (l2 : List UInt8) (hx : a.eval x = .slice A2 n2 c2) (hr : Bs w A2 n2 c2 l2)
    (HB : Below base w0 w) (hmax : n + n2 ≤ 200000000000000) (hbase : base ≤ w.heap.size)
    (h : ∀ A' m c' w', Own w' base e A' m c' (l ++ l2) → Below base w0 w' → w.grownBy w' (Value.slice A n c).ownBlock → base ≤ w'.heap.size → wpList P ops Q rest (a.put o.dst (.slice A' m c')) w') : wpList P ops Q (o :: rest) a w := by
  refine wpList_plain hgd fun K hK => ?_
  obtain ⟨A', c', w', hrun, ho', hg⟩ := run_append_bs (P := P) w base t o.type e ht hinfo A n c l hown A2 n2 c2 l2 hr hmax hbase
  unfold Oper.wp execOp
  simp only [ho, resolve, invoke, builtin, Sem.run_bind, Sem.run_pure, Result.andThen_ok, List.map_toArray, List.map_cons, List.map_nil, hs, hx, hrun]
  exact hK _ _ (h A' (n + n2) c' w' ho' (HB.grown hg hbase hown.base_le) hg (Nat.le_trans hbase hg.size))

theorem Own.far {w w' : World} {base : Nat} {e : TypeId} {A : Option Addr} {n c : Nat} {l : List UInt8} {row : Option Nat} (h : Own w base e A n c l) (hg : w.grownBy w' row) (hr : ∀ k, row = some k → k < base) : Own w' base e A n c l :=
  h.kept hg (by
    cases hv : (Value.slice A n c).ownBlock with
    | none => exact .inl rfl
    | some k => exact .inr fun he => by have := hr k he.symm; have := h.base_le k hv; omega)
/-- A literal, or the box of append's own bytes. -/
theorem own_lit (w : World) (base : Nat) (e : TypeId) (l : List UInt8) (n : Nat) (hn : l.length = n) (hm : n ≤ 200000000000000) (hb : base ≤ w.heap.size) :
    Own (w.alloc (.cells (cu l).toArray e)) base e (some ⟨w.heap.size, 0, none⟩) n n l :=
  ⟨hn, hm, World.ownsRow_lit w _ n hb (by simp only [maxLen]; omega) (by simp [cu_length, hn])⟩
end

def zs (n : Nat) : List UInt8 := List.replicate n 0
theorem zs_length (n : Nat) : (zs n).length = n := by simp [zs]
theorem cu_zs (n : Nat) : (cu (zs n)).toArray = madeCells #[.int .u8 0] n := by
  apply Array.ext'
  rw [toList_madeCells_one]
  simp [cu, zs]
theorem run_make_zs {P : Program} (t e : TypeId) (ht : P.underlying t = some (.slice e)) (hinfo : (P.info? e).map (fun i => (i.zero, i.size, i.bytes)) = some (some (.int .u8 0), 1, 1)) (kl kc : IntKind) (n : Nat) (hn : n ≤ 200000000000000) (W : World) :
    (Instr.makeSlice t (.int kl (n : Int)) (.int kc (n : Int))).run P W = .ok (.slice (some ⟨W.heap.size, 0, none⟩) n n) (W.alloc (.cells (cu (zs n)).toArray e)) := by
  obtain ⟨i, hi, hz, hs, hb⟩ := info_parts hinfo
  have hr := run_make (P := P) W t e i (.int .u8 0) ht hi hz kl kc n n (by omega) (Int.le_refl _) (by rw [hb]; omega) (by omega)
  simp only [Int.toNat_natCast, hs, Nat.mul_one] at hr
  rw [hr, cu_zs]
  rfl
theorem own_zs (w : World) (base : Nat) (e : TypeId) (n : Nat) (hm : n ≤ 200000000000000) (hb : base ≤ w.heap.size) :
    Own (w.alloc (.cells (cu (zs n)).toArray e)) base e (some ⟨w.heap.size, 0, none⟩) n n (zs n) := own_lit w base e (zs n) n (zs_length n) hm hb

/-- The same, the block's number said otherwise. -/
theorem own_litk (w : World) (k : Nat) (hk : w.heap.size = k) (base : Nat) (e : TypeId) (l : List UInt8) (n : Nat) (hn : l.length = n) (hm : n ≤ 200000000000000) (hb : base ≤ k) :
    Own (w.alloc (.cells (cu l).toArray e)) base e (some ⟨k, 0, none⟩) n n l := by
  subst hk
  exact own_lit w base e l n hn hm hb
theorem own_zsk (w : World) (k : Nat) (hk : w.heap.size = k) (base : Nat) (e : TypeId) (n : Nat) (hm : n ≤ 200000000000000) (hb : base ≤ k) :
    Own (w.alloc (.cells (cu (zs n)).toArray e)) base e (some ⟨k, 0, none⟩) n n (zs n) := own_litk w k hk base e (zs n) n (zs_length n) hm hb
/-- append's own bytes, in the box that holds them. -/
theorem bs_lit {W : World} {e : TypeId} (l : List UInt8) (n : Nat) (hn : l.length = n) (hm : n ≤ 200000000000000) : Bs (W.alloc (.cells (cu l).toArray e)) (some ⟨W.heap.size, 0, none⟩) n n l :=
  (own_lit W W.heap.size e l n hn hm (Nat.le_refl _)).bs
theorem bs_litk {W : World} {k : Nat} {e : TypeId} (l : List UInt8) (n : Nat) (hk : W.heap.size = k) (hn : l.length = n) (hm : n ≤ 200000000000000) : Bs (W.alloc (.cells (cu l).toArray e)) (some ⟨k, 0, none⟩) n n l :=
  (own_litk W k hk k e l n hn hm (Nat.le_refl _)).bs
/-- A number's lowest byte. -/
def ub (x : Int) : UInt8 := UInt8.ofNat (x % 256).toNat
theorem ub_val (x : Int) : ((ub x).toNat : Int) = x % 256 := by
  unfold ub
  rw [UInt8.toNat_ofNat']
  have : (x % 256).toNat < 256 := by omega
  rw [Nat.mod_eq_of_lt (by simpa using this)]
  omega
theorem cu_ub (x : Int) : Value.int .u8 ((ub x).toNat : Int) = .int .u8 (x % 256) := by rw [ub_val]

/-! ### Stores -/
theorem Own.put {w : World} {base : Nat} {e : TypeId} {A : Option Addr} {n c : Nat} {l : List UInt8} (h : Own w base e A n c l) {i : Nat} (hi : i < n) :
    ∃ g, A = some ⟨g, 0, none⟩ ∧ base ≤ g ∧ g < w.heap.size ∧ w.cell? ⟨g, i, none⟩ = some (.int .u8 (bt l i)) ∧ w.frozen? ⟨g, i, none⟩ = false ∧
      ∀ x : Int, Own (w.setCell ⟨g, i, none⟩ (.int .u8 (x % 256))) base e A n c (l.set i (ub x)) ∧ w.grownBy (w.setCell ⟨g, i, none⟩ (.int .u8 (x % 256))) (some g) := by
  obtain ⟨hl, hm, hr⟩ := h
  obtain ⟨g, cap, hv, hb, hlt⟩ := hr.form (by omega)
  injection hv with h3 h4 h5
  subst h3 h5
  refine ⟨g, rfl, hb, hlt, ?_, hr.frozenAt i, fun x => ?_⟩
  · rw [hr.cellAt i (by omega), cu_at (by omega)]
  · obtain ⟨h1, h2⟩ := hr.stored i (.int .u8 (x % 256))
    refine ⟨⟨by simpa using hl, hm, ?_⟩, h2⟩
    have hc : cu (l.set i (ub x)) = (cu l).set i (.int .u8 (x % 256)) := by
      unfold cu
      rw [List.map_set, cu_ub]
    rw [hc]
    exact h1

theorem Own.ptr {w : World} {base : Nat} {e : TypeId} {A : Option Addr} {n c : Nat} {l : List UInt8} (h : Own w base e A n c l) (hn : 0 < n) :
    ∃ g, A = some ⟨g, 0, none⟩ ∧ base ≤ g ∧ g < w.heap.size := by
  obtain ⟨g, rfl, h1, h2, _⟩ := h.put hn
  exact ⟨g, rfl, h1, h2⟩
theorem Own.at_ {w : World} {base : Nat} {e : TypeId} {g n c : Nat} {l : List UInt8} (h : Own w base e (some ⟨g, 0, none⟩) n c l) {i : Nat} (hi : i < n) :
    w.cell? ⟨g, i, none⟩ = some (.int .u8 (bt l i)) ∧ w.frozen? ⟨g, i, none⟩ = false := by
  obtain ⟨g', he, h1, h2, h3, h4, _⟩ := h.put hi
  injection he with he
  injection he with he
  subst he
  exact ⟨h3, h4⟩
theorem Own.set_ {w : World} {base : Nat} {e : TypeId} {g n c : Nat} {l : List UInt8} (h : Own w base e (some ⟨g, 0, none⟩) n c l) {i : Nat} (hi : i < n) (x : Int) {y : Int} (hy : x % 256 = y) :
    Own (w.setCell ⟨g, i, none⟩ (.int .u8 y)) base e (some ⟨g, 0, none⟩) n c (l.set i (ub x)) := by
  obtain ⟨g', he, h1, h2, h3, h4, h5⟩ := h.put hi
  injection he with he
  injection he with he
  subst he
  subst hy
  exact (h5 x).1

/-! ### Numbers -/
/-- Is there room for k bytes from place a on? -/
def thereB (n : Nat) (a k : Int) : Bool := decide (0 ≤ a ∧ a ≤ n ∧ k ≤ n - a)
theorem thereB_of {n : Nat} {a k : Int} (h0 : 0 ≤ a) (h1 : a ≤ n) (h2 : k ≤ n - a) : thereB n a k = true := by simp [thereB, h0, h1, h2]
theorem of_thereB {n : Nat} {a k : Int} (h : thereB n a k = true) : 0 ≤ a ∧ a ≤ n ∧ k ≤ n - a := by simpa [thereB] using h
theorem of_not_thereB {n : Nat} {a k : Int} (h : thereB n a k = false) : ¬ (0 ≤ a ∧ a ≤ n ∧ k ≤ n - a) := by simpa only [thereB, decide_eq_false_iff_not] using h

theorem or_shift {a b k : Nat} (hb : b < 2 ^ k) : a * 2 ^ k ||| b = a * 2 ^ k + b := by
  rw [Nat.mul_comm]; exact (Nat.two_pow_add_eq_or_of_lt hb a).symm
theorem or_u16 {x y : Int} (hx : 0 ≤ x) (hx' : x ≤ 255) (hy : 0 ≤ y) (hy' : y ≤ 255) : bits .or .u16 (x * 256) y = x * 256 + y := by
  rw [u16_or _ _ (by omega) (by omega) hy (by omega)]
  obtain ⟨a, rfl⟩ := Int.eq_ofNat_of_zero_le hx
  obtain ⟨b, rfl⟩ := Int.eq_ofNat_of_zero_le hy
  have e : ((a : Int) * 256).toNat = a * 2 ^ 8 := by omega
  rw [e, Int.toNat_natCast, or_shift (by omega)]
  omega
theorem or_u32b {x y : Int} (hx : 0 ≤ x) (hx' : x ≤ 255) (hy : 0 ≤ y) (hy' : y ≤ 255) : bits .or .u32 (x * 256) y = x * 256 + y := by
  rw [u32_or _ _ (by omega) (by omega) hy (by omega)]
  obtain ⟨a, rfl⟩ := Int.eq_ofNat_of_zero_le hx
  obtain ⟨b, rfl⟩ := Int.eq_ofNat_of_zero_le hy
  have e : ((a : Int) * 256).toNat = a * 2 ^ 8 := by omega
  rw [e, Int.toNat_natCast, or_shift (by omega)]
  omega
theorem or_u32 {x y : Int} (hx : 0 ≤ x) (hx' : x ≤ 65535) (hy : 0 ≤ y) (hy' : y ≤ 65535) : bits .or .u32 (x * 65536) y = x * 65536 + y := by
  rw [u32_or _ _ (by omega) (by omega) hy (by omega)]
  obtain ⟨a, rfl⟩ := Int.eq_ofNat_of_zero_le hx
  obtain ⟨b, rfl⟩ := Int.eq_ofNat_of_zero_le hy
  have e : ((a : Int) * 65536).toNat = a * 2 ^ 16 := by omega
  rw [e, Int.toNat_natCast, or_shift (by omega)]
  omega

def get16 (l : List UInt8) (a : Int) : Int := if 0 ≤ a ∧ a + 2 ≤ (l.length : Int) then bt l a.toNat * 256 + bt l (a.toNat + 1) else 0
theorem get16_in {l : List UInt8} {a : Int} (h0 : 0 ≤ a) (h1 : a + 2 ≤ (l.length : Int)) : get16 l a = bt l a.toNat * 256 + bt l (a.toNat + 1) := if_pos ⟨h0, h1⟩
theorem get16_out {l : List UInt8} {a : Int} (h : ¬ (0 ≤ a ∧ a + 2 ≤ (l.length : Int))) : get16 l a = 0 := if_neg h
theorem get16_lo (l : List UInt8) (a : Int) : 0 ≤ get16 l a := by
  unfold get16; split
  · have := bt_lo l a.toNat; have := bt_lo l (a.toNat + 1); omega
  · omega
theorem get16_hi (l : List UInt8) (a : Int) : get16 l a ≤ 65535 := by
  unfold get16; split
  · have := bt_hi l a.toNat; have := bt_hi l (a.toNat + 1); omega
  · omega
def get32 (l : List UInt8) (a : Int) : Int := if 0 ≤ a ∧ a + 4 ≤ (l.length : Int) then get16 l a * 65536 + get16 l (a + 2) else 0
theorem get32_in {l : List UInt8} {a : Int} (h0 : 0 ≤ a) (h1 : a + 4 ≤ (l.length : Int)) : get32 l a = get16 l a * 65536 + get16 l (a + 2) := if_pos ⟨h0, h1⟩
theorem get32_out {l : List UInt8} {a : Int} (h : ¬ (0 ≤ a ∧ a + 4 ≤ (l.length : Int))) : get32 l a = 0 := if_neg h
theorem get32_lo (l : List UInt8) (a : Int) : 0 ≤ get32 l a := by
  unfold get32; split
  · have := get16_lo l a; have := get16_lo l (a + 2); omega
  · omega
theorem get32_hi (l : List UInt8) (a : Int) : get32 l a ≤ 4294967295 := by
  unfold get32; split
  · have := get16_hi l a; have := get16_hi l (a + 2); omega
  · omega

theorem and_u64_65535 {m : Int} (h0 : 0 ≤ m) (h1 : m < 18446744073709551616) : bits .and .u64 m 65535 = m % 65536 := by
  obtain ⟨a, rfl⟩ := Int.eq_ofNat_of_zero_le h0
  have := u64_and_nat a 65535 (by omega) (by omega)
  rw [show ((65535 : Nat) : Int) = 65535 from rfl] at this
  rw [this, Nat.and_two_pow_sub_one_eq_mod a 16]
  omega

/-- Bytes with the n lowest bytes of a number from place a on: the last k of them laid. -/
def putK (l : List UInt8) (a n : Nat) (v : Int) : Nat → List UInt8
  | 0 => l
  | k + 1 => (putK l a n v k).set (a + n - 1 - k) (ub (v / 2 ^ (8 * k)))
theorem putK_length (l : List UInt8) (a n : Nat) (v : Int) (k : Nat) : (putK l a n v k).length = l.length := by
  induction k with
  | zero => rfl
  | succ k ih => simp [putK, ih]
def put16 (l : List UInt8) (a v : Int) : List UInt8 := if 0 ≤ a ∧ a + 2 ≤ (l.length : Int) then putK l a.toNat 2 v 2 else l
def put32 (l : List UInt8) (a v : Int) : List UInt8 := if 0 ≤ a ∧ a + 4 ≤ (l.length : Int) then putK l a.toNat 4 v 4 else l
theorem put16_length (l : List UInt8) (a v : Int) : (put16 l a v).length = l.length := by unfold put16; split <;> simp [putK_length]
theorem put32_length (l : List UInt8) (a v : Int) : (put32 l a v).length = l.length := by unfold put32; split <;> simp [putK_length]

theorem put16_eq {l : List UInt8} {i : Nat} {v : Int} (h : i + 2 ≤ l.length) : put16 l i v = (l.set i (ub (v / 256))).set (i + 1) (ub v) := by
  rw [put16, if_pos (by omega)]
  simp only [putK, Int.toNat_natCast]
  rw [List.set_comm _ _ (by omega)]
  simp
theorem put32_halves {l : List UInt8} {a v : Int} (h0 : 0 ≤ a) (h : a + 4 ≤ (l.length : Int)) : put32 l a v = put16 (put16 l a (v / 65536)) (a + 2) (v % 65536) := by
  obtain ⟨i, rfl⟩ := Int.eq_ofNat_of_zero_le h0
  have e : (i : Int) + 2 = ((i + 2 : Nat) : Int) := by omega
  rw [e, put16_eq (by rw [put16_length]; omega), put16_eq (by omega), put32, if_pos (by omega)]
  simp only [putK, Int.toNat_natCast]
  have u1 : ub (v % 65536 / 256) = ub (v / 256) := by unfold ub; congr 2; omega
  have u2 : ub (v % 65536) = ub v := by unfold ub; congr 2; omega
  have u3 : v / 65536 / 256 = v / 16777216 := by omega
  rw [u1, u2, u3]
  apply List.ext_getElem?
  intro j
  simp only [List.getElem?_set]
  simp
  by_cases j0 : i = j
  · subst j0; simp; exact fun h => absurd h (by omega)
  by_cases j1 : i + 1 = j
  · subst j1; simp
  by_cases j2 : i + 2 = j
  · subst j2; simp
  by_cases j3 : i + 3 = j
  · subst j3; simp
  simp [*]
/-- What is above 16 bits added again, till nothing is. -/
def fd (n : Int) : Int := if n = 0 then 0 else (n - 1) % 65535 + 1
theorem fd_lo (n : Int) : 0 ≤ fd n := by unfold fd; split <;> omega
theorem fd_hi (n : Int) : fd n ≤ 65535 := by unfold fd; split <;> omega
theorem fd_small {n : Int} (h0 : 0 ≤ n) (h1 : n ≤ 65535) : fd n = n := by unfold fd; split <;> omega
theorem fd_step {n : Int} (h0 : 0 ≤ n) : fd (n / 65536 + n % 65536) = fd n := by unfold fd; split <;> split <;> omega
theorem not_u16 {x : Int} (h0 : 0 ≤ x) (h1 : x ≤ 65535) : bits .xor .u16 IntKind.u16.max x = 65535 - x := by
  obtain ⟨a, rfl⟩ := Int.eq_ofNat_of_zero_le h0
  have hm : IntKind.u16.max = ((65535 : Nat) : Int) := rfl
  rw [hm, u16_xor_nat 65535 a (by omega) (by omega)]
  have h := BitVec.toNat_not (x := BitVec.ofNat 16 a)
  have ha : a % 65536 = a := Nat.mod_eq_of_lt (by omega)
  rw [← BitVec.allOnes_xor, BitVec.toNat_xor, BitVec.toNat_allOnes, BitVec.toNat_ofNat] at h
  rw [show (2 : Nat) ^ 16 = 65536 from rfl, ha] at h
  have h' : 65535 ^^^ a = 65535 - a := h
  rw [h']
  omega
theorem ahead_eq (a b : Int) : wrap64 (wrap32 ((a - b) % 4294967296)) = (if 2147483648 ≤ (a - b) % 4294967296 then (a - b) % 4294967296 - 4294967296 else (a - b) % 4294967296) := by
  unfold wrap64 wrap32; split <;> omega
def patch (s a b : Int) : Int := 65535 - fd ((65535 - s) + (65535 - a) + b)
def ahead (a b : Int) : Int := if 2147483648 ≤ (a - b) % 4294967296 then (a - b) % 4294967296 - 4294967296 else (a - b) % 4294967296
/-- A number's two, four bytes. -/
def two (v : Int) : List UInt8 := [ub (v / 256), ub v]
def four (v : Int) : List UInt8 := [ub (v / 16777216), ub (v / 65536), ub (v / 256), ub v]
theorem ub_u16 (n : Int) : ub (n % 65536) = ub n := by unfold ub; congr 2; omega
/-- What stands ahead of a packet's data. -/
def pseudo (s d p n : Int) : List UInt8 := four s ++ four d ++ [0, ub p] ++ two (n % 65536)
theorem pseudo_eq (s d p n : Int) : put16 ((put32 (put32 (zs 12) 0 s) 4 d).set 9 (ub p)) 10 (n % 65536) = pseudo s d p n := by
  simp [put16, put32, putK, zs, List.replicate, four, two, pseudo]

/-- The word at place i: a byte that is not there is 0. -/
def wd (l : List UInt8) (i : Nat) : Int := bt l (2 * i) * 256 + bt l (2 * i + 1)
theorem wd_lo (l : List UInt8) (i : Nat) : 0 ≤ wd l i := by unfold wd; have := bt_lo l (2 * i); have := bt_lo l (2 * i + 1); omega
theorem wd_hi (l : List UInt8) (i : Nat) : wd l i ≤ 65535 := by unfold wd; have := bt_hi l (2 * i); have := bt_hi l (2 * i + 1); omega
theorem bt_out {l : List UInt8} {i : Nat} (h : l.length ≤ i) : bt l i = 0 := by
  unfold bt
  rw [List.getD_eq_getElem?_getD, List.getElem?_eq_none h]
  rfl
theorem wd_odd {l : List UInt8} {i : Nat} (h : l.length ≤ 2 * i + 1) : wd l i = bt l (2 * i) * 256 := by
  unfold wd; rw [bt_out h]; omega
def wsK (l : List UInt8) : Nat → Int
  | 0 => 0
  | k + 1 => wsK l k + wd l k
theorem wsK_lo (l : List UInt8) (k : Nat) : 0 ≤ wsK l k := by
  induction k with
  | zero => exact Int.le_refl _
  | succ k ih => have := wd_lo l k; simp only [wsK]; omega
theorem wsK_hi (l : List UInt8) (k : Nat) : wsK l k ≤ 65535 * (k : Int) := by
  induction k with
  | zero => simp [wsK]
  | succ k ih => have := wd_hi l k; simp only [wsK]; omega
/-- The sum of bytes as words. -/
def ws (l : List UInt8) : Int := wsK l ((l.length + 1) / 2)
def csum (l : List UInt8) : Int := 65535 - fd (ws l)
theorem csum_lo (l : List UInt8) : 0 ≤ csum l := by unfold csum; have := fd_hi (ws l); omega
theorem csum_hi (l : List UInt8) : csum l ≤ 65535 := by unfold csum; have := fd_lo (ws l); omega
theorem fd_add {a b : Int} (ha : 0 ≤ a) (hb : 0 ≤ b) : fd (fd a + b) = fd (a + b) := by
  unfold fd
  split <;> split <;> split <;> omega
/-- A row of ints of the call's own. -/
def ints (f : Nat → Int) (m : Nat) : List Value := (List.range m).map fun i => .int .i64 (f i)
theorem ints_succ (f : Nat → Int) (m : Nat) : ints f (m + 1) = ints f m ++ [.int .i64 (f m)] := by simp [ints, List.range_succ]
theorem ints_length (f : Nat → Int) (m : Nat) : (ints f m).length = m := by simp [ints]
theorem ints_at (f : Nat → Int) {m i : Nat} (h : i < m) : (ints f m)[i]? = some (.int .i64 (f i)) := by simp [ints, h]
theorem slice_of_own {w : World} {base : Nat} {e : TypeId} {size n : Nat} {v : Value} {xs : List Value} (h : w.ownsRow base e size v n xs) : ∃ A c, v = .slice A n c := by
  rcases h.2 with ⟨rfl, rfl⟩ | ⟨g, cap, cur, rfl, _⟩
  · exact ⟨none, 0, rfl⟩
  · exact ⟨_, cap, rfl⟩
theorem wpList_append_int {P : Program} {ops : Array Oper} {rest : List Oper} {o : Oper} {a : Act} {Q : Exit → Act → World → Prop} {w0 W : World} (hgd : o.guard = none) (s x : Operand) (t : TypeId)
    (ho : o.op = .call { callee := .builtin .append, args := #[s, x], argTypes := #[t, t] })
    (base : Nat) (e : TypeId) (ht : P.underlying t = some (.slice e)) (hinfo : (P.info? e).map (fun i => (i.zero, i.size, i.bytes)) = some (some (.int .i64 0), 1, 8))
    (f : Nat → Int) (A : Option Addr) (k c : Nat) (v : Int) (hv : f k = v) (hs : a.eval s = .slice A k c) (hown : W.ownsRow base e 1 (.slice A k c) k (ints f k)) (hx : a.eval x = .slice (some ⟨W.heap.size, 0, none⟩) 1 1)
    (HB : Below base w0 W) (hmax : k < 17592186044416) (hbase : base ≤ W.heap.size)
    (h : ∀ A' c' w', w'.ownsRow base e 1 (.slice A' (k + 1) c') (k + 1) (ints f (k + 1)) → Below base w0 w' → wpList P ops Q rest (a.put o.dst (.slice A' (k + 1) c')) w') :
    wpList P ops Q (o :: rest) a (W.alloc (.cells #[.int .i64 v] e)) := by
  obtain ⟨i0, hi, hz0, hz1, hz2⟩ := info_parts hinfo
  refine wpList_append_own (W.alloc (.cells #[.int .i64 v] e)) hgd s x t ho base e i0 (.int .i64 0) 1 8 ht hi hz0 hz1 hz2 rfl (by omega) (.slice A k c) k (ints f k) hs (hown.alloc _) ⟨W.heap.size, 0, none⟩ 1 1 [.int .i64 v] hx rfl
    (World.news_of_block (cs := #[.int .i64 v]) (t := e) (fr := (0, 0)) (heap_alloc_new W _)) (by simp [Value.oneCell']) (by simp only [maxLen]; omega) (by omega) (by simp; omega) ?_
  intro v' w' hown' hgrow _
  obtain ⟨A', c', rfl⟩ := slice_of_own hown'
  subst hv
  rw [← ints_succ] at hown'
  exact h A' c' w' hown' ((HB.alloc hbase _).grown hgrow (by simp; omega) (fun j hj => (hown.lt j hj).1))
theorem ret_true {b : Bool} (h : b = true) : Ending.returned (.bool b) = .returned (.bool true) := by rw [h]
end Go.Proofs.Ytogbncpchmnbdaa
