/- Parts of the proofs of this seat, laid together: SegP Seg1 Hdr Os Zeros RegN RegN2 RegZ RegXZ SegO. -/
import Derived.Lib.AppendZerosOnto
import Derived.Laws.CopyRow
import Derived.Test.YtjjhnjkmoogloaaK2
import Derived.Test.YtjjhnjkmoogloaaK1
/- Segments, datagrams and options: what bytes say of them, and their bytes. -/
namespace Go.Proofs.Ytjjhnjkmoogloaa
open Go.RowKit
set_option linter.unusedVariables false
set_option maxRecDepth 100000

structure Opt where
  kind : Int
  dat : List UInt8
structure Opt.Ok (o : Opt) : Prop where
  kind : 0 ≤ o.kind ∧ o.kind ≤ 255
def zO : Opt := ⟨0, []⟩
structure Seg where
  src : Int
  dst : Int
  seq : Int
  ack : Int
  flags : Int
  win : Int
  urg : Int
  opts : List Opt
  dat : List UInt8
structure Seg.Ok (s : Seg) : Prop where
  src : 0 ≤ s.src ∧ s.src ≤ 65535
  dst : 0 ≤ s.dst ∧ s.dst ≤ 65535
  seq : 0 ≤ s.seq ∧ s.seq ≤ 4294967295
  ack : 0 ≤ s.ack ∧ s.ack ≤ 4294967295
  flags : 0 ≤ s.flags ∧ s.flags ≤ 255
  win : 0 ≤ s.win ∧ s.win ≤ 65535
  urg : 0 ≤ s.urg ∧ s.urg ≤ 65535
  opts : ∀ o ∈ s.opts, o.Ok
structure Dgm where
  src : Int
  dst : Int
  bare : Bool
  dat : List UInt8
structure Dgm.Ok (d : Dgm) : Prop where
  src : 0 ≤ d.src ∧ d.src ≤ 65535
  dst : 0 ≤ d.dst ∧ d.dst ≤ 65535
def zS : Seg := ⟨0, 0, 0, 0, 0, 0, 0, [], []⟩
def zD : Dgm := ⟨0, 0, false, []⟩
def eqO (a b : Opt) : Bool := a.kind == b.kind && a.dat == b.dat
theorem eqO_iff (a b : Opt) : eqO a b = true ↔ a = b := by
  unfold eqO
  cases a; cases b
  simp
def eqOs : List Opt → List Opt → Bool
  | [], [] => true
  | a :: x, b :: y => eqO a b && eqOs x y
  | _, _ => false
theorem eqOs_iff : ∀ a b : List Opt, eqOs a b = true ↔ a = b
  | [], [] => by simp [eqOs]
  | [], b :: y => by simp [eqOs]
  | a :: x, [] => by simp [eqOs]
  | a :: x, b :: y => by simp [eqOs, eqO_iff, eqOs_iff x y]
theorem eqOs_self (a : List Opt) : eqOs a a = true := (eqOs_iff a a).2 rfl
theorem eqOs_comm (a b : List Opt) : eqOs a b = eqOs b a := by
  rw [Bool.eq_iff_iff, eqOs_iff, eqOs_iff]; exact ⟨Eq.symm, Eq.symm⟩
theorem eqOs_all {a b : List Opt} (hl : a.length = b.length) (h : ∀ i, i < a.length → a.getD i zO = b.getD i zO) : eqOs a b = true := by
  rw [eqOs_iff]
  apply List.ext_getElem hl
  intro i h1 h2
  have := h i h1
  simpa [List.getD_eq_getElem?_getD, List.getElem?_eq_getElem h1, List.getElem?_eq_getElem h2] using this
theorem eqOs_one {a b : List Opt} {i : Nat} (h : a.getD i zO ≠ b.getD i zO) : eqOs a b = false := by
  cases hq : eqOs a b with
  | false => rfl
  | true => exact absurd (by rw [(eqOs_iff a b).1 hq]) h
theorem eqOs_len {a b : List Opt} (h : a.length ≠ b.length) : eqOs a b = false := by
  cases hq : eqOs a b with
  | false => rfl
  | true => exact absurd (by rw [(eqOs_iff a b).1 hq]) h
def sameS (a b : Seg) : Bool := a.src == b.src && a.dst == b.dst && a.seq == b.seq && a.ack == b.ack && a.flags == b.flags && a.win == b.win && a.urg == b.urg && eqOs a.opts b.opts && a.dat == b.dat
theorem sameS_self (s : Seg) : sameS s s = true := by simp [sameS, eqOs_self]
theorem sameS_iff (a b : Seg) : sameS a b = true ↔ a = b := by
  unfold sameS
  cases a; cases b
  simp only [Bool.and_eq_true, beq_iff_eq, eqOs_iff, Seg.mk.injEq]
  constructor
  · rintro ⟨⟨⟨⟨⟨⟨⟨⟨a, b⟩, c⟩, d⟩, e⟩, f⟩, g⟩, h⟩, i⟩; exact ⟨a, b, c, d, e, f, g, h, i⟩
  · rintro ⟨a, b, c, d, e, f, g, h, i⟩; exact ⟨⟨⟨⟨⟨⟨⟨⟨a, b⟩, c⟩, d⟩, e⟩, f⟩, g⟩, h⟩, i⟩
theorem sameS_comm (a b : Seg) : sameS a b = sameS b a := by
  rw [Bool.eq_iff_iff, sameS_iff, sameS_iff]; exact ⟨Eq.symm, Eq.symm⟩
def sameD (a b : Dgm) : Bool := a.src == b.src && a.dst == b.dst && a.bare == b.bare && a.dat == b.dat
theorem sameD_self (d : Dgm) : sameD d d = true := by simp [sameD]
theorem sameD_iff (a b : Dgm) : sameD a b = true ↔ a = b := by
  unfold sameD
  cases a; cases b
  simp only [Bool.and_eq_true, beq_iff_eq, Dgm.mk.injEq]
  constructor
  · rintro ⟨⟨⟨a, b⟩, c⟩, d⟩; exact ⟨a, b, c, d⟩
  · rintro ⟨a, b, c, d⟩; exact ⟨⟨⟨a, b⟩, c⟩, d⟩

/-! ### Options out of bytes -/
def allZ (l : List UInt8) : Bool := l.all (· == 0)
/-- What stands first: none: it is wrong; some none: no more; an option and how many bytes it has. -/
def nx (l : List UInt8) : Option (Option (Opt × Nat)) :=
  if l.length = 0 then some none
  else if bt l 0 = 0 then (if allZ l then some none else none)
  else if bt l 0 = 1 then some (some (⟨1, []⟩, 1))
  else if l.length < 2 ∨ bt l 1 < 2 ∨ (l.length : Int) < bt l 1 then none
  else some (some (⟨bt l 0, (l.take (bt l 1).toNat).drop 2⟩, (bt l 1).toNat))
theorem nx_some {l : List UInt8} {o : Opt} {n : Nat} (h : nx l = some (some (o, n))) : 1 ≤ n ∧ n ≤ l.length ∧ o.Ok := by
  have b0 := bt_lo l 0
  have b1 := bt_hi l 0
  unfold nx at h
  split at h
  · cases h
  · split at h
    · split at h <;> cases h
    · split at h
      · simp only [Option.some.injEq, Prod.mk.injEq] at h
        obtain ⟨rfl, rfl⟩ := h
        exact ⟨by omega, by omega, ⟨by decide⟩⟩
      · split at h
        · cases h
        · simp only [Option.some.injEq, Prod.mk.injEq] at h
          obtain ⟨rfl, rfl⟩ := h
          exact ⟨by omega, by omega, ⟨by exact ⟨b0, b1⟩⟩⟩
def optsK : Nat → List UInt8 → Option (List Opt)
  | 0, _ => none
  | k + 1, l => match nx l with
    | none => none
    | some none => some []
    | some (some (o, n)) => (optsK k (l.drop n)).map (o :: ·)
def optsP (l : List UInt8) : Option (List Opt) := optsK (l.length + 1) l
theorem optsK_fuel : ∀ (k j : Nat) (l : List UInt8), l.length < k → l.length < j → optsK k l = optsK j l
  | 0, _, _, h, _ => by omega
  | _, 0, _, _, h => by omega
  | k + 1, j + 1, l, h1, h2 => by
    unfold optsK
    cases h : nx l with
    | none => rfl
    | some x =>
      cases x with
      | none => rfl
      | some y =>
        obtain ⟨o, n⟩ := y
        have hn := nx_some h
        simp only
        rw [optsK_fuel k j (l.drop n) (by rw [List.length_drop]; omega) (by rw [List.length_drop]; omega)]
theorem optsP_none {l : List UInt8} (h : nx l = none) : optsP l = none := by unfold optsP optsK; rw [h]
theorem optsP_end {l : List UInt8} (h : nx l = some none) : optsP l = some [] := by unfold optsP optsK; rw [h]
theorem optsP_some {l : List UInt8} {o : Opt} {n : Nat} (h : nx l = some (some (o, n))) : optsP l = (optsP (l.drop n)).map (o :: ·) := by
  have hn := nx_some h
  unfold optsP
  conv => lhs; unfold optsK
  rw [h]
  simp only
  rw [optsK_fuel l.length ((l.drop n).length + 1) (l.drop n) (by rw [List.length_drop]; omega) (by omega)]
theorem optsK_ok : ∀ (k : Nat) (l : List UInt8) (os : List Opt), optsK k l = some os → ∀ o ∈ os, o.Ok
  | 0, l, os, h => by cases h
  | k + 1, l, os, h => by
    unfold optsK at h
    cases hx : nx l with
    | none => rw [hx] at h; cases h
    | some x =>
      cases x with
      | none =>
        rw [hx] at h
        simp only [Option.some.injEq] at h
        subst h
        intro o ho
        cases ho
      | some y =>
        obtain ⟨o, n⟩ := y
        rw [hx] at h
        simp only [Option.map_eq_some_iff] at h
        obtain ⟨r, hr, rfl⟩ := h
        intro o' ho'
        cases List.mem_cons.1 ho' with
        | inl e => subst e; exact (nx_some hx).2.2
        | inr e => exact optsK_ok k _ r hr o' e
theorem optsP_ok {l : List UInt8} {os : List Opt} (h : optsP l = some os) : ∀ o ∈ os, o.Ok := optsK_ok _ l os h

/-! ### Options as bytes -/
def optB (o : Opt) : List UInt8 := if o.kind = 1 then [ub 1] else [ub o.kind, ub (2 + (o.dat.length : Int))] ++ o.dat
def badO (o : Opt) : Bool := o.kind == 0 || (o.kind == 1 && decide (0 < o.dat.length)) || decide (38 < o.dat.length)
def optsB (os : List Opt) : List UInt8 := os.flatMap optB
def okOs (os : List Opt) : Bool := os.all (fun o => !badO o) && decide ((optsB os).length ≤ 40)
def padN (n : Nat) : Nat := (4 - n % 4) % 4
def optL (os : List Opt) : List UInt8 := optsB os ++ zs (padN (optsB os).length)
theorem optL_len (os : List Opt) : (optL os).length = (optsB os).length + padN (optsB os).length ∧ (optL os).length % 4 = 0 := by
  have : (optL os).length = (optsB os).length + padN (optsB os).length := by unfold optL; rw [List.length_append, zs_length]
  refine ⟨this, ?_⟩
  rw [this]; unfold padN; omega
theorem okOs_len {os : List Opt} (h : okOs os = true) : (optL os).length ≤ 40 := by
  unfold okOs at h
  simp only [Bool.and_eq_true, decide_eq_true_eq] at h
  rw [(optL_len os).1]
  unfold padN
  omega

/-! ### Segments -/
def hdS (l : List UInt8) : Nat := 4 * (bt l 12 / 16).toNat
def psum (p : Pkt) (pr : Int) (b : List UInt8) : Int := csum (pseudo p.src p.dst pr b.length ++ b)
def tcE (p : Pkt) : Int :=
  if p.proto ≠ 6 then 12 else if p.dat.length < 20 then 3 else if hdS p.dat < 20 ∨ bt p.dat 12 % 16 ≠ 0 then 4 else if p.dat.length < hdS p.dat then 3 else if psum p 6 p.dat ≠ 0 then 5
  else if optsP ((p.dat.take (hdS p.dat)).drop 20) = none then 4 else 0
def rdS (l : List UInt8) : Seg := ⟨get16 l 0, get16 l 2, get32 l 4, get32 l 8, bt l 13, get16 l 14, get16 l 18, (optsP ((l.take (hdS l)).drop 20)).getD [], l.drop (hdS l)⟩
def tcS (p : Pkt) : Seg := if tcE p = 0 then rdS p.dat else zS
theorem zS_ok : zS.Ok := ⟨by decide, by decide, by decide, by decide, by decide, by decide, by decide, fun o h => by cases h⟩
theorem rdS_ok (l : List UInt8) : (rdS l).Ok := by
  refine ⟨⟨get16_lo _ _, get16_hi _ _⟩, ⟨get16_lo _ _, get16_hi _ _⟩, ⟨get32_lo _ _, get32_hi _ _⟩, ⟨get32_lo _ _, get32_hi _ _⟩, ⟨bt_lo _ _, bt_hi _ _⟩, ⟨get16_lo _ _, get16_hi _ _⟩, ⟨get16_lo _ _, get16_hi _ _⟩, ?_⟩
  show ∀ o ∈ (optsP ((l.take (hdS l)).drop 20)).getD [], o.Ok
  cases h : optsP ((l.take (hdS l)).drop 20) with
  | none => intro o ho; cases ho
  | some os => exact optsP_ok h
theorem tcS_ok (p : Pkt) : (tcS p).Ok := by
  unfold tcS; split
  · exact rdS_ok _
  · exact zS_ok
/-- A segment's bytes, their sum 0. -/
def sL (s : Seg) : List UInt8 :=
  two s.src ++ two s.dst ++ four s.seq ++ four s.ack ++ [ub (((20 + (optL s.opts).length : Nat) : Int) / 4 * 16), ub s.flags] ++ two s.win ++ [0, 0] ++ two s.urg ++ optL s.opts ++ s.dat
def sN (s : Seg) : Nat := 20 + (optL s.opts).length + s.dat.length
theorem sL_len (s : Seg) : (sL s).length = sN s := by
  unfold sL sN two four
  simp only [List.length_append, List.length_cons, List.length_nil]
end Go.Proofs.Ytjjhnjkmoogloaa

/- Sums of packets' data, the packet with other data. -/
namespace Go.Proofs.Ytjjhnjkmoogloaa
open Go.RowKit
set_option linter.unusedVariables false
set_option linter.unusedSimpArgs false
set_option linter.unusedSimpArgs false
set_option maxHeartbeats 4000000
set_option maxRecDepth 100000

structure isC (L : List UInt8) (W : World) (v : Value) : Prop where
  out : ∀ W', Below W.heap.size W W' → Calls Try.prog 49 #[v] W' fun e w' => ∃ A n c, e = .returned (.slice A n c) ∧ Own w' W'.heap.size 5 A n c L ∧ Below W'.heap.size W' w'
theorem st_isC {L : List UInt8} : ∀ w w' v, isC L w v → Below w.heap.size w w' → isC L w' v := fun w w' v h hb => ⟨fun W hB => h.out W (below_then hb hB)⟩
theorem isCat3 {W0 : World} {g n1 c1 n2 c2 n3 c3 cc : Nat} {A1 A2 A3 : Option Addr} {l1 l2 l3 : List UInt8} {T : TypeId} (G : Blk W0 g #[.slice A1 n1 c1, .slice A2 n2 c2, .slice A3 n3 c3] T) (k1 : Bs W0 A1 n1 c1 l1) (k2 : Bs W0 A2 n2 c2 l2) (k3 : Bs W0 A3 n3 c3 l3) (h : n1 + n2 + n3 ≤ 200000000000000) :
    isCat (.slice (some ⟨g, 0, none⟩) 3 cc) (l1 ++ l2 ++ l3) W0 := by
  intro W hB
  have G' := G.below hB
  have gc := G'.cell.1
  have := concat_any g 3 cc (fun j => if j = 0 then A1 else if j = 1 then A2 else A3) (fun j => if j = 0 then n1 else if j = 1 then n2 else n3) (fun j => if j = 0 then c1 else if j = 1 then c2 else c3) (fun j => if j = 0 then l1 else if j = 1 then l2 else l3) (by omega) W G'.lt (fun j hj => by
      rw [gc]
      have : j = 0 ∨ j = 1 ∨ j = 2 := by omega
      rcases this with rfl | rfl | rfl <;> rfl) (fun j hj => by
      have : j = 0 ∨ j = 1 ∨ j = 2 := by omega
      rcases this with rfl | rfl | rfl
      · exact k1.below hB
      · exact k2.below hB
      · exact k3.below hB) (by simp [catN]; omega)
  exact this
theorem isCat2' {W0 : World} {g n1 c1 n2 c2 cc : Nat} {A1 A2 : Option Addr} {l1 l2 : List UInt8} {T : TypeId} (G : Blk W0 g #[.slice A1 n1 c1, .slice A2 n2 c2] T) (k1 : Bs W0 A1 n1 c1 l1) (k2 : Bs W0 A2 n2 c2 l2) (h : n1 + n2 ≤ 200000000000000) :
    isCat (.slice (some ⟨g, 0, none⟩) 2 cc) (l1 ++ l2) W0 := by
  intro W hB
  have G' := G.below hB
  have gc := G'.cell.1
  have := concat_any g 2 cc (fun j => if j = 0 then A1 else A2) (fun j => if j = 0 then n1 else n2) (fun j => if j = 0 then c1 else c2) (fun j => if j = 0 then l1 else l2) (by omega) W G'.lt (fun j hj => by
      rw [gc]
      have : j = 0 ∨ j = 1 := by omega
      rcases this with rfl | rfl <;> rfl) (fun j hj => by
      have : j = 0 ∨ j = 1 := by omega
      rcases this with rfl | rfl
      · exact k1.below hB
      · exact k2.below hB) (by simp [catN]; omega)
  exact this
theorem goes_cat3 {W : World} {n1 c1 n2 c2 n3 c3 : Nat} {A1 A2 A3 : Option Addr} {l1 l2 l3 : List UInt8} {T : TypeId} (k1 : Bs W A1 n1 c1 l1) (k2 : Bs W A2 n2 c2 l2) (k3 : Bs W A3 n3 c3 l3) (h : n1 + n2 + n3 ≤ 200000000000000) :
    OpGoes Try.prog (fun v w' => (Kd.p (isC (l1 ++ (l2 ++ l3)))).holds w' v ∧ Below W.heap.size W w') (.ok (.value (.slice (some ⟨W.heap.size, 0, none⟩) 3 3)) (W.alloc (.cells #[.slice A1 n1 c1, .slice A2 n2 c2, .slice A3 n3 c3] T))) :=
  ⟨⟨by rw [← List.append_assoc]; exact isCat3 (blk_new W _ T _ rfl) (k1.alloc _) (k2.alloc _) (k3.alloc _) h⟩, (Below.refl _ W).alloc (Nat.le_refl _) _⟩
theorem goes_mkb {W : World} {z : Nat} (hz : z ≤ 200000000000000) :
    OpGoes Try.prog (fun v w' => (Kd.b z (zs z)).holds w' v ∧ Below W.heap.size W w') (.ok (.value (.slice (some ⟨W.heap.size, 0, none⟩) z z)) (W.alloc (.cells (cu (zs z)).toArray 5))) :=
  ⟨⟨_, _, rfl, bs_lit (zs z) z (zs_length z) hz⟩, (Below.refl _ W).alloc (Nat.le_refl _) _⟩
theorem psum_more (p : Pkt) (pr : Int) (b : List UInt8) (k : Nat) : csum (pseudo p.src p.dst pr b.length ++ b ++ zs k) = psum p pr b := by rw [csum_behind]; rfl
theorem fits_any (p : Pkt) (hp : p.Ok) (A1 : Option Addr) (n1 c1 : Nat) (A2 : Option Addr) (n2 c2 : Nat) (pr : Int) (p0 : 0 ≤ pr) (p1 : pr ≤ 255) (w : World) (k2 : Bs w A2 n2 c2 p.dat) (hn2 : n2 ≤ 140737488400000) :
    Calls Try.prog 36 #[(.agg #[.int .u8 (p).tos, .int .u16 (p).id, .bool (p).keep, .int .u8 (p).ttl, .int .u8 (p).proto, .int .u32 (p).src, .int .u32 (p).dst, .slice A1 n1 c1, .slice A2 n2 c2]), .int .u8 pr] w fun e w' => e = .returned (.bool (psum p pr p.dat == 0)) ∧ Below w.heap.size w w' := by
  have l2 := k2.len
  have HS : Hid (csum (pseudo p.src p.dst pr n2 ++ (p.dat ++ zs (n2 % 2))) = psum p pr p.dat) := by unfold Hid; rw [← l2, ← List.append_assoc]; exact psum_more p pr p.dat _
  obtain ⟨-, -, -, -, ⟨o5, o5'⟩, ⟨o6, o6'⟩⟩ := hp
  have hrem : ((n2 : Int)).tmod 2 = ((n2 % 2 : Nat) : Int) := by rw [Int.tmod_eq_emod_of_nonneg (by omega)]; omega
  obtain ⟨z, hz⟩ : ∃ z : Nat, n2 % 2 = z := ⟨_, rfl⟩
  rw [hz] at hrem HS
  have hz1 : z ≤ 1 := by omega
  have hmk : ∀ W, (Instr.makeSlice 24 (.int .i64 (z : Int)) (.int .i64 (z : Int))).run Try.prog W = .ok (.slice (some ⟨W.heap.size, 0, none⟩) z z) (W.alloc (.cells (cu (zs z)).toArray 5)) := fun W => by
    obtain ⟨i, hi, hz', hs, hb⟩ := info_parts info_u8
    have hr := run_make (P := Try.prog) W 24 5 i (.int .u8 0) Try.underlying24 hi hz' .i64 .i64 z z (by omega) (by omega) (by rw [hb]; omega) (by omega)
    simp only [hs, Nat.mul_one] at hr
    rw [hr, cu_zs]
    rfl
  clear l2 hz
  obtain ⟨k, hk⟩ : ∃ k : Nat, w.heap.size = k := ⟨_, rfl⟩
  obtain ⟨w1, hw1⟩ : ∃ W, (w.alloc (.cells #[.int .u8 (p).tos, .int .u16 (p).id, .bool (p).keep, .int .u8 (p).ttl, .int .u8 (p).proto, .int .u32 (p).src, .int .u32 (p).dst, .slice A1 n1 c1, .slice A2 n2 c2] 26)) = W := ⟨_, rfl⟩
  have P1 : Blk w1 k #[.int .u8 (p).tos, .int .u16 (p).id, .bool (p).keep, .int .u8 (p).ttl, .int .u8 (p).proto, .int .u32 (p).src, .int .u32 (p).dst, .slice A1 n1 c1, .slice A2 n2 c2] 26 := by rw [← hw1]; exact (blk_new _ _ _ k (by simp [hk]))
  have R1 : Below w.heap.size w w1 := by rw [← hw1]; (repeat (first | with_reducible exact Below.refl _ _ | with_reducible refine below_drew ?_ | with_reducible refine below_drewN ?_ _ | with_reducible refine below_alloc ?_ (Nat.le_refl _) _ | with_reducible refine Below.setCell ?_ (by first | exact Nat.le_refl _ | (simp only []; omega)) _ | with_reducible assumption))
  have Pc1 := P1.cell
  have Pl1 := P1.lt
  have x1 := (k2).below R1
  clear k2
  go_enter Try.func36, Try.ntmps36
  go_wp2_with fail
  refine region_txt 19 (by kernel_rfl) (by kernel_rfl) ?_; (iterate 19 (first | (apply ObsK.skip (by rfl)) | (apply ObsK.v (by rfl); (intro wo hT; (repeat (first | (intro v hv; ((first | (obtain ⟨A7, n7, c7, rfl, o7⟩ := hv; have ob7 := o7.bs) | (have hcat := hv.out)))) | (intro _ _ k; try have hcv := cv k))); (have pc := (P1.below hT).cell; have xo := x1.below hT; have hsz : w1.heap.size ≤ wo.heap.size := hT.size); refine Goes.mk ?_; go_simp; first | exact goes_v | exact goes_b (by assumption) | (first | exact goes_mkb (by omega) | exact goes_cat3 (by assumption) (by assumption) (by assumption) (by omega)) | (refine goes_enter ?_; first | (go_at_call 68; ((with_reducible refine (pseudo_any p.src p.dst pr n2 o5 o5' o6 o6' p0 p1 (by omega) (by omega) wo).mono ?_); rintro e w9 ⟨A9, c9, rfl, ho9, hB9⟩); exact ret_b ho9.bs hB9) | (go_at_call 49; ((with_reducible refine (hcat wo (Below.refl _ _)).mono ?_); rintro e w9 ⟨A9, n9, c9, rfl, ho9, hB9⟩); exact ret_p (own_isW ho9 hsz) hB9) | (go_at_call 67; ((with_reducible refine (good_any A7 n7 c7 _ wo ob7).mono ?_); rintro e w9 ⟨rfl, hB9⟩); exact ret_v hB9)))) | (apply ObsK.b (by rfl); (intro wo hT; (repeat (first | (intro v hv; ((first | (obtain ⟨A7, n7, c7, rfl, o7⟩ := hv; have ob7 := o7.bs) | (have hcat := hv.out)))) | (intro _ _ k; try have hcv := cv k))); (have pc := (P1.below hT).cell; have xo := x1.below hT; have hsz : w1.heap.size ≤ wo.heap.size := hT.size); refine Goes.mk ?_; go_simp; first | exact goes_v | exact goes_b (by assumption) | (first | exact goes_mkb (by omega) | exact goes_cat3 (by assumption) (by assumption) (by assumption) (by omega)) | (refine goes_enter ?_; first | (go_at_call 68; ((with_reducible refine (pseudo_any p.src p.dst pr n2 o5 o5' o6 o6' p0 p1 (by omega) (by omega) wo).mono ?_); rintro e w9 ⟨A9, c9, rfl, ho9, hB9⟩); exact ret_b ho9.bs hB9) | (go_at_call 49; ((with_reducible refine (hcat wo (Below.refl _ _)).mono ?_); rintro e w9 ⟨A9, n9, c9, rfl, ho9, hB9⟩); exact ret_p (own_isW ho9 hsz) hB9) | (go_at_call 67; ((with_reducible refine (good_any A7 n7 c7 _ wo ob7).mono ?_); rintro e w9 ⟨rfl, hB9⟩); exact ret_v hB9)))) | (apply ObsK.p (q := isC (pseudo p.src p.dst pr n2 ++ (p.dat ++ zs z))) (by rfl) st_isC; (intro wo hT; (repeat (first | (intro v hv; ((first | (obtain ⟨A7, n7, c7, rfl, o7⟩ := hv; have ob7 := o7.bs) | (have hcat := hv.out)))) | (intro _ _ k; try have hcv := cv k))); (have pc := (P1.below hT).cell; have xo := x1.below hT; have hsz : w1.heap.size ≤ wo.heap.size := hT.size); refine Goes.mk ?_; go_simp; first | exact goes_v | exact goes_b (by assumption) | (first | exact goes_mkb (by omega) | exact goes_cat3 (by assumption) (by assumption) (by assumption) (by omega)) | (refine goes_enter ?_; first | (go_at_call 68; ((with_reducible refine (pseudo_any p.src p.dst pr n2 o5 o5' o6 o6' p0 p1 (by omega) (by omega) wo).mono ?_); rintro e w9 ⟨A9, c9, rfl, ho9, hB9⟩); exact ret_b ho9.bs hB9) | (go_at_call 49; ((with_reducible refine (hcat wo (Below.refl _ _)).mono ?_); rintro e w9 ⟨A9, n9, c9, rfl, ho9, hB9⟩); exact ret_p (own_isW ho9 hsz) hB9) | (go_at_call 67; ((with_reducible refine (good_any A7 n7 c7 _ wo ob7).mono ?_); rintro e w9 ⟨rfl, hB9⟩); exact ret_v hB9)))) | (apply ObsK.p (q := isW w1.heap.size (pseudo p.src p.dst pr n2 ++ (p.dat ++ zs z))) (by rfl) st_isW; (intro wo hT; (repeat (first | (intro v hv; ((first | (obtain ⟨A7, n7, c7, rfl, o7⟩ := hv; have ob7 := o7.bs) | (have hcat := hv.out)))) | (intro _ _ k; try have hcv := cv k))); (have pc := (P1.below hT).cell; have xo := x1.below hT; have hsz : w1.heap.size ≤ wo.heap.size := hT.size); refine Goes.mk ?_; go_simp; first | exact goes_v | exact goes_b (by assumption) | (first | exact goes_mkb (by omega) | exact goes_cat3 (by assumption) (by assumption) (by assumption) (by omega)) | (refine goes_enter ?_; first | (go_at_call 68; ((with_reducible refine (pseudo_any p.src p.dst pr n2 o5 o5' o6 o6' p0 p1 (by omega) (by omega) wo).mono ?_); rintro e w9 ⟨A9, c9, rfl, ho9, hB9⟩); exact ret_b ho9.bs hB9) | (go_at_call 49; ((with_reducible refine (hcat wo (Below.refl _ _)).mono ?_); rintro e w9 ⟨A9, n9, c9, rfl, ho9, hB9⟩); exact ret_p (own_isW ho9 hsz) hB9) | (go_at_call 67; ((with_reducible refine (good_any A7 n7 c7 _ wo ob7).mono ?_); rintro e w9 ⟨rfl, hB9⟩); exact ret_v hB9)))))); refine ObsK.nil ?_; intro wz hBz; simp only [finOn, List.drop_succ_cons, List.drop_zero, List.drop_nil]
  rintro v7 ⟨A7, n7, c7, rfl, o7⟩ v8 hv8 A5 c5 k5 A6 c6 k6
  go_simp
  go_wp2_with fail
  go_ret
  exact ⟨congrArg (fun z => Ending.returned (.bool (z == 0))) HS.out, below_then R1 hBz⟩
theorem ssum_any (p : Pkt) (hp : p.Ok) (A1 : Option Addr) (n1 c1 : Nat) (A2 : Option Addr) (n2 c2 : Nat) (pr : Int) (p0 : 0 ≤ pr) (p1 : pr ≤ 255) (A3 : Option Addr) (n3 c3 : Nat) (b : List UInt8) (w : World) (k3 : Bs w A3 n3 c3 b) (hn3 : n3 ≤ 140737488400000) :
    Calls Try.prog 51 #[(.agg #[.int .u8 (p).tos, .int .u16 (p).id, .bool (p).keep, .int .u8 (p).ttl, .int .u8 (p).proto, .int .u32 (p).src, .int .u32 (p).dst, .slice A1 n1 c1, .slice A2 n2 c2]), .int .u8 pr, .slice A3 n3 c3] w fun e w' => e = .returned (.int .u16 (psum p pr b)) ∧ Below w.heap.size w w' := by
  have l3 := k3.len
  have HS : Hid (csum (pseudo p.src p.dst pr n3 ++ b) = psum p pr b) := by unfold Hid psum; rw [l3]
  obtain ⟨-, -, -, -, ⟨o5, o5'⟩, ⟨o6, o6'⟩⟩ := hp
  clear l3
  obtain ⟨k, hk⟩ : ∃ k : Nat, w.heap.size = k := ⟨_, rfl⟩
  obtain ⟨w1, hw1⟩ : ∃ W, (w.alloc (.cells #[.int .u8 (p).tos, .int .u16 (p).id, .bool (p).keep, .int .u8 (p).ttl, .int .u8 (p).proto, .int .u32 (p).src, .int .u32 (p).dst, .slice A1 n1 c1, .slice A2 n2 c2] 26)) = W := ⟨_, rfl⟩
  have P1 : Blk w1 k #[.int .u8 (p).tos, .int .u16 (p).id, .bool (p).keep, .int .u8 (p).ttl, .int .u8 (p).proto, .int .u32 (p).src, .int .u32 (p).dst, .slice A1 n1 c1, .slice A2 n2 c2] 26 := by rw [← hw1]; exact (blk_new _ _ _ k (by simp [hk]))
  have R1 : Below w.heap.size w w1 := by rw [← hw1]; (repeat (first | with_reducible exact Below.refl _ _ | with_reducible refine below_drew ?_ | with_reducible refine below_drewN ?_ _ | with_reducible refine below_alloc ?_ (Nat.le_refl _) _ | with_reducible refine Below.setCell ?_ (by first | exact Nat.le_refl _ | (simp only []; omega)) _ | with_reducible assumption))
  have Pc1 := P1.cell
  have Pl1 := P1.lt
  have x1 := (k3).below R1
  clear k3
  go_enter Try.func51, Try.ntmps51
  go_wp2_with (first
    | (go_at_call 68; ((with_reducible refine (pseudo_any p.src p.dst pr n3 o5 o5' o6 o6' p0 p1 (by omega) (by omega) _).mono ?_); rintro e w2 ⟨A2, c2, rfl, o2, hB2⟩); have y2 := o2.bs; have P2 := P1.below hB2; have Pc2 := P2.cell; clear Pc1; have x2 := x1.below hB2; have R2 := below_then R1 hB2; have G := isC.mk (isCat2' (cc := 2) (blk_new w2 #[.slice A2 12 c2, .slice A3 n3 c3] 24 _ rfl) (y2.alloc _) (x2.alloc _) (by omega)))
    | (go_at_call 49; ((with_reducible refine (G.out _ (Below.refl _ _)).mono ?_); rintro e w3 ⟨A9, n9, c9, rfl, ho9, hB9⟩); have R3 := below_then (below_alloc R2 (Nat.le_refl _) _) hB9)
    | (go_at_call 65; ((with_reducible refine (sum_any A9 n9 c9 _ _ ho9.bs).mono ?_); rintro e w4 ⟨rfl, hB4⟩)))
  go_ret
  exact ⟨congrArg (fun z => Ending.returned (.int .u16 z)) HS.out, below_then R3 hB4⟩
theorem rssum_any (p : Pkt) (hp : p.Ok) (A1 : Option Addr) (n1 c1 : Nat) (A2 : Option Addr) (n2 c2 : Nat) (pr : Int) (p0 : 0 ≤ pr) (p1 : pr ≤ 255) (A3 : Option Addr) (n3 c3 : Nat) (b : List UInt8) (w : World) (k3 : Bs w A3 n3 c3 b) (hn3 : n3 ≤ 17592186044400) :
    Calls Try.prog 41 #[(.agg #[.int .u8 (p).tos, .int .u16 (p).id, .bool (p).keep, .int .u8 (p).ttl, .int .u8 (p).proto, .int .u32 (p).src, .int .u32 (p).dst, .slice A1 n1 c1, .slice A2 n2 c2]), .int .u8 pr, .slice A3 n3 c3] w fun e w' => e = .returned (.int .u16 (psum p pr b)) ∧ Below w.heap.size w w' := by
  have l3 := k3.len
  have HS : Hid (csum (pseudo p.src p.dst pr n3 ++ b) = psum p pr b) := by unfold Hid psum; rw [l3]
  obtain ⟨-, -, -, -, ⟨o5, o5'⟩, ⟨o6, o6'⟩⟩ := hp
  clear l3
  obtain ⟨k, hk⟩ : ∃ k : Nat, w.heap.size = k := ⟨_, rfl⟩
  obtain ⟨w1, hw1⟩ : ∃ W, (w.alloc (.cells #[.int .u8 (p).tos, .int .u16 (p).id, .bool (p).keep, .int .u8 (p).ttl, .int .u8 (p).proto, .int .u32 (p).src, .int .u32 (p).dst, .slice A1 n1 c1, .slice A2 n2 c2] 26)) = W := ⟨_, rfl⟩
  have P1 : Blk w1 k #[.int .u8 (p).tos, .int .u16 (p).id, .bool (p).keep, .int .u8 (p).ttl, .int .u8 (p).proto, .int .u32 (p).src, .int .u32 (p).dst, .slice A1 n1 c1, .slice A2 n2 c2] 26 := by rw [← hw1]; exact (blk_new _ _ _ k (by simp [hk]))
  have R1 : Below w.heap.size w w1 := by rw [← hw1]; (repeat (first | with_reducible exact Below.refl _ _ | with_reducible refine below_drew ?_ | with_reducible refine below_drewN ?_ _ | with_reducible refine below_alloc ?_ (Nat.le_refl _) _ | with_reducible refine Below.setCell ?_ (by first | exact Nat.le_refl _ | (simp only []; omega)) _ | with_reducible assumption))
  have Pc1 := P1.cell
  have Pl1 := P1.lt
  have x1 := (k3).below R1
  clear k3
  go_enter Try.func41, Try.ntmps41
  go_wp2_with (first
    | (go_at_call 74; ((with_reducible refine (rpseudo_any p.src p.dst pr n3 o5 o5' o6 o6' p0 p1 (by omega) (by omega) _).mono ?_); rintro e w2 ⟨A2, c2, rfl, o2, hB2⟩); have y2 := o2; have P2 := P1.below hB2; have Pc2 := P2.cell; clear Pc1; have x2 := x1.below hB2; have R2 := below_then R1 hB2)
    | (at_builtin; refine wpList_append_bs (w0 := w1) _ rfl _ _ _ rfl w1.heap.size 5 Try.underlying24 info_u8 A2 12 c2 _ rfl y2 A3 n3 c3 b rfl x2 hB2 (by omega) (by first | exact Nat.le_refl _ | exact Below.size hB2 | omega | (simp <;> omega)) ?_; intro A9 n9 c9 w9 ho9 hB9 _ hz9; have u9 : n9 = 12 + n3 := (by have := ho9.len; have := x2.len; simp [pseudo, four, two] at *; omega); subst u9)
    | (go_at_call 73; ((with_reducible refine (rsum_any A9 (12 + n3) c9 _ (by omega) _ ho9.bs).mono ?_); rintro e w4 ⟨rfl, hB4⟩)))
  go_ret
  exact ⟨congrArg (fun z => Ending.returned (.int .u16 z)) HS.out, below_then (below_then R1 hB9) hB4⟩
/-- The packet with these bytes, not copied. -/
structure SwPost (w : World) (p : Pkt) (pr : Int) (A3 : Option Addr) (n3 c3 : Nat) (e : Ending) (w' : World) : Prop where
  out : ∃ A4 n4 c4, e = .returned (.tuple #[.agg #[.int .u8 p.tos, .int .u16 p.id, .bool p.keep, .int .u8 p.ttl, .int .u8 pr, .int .u32 p.src, .int .u32 p.dst, .slice A4 n4 c4, .slice A3 n3 c3], .int .i64 0]) ∧ Own w' w.heap.size 5 A4 n4 c4 p.opt ∧ Below w.heap.size w w'
theorem swith_no (p : Pkt) (A1 : Option Addr) (n1 c1 : Nat) (A2 : Option Addr) (n2 c2 : Nat) (pr : Int) (A3 : Option Addr) (n3 c3 : Nat) (d : List UInt8) (w : World) (k1 : Bs w A1 n1 c1 p.opt) (k3 : Bs w A3 n3 c3 d) (E : Int)
    (h : (E = 4 ∧ 40 < (n1 : Int)) ∨ (E = 4 ∧ (n1 : Int) ≤ 40 ∧ ((n1 : Int) % 4 != 0) = true) ∨ (E = 8 ∧ (n1 : Int) ≤ 40 ∧ ((n1 : Int) % 4 != 0) = false ∧ rightP { p with proto := pr, dat := d } = false)) :
    Calls Try.prog 48 #[(.agg #[.int .u8 (p).tos, .int .u16 (p).id, .bool (p).keep, .int .u8 (p).ttl, .int .u8 (p).proto, .int .u32 (p).src, .int .u32 (p).dst, .slice A1 n1 c1, .slice A2 n2 c2]), .int .u8 pr, .slice A3 n3 c3] w (WiPost w zP E) := by
  have b1 := k1.max
  have hr := fun W A4 c4 k k3 => right_any { p with proto := pr, dat := d } A4 n1 c4 A3 n3 c3 W k k3
  obtain ⟨k, hk⟩ : ∃ k : Nat, w.heap.size = k := ⟨_, rfl⟩
  obtain ⟨w1, hw1⟩ : ∃ W, ((w.alloc (.cells #[.int .u8 (p).tos, .int .u16 (p).id, .bool (p).keep, .int .u8 (p).ttl, .int .u8 (p).proto, .int .u32 (p).src, .int .u32 (p).dst, .slice A1 n1 c1, .slice A2 n2 c2] 26)).alloc (.cells #[.int .u8 0, .int .u16 0, .bool false, .int .u8 0, .int .u8 0, .int .u32 0, .int .u32 0, .slice none 0 0, .slice none 0 0] 26)) = W := ⟨_, rfl⟩
  have P1 : Blk w1 k #[.int .u8 (p).tos, .int .u16 (p).id, .bool (p).keep, .int .u8 (p).ttl, .int .u8 (p).proto, .int .u32 (p).src, .int .u32 (p).dst, .slice A1 n1 c1, .slice A2 n2 c2] 26 := by rw [← hw1]; exact ((blk_new _ _ _ k (by simp [hk])).alloc _)
  have Z1 : Blk w1 (k + 1) #[.int .u8 0, .int .u16 0, .bool false, .int .u8 0, .int .u8 0, .int .u32 0, .int .u32 0, .slice none 0 0, .slice none 0 0] 26 := by rw [← hw1]; exact (blk_new _ _ _ (k + 1) (by simp [hk]))
  have R1 : Below w.heap.size w w1 := by rw [← hw1]; (repeat (first | with_reducible exact Below.refl _ _ | with_reducible refine below_drew ?_ | with_reducible refine below_drewN ?_ _ | with_reducible refine below_alloc ?_ (Nat.le_refl _) _ | with_reducible refine Below.setCell ?_ (by first | exact Nat.le_refl _ | (simp only []; omega)) _ | with_reducible assumption))
  have Pc1 := P1.cell
  have Zc1 := Z1.cell
  have Pl1 := P1.lt
  have Zl1 := Z1.lt
  have x1 := (k1).below R1
  have y1 := (k3).below R1
  clear k1
  rcases h with ⟨rfl, h1⟩ | ⟨rfl, h1, h2⟩ | ⟨rfl, h1, h2, h3⟩
  · go_enter Try.func48, Try.ntmps48
    go_wp2_with (first
      | (go_at_call 40; ((with_reducible refine (clone_any A1 n1 c1 p.opt _ x1).mono ?_); rintro e w2 ⟨A4, c4, rfl, ho4, hB2⟩); have P2 := P1.below hB2; have Pc2 := P2.cell; have Z2 := Z1.below hB2; (obtain ⟨w5, hw5, S5⟩ := store478 P2 (.int .u8 pr) (.slice A4 n1 c4) (.slice A3 n3 c3)); have pc5 := S5.blk.cell; have T5 := S5.bel (below_then R1 hB2) (by omega); have Z5 := S5.other (by omega) Z2; have zc5 := Z5.cell)
      | fail)
    obtain ⟨wf, hwf, Sf⟩ := store9 Z5 (.int .u8 0) (.int .u16 0) (.bool false) (.int .u8 0) (.int .u8 0) (.int .u32 0) (.int .u32 0) (.slice none 0 0) (.slice none 0 0)
    rw [hwf]
    have pf := Sf.blk.cell
    exact bodyPost_ret (by simp [results, Try.results48, go_sem, pf]) rfl (wiPost_no (Sf.bel T5 (by omega)))
  · go_enter Try.func48, Try.ntmps48
    go_wp2_with (first
      | (go_at_call 40; ((with_reducible refine (clone_any A1 n1 c1 p.opt _ x1).mono ?_); rintro e w2 ⟨A4, c4, rfl, ho4, hB2⟩); have P2 := P1.below hB2; have Pc2 := P2.cell; have Z2 := Z1.below hB2; (obtain ⟨w5, hw5, S5⟩ := store478 P2 (.int .u8 pr) (.slice A4 n1 c4) (.slice A3 n3 c3)); have pc5 := S5.blk.cell; have T5 := S5.bel (below_then R1 hB2) (by omega); have Z5 := S5.other (by omega) Z2; have zc5 := Z5.cell)
      | fail)
    obtain ⟨wf, hwf, Sf⟩ := store9 Z5 (.int .u8 0) (.int .u16 0) (.bool false) (.int .u8 0) (.int .u8 0) (.int .u32 0) (.int .u32 0) (.slice none 0 0) (.slice none 0 0)
    rw [hwf]
    have pf := Sf.blk.cell
    exact bodyPost_ret (by simp [results, Try.results48, go_sem, pf]) rfl (wiPost_no (Sf.bel T5 (by omega)))
  · rw [h3] at hr
    clear h3
    go_enter Try.func48, Try.ntmps48
    go_wp2_with (first
      | (go_at_call 40; ((with_reducible refine (clone_any A1 n1 c1 p.opt _ x1).mono ?_); rintro e w2 ⟨A4, c4, rfl, ho4, hB2⟩); have P2 := P1.below hB2; have Pc2 := P2.cell; have Z2 := Z1.below hB2; (obtain ⟨w5, hw5, S5⟩ := store478 P2 (.int .u8 pr) (.slice A4 n1 c4) (.slice A3 n3 c3)); have pc5 := S5.blk.cell; have T5 := S5.bel (below_then R1 hB2) (by omega); have Z5 := S5.other (by omega) Z2; have zc5 := Z5.cell; have O5 := S5.own ho4 (fun a e => by have := ho4.ge a e; omega); have y5 := k3.below T5)
      | (go_at_call 75; ((with_reducible refine (hr w5 A4 c4 O5.bs y5).mono ?_); rintro e w6 ⟨rfl, hB6⟩); have Z6 := Z5.below hB6; have zc6 := Z6.cell; have T6 := below_then T5 hB6))
    obtain ⟨wf, hwf, Sf⟩ := store9 Z6 (.int .u8 0) (.int .u16 0) (.bool false) (.int .u8 0) (.int .u8 0) (.int .u32 0) (.int .u32 0) (.slice none 0 0) (.slice none 0 0)
    rw [hwf]
    have pf := Sf.blk.cell
    exact bodyPost_ret (by simp [results, Try.results48, go_sem, pf]) rfl (wiPost_no (Sf.bel T6 (by omega)))
theorem swith_ok (p : Pkt) (A1 : Option Addr) (n1 c1 : Nat) (A2 : Option Addr) (n2 c2 : Nat) (pr : Int) (A3 : Option Addr) (n3 c3 : Nat) (d : List UInt8) (w : World) (k1 : Bs w A1 n1 c1 p.opt) (k3 : Bs w A3 n3 c3 d) (h : wiE p n3 = 0) :
    Calls Try.prog 48 #[(.agg #[.int .u8 (p).tos, .int .u16 (p).id, .bool (p).keep, .int .u8 (p).ttl, .int .u8 (p).proto, .int .u32 (p).src, .int .u32 (p).dst, .slice A1 n1 c1, .slice A2 n2 c2]), .int .u8 pr, .slice A3 n3 c3] w (SwPost w p pr A3 n3 c3) := by
  have b1 := k1.max
  have l1 := k1.len
  have l3 := k3.len
  have hq : p.opt.length ≤ 40 ∧ p.opt.length % 4 = 0 ∧ 20 + p.opt.length + n3 ≤ 65535 := by
    unfold wiE at h
    split at h
    · omega
    · split at h <;> omega
  have hr := fun W A4 c4 k k3 => right_any { p with proto := pr, dat := d } A4 n1 c4 A3 n3 c3 W k k3
  rw [show rightP { p with proto := pr, dat := d } = true from by unfold rightP; simp [l3]; omega] at hr
  have h1 : (n1 : Int) ≤ 40 := by omega
  have h2 : ((n1 : Int) % 4 != 0) = false := by simp; omega
  clear hq h l1 l3
  obtain ⟨k, hk⟩ : ∃ k : Nat, w.heap.size = k := ⟨_, rfl⟩
  obtain ⟨w1, hw1⟩ : ∃ W, ((w.alloc (.cells #[.int .u8 (p).tos, .int .u16 (p).id, .bool (p).keep, .int .u8 (p).ttl, .int .u8 (p).proto, .int .u32 (p).src, .int .u32 (p).dst, .slice A1 n1 c1, .slice A2 n2 c2] 26)).alloc (.cells #[.int .u8 0, .int .u16 0, .bool false, .int .u8 0, .int .u8 0, .int .u32 0, .int .u32 0, .slice none 0 0, .slice none 0 0] 26)) = W := ⟨_, rfl⟩
  have P1 : Blk w1 k #[.int .u8 (p).tos, .int .u16 (p).id, .bool (p).keep, .int .u8 (p).ttl, .int .u8 (p).proto, .int .u32 (p).src, .int .u32 (p).dst, .slice A1 n1 c1, .slice A2 n2 c2] 26 := by rw [← hw1]; exact ((blk_new _ _ _ k (by simp [hk])).alloc _)
  have Z1 : Blk w1 (k + 1) #[.int .u8 0, .int .u16 0, .bool false, .int .u8 0, .int .u8 0, .int .u32 0, .int .u32 0, .slice none 0 0, .slice none 0 0] 26 := by rw [← hw1]; exact (blk_new _ _ _ (k + 1) (by simp [hk]))
  have R1 : Below w.heap.size w w1 := by rw [← hw1]; (repeat (first | with_reducible exact Below.refl _ _ | with_reducible refine below_drew ?_ | with_reducible refine below_drewN ?_ _ | with_reducible refine below_alloc ?_ (Nat.le_refl _) _ | with_reducible refine Below.setCell ?_ (by first | exact Nat.le_refl _ | (simp only []; omega)) _ | with_reducible assumption))
  have Pc1 := P1.cell
  have Zc1 := Z1.cell
  have Pl1 := P1.lt
  have Zl1 := Z1.lt
  have x1 := (k1).below R1
  have y1 := (k3).below R1
  clear k1
  go_enter Try.func48, Try.ntmps48
  go_wp2_with (first
    | (go_at_call 40; ((with_reducible refine (clone_any A1 n1 c1 p.opt _ x1).mono ?_); rintro e w2 ⟨A4, c4, rfl, ho4, hB2⟩); have P2 := P1.below hB2; have Pc2 := P2.cell; have Z2 := Z1.below hB2; (obtain ⟨w5, hw5, S5⟩ := store478 P2 (.int .u8 pr) (.slice A4 n1 c4) (.slice A3 n3 c3)); have pc5 := S5.blk.cell; have T5 := S5.bel (below_then R1 hB2) (by omega); have Z5 := S5.other (by omega) Z2; have zc5 := Z5.cell; have O5 := S5.own ho4 (fun a e => by have := ho4.ge a e; omega); have y5 := k3.below T5)
    | (go_at_call 75; ((with_reducible refine (hr w5 A4 c4 O5.bs y5).mono ?_); rintro e w6 ⟨rfl, hB6⟩); have P6 := (S5.blk).below hB6; have pc6 := P6.cell; have Z6 := Z5.below hB6; have zc6 := Z6.cell; have T6 := below_then T5 hB6; have O6 := O5.below hB6))
  obtain ⟨wf, hwf, Sf⟩ := store9 Z6 (.int .u8 p.tos) (.int .u16 p.id) (.bool p.keep) (.int .u8 p.ttl) (.int .u8 pr) (.int .u32 p.src) (.int .u32 p.dst) (.slice A4 n1 c4) (.slice A3 n3 c3)
  rw [hwf]
  have pf := Sf.blk.cell
  have Of := Sf.own O6 (fun a e => by have := ho4.ge a e; omega)
  have r1 := R1.size
  exact bodyPost_ret (v := .tuple #[.agg #[.int .u8 p.tos, .int .u16 p.id, .bool p.keep, .int .u8 p.ttl, .int .u8 pr, .int .u32 p.src, .int .u32 p.dst, .slice A4 n1 c4, .slice A3 n3 c3], .int .i64 0]) (by simp [results, Try.results48, go_sem, pf]) rfl ⟨A4, n1, c4, rfl, Of.mono (by omega), Sf.bel T6 (by omega)⟩
theorem swith_bad (p : Pkt) (A1 : Option Addr) (n1 c1 : Nat) (A2 : Option Addr) (n2 c2 : Nat) (pr : Int) (A3 : Option Addr) (n3 c3 : Nat) (d : List UInt8) (w : World) (k1 : Bs w A1 n1 c1 p.opt) (k3 : Bs w A3 n3 c3 d) (h : wiE p n3 ≠ 0) :
    Calls Try.prog 48 #[(.agg #[.int .u8 (p).tos, .int .u16 (p).id, .bool (p).keep, .int .u8 (p).ttl, .int .u8 (p).proto, .int .u32 (p).src, .int .u32 (p).dst, .slice A1 n1 c1, .slice A2 n2 c2]), .int .u8 pr, .slice A3 n3 c3] w (WiPost w zP (wiE p n3)) := by
  have l1 := k1.len
  have l3 := k3.len
  by_cases h1 : (n1 : Int) ≤ 40
  · by_cases h2 : n1 % 4 = 0
    · by_cases h3 : 20 + (n1 : Int) + (n3 : Int) ≤ 65535
      · exact absurd (wiE_0 l1 h1 h2 h3) h
      · rw [wiE_8 l1 h1 h2 (by omega)]
        exact swith_no p A1 n1 c1 A2 n2 c2 pr A3 n3 c3 d w k1 k3 8 (.inr (.inr ⟨rfl, h1, m4_no h2, by unfold rightP; simp [l1, l3]; omega⟩))
    · rw [wiE_4 l1 (.inr h2)]
      exact swith_no p A1 n1 c1 A2 n2 c2 pr A3 n3 c3 d w k1 k3 4 (.inr (.inl ⟨rfl, h1, m4_yes h2⟩))
  · rw [wiE_4 l1 (.inl (by omega))]
    exact swith_no p A1 n1 c1 A2 n2 c2 pr A3 n3 c3 d w k1 k3 4 (.inl ⟨rfl, by omega⟩)
end Go.Proofs.Ytjjhnjkmoogloaa

/- A header that grows: two, four. -/
namespace Go.Proofs.Ytjjhnjkmoogloaa
open Go.RowKit
set_option linter.unusedVariables false
set_option linter.unusedSimpArgs false
set_option maxHeartbeats 4000000
set_option maxRecDepth 100000

theorem Own.ne_blk {w : World} {base : Nat} {e t : TypeId} {A : Option Addr} {n c g : Nat} {l : List UInt8} {cs : Array Value} (h : Own w base e A n c l) (G : Blk w g cs t) (ht : t ≠ e) : ∀ k, (Value.slice A n c).ownBlock = some k → k ≠ g := by
  intro k hk e'
  subst e'
  rcases h.row.2 with ⟨hv, _⟩ | ⟨g', cap, cur, hv, hb, hg, _⟩
  · injection hv with h1 h2 h3
    subst h1
    simp [Value.ownBlock] at hk
  · injection hv with h1 h2 h3
    subst h1
    simp only [Value.ownBlock, Option.some.injEq] at hk
    subst hk
    have := hg.symm.trans G.rd
    simp only [Option.some.injEq, Obj.cells.injEq] at this
    exact ht this.2.1.symm
theorem Blk.grown {w w' : World} {k : Nat} {cs : Array Value} {t : TypeId} {row : Option Nat} (h : Blk w k cs t) (hg : w.grownBy w' row) (hr : ∀ r, row = some r → r ≠ k) : Blk w' k cs t :=
  ⟨(hg.block k h.lt (fun e => hr k e.symm rfl)).trans h.rd⟩
theorem below_grown {B base : Nat} {a b c : World} {e : TypeId} {A : Option Addr} {n d : Nat} {l : List UInt8} (h : Below B a b) (hg : b.grownBy c (Value.slice A n d).ownBlock) (O : Own b base e A n d l) (h1 : B ≤ base) (h2 : B ≤ b.heap.size) : Below B a c :=
  h.grown hg h2 (fun k hk => Nat.le_trans h1 (O.base_le k hk))
def twos (vs : List Int) : List UInt8 := vs.flatMap two
def u16s (vs : List Int) : Array Value := (vs.map (Value.int .u16)).toArray
theorem u16s_at {vs : List Int} {j : Nat} (h : j < vs.length) : (u16s vs)[j]? = some (.int .u16 (vs.getD j 0)) := by
  simp [u16s, List.getElem?_eq_getElem h, List.getD_eq_getElem?_getD]
theorem twos_take {vs : List Int} {j : Nat} (h : j < vs.length) : twos (vs.take (j + 1)) = twos (vs.take j) ++ [ub (vs.getD j 0 / 256), ub (vs.getD j 0 % 256)] := by
  unfold twos
  rw [List.take_succ_eq_append_getElem h, List.flatMap_append]
  have e : vs.getD j 0 = vs[j] := by simp [List.getD_eq_getElem?_getD, List.getElem?_eq_getElem h]
  have e2 : ub (vs[j] % 256) = ub vs[j] := by unfold ub; congr 2; omega
  rw [e, e2]
  simp [two]
theorem getD_bd {vs : List Int} {a b : Int} (h : ∀ v ∈ vs, a ≤ v ∧ v ≤ b) {j : Nat} (hj : j < vs.length) : a ≤ vs.getD j 0 ∧ vs.getD j 0 ≤ b := by
  rw [List.getD_eq_getElem?_getD, List.getElem?_eq_getElem hj]
  exact h _ (List.getElem_mem hj)
/-- Blocks that hold no bytes stay, but for block h. -/
def keepT (h : Nat) (w w' : World) : Prop := ∀ k cs t, t ≠ 5 → k ≠ h → Blk w k cs t → Blk w' k cs t
theorem keepT.refl (h : Nat) (w : World) : keepT h w w := fun _ _ _ _ _ k => k
theorem keepT.trans {h : Nat} {a b c : World} (k : keepT h a b) (l : keepT h b c) : keepT h a c := fun i cs t ht hi b => l i cs t ht hi (k i cs t ht hi b)
theorem keepT.alloc {h : Nat} {a b : World} (k : keepT h a b) (o : Obj) : keepT h a (b.alloc o) := fun i cs t ht hi b => (k i cs t ht hi b).alloc o
theorem keepT.grown {h base n c : Nat} {a b d : World} {A : Option Addr} {l : List UInt8} (k : keepT h a b) (O : Own b base 5 A n c l) (hg : b.grownBy d (Value.slice A n c).ownBlock) : keepT h a d := fun i cs t ht hi bl => (k i cs t ht hi bl).grown hg (O.ne_blk (k i cs t ht hi bl) ht)
theorem keepT.set {h : Nat} {a b : World} (k : keepT h a b) (j : Nat) (v : Value) : keepT h a (b.setCell ⟨h, j, none⟩ v) := fun i cs t ht hi bl => (k i cs t ht hi bl).far ⟨h, j, none⟩ (Ne.symm hi) v
/-- The header in block hb has grown to l. -/
structure HPost (B base hb : Nat) (cs : Array Value) (T : TypeId) (l : List UInt8) (w : World) (e : Ending) (w' : World) : Prop where
  out : e = .returned (.tuple #[]) ∧ ∃ A n c, Blk w' hb (cs.setIfInBounds 0 (.slice A n c)) T ∧ Own w' base 5 A n c l ∧ Below B w w' ∧ keepT hb w w'
theorem htwo_any (B base hb : Nat) (cs : Array Value) (T : TypeId) (A : Option Addr) (n c : Nat) (l : List UInt8) (g mc m : Nat) (vs : List Int) (hm : vs.length = m) (hm9 : m ≤ 20) (w : World) (H : Blk w hb cs T) (h0 : cs[0]? = some (.slice A n c))
    (O : Own w base 5 A n c l) (hn : n ≤ 100000) (G : Blk w g (u16s vs) 22) (hv : ∀ v ∈ vs, 0 ≤ v ∧ v ≤ 65535) (hT : T ≠ 5) (hT2 : hb ≠ g) (b1 : B ≤ hb) (b2 : B ≤ base) (b3 : B ≤ w.heap.size) (b4 : base ≤ w.heap.size) :
    Calls Try.prog 45 #[.pointer (some ⟨hb, 0, none⟩), .slice (some ⟨g, 0, none⟩) m mc] w (HPost B base hb cs T (l ++ twos vs) w) := by
  have h75 : 22 ≠ 5 := by decide
  have hcs : 0 < cs.size := (Array.getElem?_eq_some_iff.1 h0).1
  have HM := Lib.hid hm
  have HV := Lib.hid hv
  have HC0 := Lib.hid h0
  clear hm hv h0
  go_enter Try.func45, Try.ntmps45
  go_wp2_with fail
  go_loopw [8] (fun i wr => ∃ (j : Nat) (A' : Option Addr) (n' c' : Nat), j ≤ m ∧ i = .int .i64 j ∧ n' ≤ 100000 + 2 * j ∧ Blk wr hb (cs.setIfInBounds 0 (.slice A' n' c')) T ∧ Own wr base 5 A' n' c' (l ++ twos (vs.take j)) ∧ keepT hb w wr ∧ Below B w wr) (fun i _ => m - (intOf i).toNat)
  case atStart =>
    refine ⟨0, A, n, c, by omega, rfl, by omega, ?_, by simpa [twos] using O, keepT.refl _ _, Below.refl _ _⟩
    have : cs.setIfInBounds 0 (.slice A n c) = cs := by
      apply Array.ext_getElem?
      intro i
      rw [Array.getElem?_setIfInBounds]
      split
      · rename_i e; subst e; rw [HC0.out]
      · rfl
    rw [this]; exact H
  case round =>
    obtain ⟨j, Aj, nj, cj, hj, rfl, hnj, Hj, Oj, Kj, Bj⟩ := hrel
    have Gj := Kj g (u16s vs) 22 h75 (Ne.symm hT2) G
    by_cases hlt : j < m
    · have gj := Gj.cell.1 j
      rw [u16s_at (by rw [HM.out]; exact hlt)] at gj
      obtain ⟨v0, v1⟩ := getD_bd HV.out (j := j) (by rw [HM.out]; exact hlt)
      have htk := twos_take (vs := vs) (j := j) (by rw [HM.out]; exact hlt)
      obtain ⟨v, hv⟩ : ∃ v, vs.getD j 0 = v := ⟨_, rfl⟩
      rw [hv] at gj v0 v1 htk
      have HTK := Lib.hid htk
      clear hv htk
      have hc0 : wr.cell? ⟨hb, 0, none⟩ = some (.slice Aj nj cj) := by rw [Hj.cell.1]; simp [hcs]
      have hjl := Hj.lt
      have hji : (j : Int) < m := by omega
      have hb4 : base ≤ wr.heap.size := Nat.le_trans b4 Bj.size
      have L2 := lit2 (e := 5) (x := v / 256) (y := v % 256) (by omega) (by omega) (by omega) (by omega) wr
      have ne1 := Oj.ne_blk Hj hT
      have ne2 := Oj.ne_blk Gj h75
      go_wp2_with (at_builtin; refine wpList_append_bs (w0 := wr.alloc (.cells #[.int .u8 (v / 256), .int .u8 (v % 256)] 5)) _ rfl _ _ _ rfl base 5 Try.underlying24 info_u8 Aj nj cj _ rfl (Oj.alloc _) (some ⟨_, 0, none⟩) 2 2 _ rfl L2.bs (Below.refl _ _) (by omega) (by simp; omega) ?_; intro A2 n2 c2 w2 O2 hB2 hgr hz2; have H2 := (Hj.alloc (.cells #[.int .u8 (v / 256), .int .u8 (v % 256)] 5)).grown hgr ne1; have K2 := (Kj.alloc (.cells #[.int .u8 (v / 256), .int .u8 (v % 256)] 5)).grown (Oj.alloc _) hgr; have B2 := below_grown (Bj.alloc (Nat.le_trans b3 Bj.size) (.cells #[.int .u8 (v / 256), .int .u8 (v % 256)] 5)) hgr (Oj.alloc _) b2 (by have := Bj.size; simp; omega); have hf2 : w2.cell? ⟨hb, 0, none⟩ = some (.slice Aj nj cj) := (by rw [H2.cell.1]; simp [hcs]); have hfz := H2.cell.2)
      have u2 : n2 = nj + 2 := by have := O2.len; have := Oj.len; simp at *; omega
      have nb2 := O2.ne_blk H2 hT
      have Hf := H2.set_ 0 (.slice A2 n2 c2)
      rw [Array.setIfInBounds_setIfInBounds] at Hf
      have Of := O2.away ⟨hb, 0, none⟩ (.slice A2 n2 c2) (fun a e => nb2 a.block (by rw [e]; rfl))
      exact ⟨⟨j + 1, A2, n2, c2, by omega, by go_num, by omega, Hf, by rw [HTK.out, ← List.append_assoc]; exact Of, K2.set 0 _, B2.setCell (p := ⟨hb, 0, none⟩) b1 _⟩, by simp [intOf]; omega⟩
    · obtain rfl : j = m := by omega
      go_wp2_with fail
      rw [show vs.take j = vs from List.take_of_length_le (by rw [HM.out]; exact Nat.le_refl _)] at Oj
      go_end0
      exact ⟨rfl, Aj, nj, cj, Hj, Oj, Bj, Kj⟩
def fours (vs : List Int) : List UInt8 := vs.flatMap four
def u32s (vs : List Int) : Array Value := (vs.map (Value.int .u32)).toArray
theorem u32s_at {vs : List Int} {j : Nat} (h : j < vs.length) : (u32s vs)[j]? = some (.int .u32 (vs.getD j 0)) := by
  simp [u32s, List.getElem?_eq_getElem h, List.getD_eq_getElem?_getD]
theorem fours_take {vs : List Int} {j : Nat} (h : j < vs.length) : fours (vs.take (j + 1)) = fours (vs.take j) ++ twos [vs.getD j 0 / 65536, vs.getD j 0 % 65536] := by
  unfold fours
  rw [List.take_succ_eq_append_getElem h, List.flatMap_append]
  have e : vs.getD j 0 = vs[j] := by simp [List.getD_eq_getElem?_getD, List.getElem?_eq_getElem h]
  have e1 : ub (vs[j] / 65536 / 256) = ub (vs[j] / 16777216) := by unfold ub; congr 2; omega
  have e2 : ub (vs[j] % 65536 / 256) = ub (vs[j] / 256) := by unfold ub; congr 2; omega
  have e3 : ub (vs[j] % 65536) = ub vs[j] := by unfold ub; congr 2; omega
  rw [e]
  simp [four, twos, two, e1, e2, e3]
theorem hfour_any (B base hb : Nat) (cs : Array Value) (T : TypeId) (A : Option Addr) (n c : Nat) (l : List UInt8) (g mc m : Nat) (vs : List Int) (hm : vs.length = m) (hm9 : m ≤ 20) (w : World) (H : Blk w hb cs T) (h0 : cs[0]? = some (.slice A n c))
    (O : Own w base 5 A n c l) (hn : n ≤ 10000) (G : Blk w g (u32s vs) 23) (hv : ∀ v ∈ vs, 0 ≤ v ∧ v ≤ 4294967295) (hT : T ≠ 5) (hT2 : hb ≠ g) (b1 : B ≤ hb) (b2 : B ≤ base) (b3 : B ≤ w.heap.size) (b4 : base ≤ w.heap.size) :
    Calls Try.prog 46 #[.pointer (some ⟨hb, 0, none⟩), .slice (some ⟨g, 0, none⟩) m mc] w (HPost B base hb cs T (l ++ fours vs) w) := by
  have h75 : 23 ≠ 5 := by decide
  have hcs : 0 < cs.size := (Array.getElem?_eq_some_iff.1 h0).1
  have HM := Lib.hid hm
  have HV := Lib.hid hv
  have HC0 := Lib.hid h0
  clear hm hv h0
  go_enter Try.func46, Try.ntmps46
  go_wp2_with fail
  go_loopw [8] (fun i wr => ∃ (j : Nat) (A' : Option Addr) (n' c' : Nat), j ≤ m ∧ i = .int .i64 j ∧ n' ≤ 10000 + 4 * j ∧ Blk wr hb (cs.setIfInBounds 0 (.slice A' n' c')) T ∧ Own wr base 5 A' n' c' (l ++ fours (vs.take j)) ∧ keepT hb w wr ∧ Below B w wr) (fun i _ => m - (intOf i).toNat)
  case atStart =>
    refine ⟨0, A, n, c, by omega, rfl, by omega, ?_, by simpa [fours] using O, keepT.refl _ _, Below.refl _ _⟩
    have : cs.setIfInBounds 0 (.slice A n c) = cs := by
      apply Array.ext_getElem?
      intro i
      rw [Array.getElem?_setIfInBounds]
      split
      · rename_i e; subst e; simp [HC0.out]
      · rfl
    rw [this]; exact H
  case round =>
    obtain ⟨j, Aj, nj, cj, hj, rfl, hnj, Hj, Oj, Kj, Bj⟩ := hrel
    have Gj := Kj g (u32s vs) 23 h75 (Ne.symm hT2) G
    by_cases hlt : j < m
    · have gj := Gj.cell.1 j
      rw [u32s_at (by rw [HM.out]; exact hlt)] at gj
      obtain ⟨v0, v1⟩ := getD_bd HV.out (j := j) (by rw [HM.out]; exact hlt)
      have htk := fours_take (vs := vs) (j := j) (by rw [HM.out]; exact hlt)
      obtain ⟨v, hv⟩ : ∃ v, vs.getD j 0 = v := ⟨_, rfl⟩
      rw [hv] at gj v0 v1 htk
      have HTK := Lib.hid htk
      clear hv htk
      have hjl := Hj.lt
      have hji : (j : Int) < m := by omega
      have hsz := Bj.size
      have h2 := htwo_any B base hb (cs.setIfInBounds 0 (.slice Aj nj cj)) T Aj nj cj (l ++ fours (vs.take j)) wr.heap.size 2 2 [v / 65536, v % 65536] rfl (by omega) (wr.alloc (.cells #[.int .u16 (v / 65536), .int .u16 (v % 65536)] 22)) (Hj.alloc _) (by simp [hcs]) (Oj.alloc _) (by omega) (blk_new wr _ _ _ rfl) (by intro x hx; simp at hx; omega) hT (by omega) b1 b2 (by simp; omega) (by simp; omega)
      have hwr : IntKind.u16.wrap v = v % 65536 := by rw [IntKind.wrap_u16]
      go_wp2_with (go_at_call 45; ((with_reducible refine (h2).mono ?_); rintro e w2 hpost); (obtain ⟨rfl, A2, n2, c2, H2, O2, B2, K2⟩ := hpost.out))
      rw [Array.setIfInBounds_setIfInBounds] at H2
      have u2 : n2 = nj + 4 := by have := O2.len; have := Oj.len; simp [twos, two] at *; omega
      exact ⟨⟨j + 1, A2, n2, c2, by omega, by go_num, by omega, H2, by rw [HTK.out, ← List.append_assoc]; exact O2, (Kj.alloc _).trans K2, (Bj.alloc (by omega) _).trans B2⟩, by simp [intOf]; omega⟩
    · obtain rfl : j = m := by omega
      go_wp2_with fail
      rw [show vs.take j = vs from List.take_of_length_le (by rw [HM.out]; exact Nat.le_refl _)] at Oj
      go_end0
      exact ⟨rfl, Aj, nj, cj, Hj, Oj, Bj, Kj⟩
end Go.Proofs.Ytjjhnjkmoogloaa

/- A slice of options in memory. -/
namespace Go.Proofs.Ytjjhnjkmoogloaa
open Go.RowKit
set_option linter.unusedVariables false
set_option linter.unusedSimpArgs false
set_option maxHeartbeats 4000000
set_option maxRecDepth 100000

structure Os (w : World) (A : Option Addr) (n c : Nat) (os : List Opt) : Prop where
  len : os.length = n
  cap : n ≤ c
  max : n ≤ 4398046511104
  nil : A = none → c = 0
  ok : ∀ o ∈ os, o.Ok
  rd : 0 < n → ∃ b off, A = some ⟨b, off, none⟩ ∧ ∀ j, j < n → w.cell? ⟨b, off + j * 2, none⟩ = some (.int .u8 (os.getD j zO).kind) ∧ ∃ B m d, w.cell? ⟨b, off + j * 2 + 1, none⟩ = some (.slice B m d) ∧ Bs w B m d (os.getD j zO).dat
section
variable {w w' : World} {A : Option Addr} {n c : Nat} {os : List Opt}
theorem Os.below (h : Os w A n c os) (hb : Below w.heap.size w w') : Os w' A n c os :=
  ⟨h.len, h.cap, h.max, h.nil, h.ok, fun hn => by
    obtain ⟨b, off, e, hc⟩ := h.rd hn
    refine ⟨b, off, e, fun j hj => ?_⟩
    obtain ⟨h1, B, m, d, h2, h3⟩ := hc j hj
    exact ⟨(hb.cell (World.block_lt_of_cell? w _ h1)).trans h1, B, m, d, (hb.cell (World.block_lt_of_cell? w _ h2)).trans h2, h3.below hb⟩⟩
theorem Os.alloc (h : Os w A n c os) (o : Obj) : Os (w.alloc o) A n c os := h.below ((Below.refl _ w).alloc (Nat.le_refl _) o)
theorem Os.none_ (w : World) : Os w none 0 0 [] := ⟨rfl, Nat.zero_le _, by omega, fun _ => rfl, (fun o h => by cases h), fun h => absurd h (by omega)⟩
theorem Os.at_ok (h : Os w A n c os) {j : Nat} (hj : j < n) : 0 ≤ (os.getD j zO).kind ∧ (os.getD j zO).kind ≤ 255 := by
  have hl := h.len
  rw [List.getD_eq_getElem?_getD, List.getElem?_eq_getElem (by omega)]
  exact (h.ok _ (List.getElem_mem (by omega))).kind
end
theorem optsB_take {os : List Opt} {j : Nat} (h : j < os.length) : optsB (os.take (j + 1)) = optsB (os.take j) ++ optB (os.getD j zO) := by
  unfold optsB
  rw [List.take_succ_eq_append_getElem h, List.flatMap_append]
  simp [List.getD_eq_getElem?_getD, List.getElem?_eq_getElem h]
theorem okOs_bad {os : List Opt} {j : Nat} (h : j < os.length) (hb : badO (os.getD j zO) = true) : okOs os = false := by
  unfold okOs
  have : os.all (fun o => !badO o) = false := by
    rw [List.all_eq_false]
    refine ⟨os[j], List.getElem_mem h, ?_⟩
    simp only [List.getD_eq_getElem?_getD, List.getElem?_eq_getElem h, Option.getD_some] at hb
    simp [hb]
  rw [this]; rfl
theorem optsB_len {os : List Opt} (j : Nat) : (optsB (os.take j)).length ≤ (optsB os).length := by
  conv => rhs; rw [← List.take_append_drop j os]
  unfold optsB
  rw [List.flatMap_append, List.length_append]
  omega
theorem okOs_long {os : List Opt} {j : Nat} (h : 40 < (optsB (os.take j)).length) : okOs os = false := by
  have := optsB_len (os := os) j
  unfold okOs
  rw [decide_eq_false (by omega), Bool.and_false]
theorem okOs_yes {os : List Opt} (h : ∀ j, j < os.length → badO (os.getD j zO) = false) (hl : (optsB os).length ≤ 40) : okOs os = true := by
  unfold okOs
  rw [decide_eq_true hl, Bool.and_true, List.all_eq_true]
  intro o ho
  obtain ⟨j, hj, e⟩ := List.mem_iff_getElem.1 ho
  have := h j hj
  simp only [List.getD_eq_getElem?_getD, List.getElem?_eq_getElem hj, Option.getD_some, e] at this
  simp [this]
/-- The ways of an option. -/
theorem badO_ways (o : Opt) (m : Nat) (hm : o.dat.length = m) : (badO o = true ∧ ((o.kind == 0) = true ∨ ((o.kind == 0) = false ∧ (o.kind == 1) = true ∧ 0 < (m : Int)) ∨ ((o.kind == 0) = false ∧ (o.kind == 1) = false ∧ 38 < (m : Int)))) ∨
    (badO o = false ∧ (((o.kind == 0) = false ∧ (o.kind == 1) = true ∧ m = 0 ∧ optB o = [ub 1]) ∨ ((o.kind == 0) = false ∧ (o.kind == 1) = false ∧ m ≤ 38 ∧ optB o = [ub o.kind] ++ [ub (2 + (m : Int))] ++ o.dat))) := by
  unfold badO optB
  rw [hm]
  by_cases h0 : o.kind = 0
  · simp [h0]
  · by_cases h1 : o.kind = 1
    · by_cases h2 : m = 0
      · subst h2; simp [h1]
      · left; simp [h1]; omega
    · by_cases h2 : m ≤ 38
      · right; simp [h0, h1]; omega
      · left; simp [h0, h1]; omega
theorem optB_len (o : Opt) : (optB o).length ≤ 2 + o.dat.length := by
  unfold optB; split <;> simp <;> omega
def slN : Value → Nat
  | .slice _ n _ => n
  | _ => 0
structure RoPost (w : World) (os : List Opt) (e : Ending) (w' : World) : Prop where
  out : ∃ A n c, e = .returned (.tuple #[.slice A n c, .bool (okOs os)]) ∧ (okOs os = true → Own w' w.heap.size 5 A n c (optL os)) ∧ Below w.heap.size w w'
theorem ropts_any (A : Option Addr) (n c : Nat) (os : List Opt) (w : World) (K : Os w A n c os) : Calls Try.prog 52 #[.slice A n c] w (RoPost w os) := by
  have hmax := K.max
  have HL := Lib.hid K.len
  go_enter Try.func52, Try.ntmps52
  go_wp2_with fail
  go_loopw [4, 5] (fun out i wr => ∃ (j : Nat) (A' : Option Addr) (n' c' : Nat), j ≤ n ∧ i = .int .i64 j ∧ out = .slice A' n' c' ∧ n' ≤ 80 ∧ Own wr w.heap.size 5 A' n' c' (optsB (os.take j)) ∧ Below w.heap.size w wr ∧ Hid (∀ i, i < j → badO (os.getD i zO) = false)) (fun _ i _ => n - (intOf i).toNat)
  case atStart => exact ⟨0, none, 0, 0, by omega, rfl, rfl, by omega, by simpa [optsB] using own_nil w w.heap.size 5, Below.refl _ _, fun i hi => by omega⟩
  case round =>
    obtain ⟨j, Aj, nj, cj, hj, rfl, rfl, hnj, Oj, Bj, Gj⟩ := hrel
    by_cases hlt : j < n
    · by_cases h40 : nj ≤ 40
      · obtain ⟨b, off, rfl, hc⟩ := K.rd (by omega)
        obtain ⟨cK0, B, m, d, cD0, bD⟩ := hc j hlt
        have cK := (Bj.cell (World.block_lt_of_cell? w _ cK0)).trans cK0
        have cD := (Bj.cell (World.block_lt_of_cell? w _ cD0)).trans cD0
        clear cD0
        obtain ⟨k0, k1⟩ := K.at_ok hlt
        have hw := badO_ways (os.getD j zO) m bD.len
        obtain ⟨o, ho⟩ : ∃ o, os.getD j zO = o := ⟨_, rfl⟩
        rw [ho] at cK bD k0 k1 hw
        have HO := Lib.hid ho
        clear hc ho cK0
        have bm := bD.max
        have hji : (j : Int) < n := by omega
        have h40i : (nj : Int) ≤ 40 := by omega
        obtain ⟨κ, hκ⟩ : ∃ κ, o.kind = κ := ⟨_, rfl⟩
        obtain ⟨D, hD⟩ : ∃ D, o.dat = D := ⟨_, rfl⟩
        rw [hκ] at cK k0 k1 hw
        rw [hD] at bD hw
        clear hκ hD
        have hl1 : ∀ (x : Int), 0 ≤ x → x ≤ 255 → ∀ W : World, Bs (W.alloc (.cells #[.int .u8 x] 5)) (some ⟨W.heap.size, 0, none⟩) 1 1 [ub x] := fun x x0 x1 W => by
          have h := bs_lit (W := W) (e := 5) [ub x] 1 rfl (by omega)
          have e : (cu [ub x]).toArray = #[.int .u8 x] := by simp [cu, ub_val]; omega
          rw [e] at h; exact h
        obtain ⟨v, hv⟩ : ∃ W, wr.alloc (.cells #[.int .u8 κ, .slice B m d] 66) = W := ⟨_, rfl⟩
        have Vv : Below wr.heap.size wr v := by rw [← hv]; (repeat (first | with_reducible exact Below.refl _ _ | with_reducible refine below_drew ?_ | with_reducible refine below_drewN ?_ _ | with_reducible refine below_alloc ?_ (Nat.le_refl _) _ | with_reducible refine Below.setCell ?_ (by first | exact Nat.le_refl _ | (simp only []; omega)) _ | with_reducible assumption))
        have Pv : Blk v wr.heap.size #[.int .u8 κ, .slice B m d] 66 := by rw [← hv]; exact blk_new _ _ _ _ rfl
        have pv := Pv.cell
        have Ov := Oj.below Vv
        have Bv := below_then Bj Vv
        rcases hw with ⟨hb, hw⟩ | ⟨hb, hw⟩
        · have HF : Hid (okOs os = false) := okOs_bad (j := j) (by rw [HL.out]; exact hlt) (by rw [HO.out]; exact hb)
          clear hb
          rcases hw with h1 | ⟨h1, h2, h3⟩ | ⟨h1, h2, h3⟩
          all_goals go_wp2_with fail
          all_goals (refine bodyPost_ret (v := .tuple #[.slice none 0 0, .bool false]) (by simp [results, Try.results52, go_sem]) rfl ?_)
          all_goals exact ⟨none, 0, 0, by rw [HF.out], fun h => absurd h (by rw [HF.out]; decide), Bv⟩
        · have HT := Lib.hid (optsB_take (os := os) (j := j) (by rw [HL.out]; exact hlt))
          have GJ : Hid (∀ i, i < j + 1 → badO (os.getD i zO) = false) := fun i hi => by
            by_cases e : i = j
            · subst e; rw [HO.out]; exact hb
            · exact Gj.out i (by omega)
          clear hb
          rcases hw with ⟨h1, h2, h3, h4⟩ | ⟨h1, h2, h3, h4⟩
          · have H4 := Lib.hid h4
            clear h4
            obtain rfl : κ = 1 := by simpa using h2
            subst h3
            go_wp2_with (at_builtin; refine wpList_append_bs (w0 := w) _ rfl _ _ _ rfl w.heap.size 5 Try.underlying24 info_u8 Aj nj cj _ rfl (Ov.alloc _) (some ⟨_, 0, none⟩) 1 1 _ rfl (hl1 1 (by omega) (by omega) _) (Bv.alloc Bv.size _) (by omega) (by have := Bv.size; simp; omega) ?_; intro A2 n2 c2 w2 O2 hB2 hgr hz2; have P2 := (Pv.alloc (.cells #[.int .u8 1] 5)).grown hgr ((Ov.alloc (.cells #[.int .u8 1] 5)).ne_blk (Pv.alloc _) (by decide)); have pc2 := P2.cell)
            have u2 : n2 = nj + 1 := by have := O2.len; have := Ov.len; simp at *; omega
            exact ⟨⟨j + 1, A2, n2, c2, by omega, by go_num, rfl, by omega, by rw [HT.out, HO.out, H4.out]; exact O2, hB2, GJ⟩, by simp [intOf]; omega⟩
          · have H4 := Lib.hid h4
            clear h4
            have k2 : 0 ≤ 2 + (m : Int) := by omega
            have k3 : 2 + (m : Int) ≤ 255 := by omega
            have hwr : IntKind.u8.wrap ((m : Int) + 2) = 2 + (m : Int) := by rw [IntKind.wrap_u8]; omega
            have hm38 : (m : Int) ≤ 38 := by omega
            obtain ⟨z, hz⟩ : ∃ z : Int, (m : Int) + 2 = z := ⟨_, rfl⟩
            rw [show 2 + (m : Int) = z from by omega] at k2 k3 hwr
            rw [hz] at hwr
            have HZ := Lib.hid hz
            go_wp2_with (first
              | (at_builtin; refine wpList_append_bs (w0 := w) _ rfl _ _ _ rfl w.heap.size 5 Try.underlying24 info_u8 Aj nj cj _ rfl (Ov.alloc _) (some ⟨_, 0, none⟩) 1 1 _ rfl (hl1 κ k0 k1 _) (Bv.alloc Bv.size _) (by omega) (by have := Bv.size; simp; omega) ?_; intro A2 n2 c2 w2 O2 hB2 hgr hz2; have P2 := (Pv.alloc (.cells #[.int .u8 κ] 5)).grown hgr ((Ov.alloc (.cells #[.int .u8 κ] 5)).ne_blk (Pv.alloc _) (by decide)); have pc2 := P2.cell; have u2 : nj + 1 = n2 := (by have := O2.len; have := Ov.len; simp at *; omega); subst u2)
              | (at_builtin; refine wpList_append_bs (w0 := w) _ rfl _ _ _ rfl w.heap.size 5 Try.underlying24 info_u8 A2 (nj + 1) c2 _ rfl (O2.alloc _) (some ⟨_, 0, none⟩) 1 1 _ rfl (hl1 z k2 k3 _) (hB2.alloc hB2.size _) (by omega) (by have := hB2.size; simp; omega) ?_; intro A3 n3 c3 w3 O3 hB3 hgr3 hz3; have P3 := (P2.alloc (.cells #[.int .u8 z] 5)).grown hgr3 ((O2.alloc (.cells #[.int .u8 z] 5)).ne_blk (P2.alloc _) (by decide)); have pc3 := P3.cell; have u3 : nj + 1 + 1 = n3 := (by have := O3.len; have := O2.len; simp at *; omega); subst u3; have b3 := bD.below hB3)
              | (at_builtin; refine wpList_append_bs (w0 := w) _ rfl _ _ _ rfl w.heap.size 5 Try.underlying24 info_u8 A3 (nj + 1 + 1) c3 _ rfl O3 B m d _ rfl b3 hB3 (by omega) hB3.size ?_; intro A4 n4 c4 w4 O4 hB4 hgr4 hz4))
            have u4 : n4 = nj + 2 + m := by have := O4.len; have := O3.len; have := bD.len; simp at *; omega
            exact ⟨⟨j + 1, A4, n4, c4, by omega, by go_num, rfl, by omega, by rw [HT.out, HO.out, H4.out, show (2 : Int) + m = z from by have := HZ.out; omega]; simpa using O4, hB4, GJ⟩, by simp [intOf]; omega⟩
      · have HF : Hid (okOs os = false) := okOs_long (j := j) (by rw [Oj.len]; omega)
        have h40i : ¬ (nj : Int) ≤ 40 := by omega
        have h40j : (40 : Int) < nj := by omega
        have hji : (j : Int) < n := by omega
        go_wp2_with fail
        (refine bodyPost_ret (v := .tuple #[.slice none 0 0, .bool false]) (by simp [results, Try.results52, go_sem]) rfl ?_)
        exact ⟨none, 0, 0, by rw [HF.out], fun h => absurd h (by rw [HF.out]; decide), Bj⟩
    · obtain rfl : j = n := by omega
      have htk : os.take j = os := List.take_of_length_le (by rw [HL.out]; exact Nat.le_refl _)
      by_cases h40 : nj ≤ 40
      · have hlen : (optsB os).length = nj := by rw [← htk]; exact Oj.len
        have HY : Hid (okOs os = true) := okOs_yes (fun i hi => Gj.out i (by rw [← HL.out]; exact hi)) (by omega)
        rw [htk] at Oj
        have HP : Hid (optsB os ++ zs (padN nj) = optL os) := by unfold Hid optL; rw [hlen]
        have hpn : padN nj ≤ 3 ∧ (nj + padN nj) % 4 = 0 := by unfold padN; omega
        clear htk hlen
        have h40i : (nj : Int) ≤ 40 := by omega
        obtain ⟨pn, hpn'⟩ : ∃ pn, padN nj = pn := ⟨_, rfl⟩
        rw [hpn'] at hpn HP
        have HPN := Lib.hid hpn'
        clear hpn'
        obtain ⟨hp3, hp4⟩ := hpn
        go_wp2_with fail
        go_loopw [4] (fun out wq => ∃ (N k : Nat) (A' : Option Addr) (c' : Nat), N = nj + k ∧ k ≤ pn ∧ out = .slice A' N c' ∧ Own wq w.heap.size 5 A' N c' (optsB os ++ zs k) ∧ Below w.heap.size w wq) (fun out _ => nj + pn - slN out)
        case atStart => exact ⟨nj, 0, Aj, cj, rfl, by omega, rfl, by simpa [zs] using Oj, Bj⟩
        case round =>
          obtain ⟨N, k, Ak, ck, hN, hk, rfl, Ok, Bk⟩ := hrel
          by_cases hkp : k < pn
          · have h4 := m4_yes (n := N) (by omega)
            have hl1 : ∀ W : World, Bs (W.alloc (.cells #[.int .u8 0] 5)) (some ⟨W.heap.size, 0, none⟩) 1 1 [0] := fun W => bs_litk [0] 1 rfl rfl (by omega)
            have HN := Lib.hid hN
            clear hN
            go_wp2_with (at_builtin; refine wpList_append_bs (w0 := w) _ rfl _ _ _ rfl w.heap.size 5 Try.underlying24 info_u8 Ak N ck _ rfl (Ok.alloc _) (some ⟨_, 0, none⟩) 1 1 _ rfl (hl1 _) (Bk.alloc Bk.size _) (by have := HN.out; omega) (by have := Bk.size; simp; omega) ?_; intro A2 n2 c2 w2 O2 hB2 hgr hz2)
            have u2 : n2 = N + 1 := by have := O2.len; have := Ok.len; simp at *; omega
            have hN := HN.out
            subst u2
            exact ⟨⟨N + 1, k + 1, A2, c2, by omega, by omega, rfl, by rw [show zs (k + 1) = zs k ++ [0] from by simp [zs, List.replicate_succ'], ← List.append_assoc]; exact O2, hB2⟩, by simp [slN]; omega⟩
          · obtain rfl : k = pn := by omega
            have h4 := m4_no (n := N) (by omega)
            have HN := Lib.hid hN
            clear hN
            go_wp2_with fail
            refine bodyPost_ret (v := .tuple #[.slice Ak N ck, .bool true]) (by simp [results, Try.results52, go_sem]) rfl ?_
            exact ⟨Ak, N, ck, by rw [HY.out], fun _ => by rw [← HP.out]; exact Ok, Bk⟩
      · have HF : Hid (okOs os = false) := okOs_long (j := j) (by rw [Oj.len]; omega)
        have h40j : (40 : Int) < nj := by omega
        go_wp2_with fail
        (refine bodyPost_ret (v := .tuple #[.slice none 0 0, .bool false]) (by simp [results, Try.results52, go_sem]) rfl ?_)
        exact ⟨none, 0, 0, by rw [HF.out], fun h => absurd h (by rw [HF.out]; decide), Bj⟩
end Go.Proofs.Ytjjhnjkmoogloaa

/- append(b, make([]byte, k)...) onto a row of the call's own. -/
namespace Go.Proofs.Ytjjhnjkmoogloaa
open Go.RowKit
set_option linter.unusedVariables false
set_option linter.unusedSimpArgs false
set_option maxHeartbeats 4000000
set_option maxRecDepth 100000

theorem cu_zsl (k : Nat) : (Builtin.zeroCells #[Value.int .u8 0] k).toList = cu (zs k) := by
  have := cu_zs k
  have h2 : madeCells #[Value.int .u8 0] k = Builtin.zeroCells #[Value.int .u8 0] k := by
    apply Array.ext'
    rw [toList_madeCells_one]
    apply List.ext_getElem?
    intro i
    by_cases h : i < k <;> simp [Builtin.zeroCells, Nat.mod_one, List.getElem?_replicate, h]
  rw [← h2, ← this]
theorem run_append_zeros {P : Program} (w : World) (base : Nat) (t tn ty e : TypeId) (kn kq : IntKind) (ht : P.underlying t = some (.slice e)) (htn : P.underlying tn = some (.int kn)) (hinfo : (P.info? e).map (fun i => (i.zero, i.size, i.bytes)) = some (some (.int .u8 0), 1, 1))
    (g n c : Nat) (l : List UInt8) (hown : Own w base e (some ⟨g, 0, none⟩) n c l) (k : Nat) (hk : k ≤ 100) (hn : n ≤ 100000000) (hbase : base ≤ w.heap.size) :
    ∃ A' c' w', (Builtin.append_ #[t, tn] ty #[.slice (some ⟨g, 0, none⟩) n c, .int kq (k : Int)]).run P w = .ok (.slice A' (n + k) c') w' ∧ Own w' base e A' (n + k) c' (l ++ zs k) ∧ w.grownBy w' (some g) := by
  obtain ⟨i, hi, hz, hs, hb⟩ := info_parts hinfo
  have hw : IntKind.i64.wrap (k : Int) = k := by rw [IntKind.wrap_i64]; omega
  have hlen : (l ++ zs k).length = n + k := by rw [List.length_append, hown.len, zs_length]
  have hbs := hown.bs
  obtain ⟨hl, hm, hr1, hr2⟩ := hown
  rcases hr2 with ⟨hv, _⟩ | ⟨g', cap, cur, hv, hbg, hg, hnc, hcm, hcs, htake⟩
  · injection hv with hv; cases hv
  injection hv with h3 h4 h5
  injection h3 with h3
  injection h3 with h3
  subst h3 h5
  rw [Nat.mul_one] at hcs htake
  have hneg : ¬ ((k : Int) < 0) := by omega
  have h48i : ¬ (281474976710656 < (k : Int) * ((1 : Nat) : Int)) := by omega
  by_cases hroom : n + k ≤ c
  · obtain ⟨X, hX⟩ : ∃ X : Array Value, (cur.toList.take n ++ cu (zs k) ++ cur.toList.drop (n + k)).toArray = X := ⟨_, rfl⟩
    have hst := run_storeCells_at (P := P) g n e (cu (zs k)) 0 cur w hg (by rw [cu_length, zs_length]; omega) (cu_one _)
    simp only [Nat.add_zero, cu_length, zs_length, hX] at hst
    refine ⟨some ⟨g, 0, none⟩, c, w.setRow g X, ?_, ⟨hlen, by omega, ⟨by rw [cu_length]; omega, .inr ⟨g, c, X, rfl, hbg, setRow_heap w g cur X e (0, 0) hg, hroom, hcm, ?_, ?_⟩⟩⟩, ⟨rfl, rfl, rfl, by simp, fun j _ hj => setRow_other w g j _ (fun e => hj (by rw [e]))⟩⟩
    · have ha : (⟨g, 0, none⟩ : Addr).add (n * i.size) = ⟨g, n, none⟩ := by rw [hs, Nat.mul_one]; unfold Addr.add; split <;> simp_all
      by_cases hk0 : k = 0
      · subst hk0
        have hst0 : (storeCells ⟨g, n, none⟩ [] 0).run P w = .ok () (w.setRow g X) := by simpa [zs, cu] using hst
        have hw0 : IntKind.i64.wrap 0 = 0 := by decide
        have hroom0 : n ≤ c := by omega
        simp [Builtin.append_, run_underlying ht, run_underlying htn, sizeOf, typeInfo, zeroValue, hi, hz, hs, hb, asInt, asIntOf, hw0, hroom0, Addr.add_lit, hst0]
      · have hns : ¬ (k * 1 = 0) := by omega
        have hz2 : (Builtin.zeroCells (Value.int .u8 0).cells k).toList = cu (zs k) := cu_zsl k
        simp [Builtin.append_, run_underlying ht, run_underlying htn, sizeOf, typeInfo, zeroValue, hi, hz, hs, hb, asInt, asIntOf, hw, hneg, hroom, hk0, h48i, Addr.add_lit, hz2, hst]
        intro h
        omega
    · rw [← hX]; simp [cu_length, zs_length]; omega
    · rw [← hX]
      simp only [Nat.mul_one]
      rw [← cu_append, ← htake]
      have e1 : (cur.toList.take n ++ cu (zs k)).length = n + k := by simp [cu_length, zs_length]; omega
      rw [List.take_left' e1]
  · have hold : (Builtin.firstCells i.size n (.slice (some ⟨g, 0, none⟩) n c)).run P w.drew = .ok (cu l).toArray w.drew := by
      refine run_firstCells_some (P := P) w.drew i.size n ⟨g, 0, none⟩ n c (cu l) (by rw [hs, cu_length]; omega) fun j u hj => ?_
      exact (hbs.drew).cells rfl j u hj
    have hr := Lib.run_append_grow_zeros (P := P) w t tn ty e i (.int .u8 0) kq kn ht htn hi hz (some ⟨g, 0, none⟩) n c (cu l) hold k (by omega) (by omega) (by omega) (by omega) (by rw [hb]; omega) (growslice_fits_wide (by omega) (by rw [hb]; omega))
    have hge : n + k ≤ grownCap w (n + k) c e := grownCap_ge w (n + k) c e
    refine ⟨_, _, _, hr, ⟨hlen, by omega, ⟨by rw [cu_length]; omega, .inr ⟨w.heap.size, _, _, rfl, hbase, heap_alloc_new w.drew _, hge, grownCap_le_maxLen w (n + k) c e (by simp only [maxLen]; omega), ?_, ?_⟩⟩⟩, ⟨rfl, rfl, rfl, by simp, fun j hj _ => Below.heap_alloc w.drew _ j hj⟩⟩
    · simp [Array.size_append, size_zeroCells, Value.cells, cu_length]; omega
    · rw [Nat.mul_one, ← cu_append, ← cu_zsl k]
      simp only [Array.toList_append, List.toList_toArray, List.append_assoc]
      rw [← List.append_assoc]
      refine List.take_left' ?_
      simp [size_zeroCells, cu_length, Value.cells]; omega
theorem goes_zerosX {P : Program} {o : Oper} {a : Act} {W : World} {g : Nat} (s x : Operand) (t tn e : TypeId) (kn kq : IntKind) (ho : o.op = .call { callee := .builtin .append, args := #[s, x], argTypes := #[t, tn] }) (ht : P.underlying t = some (.slice e)) (htn : P.underlying tn = some (.int kn)) (hinfo : (P.info? e).map (fun i => (i.zero, i.size, i.bytes)) = some (some (.int .u8 0), 1, 1))
    {B n c : Nat} {l : List UInt8} (hs : a.eval s = .slice (some ⟨g, 0, none⟩) n c) (hown : Own W B e (some ⟨g, 0, none⟩) n c l) {k : Nat} (hx : a.eval x = .int kq (k : Int)) (hk : k ≤ 100) (hn : n ≤ 100000000) (hB : B ≤ W.heap.size) {J : World → Prop} (hJ : ∀ w', J w') :
    OpGoes P (fun v w' => (Kd.p (fun w'' v => ∃ A n' c', v = .slice A n' c' ∧ Own w'' B e A n' c' (l ++ zs k))).holds w' v ∧ W.grownBy w' (some g) ∧ J w') ((execOp a.eval o).run P W) := by
  obtain ⟨A', c', w', hrun, hown', hgr⟩ := run_append_zeros (P := P) W B t tn o.type e kn kq ht htn hinfo g n c l hown k hk hn hB
  unfold execOp
  simp only [ho, resolve, invoke, builtin, Sem.run_bind, Sem.run_pure, Result.andThen_ok, List.map_toArray, List.map_cons, List.map_nil, hs, hx, hrun]
  exact ⟨⟨A', _, c', rfl, hown'⟩, hgr, hJ _⟩
end Go.Proofs.Ytjjhnjkmoogloaa

/- A statement whose order Go leaves open, in which a few operations, one behind the other, write (appends one onto the other), whatever may change by them said by a relation. After Reg and RegX. -/
namespace Go.Proofs.Ytjjhnjkmoogloaa
open Go.RowKit
set_option linter.unusedVariables false
set_option linter.unusedSimpArgs false

def Kd.OkN (Rl : World → World → Prop) : Kd → Prop
  | .v _ => True
  | .b _ _ => False
  | .p q => ∀ w w' u, q w u → Rl w w' → q w' u
theorem Kd.keepN {Rl : World → World → Prop} {K : Kd} (hk : K.OkN Rl) {w w' : World} {v : Value} (h : K.holds w v) (hb : Rl w w') : K.holds w' v := by
  cases K with
  | v x => exact h
  | b n l => exact hk.elim
  | p q => exact hk _ _ _ h hb
structure GoesN (P : Program) (K : Kd) (Rl : World → World → Prop) (J : World → Prop) (o : Oper) (W : World) (a : Act) : Prop where
  out : OpGoes P (fun v w' => K.holds w' v ∧ Rl W w' ∧ J w') ((execOp a.eval o).run P W)
def Ob1N (P : Program) (ops : Array Oper) (a0 : Act) (w0 : World) (Rl : World → World → Prop) (J : Nat → World → Prop) (c : Nat) (x : Bool) (nz ks : List (Tmp × Kd)) (o : Oper) (K : Kd) : Prop :=
  (x = false ∧ wantK ops ks o.guard = some true ∧ ∀ W, Rl w0 W → leanOn ks W o.op.operands.toList (Goes P K o W) a0) ∨
  (x = true ∧ wantK ops ks o.guard = some true ∧ ∀ W, Rl w0 W → J c W → leanOn (nz ++ ks) W o.op.operands.toList (GoesN P K Rl (J (c + 1)) o W) a0) ∨
  (x = false ∧ wantK ops ks o.guard = some false ∧ K = .v undef)
def kT : Kd := .p fun _ _ => True
/-- What the operations yield: for the next one that writes (K), for all (K'). -/
def ObsN (P : Program) (ops : Array Oper) (a0 : Act) (w0 : World) (Rl : World → World → Prop) (J : Nat → World → Prop) (exs : List Nat) (fin : List (Tmp × Kd) → Prop) : Nat → Nat → List (Tmp × Kd) → List (Tmp × Kd) → List Oper → Prop
  | _, _, _, ks, [] => fin ks
  | i, c, nz, ks, o :: rest => ∃ K K' t, o.dst = some t ∧ (K.Ok ∧ (K' = K ∨ K' = kT) ∧ (lastX exs i = true ∨ K'.OkN Rl)) ∧ Ob1N P ops a0 w0 Rl J c (exs.elem i) nz ks o K ∧
      ObsN P ops a0 w0 Rl J exs fin (i + 1) (bif exs.elem i then c + 1 else c) (bif exs.elem i then [(t, K)] else (bif c == 0 then (t, K) :: nz else nz)) ((t, K') :: ks) rest
section
variable {P : Program} {ops : Array Oper} {a0 : Act} {w0 : World} {Rl : World → World → Prop} {J : Nat → World → Prop} {exs : List Nat} {fin : List (Tmp × Kd) → Prop} {i c : Nat} {nz ks : List (Tmp × Kd)} {rest : List Oper}
  {t : Tmp} {op : Op} {ty : TypeId} {pos : String} {after : Array Edge} {gd : Option (Nat × Bool)}
theorem ObsN.v {x : Value} (hx : exs.elem i = false) (hg : wantK ops ks gd = some true) (ho : ∀ W, Rl w0 W → leanOn ks W op.operands.toList (Goes P (.v x) ⟨some t, op, ty, pos, after, gd⟩ W) a0)
    (hr : ObsN P ops a0 w0 Rl J exs fin (i + 1) c (bif c == 0 then (t, .v x) :: nz else nz) ((t, .v x) :: ks) rest) : ObsN P ops a0 w0 Rl J exs fin i c nz ks (⟨some t, op, ty, pos, after, gd⟩ :: rest) :=
  ⟨.v x, .v x, t, rfl, ⟨trivial, .inl rfl, .inr trivial⟩, .inl ⟨hx, hg, ho⟩, by rw [hx]; exact hr⟩
/-- A value that the next writer alone may look at. -/
theorem ObsN.l {q : World → Value → Prop} (hx : exs.elem i = false) (hg : wantK ops ks gd = some true) (hkb : ∀ w w' v, q w v → Below w.heap.size w w' → q w' v) (ho : ∀ W, Rl w0 W → leanOn ks W op.operands.toList (Goes P (.p q) ⟨some t, op, ty, pos, after, gd⟩ W) a0)
    (hr : ObsN P ops a0 w0 Rl J exs fin (i + 1) c (bif c == 0 then (t, .p q) :: nz else nz) ((t, kT) :: ks) rest) : ObsN P ops a0 w0 Rl J exs fin i c nz ks (⟨some t, op, ty, pos, after, gd⟩ :: rest) :=
  ⟨.p q, kT, t, rfl, ⟨hkb, .inr rfl, .inr fun _ _ _ _ _ => trivial⟩, .inl ⟨hx, hg, ho⟩, by rw [hx]; exact hr⟩
theorem ObsN.p {q : World → Value → Prop} (hx : exs.elem i = false) (hg : wantK ops ks gd = some true) (hkb : ∀ w w' v, q w v → Below w.heap.size w w' → q w' v) (hk : ∀ w w' v, q w v → Rl w w' → q w' v) (ho : ∀ W, Rl w0 W → leanOn ks W op.operands.toList (Goes P (.p q) ⟨some t, op, ty, pos, after, gd⟩ W) a0)
    (hr : ObsN P ops a0 w0 Rl J exs fin (i + 1) c (bif c == 0 then (t, .p q) :: nz else nz) ((t, .p q) :: ks) rest) : ObsN P ops a0 w0 Rl J exs fin i c nz ks (⟨some t, op, ty, pos, after, gd⟩ :: rest) :=
  ⟨.p q, .p q, t, rfl, ⟨hkb, .inl rfl, .inr hk⟩, .inl ⟨hx, hg, ho⟩, by rw [hx]; exact hr⟩
theorem ObsN.ev {x : Value} (hx : exs.elem i = true) (hg : wantK ops ks gd = some true) (ho : ∀ W, Rl w0 W → J c W → leanOn (nz ++ ks) W op.operands.toList (GoesN P (.v x) Rl (J (c + 1)) ⟨some t, op, ty, pos, after, gd⟩ W) a0)
    (hr : ObsN P ops a0 w0 Rl J exs fin (i + 1) (c + 1) [(t, .v x)] ((t, .v x) :: ks) rest) : ObsN P ops a0 w0 Rl J exs fin i c nz ks (⟨some t, op, ty, pos, after, gd⟩ :: rest) :=
  ⟨.v x, .v x, t, rfl, ⟨trivial, .inl rfl, .inr trivial⟩, .inr (.inl ⟨hx, hg, ho⟩), by rw [hx]; exact hr⟩
theorem ObsN.el {q : World → Value → Prop} (hx : exs.elem i = true) (hg : wantK ops ks gd = some true) (hl : lastX exs i = false) (hkb : ∀ w w' v, q w v → Below w.heap.size w w' → q w' v) (ho : ∀ W, Rl w0 W → J c W → leanOn (nz ++ ks) W op.operands.toList (GoesN P (.p q) Rl (J (c + 1)) ⟨some t, op, ty, pos, after, gd⟩ W) a0)
    (hr : ObsN P ops a0 w0 Rl J exs fin (i + 1) (c + 1) [(t, .p q)] ((t, kT) :: ks) rest) : ObsN P ops a0 w0 Rl J exs fin i c nz ks (⟨some t, op, ty, pos, after, gd⟩ :: rest) :=
  ⟨.p q, kT, t, rfl, ⟨hkb, .inr rfl, .inr fun _ _ _ _ _ => trivial⟩, .inr (.inl ⟨hx, hg, ho⟩), by rw [hx]; exact hr⟩
theorem ObsN.ep {q : World → Value → Prop} (hx : exs.elem i = true) (hg : wantK ops ks gd = some true) (hl : lastX exs i = true) (hkb : ∀ w w' v, q w v → Below w.heap.size w w' → q w' v) (ho : ∀ W, Rl w0 W → J c W → leanOn (nz ++ ks) W op.operands.toList (GoesN P (.p q) Rl (J (c + 1)) ⟨some t, op, ty, pos, after, gd⟩ W) a0)
    (hr : ObsN P ops a0 w0 Rl J exs fin (i + 1) (c + 1) [(t, .p q)] ((t, .p q) :: ks) rest) : ObsN P ops a0 w0 Rl J exs fin i c nz ks (⟨some t, op, ty, pos, after, gd⟩ :: rest) :=
  ⟨.p q, .p q, t, rfl, ⟨hkb, .inl rfl, .inl hl⟩, .inr (.inl ⟨hx, hg, ho⟩), by rw [hx]; exact hr⟩
theorem ObsN.skip (hx : exs.elem i = false) (hg : wantK ops ks gd = some false) (hr : ObsN P ops a0 w0 Rl J exs fin (i + 1) c (bif c == 0 then (t, .v undef) :: nz else nz) ((t, .v undef) :: ks) rest) : ObsN P ops a0 w0 Rl J exs fin i c nz ks (⟨some t, op, ty, pos, after, gd⟩ :: rest) :=
  ⟨.v undef, .v undef, t, rfl, ⟨trivial, .inl rfl, .inr trivial⟩, .inr (.inr ⟨hx, hg, rfl⟩), by rw [hx]; exact hr⟩
theorem ObsN.nil (h : fin ks) : ObsN P ops a0 w0 Rl J exs fin i c nz ks [] := h
end
theorem ObsN.out {P : Program} {ops : Array Oper} {a0 : Act} {w0 : World} {Rl : World → World → Prop} {J : Nat → World → Prop} {exs : List Nat} {fin : List (Tmp × Kd) → Prop} : ∀ {l : List Oper} {i0 : Nat} {nz ks : List (Tmp × Kd)}, ObsN P ops a0 w0 Rl J exs fin i0 (czX exs i0) nz ks l →
    ∃ Kt Ks : Nat → Kd, ∃ kn kz : Nat → List (Tmp × Kd), kz 0 = ks ∧ kn 0 = nz ∧ fin (kz l.length) ∧ ∀ i o, l[i]? = some o → ∃ t, o.dst = some t ∧ ((Kt i).Ok ∧ (Ks i = Kt i ∨ Ks i = kT) ∧ (lastX exs (i0 + i) = true ∨ (Ks i).OkN Rl)) ∧ Ob1N P ops a0 w0 Rl J (czX exs (i0 + i)) (exs.elem (i0 + i)) (kn i) (kz i) o (Kt i) ∧ kz (i + 1) = (t, Ks i) :: kz i ∧
      kn (i + 1) = (bif exs.elem (i0 + i) then [(t, Kt i)] else (bif czX exs (i0 + i) == 0 then (t, Kt i) :: kn i else kn i))
  | [], i0, nz, ks, h => ⟨fun _ => .v undef, fun _ => .v undef, fun _ => nz, fun _ => ks, rfl, rfl, h, fun i o ho => by simp at ho⟩
  | o :: rest, i0, nz, ks, ⟨K, K', t, hd, hk, hob, hr⟩ => by
    have hr' : ObsN P ops a0 w0 Rl J exs fin (i0 + 1) (czX exs (i0 + 1)) (bif exs.elem i0 then [(t, K)] else (bif czX exs i0 == 0 then (t, K) :: nz else nz)) ((t, K') :: ks) rest := hr
    obtain ⟨Kt, Ks, kn, kz, h0, hn0, hf, hall⟩ := ObsN.out hr'
    refine ⟨fun i => match i with | 0 => K | i + 1 => Kt i, fun i => match i with | 0 => K' | i + 1 => Ks i, fun i => match i with | 0 => nz | i + 1 => kn i, fun i => match i with | 0 => ks | i + 1 => kz i, rfl, rfl, hf, fun i o' ho' => ?_⟩
    cases i with
    | zero =>
      simp only [List.getElem?_cons_zero, Option.some.injEq] at ho'
      subst ho'
      exact ⟨t, hd, hk, hob, h0, hn0⟩
    | succ i =>
      have := hall i o' (by simpa using ho')
      rw [show i0 + 1 + i = i0 + (i + 1) from by omega] at this
      exact this
structure RInvN (ops : Array Oper) (a0 : Act) (w0 : World) (Kt Ks : Nat → Kd) (m : Nat) (Rl : World → World → Prop) (J : Nat → World → Prop) (exs : List Nat) (listed : Array Bool) (a : Act) (w : World) : Prop where
  lsize : listed.size = ops.size
  defers : a.defers = a0.defers
  size : a.tmps.size = a0.tmps.size
  ext : Rl w0 w
  cnt : ∃ c, c ≤ exs.length ∧ (∀ q, q < exs.length → listed.getD (exs.getD q 0) false = decide (q < c)) ∧ J c w ∧ ∀ j t, j < m → listed.getD j false = true → dstOf ops j = some t → (c = 0 ∨ (exs.elem j = true ∧ czX exs j + 1 = c)) → (Kt j).holds w (a.tmps.getD t undef)
  other : ∀ t, (∀ j, j < m → dstOf ops j ≠ some t) → a.tmps.getD t undef = a0.tmps.getD t undef
  val : ∀ j t, j < m → listed.getD j false = true → dstOf ops j = some t → (Ks j).holds w (a.tmps.getD t undef)
  down : ∀ i o, ops[i]? = some o → listed.getD i false = true → ∀ e ∈ o.after, Region.binds .any e = true → listed.getD e.on false = true
theorem lookK_app {a b : List (Tmp × Kd)} {s : Tmp} {K : Kd} (h : lookK (a ++ b) s = some K) : (s, K) ∈ a ∨ lookK b s = some K := by
  induction a with
  | nil => exact .inr h
  | cons x r ih =>
    obtain ⟨u, L⟩ := x
    simp only [List.cons_append, lookK] at h
    cases hb : Nat.beq u s with
    | true =>
      rw [hb] at h
      injection h with h
      subst h
      rw [Nat.eq_of_beq_eq_true hb]
      exact .inl List.mem_cons_self
    | false =>
      rw [hb] at h
      rcases ih h with h | h
      · exact .inl (List.mem_cons_of_mem _ h)
      · exact .inr h
theorem lookK_none_app {a b : List (Tmp × Kd)} {s : Tmp} (h : lookK (a ++ b) s = none) : lookK b s = none := by
  induction a with
  | nil => exact h
  | cons x r ih =>
    obtain ⟨u, L⟩ := x
    simp only [List.cons_append, lookK] at h
    cases hb : Nat.beq u s with
    | true => rw [hb] at h; cases h
    | false => rw [hb] at h; exact ih h
section
variable {P : Program} {Q : Exit → Act → World → Prop}
/-- THE LAW. -/
theorem regionN {id : Nat} {l : List Oper} {a : Act} {w : World} (m : Nat) (exs : List Nat) (Rl : World → World → Prop) (J : Nat → World → Prop) (hm : P.follows .mixedOrders = true) (hchk : regB l.toArray m a.tmps.size = true) (hex : exB l.toArray m exs = true)
    (hR0 : ∀ a b, Below a.heap.size a b → Rl a b) (hRt : ∀ a b c, Rl a b → Rl b c → Rl a c) (hJ0 : J 0 w) (hJs : ∀ c W W', J c W → Below W.heap.size W W' → J c W')
    (hobs : ObsN P l.toArray a w Rl J exs (fun ks => ∀ W, Rl w W → J exs.length W → finOn W ks (fun a' => wpList P l.toArray Q (l.drop m) a' W) a) 0 0 [] [] (l.take m)) :
    (Code.region id l.toArray true).wp P Q a w := by
  have R := regB_out hchk
  obtain ⟨ops, hops⟩ : ∃ ops, l.toArray = ops := ⟨_, rfl⟩
  have hl' : l = ops.toList := by rw [← hops]
  rw [hops] at hobs R hex ⊢
  rw [hl'] at hobs
  clear hops hl' hchk
  have hex' : ∀ q, q < exs.length → exs.getD q 0 < m ∧ czX exs (exs.getD q 0) = q ∧ (q = 0 ∨ ∃ o, ops[exs.getD q 0]? = some o ∧ hasOn o (exs.getD (q - 1) 0) = true) := by
    intro q hq
    have h := (List.all_eq_true.1 hex) q (List.mem_range.2 hq)
    simp only [Bool.and_eq_true, decide_eq_true_eq, beq_iff_eq, Bool.or_eq_true] at h
    refine ⟨h.1.1, h.1.2, h.2.imp (fun h => h) fun h2 => ?_⟩
    cases ho : ops[exs.getD q 0]? with
    | none => rw [ho] at h2; cases h2
    | some o => rw [ho] at h2; exact ⟨o, rfl, h2⟩
  have hidx : ∀ i, exs.elem i = true → ∃ q, q < exs.length ∧ exs.getD q 0 = i := by
    intro i hi
    obtain ⟨q, hq, e⟩ := List.mem_iff_getElem.1 (List.elem_iff.1 hi)
    exact ⟨q, hq, by rw [List.getD_eq_getElem?_getD, List.getElem?_eq_getElem hq]; exact e⟩
  have hmemE : ∀ q, q < exs.length → exs.elem (exs.getD q 0) = true := by
    intro q hq
    rw [List.elem_iff, List.getD_eq_getElem?_getD, List.getElem?_eq_getElem hq]
    exact List.getElem_mem hq
  obtain ⟨Kt, Ks, kn, kz, hz0, hn0, hfin, hall⟩ := ObsN.out (i0 := 0) hobs
  simp only [Nat.zero_add] at hall
  have hmlen : (ops.toList.take m).length = m := by simp [R.le]
  rw [hmlen] at hfin
  have hat : ∀ i o, i < m → ops[i]? = some o → (ops.toList.take m)[i]? = some o := fun i o hi ho => by
    rw [List.getElem?_take, if_pos hi]; simpa using ho
  have hta : ∀ i o, (ops.toList.take m)[i]? = some o → i < m ∧ ops[i]? = some o := fun i o ho => by
    rw [List.getElem?_take] at ho
    split at ho
    · exact ⟨‹_›, by simpa using ho⟩
    · cases ho
  have hall2 : ∀ i o, (ops.toList.take m)[i]? = some o → ∃ t, o.dst = some t ∧ kz (i + 1) = (t, Ks i) :: kz i := fun i o ho => by
    obtain ⟨t, h1, _, _, h2, _⟩ := hall i o ho
    exact ⟨t, h1, h2⟩
  have hmem : ∀ i, i ≤ m → ∀ t K, (t, K) ∈ kz i → ∃ j, j < i ∧ dstOf ops j = some t ∧ K = Ks j := fun i hi t K hm => by
    obtain ⟨j, o, h1, h2, h3, h4⟩ := kz_mem hz0 hall2 i (by omega) t K hm
    obtain ⟨_, ho⟩ := hta j o h2
    exact ⟨j, h1, by unfold dstOf; rw [ho]; exact h3, h4⟩
  refine wp_region_any hm ?_
  have hd : ∀ i o, ops[i]? = some o → dstOf ops i = o.dst := fun i o ho => by unfold dstOf; rw [ho]; rfl
  have hend : ∀ (listed : Array Bool) (a' : Act) (w' : World), RInvN ops a w Kt Ks m Rl J exs listed a' w' → (∀ j, j < m → listed.getD j false = true) → wpList P ops Q (ops.toList.drop m) a' w' := by
    intro listed a' w' hI hlst
    have HJX : J exs.length w' := by
      obtain ⟨c, hc, hq, hj, -⟩ := hI.cnt
      have : c = exs.length := by
        rcases Nat.lt_or_ge c exs.length with hlt | hge
        · have h1 := hq c hlt
          rw [hlst _ (hex' c hlt).1] at h1
          simp at h1
        · omega
      rw [← this]; exact hj
    obtain ⟨b, hb, e1, e2, e3, e4⟩ := finOn.out (a' := a') (hfin w' hI.ext HJX) hI.size.symm (fun t K hm => by
      obtain ⟨j, hj, hdj, rfl⟩ := hmem m (Nat.le_refl _) t K hm
      obtain ⟨o, ho, hod⟩ := dstOf_some hdj
      obtain ⟨s, hs, hsn, _⟩ := R.main j o hj ho
      rw [hod] at hs
      injection hs with hs
      subst hs
      exact ⟨by rw [hI.size]; exact hsn, hI.val j t hj (hlst j hj) hdj⟩)
    have : b = a' := by
      cases b with
      | mk bt bd =>
        cases a' with
        | mk at' ad =>
          simp only at e1 e2 e3 e4
          have hdf : bd = ad := by rw [e2]; exact hI.defers.symm
          have htm : bt = at' := by
            apply Array.ext
            · rw [e1]; exact hI.size.symm
            · intro t t1 t2
              have : bt.getD t undef = at'.getD t undef := by
                by_cases hx : ∃ K, (t, K) ∈ kz m
                · exact e4 t hx
                · rw [e3 t (fun K hm => hx ⟨K, hm⟩)]
                  refine (hI.other t fun j hj hdj => hx ?_).symm
                  obtain ⟨o, ho, hod⟩ := dstOf_some hdj
                  exact ⟨Ks j, kz_all hall2 m (by omega) j o t hj (hat j o hj ho) hod⟩
              simpa only [Array.getD_eq_getD_getElem?, Array.getElem?_eq_getElem t1, Array.getElem?_eq_getElem t2, Option.getD_some] using this
          subst hdf htm
          rfl
    rw [this] at hb
    exact hb
  have key : ∀ (fuel : Nat) (listed : Array Bool) (a' : Act) (w' : World), RInvN ops a w Kt Ks m Rl J exs listed a' w' → (∀ i, m ≤ i → i < ops.size → listed.getD i false = false) →
      ((List.range ops.size).filter fun i => !listed.getD i true).length ≤ fuel → wpAny P .any ops Q fuel listed a' w' := by
    intro fuel
    have hprefix : ∀ (listed : Array Bool), listed.size = ops.size → (∀ j, j < m → listed.getD j false = true) → (∀ i, m ≤ i → i < ops.size → listed.getD i false = false) → ∀ i, i < ops.size → listed.getD i false = decide (i < m) := by
      intro listed hs h1 h2 i hi
      by_cases e : i < m
      · rw [h1 i e]; simp [e]
      · rw [h2 i (by omega) hi]; simp [e]
    induction fuel with
    | zero =>
      intro listed a' w' hI hno hc
      have h0 : ((List.range ops.size).filter fun i => !listed.getD i true) = [] := List.eq_nil_of_length_eq_zero (by omega)
      have hal : ∀ i, i < ops.size → listed.getD i false = true := by
        intro i hi
        rw [List.filter_eq_nil_iff] at h0
        have := h0 i (List.mem_range.2 hi)
        rw [← getD_ff (by rw [hI.lsize]; exact hi)]
        simpa using this
      have hms : m = ops.size := by
        rcases Nat.lt_or_ge m ops.size with hlt | hge
        · have := hno m (Nat.le_refl _) hlt
          rw [hal m hlt] at this
          cases this
        · have := R.le; omega
      have := hend listed a' w' hI (fun j hj => hal j (by omega))
      rw [hms] at this
      have hdr : ops.toList.drop ops.size = [] := by simp
      rw [hdr] at this
      refine ⟨?_, this⟩
      unfold Region.ready
      rw [List.filter_eq_nil_iff] at h0 ⊢
      intro i hi
      have := h0 i hi
      simp only [Bool.not_eq_true] at this ⊢
      rw [this]
      rfl
    | succ fuel ih =>
      intro listed a' w' hI hno hc
      by_cases hdone : ∀ j, j < m → listed.getD j false = true
      · refine tail_any R (fuel + 1) m listed a' w' (Nat.le_refl _) R.le hI.lsize (hprefix listed hI.lsize hdone hno) ?_ (hend listed a' w' hI hdone)
        have hlen : ops.size - m ≤ ((List.range ops.size).filter fun i => !listed.getD i true).length := by
          have hsub : (List.range ops.size).filter (fun i => decide (m ≤ i)) = (List.range ops.size).filter fun i => !listed.getD i true := by
            apply List.filter_congr
            intro i hi
            have hi := List.mem_range.1 hi
            rw [getD_ff (by rw [hI.lsize]; exact hi), hprefix listed hI.lsize hdone hno i hi]
            by_cases e : i < m <;> simp [e] <;> omega
          rw [← hsub]
          have : ∀ N, m ≤ N → ((List.range N).filter fun i => decide (m ≤ i)).length = N - m := by
            intro N hN
            induction N with
            | zero => simp
            | succ N ihN =>
              rw [List.range_succ, List.filter_append, List.length_append]
              by_cases e : m ≤ N
              · rw [ihN e]; simp [e]; omega
              · have : m = N + 1 := by omega
                subst this
                have : (List.range N).filter (fun i => decide (N + 1 ≤ i)) = [] := by
                  rw [List.filter_eq_nil_iff]
                  intro i hi
                  have := List.mem_range.1 hi
                  simp; omega
                rw [this]
                simp
          rw [this _ R.le]
          exact Nat.le_refl _
        omega
      · refine ⟨fun hr => ?_, fun i hi => ?_⟩
        · exfalso
          refine hdone ?_
          intro j
          induction j using Nat.strongRecOn with
          | _ j ihj =>
            intro hj
            cases hlj : listed.getD j false with
            | true => rfl
            | false =>
              exfalso
              have hjs : j < ops.size := by have := R.le; omega
              have hmem : j ∈ Region.ready .any ops listed := by
                rw [mem_ready]
                refine ⟨by rw [getD_ff (by rw [hI.lsize]; exact hjs)]; exact hlj, ops[j], Array.getElem?_eq_getElem hjs, fun e he hb => ?_⟩
                have := R.down j _ (Array.getElem?_eq_getElem hjs) e he hb
                exact ihj _ this (by omega)
              rw [hr] at hmem
              cases hmem
        · have hi0 := hi
          rw [mem_ready] at hi
          obtain ⟨hnl', o, ho, haf⟩ := hi
          have his : i < ops.size := (Array.getElem?_eq_some_iff.1 ho).1
          have hsi : i < listed.size := by rw [hI.lsize]; exact his
          have him : i < m := by
            rcases Nat.lt_or_ge i m with hlt | hge
            · exact hlt
            · exact absurd (fun j hj => all_before R hI.down hge ho haf (i - j - 1) j (by omega)) hdone
          obtain ⟨t, ht, htn, hne, hsel, hrd, hgd⟩ := R.main i o him ho
          obtain ⟨t', ht', hok, hob, hkz, hkn⟩ := hall i o (hat i o him ho)
          have hon : ∀ j, hasOn o j = true → listed.getD j false = true := fun j hj => by
            obtain ⟨e, he, heo, heb⟩ := hasOn_mem hj
            rw [← heo]
            exact haf e he heb
          have hweak : ∀ w'' v, (Kt i).holds w'' v → (Ks i).holds w'' v := fun w'' v h => by
            rcases hok.2.1 with e | e
            · rw [e]; exact h
            · rw [e]; exact trivial
          have hnext : ∀ v w'', (Kt i).holds w'' v → Rl w' w'' → (∀ j, j < m → listed.getD j false = true → ∀ u, (Ks j).holds w' u → (Ks j).holds w'' u) → (∃ c, c ≤ exs.length ∧ (∀ q, q < exs.length → (listed.setIfInBounds i true).getD (exs.getD q 0) false = decide (q < c)) ∧ J c w'' ∧ ∀ j t, j < m → (listed.setIfInBounds i true).getD j false = true → dstOf ops j = some t → (c = 0 ∨ (exs.elem j = true ∧ czX exs j + 1 = c)) → (Kt j).holds w'' ((a'.put o.dst v).tmps.getD t undef)) → wpAny P .any ops Q fuel (listed.setIfInBounds i true) (a'.put o.dst v) w'' := by
            intro v w'' hv hb hkeep hcn
            refine ih _ _ _ ⟨by simpa using hI.lsize, ?_, ?_, hRt _ _ _ hI.ext hb, hcn, ?_, ?_, ?_⟩ ?_ ?_
            · rw [ht]; exact hI.defers
            · rw [ht]; simpa [Act.put] using hI.size
            · intro s hs
              have hst : s ≠ t := fun e => hs i him (by rw [hd i _ ho, ht, e])
              rw [ht, put_getD (by rw [hI.size]; exact htn), if_neg hst]
              exact hI.other s hs
            · intro j s hjm hj hdj
              rw [getD_set hsi] at hj
              rw [ht, put_getD (by rw [hI.size]; exact htn)]
              by_cases e : j = i
              · subst e
                have : s = t := by rw [hd j _ ho, ht] at hdj; injection hdj with hdj; exact hdj.symm
                rw [if_pos this]
                exact hweak _ _ hv
              · rw [if_neg e] at hj
                have hst : s ≠ t := fun e2 => e (dst_inj R hjm him hdj (by rw [hd i _ ho, ht, e2]))
                rw [if_neg hst]
                exact hkeep j hjm hj _ (hI.val j s hjm hj hdj)
            · intro q oq hq hlq e he hb
              rw [getD_set hsi] at hlq ⊢
              by_cases e1 : q = i
              · subst e1
                rw [ho] at hq
                injection hq with hq
                subst hq
                split
                · rfl
                · exact haf e he hb
              · rw [if_neg e1] at hlq
                split
                · rfl
                · exact hI.down q oq hq hlq e he hb
            · intro q hq hqs
              rw [getD_set hsi, if_neg (by omega)]
              exact hno q hq hqs
            · have hnl : (!listed.getD i true) = true := by rw [hnl']; rfl
              have hlt : ((List.range ops.size).filter fun k => !(listed.setIfInBounds i true).getD k true).length < ((List.range ops.size).filter fun k => !listed.getD k true).length := by
                have hsub : ((List.range ops.size).filter fun k => !(listed.setIfInBounds i true).getD k true) = (((List.range ops.size).filter fun k => !listed.getD k true).filter fun k => k != i) := by
                  rw [List.filter_filter]
                  apply List.filter_congr
                  intro k _
                  rw [getD_set hsi]
                  by_cases e : k = i
                  · subst e; simp
                  · simp [e]
                rw [hsub]
                exact List.length_filter_lt_length_iff_exists.2 ⟨i, List.mem_filter.2 ⟨List.mem_range.2 his, hnl⟩, by simp⟩
              omega
          have hlook : ∀ s K, lookK (kz i) s = some K → ∃ j, j < i ∧ dstOf ops j = some s ∧ K = Ks j := fun s K hK => hmem i (by omega) s K (lookK_some hK)
          have hokj : ∀ j, j < m → (Kt j).Ok ∧ (Ks j = Kt j ∨ Ks j = kT) ∧ (lastX exs j = true ∨ (Ks j).OkN Rl) := by
            intro j hj
            have hjs : j < ops.size := by have := R.le; omega
            obtain ⟨_, _, h1, _⟩ := hall j ops[j] (hat j _ hj (Array.getElem?_eq_getElem hjs))
            exact h1
          have hkN : ∀ w'', Below w'.heap.size w' w'' → ∀ j, j < m → listed.getD j false = true → ∀ u, (Ks j).holds w' u → (Ks j).holds w'' u := fun w'' hB j hj _ u hu => by
            rcases (hokj j hj).2.1 with e | e
            · rw [e] at hu ⊢; exact Kd.keep (hokj j hj).1 hu hB
            · rw [e]; exact trivial
          have hcntN : exs.elem i = false → ∀ v w'', (Kt i).holds w'' v → Below w'.heap.size w' w'' → ∃ c, c ≤ exs.length ∧ (∀ q, q < exs.length → (listed.setIfInBounds i true).getD (exs.getD q 0) false = decide (q < c)) ∧ J c w'' ∧ ∀ j t, j < m → (listed.setIfInBounds i true).getD j false = true → dstOf ops j = some t → (c = 0 ∨ (exs.elem j = true ∧ czX exs j + 1 = c)) → (Kt j).holds w'' ((a'.put o.dst v).tmps.getD t undef) := by
            intro hx v w'' hv hB
            obtain ⟨c, hc, hq, hj, hnear⟩ := hI.cnt
            refine ⟨c, hc, fun q hql => ?_, hJs c _ _ hj hB, fun j s hjm hjl hdj hcj => ?_⟩
            · rw [getD_set hsi, if_neg (fun e => by have h1 := hmemE q hql; rw [e, hx] at h1; cases h1)]
              exact hq q hql
            · rw [getD_set hsi] at hjl
              rw [ht, put_getD (by rw [hI.size]; exact htn)]
              by_cases e : j = i
              · subst e
                have : s = t := by rw [hd j _ ho, ht] at hdj; injection hdj with hdj; exact hdj.symm
                rw [if_pos this]
                exact hv
              · rw [if_neg e] at hjl
                have hst : s ≠ t := fun e2 => e (dst_inj R hjm him hdj (by rw [hd i _ ho, ht, e2]))
                rw [if_neg hst]
                exact Kd.keep (hokj j hjm).1 (hnear j s hjm hjl hdj hcj) hB
          have hknm : ∀ i, i ≤ m → ∀ s K, (s, K) ∈ kn i → ∃ j, j < i ∧ dstOf ops j = some s ∧ K = Kt j ∧ (czX exs i = 0 ∨ (exs.elem j = true ∧ czX exs j + 1 = czX exs i)) := by
            intro i
            induction i with
            | zero => intro _ s K hm0; rw [hn0] at hm0; cases hm0
            | succ i ihn =>
              intro hi1 s K hm1
              have his1 : i < ops.size := by have := R.le; omega
              have hoi : ops[i]? = some ops[i] := Array.getElem?_eq_getElem his1
              obtain ⟨ti, hti, -, -, -, hkni⟩ := hall i _ (hat i _ (by omega) hoi)
              rw [hkni] at hm1
              have hdi : dstOf ops i = some ti := by rw [hd i _ hoi]; exact hti
              cases hx : exs.elem i with
              | true =>
                rw [hx] at hm1
                simp only [cond_true, List.mem_singleton, Prod.mk.injEq] at hm1
                obtain ⟨rfl, rfl⟩ := hm1
                exact ⟨i, by omega, hdi, rfl, .inr ⟨hx, by show czX exs i + 1 = (bif exs.elem i then czX exs i + 1 else czX exs i); rw [hx]; rfl⟩⟩
              | false =>
                have hcz : czX exs (i + 1) = czX exs i := by show (bif exs.elem i then czX exs i + 1 else czX exs i) = _; rw [hx]; rfl
                rw [hx] at hm1
                simp only [cond_false] at hm1
                rw [hcz]
                cases h0 : (czX exs i == 0) with
                | true =>
                  rw [h0] at hm1
                  simp only [cond_true] at hm1
                  rcases List.mem_cons.1 hm1 with e | e
                  · simp only [Prod.mk.injEq] at e
                    obtain ⟨rfl, rfl⟩ := e
                    exact ⟨i, by omega, hdi, rfl, .inl (by simpa using h0)⟩
                  · obtain ⟨j, a1, a2, a3, a4⟩ := ihn (by omega) s K e
                    exact ⟨j, by omega, a2, a3, a4⟩
                | false =>
                  rw [h0] at hm1
                  simp only [cond_false] at hm1
                  obtain ⟨j, a1, a2, a3, a4⟩ := ihn (by omega) s K hm1
                  exact ⟨j, by omega, a2, a3, a4⟩
          unfold wpOp
          rw [ho]
          rcases hob with ⟨hxx, hwk, hgo⟩ | ⟨hxx, hwk, hgo⟩ | ⟨hxx, hwk, hskip⟩
          · have hw : Region.wanted o (yielded ops a'.tmps) = true := by
              unfold Region.wanted
              cases hg : o.guard with
              | none => rfl
              | some gb =>
                obtain ⟨g, b⟩ := gb
                rw [hg] at hwk
                unfold wantK at hwk
                simp only at hwk
                cases hdg : dstOf ops g with
                | none => rw [hdg] at hwk; cases hwk
                | some s =>
                  rw [hdg] at hwk
                  cases hlk : lookK (kz i) s with
                  | none => simp only [hlk] at hwk; cases hwk
                  | some K =>
                    simp only [hlk] at hwk
                    split at hwk
                    · rename_i hKe
                      injection hKe with hKe
                      subst hKe
                      rename_i c
                      obtain ⟨j, hj, hdj, hKj⟩ := hlook s _ hlk
                      obtain ⟨hong, hgi⟩ := hgd g b hg
                      obtain rfl := dst_inj R (by omega) (by omega) hdj hdg
                      have hv := hI.val j s (by omega) (hon j hong) hdj
                      rw [← hKj] at hv
                      have hy : yielded ops a'.tmps j = some c := by
                        have hv' : a'.tmps.getD s undef = .bool c := hv
                        unfold yielded
                        unfold dstOf at hdj
                        rw [hdj]
                        rw [Array.getD_eq_getD_getElem?] at hv'
                        cases hx : a'.tmps[s]? with
                        | none => rw [hx] at hv'; exact absurd hv' (by simp [undef])
                        | some x =>
                          rw [hx] at hv'
                          simp only [Option.getD_some] at hv'
                          subst hv'
                          simp [hx]
                      simp only [hy]
                      injection hwk
                    · cases hwk
            simp only [hw, if_true]
            refine .inl ?_
            obtain ⟨b, hb, b1, b2, b3, b4⟩ := leanOn.out (a' := a') (hgo w' hI.ext) hI.size.symm (fun s K hs hK => by
              obtain ⟨j, hj, hdj, rfl⟩ := hlook s K hK
              obtain ⟨o2, ho2, hod2⟩ := dstOf_some hdj
              obtain ⟨s2, hs2, hsn, _⟩ := R.main j o2 (by omega) ho2
              rw [hod2] at hs2
              injection hs2 with hs2
              subst hs2
              obtain ⟨ha, _⟩ := hrd s (by simpa using hs) j (by omega) hdj
              exact ⟨by rw [hI.size]; exact hsn, hI.val j s (by omega) (hon j ha) hdj⟩)
            have heq : execOp a'.eval o = execOp b.eval o := by
              refine execOp_congr o (fun cs bb hc => by rw [hc] at hsel; cases hsel) fun x hx => ?_
              cases x with
              | tmp s =>
                show a'.tmps.getD s undef = b.tmps.getD s undef
                by_cases hks : ∃ K, lookK (kz i) s = some K
                · obtain ⟨K, hK⟩ := hks
                  exact (b4 s ⟨K, hK, by simpa using hx⟩).symm
                · have ho2 : ∀ j, j < m → dstOf ops j ≠ some s := by
                    intro j hj hdj
                    obtain ⟨_, hji⟩ := hrd s hx j hj hdj
                    obtain ⟨oj, hoj, hdoj⟩ := dstOf_some hdj
                    have := kz_all hall2 i (by omega) j oj s hji (hat j oj hj hoj) hdoj
                    cases hl : lookK (kz i) s with
                    | some K => exact hks ⟨K, hl⟩
                    | none => exact lookK_none hl _ this
                  have e0 := hI.other s ho2
                  rcases b3 s with e | e
                  · rw [e, e0]
                  · exact e.symm
              | const _ => rfl
              | global _ => rfl
              | func _ => rfl
            have hgoes := hb.out
            unfold Oper.wp
            rw [heq]
            generalize (execOp b.eval o).run P w' = r at hgoes
            cases r with
            | ok n w'' =>
              cases n <;> simp only [OpGoes] at hgoes <;> try exact hgoes.elim
              case value v => exact hnext v w'' hgoes.1 (hR0 _ _ hgoes.2) (hkN _ hgoes.2) (hcntN hxx _ _ hgoes.1 hgoes.2)
              case enter f args =>
                refine Calls.mono hgoes ?_
                rintro e w3 ⟨v, rfl, hv, hb⟩
                exact hnext v w3 hv (hR0 _ _ hb) (hkN _ hb) (hcntN hxx _ _ hv hb)
            | halt x w'' => exact hgoes.elim
          · obtain ⟨q, hql, hqe⟩ := hidx i hxx
            obtain ⟨c, hc, hqs, hj, hnear⟩ := hI.cnt
            obtain ⟨hq1, hq2, hq3⟩ := hex' q hql
            have hqc : q = c := by
              have h1 := hqs q hql
              rw [hqe, ← getD_ff hsi, hnl'] at h1
              have h2 : ¬ q < c := by simpa using h1.symm
              rcases hq3 with h3 | ⟨o3, ho3, hh3⟩
              · omega
              · rw [hqe, ho] at ho3
                injection ho3 with ho3
                subst ho3
                have h4 := hon _ hh3
                by_cases h0 : q = 0
                · omega
                · rw [hqs (q - 1) (by omega)] at h4
                  have : q - 1 < c := by simpa using h4
                  omega
            rw [hqe] at hq2
            rw [hq2, hqc] at hgo
            have hkE : ∀ w'', Rl w' w'' → ∀ j, j < m → listed.getD j false = true → ∀ u, (Ks j).holds w' u → (Ks j).holds w'' u := by
              intro w'' hE j hjm hjl u hu
              rcases (hokj j hjm).2.2 with h1 | h1
              · exfalso
                have hlast : j = exs.getD (exs.length - 1) 0 := by
                  unfold lastX at h1
                  rw [List.getLast?_eq_getElem?, List.getElem?_eq_getElem (by omega)] at h1
                  rw [List.getD_eq_getElem?_getD, List.getElem?_eq_getElem (by omega)]
                  simp only [beq_iff_eq] at h1
                  exact h1.symm
                rw [hlast, hqs _ (by omega)] at hjl
                have : exs.length - 1 < c := by simpa using hjl
                omega
              · exact Kd.keepN h1 hu hE
            have hcntE : ∀ v w'', (Kt i).holds w'' v → J (c + 1) w'' → ∃ c, c ≤ exs.length ∧ (∀ q, q < exs.length → (listed.setIfInBounds i true).getD (exs.getD q 0) false = decide (q < c)) ∧ J c w'' ∧ ∀ j t, j < m → (listed.setIfInBounds i true).getD j false = true → dstOf ops j = some t → (c = 0 ∨ (exs.elem j = true ∧ czX exs j + 1 = c)) → (Kt j).holds w'' ((a'.put o.dst v).tmps.getD t undef) := by
              intro v w'' hv hj2
              refine ⟨c + 1, by omega, fun p hp => ?_, hj2, fun j s hjm hjl hdj hcj => ?_⟩
              rotate_left
              · rcases hcj with hcj | ⟨hx2, hcj⟩
                · omega
                · obtain ⟨q2, hq2l, hq2e⟩ := hidx j hx2
                  have h3 := (hex' q2 hq2l).2.1
                  rw [hq2e] at h3
                  have h4 : q2 = q := by omega
                  have h5 : j = i := by rw [← hq2e, h4, hqe]
                  subst h5
                  have : s = t := by rw [hd j _ ho, ht] at hdj; injection hdj with hdj; exact hdj.symm
                  rw [ht, put_getD (by rw [hI.size]; exact htn), if_pos this]
                  exact hv
              rw [getD_set hsi]
              by_cases e : exs.getD p 0 = i
              · have hp2 := (hex' p hp).2.1
                rw [e, hq2] at hp2
                rw [if_pos e]
                have : p < c + 1 := by omega
                simp [this]
              · rw [if_neg e, hqs p hp]
                have hpq : p ≠ q := fun h => e (by rw [h]; exact hqe)
                by_cases hpc : p < c
                · simp [hpc, Nat.lt_succ_of_lt hpc]
                · have : ¬ p < c + 1 := by omega
                  simp [hpc, this]
            have hw : Region.wanted o (yielded ops a'.tmps) = true := by
              unfold Region.wanted
              cases hg : o.guard with
              | none => rfl
              | some gb =>
                obtain ⟨g, b⟩ := gb
                rw [hg] at hwk
                unfold wantK at hwk
                simp only at hwk
                cases hdg : dstOf ops g with
                | none => rw [hdg] at hwk; cases hwk
                | some s =>
                  rw [hdg] at hwk
                  cases hlk : lookK (kz i) s with
                  | none => simp only [hlk] at hwk; cases hwk
                  | some K =>
                    simp only [hlk] at hwk
                    split at hwk
                    · rename_i hKe
                      injection hKe with hKe
                      subst hKe
                      rename_i c
                      obtain ⟨j, hj, hdj, hKj⟩ := hlook s _ hlk
                      obtain ⟨hong, hgi⟩ := hgd g b hg
                      obtain rfl := dst_inj R (by omega) (by omega) hdj hdg
                      have hv := hI.val j s (by omega) (hon j hong) hdj
                      rw [← hKj] at hv
                      have hy : yielded ops a'.tmps j = some c := by
                        have hv' : a'.tmps.getD s undef = .bool c := hv
                        unfold yielded
                        unfold dstOf at hdj
                        rw [hdj]
                        rw [Array.getD_eq_getD_getElem?] at hv'
                        cases hx : a'.tmps[s]? with
                        | none => rw [hx] at hv'; exact absurd hv' (by simp [undef])
                        | some x =>
                          rw [hx] at hv'
                          simp only [Option.getD_some] at hv'
                          subst hv'
                          simp [hx]
                      simp only [hy]
                      injection hwk
                    · cases hwk
            simp only [hw, if_true]
            refine .inl ?_
            obtain ⟨b, hb, b1, b2, b3, b4⟩ := leanOn.out (a' := a') (hgo w' hI.ext hj) hI.size.symm (fun s K hs hK => by
              have hex3 : ∃ j, j < i ∧ dstOf ops j = some s ∧ (listed.getD j false = true → K.holds w' (a'.tmps.getD s undef)) := by
                rcases lookK_app hK with h | h
                · obtain ⟨j, a1, a2, rfl, a4⟩ := hknm i (by omega) s K h
                  exact ⟨j, a1, a2, fun hl => hnear j s (by omega) hl a2 (by rw [hq2] at a4; rw [← hqc]; exact a4)⟩
                · obtain ⟨j, a1, a2, rfl⟩ := hlook s K h
                  exact ⟨j, a1, a2, fun hl => hI.val j s (by omega) hl a2⟩
              obtain ⟨j, hj, hdj, hval⟩ := hex3
              obtain ⟨o2, ho2, hod2⟩ := dstOf_some hdj
              obtain ⟨s2, hs2, hsn, _⟩ := R.main j o2 (by omega) ho2
              rw [hod2] at hs2
              injection hs2 with hs2
              subst hs2
              obtain ⟨ha, _⟩ := hrd s (by simpa using hs) j (by omega) hdj
              exact ⟨by rw [hI.size]; exact hsn, hval (hon j ha)⟩)
            have heq : execOp a'.eval o = execOp b.eval o := by
              refine execOp_congr o (fun cs bb hc => by rw [hc] at hsel; cases hsel) fun x hx => ?_
              cases x with
              | tmp s =>
                show a'.tmps.getD s undef = b.tmps.getD s undef
                by_cases hks : ∃ K, lookK (kn i ++ kz i) s = some K
                · obtain ⟨K, hK⟩ := hks
                  exact (b4 s ⟨K, hK, by simpa using hx⟩).symm
                · have ho2 : ∀ j, j < m → dstOf ops j ≠ some s := by
                    intro j hj hdj
                    obtain ⟨_, hji⟩ := hrd s hx j hj hdj
                    obtain ⟨oj, hoj, hdoj⟩ := dstOf_some hdj
                    have := kz_all hall2 i (by omega) j oj s hji (hat j oj hj hoj) hdoj
                    cases hl : lookK (kn i ++ kz i) s with
                    | some K => exact hks ⟨K, hl⟩
                    | none => exact lookK_none (lookK_none_app hl) _ this
                  have e0 := hI.other s ho2
                  rcases b3 s with e | e
                  · rw [e, e0]
                  · exact e.symm
              | const _ => rfl
              | global _ => rfl
              | func _ => rfl
            have hgoes := hb.out
            unfold Oper.wp
            rw [heq]
            generalize (execOp b.eval o).run P w' = r at hgoes
            cases r with
            | ok n w'' =>
              cases n <;> simp only [OpGoes] at hgoes <;> try exact hgoes.elim
              case value v => exact hnext v w'' hgoes.1 hgoes.2.1 (hkE _ hgoes.2.1) (hcntE _ _ hgoes.1 hgoes.2.2)
              case enter f args =>
                refine Calls.mono hgoes ?_
                rintro e w3 ⟨v, rfl, hv, hb, hj3⟩
                exact hnext v w3 hv hb (hkE _ hb) (hcntE _ _ hv hj3)
            | halt x w'' => exact hgoes.elim
          · have hw : Region.wanted o (yielded ops a'.tmps) = false := by
              unfold Region.wanted
              cases hg : o.guard with
              | none => rw [hg] at hwk; cases hwk
              | some gb =>
                obtain ⟨g, b⟩ := gb
                rw [hg] at hwk
                unfold wantK at hwk
                simp only at hwk
                cases hdg : dstOf ops g with
                | none => rw [hdg] at hwk; cases hwk
                | some s =>
                  rw [hdg] at hwk
                  cases hlk : lookK (kz i) s with
                  | none => simp only [hlk] at hwk; cases hwk
                  | some K =>
                    simp only [hlk] at hwk
                    split at hwk
                    · rename_i hKe
                      injection hKe with hKe
                      subst hKe
                      rename_i c
                      obtain ⟨j, hj, hdj, hKj⟩ := hlook s _ hlk
                      obtain ⟨hong, hgi⟩ := hgd g b hg
                      obtain rfl := dst_inj R (by omega) (by omega) hdj hdg
                      have hv := hI.val j s (by omega) (hon j hong) hdj
                      rw [← hKj] at hv
                      have hy : yielded ops a'.tmps j = some c := by
                        have hv' : a'.tmps.getD s undef = .bool c := hv
                        unfold yielded
                        unfold dstOf at hdj
                        rw [hdj]
                        rw [Array.getD_eq_getD_getElem?] at hv'
                        cases hx : a'.tmps[s]? with
                        | none => rw [hx] at hv'; exact absurd hv' (by simp [undef])
                        | some x =>
                          rw [hx] at hv'
                          simp only [Option.getD_some] at hv'
                          subst hv'
                          simp [hx]
                      simp only [hy]
                      injection hwk
                    · cases hwk
            simp only [hw]
            exact hnext _ _ (by rw [hskip]; rfl) (hR0 _ _ (Below.refl _ _)) (hkN _ (Below.refl _ _)) (hcntN hxx _ _ (by rw [hskip]; rfl) (Below.refl _ _))
  refine key ops.size _ a _ ⟨by simp, rfl, rfl, hR0 _ _ (Below.drew (Below.refl _ _)), ⟨0, Nat.zero_le _, fun q _ => by simp [Array.getD_eq_getD_getElem?, Array.getElem?_replicate]; split <;> simp, hJs 0 _ _ hJ0 (Below.drew (Below.refl _ _)), fun j t _ hj => by
    exfalso
    revert hj
    simp only [Array.getD_eq_getD_getElem?, Array.getElem?_replicate]
    split <;> simp⟩, fun _ _ => rfl, fun j t _ hj => ?_, fun i o _ hj => ?_⟩ ?_ ?_
  · exfalso
    revert hj
    simp only [Array.getD_eq_getD_getElem?, Array.getElem?_replicate]
    split <;> simp
  · exfalso
    revert hj
    simp only [Array.getD_eq_getD_getElem?, Array.getElem?_replicate]
    split <;> simp
  · intro i _ hi
    simp [Array.getD_eq_getD_getElem?, Array.getElem?_replicate, hi]
  · exact Nat.le_trans (List.length_filter_le _ _) (by simp)
end
end Go.Proofs.Ytjjhnjkmoogloaa

/- What appends onto rows of the call's own keep. -/
namespace Go.Proofs.Ytjjhnjkmoogloaa
open Go.RowKit
set_option linter.unusedVariables false
set_option linter.unusedSimpArgs false

structure KeepR (B : Nat) (W W' : World) : Prop where
  below : Below (min B W.heap.size) W W'
  ty : ∀ k cs t, t ≠ 5 → Blk W k cs t → Blk W' k cs t
theorem KeepR.of (B : Nat) : ∀ a b, Below a.heap.size a b → KeepR B a b := fun a b h => ⟨h.mono (Nat.min_le_right _ _), fun k cs t _ bl => bl.below h⟩
theorem KeepR.trans (B : Nat) : ∀ a b c, KeepR B a b → KeepR B b c → KeepR B a c := fun a b c h k => ⟨h.below.trans (k.below.mono (by have := h.below.size; omega)), fun i cs t ht bl => k.ty i cs t ht (h.ty i cs t ht bl)⟩
theorem KeepR.bel {B : Nat} {a b c : World} (h : Below B a b) (k : KeepR B b c) (hB : B ≤ b.heap.size) : Below B a c := h.trans (k.below.mono (by omega))
theorem KeepR.keepT {B h : Nat} {a b c : World} (k : keepT h a b) (l : KeepR B b c) : keepT h a c := fun i cs t ht hi b => l.ty i cs t ht (k i cs t ht hi b)
theorem KeepR.grown {B base n c : Nat} {W w' : World} {A : Option Addr} {l : List UInt8} (hown : Own W base 5 A n c l) (hg : W.grownBy w' (Value.slice A n c).ownBlock) (hb : B ≤ base) : KeepR B W w' :=
  ⟨((Below.refl (min B W.heap.size) W).grown hg (by omega) (fun k hk => by have := hown.base_le k hk; omega)), fun k cs t ht bl => bl.grown hg (hown.ne_blk bl ht)⟩
/-- Bytes. -/
def isBs (n : Nat) (l : List UInt8) : World → Value → Prop := fun W v => ∃ A c, v = .slice A n c ∧ Bs W A n c l
theorem st_isBs {n : Nat} {l : List UInt8} : ∀ w w' v, isBs n l w v → Below w.heap.size w w' → isBs n l w' v := fun _ _ _ ⟨A, c, e, k⟩ hb => ⟨A, c, e, k.below hb⟩
theorem goes_litB {n : Nat} {W : World} {l : List UInt8} {cs : Array Value} (hc : (cu l).toArray = cs) (hn : l.length = n) (hm : n ≤ 200000000000000) :
    OpGoes Try.prog (fun v w' => (Kd.p (isBs n l)).holds w' v ∧ Below W.heap.size W w') (.ok (.value (.slice (some ⟨W.heap.size, 0, none⟩) n n)) (W.alloc (.cells cs 5))) := by
  subst hc
  exact ⟨⟨_, _, rfl, bs_lit l n hn hm⟩, (Below.refl _ W).alloc (Nat.le_refl _) _⟩
theorem goes_appN {o : Oper} {a : Act} {W : World} (s x : Operand) (ho : o.op = .call { callee := .builtin .append, args := #[s, x], argTypes := #[24, 24] }) {B B' n c : Nat} {A : Option Addr} {l : List UInt8} (hs : a.eval s = .slice A n c)
    (hown : Own W B 5 A n c l) {A2 : Option Addr} {n2 c2 : Nat} {l2 : List UInt8} (hx : a.eval x = .slice A2 n2 c2) (hr : Bs W A2 n2 c2 l2) (hmax : n + n2 ≤ 200000000000000) (hB : B ≤ W.heap.size) (hBB : B' ≤ B) {J : World → Prop} (hJ : ∀ w', J w') :
    OpGoes Try.prog (fun v w' => (Kd.p (isW B (l ++ l2))).holds w' v ∧ KeepR B' W w' ∧ J w') ((execOp a.eval o).run Try.prog W) := by
  obtain ⟨A', c', w', hrun, hown', hgr⟩ := run_append_bs (P := Try.prog) W B 24 o.type 5 Try.underlying24 info_u8 A n c l hown A2 n2 c2 l2 hr hmax hB
  unfold execOp
  simp only [ho, resolve, invoke, builtin, Sem.run_bind, Sem.run_pure, Result.andThen_ok, List.map_toArray, List.map_cons, List.map_nil, hs, hx, hrun]
  exact ⟨⟨A', _, c', rfl, hown'⟩, KeepR.grown hown hgr hBB, hJ _⟩
end Go.Proofs.Ytjjhnjkmoogloaa

/- A statement that draws its order (XReg), one of whose operations takes a part of a result and need not be done when the store comes. -/
namespace Go.Proofs.Ytjjhnjkmoogloaa
open Go.RowKit
set_option linter.unusedVariables false
set_option linter.unusedSimpArgs false
set_option maxHeartbeats 1000000

def isExt : Op → Bool
  | .extract .. => true
  | _ => false
def lateL (m z s : Nat) : Array Bool := Array.ofFn fun i : Fin s => decide (i.val < m) && i.val != z
def upZ (ops : Array Oper) (lo hi z j : Nat) : Bool := (List.range (hi + 1 - lo)).any fun k => lo + k != z && match ops[lo + k]? with
  | some o => hasOn o j
  | none => false
def regZ (ops : Array Oper) (m z n : Nat) : Bool :=
  decide (m ≤ ops.size) && decide (z < m) && (List.range m).all (mainB ops m n) && (List.range ops.size).all (downB ops) &&
    ((List.range m).all fun j => j == z || upZ ops (j + 1) m z j) && ((List.range (ops.size - 1 - m)).all fun k => upB ops (m + k + 1) (m + k + 1) (m + k)) &&
    Region.noSelect ops && Region.free .any ops (lateL m z ops.size) z && (Region.ready .any ops (lateL m z ops.size)).contains z &&
    (match ops[z]? with
      | some o => isExt o.op && o.guard.isNone
      | none => false)
structure RegOkZ (ops : Array Oper) (m z n : Nat) : Prop where
  le : m ≤ ops.size
  zlt : z < m
  main : ∀ i o, i < m → ops[i]? = some o → ∃ t, o.dst = some t ∧ t < n ∧ (∀ j, j < i → dstOf ops j ≠ some t) ∧ isSel o.op = false ∧
    (∀ s, .tmp s ∈ o.op.operands → ∀ j, j < m → dstOf ops j = some s → hasOn o j = true ∧ j < i) ∧ (∀ g b, o.guard = some (g, b) → hasOn o g = true ∧ g < i)
  down : ∀ i o, ops[i]? = some o → ∀ e ∈ o.after, Region.binds .any e = true → e.on < i
  up : ∀ j, j < m → j ≠ z → ∃ k o, j < k ∧ k ≤ m ∧ k ≠ z ∧ ops[k]? = some o ∧ hasOn o j = true
  tail : ∀ k, m ≤ k → k + 1 < ops.size → ∃ o, ops[k + 1]? = some o ∧ hasOn o k = true
  nosel : Region.noSelect ops = true
  free : Region.free .any ops (lateL m z ops.size) z = true
  rdy : (Region.ready .any ops (lateL m z ops.size)).contains z = true
  ext : ∀ o, ops[z]? = some o → isExt o.op = true ∧ o.guard = none
theorem upZ_out {ops : Array Oper} {lo hi z j : Nat} (h : upZ ops lo hi z j = true) : ∃ k o, lo ≤ k ∧ k ≤ hi ∧ k ≠ z ∧ ops[k]? = some o ∧ hasOn o j = true := by
  obtain ⟨k, hk, hh⟩ := List.any_eq_true.1 h
  have := List.mem_range.1 hk
  simp only [Bool.and_eq_true, bne_iff_ne, ne_eq] at hh
  obtain ⟨hz, hh⟩ := hh
  cases ho : ops[lo + k]? with
  | none => rw [ho] at hh; cases hh
  | some o => rw [ho] at hh; exact ⟨lo + k, o, by omega, by omega, hz, ho, hh⟩
theorem regZ_out {ops : Array Oper} {m z n : Nat} (h : regZ ops m z n = true) : RegOkZ ops m z n := by
  unfold regZ at h
  simp only [Bool.and_eq_true, decide_eq_true_eq, List.all_eq_true, List.mem_range, Bool.or_eq_true, beq_iff_eq] at h
  obtain ⟨⟨⟨⟨⟨⟨⟨⟨⟨h1, hz⟩, h2⟩, h3⟩, h4⟩, h5⟩, h6⟩, h7⟩, h8⟩, h9⟩ := h
  refine ⟨h1, hz, fun i o hi ho => ?_, fun i o ho e he hb => ?_, fun j hj hjz => ?_, fun k hk hk1 => ?_, h6, h7, h8, fun o ho => ?_⟩
  · have := h2 i hi
    unfold mainB at this
    rw [ho] at this
    simp only [Bool.and_eq_true] at this
    obtain ⟨⟨⟨a1, a2⟩, a3⟩, a4⟩ := this
    cases ht : o.dst with
    | none => rw [ht] at a1; cases a1
    | some t =>
      rw [ht] at a1
      simp only [Bool.and_eq_true, decide_eq_true_eq, List.all_eq_true, List.mem_range, bne_iff_ne, ne_eq] at a1
      refine ⟨t, rfl, a1.1, a1.2, by simpa using a2, fun s hs j hj hd => ?_, fun g b hg => ?_⟩
      · rw [Array.all_eq_true] at a3
        obtain ⟨q, hq, hqs⟩ := Array.mem_iff_getElem.1 hs
        have := a3 q hq
        rw [hqs] at this
        simp only [List.all_eq_true, List.mem_range, Bool.or_eq_true, bne_iff_ne, ne_eq, Bool.and_eq_true, decide_eq_true_eq] at this
        exact (this j hj).resolve_left (fun h => h hd)
      · rw [hg] at a4
        simpa using a4
  · have hi : i < ops.size := (Array.getElem?_eq_some_iff.1 ho).1
    have := h3 i hi
    unfold downB at this
    rw [ho] at this
    simp only [Array.all_eq_true] at this
    obtain ⟨k, hk, rfl⟩ := Array.mem_iff_getElem.1 he
    have := this k hk
    rw [hb] at this
    simpa using this
  · obtain ⟨k, o, k1, k2, kz, k3, k4⟩ := upZ_out ((h4 j hj).resolve_left hjz)
    exact ⟨k, o, by omega, k2, kz, k3, k4⟩
  · have := h5 (k - m) (by omega)
    rw [show m + (k - m) = k from by omega] at this
    obtain ⟨q, o, k1, k2, k3, k4⟩ := upB_out this
    obtain rfl : q = k + 1 := by omega
    exact ⟨o, k3, k4⟩
  · rw [ho] at h9
    simp only [Bool.and_eq_true, Option.isNone_iff_eq_none] at h9
    exact h9
theorem dst_injZ {ops : Array Oper} {m z n : Nat} (h : RegOkZ ops m z n) {i j : Nat} {t : Tmp} (im : i < m) (jm : j < m) (hi : dstOf ops i = some t) (hj : dstOf ops j = some t) : i = j := by
  have key : ∀ i j, j < m → dstOf ops i = some t → dstOf ops j = some t → i < j → False := by
    intro i j jm hi hj hlt
    obtain ⟨o, ho, hd⟩ := dstOf_some hj
    obtain ⟨s, hs, _, hne, _⟩ := h.main j o jm ho
    rw [hd] at hs
    injection hs with hs
    subst hs
    exact hne i hlt hi
  rcases Nat.lt_trichotomy i j with hlt | heq | hlt
  · exact (key i j jm hi hj hlt).elim
  · exact heq
  · exact (key j i im hj hi hlt).elim
theorem all_beforeZ {ops : Array Oper} {m z n : Nat} (h : RegOkZ ops m z n) {listed : Array Bool} (hd : ∀ i o, ops[i]? = some o → listed.getD i false = true → ∀ e ∈ o.after, Region.binds .any e = true → listed.getD e.on false = true)
    {k : Nat} {ok : Oper} (hk : m ≤ k) (hok : ops[k]? = some ok) (hr : ∀ e ∈ ok.after, Region.binds .any e = true → listed.getD e.on false = true) : ∀ d j, j + d + 1 = k → j ≠ z → listed.getD j false = true := by
  have hks : k < ops.size := (Array.getElem?_eq_some_iff.1 hok).1
  intro d
  induction d using Nat.strongRecOn with
  | _ d ih =>
    intro j hj hjz
    have zlt := h.zlt
    have : ∃ q o, j < q ∧ q ≤ k ∧ q ≠ z ∧ ops[q]? = some o ∧ hasOn o j = true := by
      by_cases jm : j < m
      · obtain ⟨q, o, q1, q2, qz, q3⟩ := h.up j jm hjz
        exact ⟨q, o, q1, by omega, qz, q3⟩
      · obtain ⟨o, ho, hh⟩ := h.tail j (by omega) (by omega)
        exact ⟨j + 1, o, by omega, by omega, by omega, ho, hh⟩
    obtain ⟨q, o, q1, q2, qz, q3, q4⟩ := this
    obtain ⟨e, he, heo, heb⟩ := hasOn_mem q4
    rw [← heo]
    by_cases e1 : q = k
    · subst e1
      rw [hok] at q3
      injection q3 with q3
      subst q3
      exact hr e he heb
    · exact hd q o q3 (ih (k - q - 1) (by omega) q (by omega) qz) e he heb

section
variable {P : Program} {Q : Exit → Act → World → Prop}
/-- What stands behind the first m goes one by one. -/
theorem tail_anyZ {ops : Array Oper} {m z n : Nat} (h : RegOkZ ops m z n) : ∀ (fuel k : Nat) (listed : Array Bool) (a : Act) (w : World), m ≤ k → k ≤ ops.size → listed.size = ops.size →
    (∀ i, i < ops.size → listed.getD i false = decide (i < k)) → ops.size - k ≤ fuel → wpList P ops Q (ops.toList.drop k) a w → wpAny P .any ops Q fuel listed a w := by
  intro fuel
  have hnil : ∀ (k : Nat) (listed : Array Bool), listed.size = ops.size → (∀ i, i < ops.size → listed.getD i false = decide (i < k)) → k ≤ ops.size → Region.ready .any ops listed = [] → k = ops.size := by
    intro k listed hs hl hk hr
    rcases Nat.lt_or_ge k ops.size with hlt | hge
    · exfalso
      have hm : k ∈ Region.ready .any ops listed := by
        rw [mem_ready]
        refine ⟨by rw [getD_ff (by omega), hl k hlt]; simp, ops[k], Array.getElem?_eq_getElem hlt, fun e he hb => ?_⟩
        have := h.down k _ (Array.getElem?_eq_getElem hlt) e he hb
        rw [hl _ (by omega)]
        simpa using this
      rw [hr] at hm
      cases hm
    · omega
  induction fuel with
  | zero =>
    intro k listed a w hmk hk hs hl hf hw
    obtain rfl : k = ops.size := by omega
    have hd : ops.toList.drop ops.size = [] := by simp
    rw [hd] at hw
    refine ⟨?_, hw⟩
    unfold Region.ready
    rw [List.filter_eq_nil_iff]
    intro i hi
    have hi := List.mem_range.1 hi
    rw [getD_ff (by omega), hl i hi]
    simp [hi]
  | succ fuel ih =>
    intro k listed a w hmk hk hs hl hf hw
    refine ⟨fun hr => ?_, fun i hi => ?_⟩
    · obtain rfl := hnil k listed hs hl hk hr
      have hd : ops.toList.drop ops.size = [] := by simp
      rw [hd] at hw
      exact hw
    · rw [mem_ready] at hi
      obtain ⟨hn, o, ho, hall⟩ := hi
      have his : i < ops.size := (Array.getElem?_eq_some_iff.1 ho).1
      rw [getD_ff (by omega), hl i his] at hn
      have hik : k ≤ i := by simpa using hn
      have hki : i ≤ k := by
        rcases Nat.lt_or_ge k i with hlt | hge
        · exfalso
          have := all_beforeZ h (listed := listed) (fun q oq hq hlq e he hb => by
            have hqs : q < ops.size := (Array.getElem?_eq_some_iff.1 hq).1
            have h1 := h.down q oq hq e he hb
            rw [hl q hqs] at hlq
            rw [hl _ (by omega)]
            simp only [decide_eq_true_eq] at hlq ⊢
            omega) (by omega) ho hall (i - k - 1) k (by omega) (by have := h.zlt; omega)
          rw [hl k (by omega)] at this
          simp at this
        · exact hge
      obtain rfl : i = k := by omega
      have hdrop : ops.toList.drop i = o :: ops.toList.drop (i + 1) := by
        have : ops.toList[i]? = some o := by simpa using ho
        rw [List.drop_eq_getElem_cons (by simpa using his)]
        congr 1
        have e2 := (List.getElem?_eq_some_iff.1 this).2
        exact e2
      rw [hdrop] at hw
      have hnext : ∀ a w, wpList P ops Q (ops.toList.drop (i + 1)) a w → wpAny P .any ops Q fuel (listed.setIfInBounds i true) a w := by
        intro a w hw
        refine ih (i + 1) _ a w (by omega) (by omega) (by simpa using hs) (fun j hj => ?_) (by omega) hw
        rw [getD_set (by omega), hl j hj]
        by_cases e : j = i
        · subst e; simp
        · simp [e]; omega
      unfold wpOp
      rw [ho]
      simp only
      unfold wpList at hw
      split
      · rename_i hwant
        rw [if_pos hwant] at hw
        exact hw.imp (Oper.wp_mono hnext) id
      · rename_i hwant
        rw [if_neg hwant] at hw
        exact hnext _ _ hw

/-- THE LAW. -/
theorem extract_ways {ρ : Operand → Value} {o : Oper} (h : isExt o.op = true) : (∃ v, ∀ w, (execOp ρ o).run P w = .ok (.value v) w) ∨ ∀ w n w', (execOp ρ o).run P w ≠ .ok n w' := by
  obtain ⟨dst, op, ty, pos, after, g⟩ := o
  cases op <;> simp only [isExt] at h <;> try cases h
  rename_i t ix
  simp only [execOp, Instr.extract]
  cases hv : ρ t
  case tuple vs =>
    cases hx : vs[ix]? with
    | none => right; intro w n w'; simp [hx]
    | some v => left; exact ⟨v, fun w => by simp [hx]⟩
  all_goals right; intro w n w'; simp
theorem region_z {id : Nat} {l : List Oper} {a : Act} {w : World} (m z : Nat) (hm : P.follows .mixedOrders = true) (hchk : regZ l.toArray m z a.tmps.size = true) (hQ : ∀ (t : Tmp) v c a w, Q (.panic c) (Act.put a (some t) v) w → Q (.panic c) a w)
    (hobs : ObsK P l.toArray a w (fun ks => ∀ W, Below w.heap.size w W → finOn W ks (fun a' => wpList P l.toArray Q (l.drop m) a' W) a) [] (l.take m)) :
    (Code.region id l.toArray true).wp P Q a w := by
  have R := regZ_out hchk
  obtain ⟨ops, hops⟩ : ∃ ops, l.toArray = ops := ⟨_, rfl⟩
  have hl' : l = ops.toList := by rw [← hops]
  rw [hops] at hobs R ⊢
  rw [hl'] at hobs
  clear hops hl' hchk
  obtain ⟨Ks, kz, hz0, hfin, hall⟩ := hobs.out
  have hmlen : (ops.toList.take m).length = m := by simp [R.le]
  rw [hmlen] at hfin
  have hat : ∀ i o, i < m → ops[i]? = some o → (ops.toList.take m)[i]? = some o := fun i o hi ho => by
    rw [List.getElem?_take, if_pos hi]; simpa using ho
  have hta : ∀ i o, (ops.toList.take m)[i]? = some o → i < m ∧ ops[i]? = some o := fun i o ho => by
    rw [List.getElem?_take] at ho
    split at ho
    · exact ⟨‹_›, by simpa using ho⟩
    · cases ho
  have hall2 : ∀ i o, (ops.toList.take m)[i]? = some o → ∃ t, o.dst = some t ∧ kz (i + 1) = (t, Ks i) :: kz i := fun i o ho => by
    obtain ⟨t, h1, _, _, h2⟩ := hall i o ho
    exact ⟨t, h1, h2⟩
  have hmem : ∀ i, i ≤ m → ∀ t K, (t, K) ∈ kz i → ∃ j, j < i ∧ dstOf ops j = some t ∧ K = Ks j := fun i hi t K hm => by
    obtain ⟨j, o, h1, h2, h3, h4⟩ := kz_mem hz0 hall2 i (by omega) t K hm
    obtain ⟨_, ho⟩ := hta j o h2
    exact ⟨j, h1, by unfold dstOf; rw [ho]; exact h3, h4⟩
  refine wp_region_any hm ?_
  have hd : ∀ i o, ops[i]? = some o → dstOf ops i = o.dst := fun i o ho => by unfold dstOf; rw [ho]; rfl
  have hend : ∀ (listed : Array Bool) (a' : Act) (w' : World), RInv ops a w Ks m listed a' w' → (∀ j, j < m → listed.getD j false = true) → wpList P ops Q (ops.toList.drop m) a' w' := by
    intro listed a' w' hI hlst
    obtain ⟨b, hb, e1, e2, e3, e4⟩ := finOn.out (a' := a') (hfin w' hI.below) hI.size.symm (fun t K hm => by
      obtain ⟨j, hj, hdj, rfl⟩ := hmem m (Nat.le_refl _) t K hm
      obtain ⟨o, ho, hod⟩ := dstOf_some hdj
      obtain ⟨s, hs, hsn, _⟩ := R.main j o hj ho
      rw [hod] at hs
      injection hs with hs
      subst hs
      exact ⟨by rw [hI.size]; exact hsn, hI.val j t hj (hlst j hj) hdj⟩)
    have : b = a' := by
      cases b with
      | mk bt bd =>
        cases a' with
        | mk at' ad =>
          simp only at e1 e2 e3 e4
          have hdf : bd = ad := by rw [e2]; exact hI.defers.symm
          have htm : bt = at' := by
            apply Array.ext
            · rw [e1]; exact hI.size.symm
            · intro t t1 t2
              have : bt.getD t undef = at'.getD t undef := by
                by_cases hx : ∃ K, (t, K) ∈ kz m
                · exact e4 t hx
                · rw [e3 t (fun K hm => hx ⟨K, hm⟩)]
                  refine (hI.other t fun j hj hdj => hx ?_).symm
                  obtain ⟨o, ho, hod⟩ := dstOf_some hdj
                  exact ⟨Ks j, kz_all hall2 m (by omega) j o t hj (hat j o hj ho) hod⟩
              simpa only [Array.getD_eq_getD_getElem?, Array.getElem?_eq_getElem t1, Array.getElem?_eq_getElem t2, Option.getD_some] using this
          subst hdf htm
          rfl
    rw [this] at hb
    exact hb
  have key : ∀ (fuel : Nat) (listed : Array Bool) (a' : Act) (w' : World), RInv ops a w Ks m listed a' w' → (∀ i, m ≤ i → i < ops.size → listed.getD i false = false) →
      ((List.range ops.size).filter fun i => !listed.getD i true).length ≤ fuel → wpAny P .any ops Q fuel listed a' w' := by
    intro fuel
    have hprefix : ∀ (listed : Array Bool), listed.size = ops.size → (∀ j, j < m → listed.getD j false = true) → (∀ i, m ≤ i → i < ops.size → listed.getD i false = false) → ∀ i, i < ops.size → listed.getD i false = decide (i < m) := by
      intro listed hs h1 h2 i hi
      by_cases e : i < m
      · rw [h1 i e]; simp [e]
      · rw [h2 i (by omega) hi]; simp [e]
    induction fuel with
    | zero =>
      intro listed a' w' hI hno hc
      have h0 : ((List.range ops.size).filter fun i => !listed.getD i true) = [] := List.eq_nil_of_length_eq_zero (by omega)
      have hal : ∀ i, i < ops.size → listed.getD i false = true := by
        intro i hi
        rw [List.filter_eq_nil_iff] at h0
        have := h0 i (List.mem_range.2 hi)
        rw [← getD_ff (by rw [hI.lsize]; exact hi)]
        simpa using this
      have hms : m = ops.size := by
        rcases Nat.lt_or_ge m ops.size with hlt | hge
        · have := hno m (Nat.le_refl _) hlt
          rw [hal m hlt] at this
          cases this
        · have := R.le; omega
      have := hend listed a' w' hI (fun j hj => hal j (by omega))
      rw [hms] at this
      have hdr : ops.toList.drop ops.size = [] := by simp
      rw [hdr] at this
      refine ⟨?_, this⟩
      unfold Region.ready
      rw [List.filter_eq_nil_iff] at h0 ⊢
      intro i hi
      have := h0 i hi
      simp only [Bool.not_eq_true] at this ⊢
      rw [this]
      rfl
    | succ fuel ih =>
      intro listed a' w' hI hno hc
      by_cases hdone : ∀ j, j < m → listed.getD j false = true
      · refine tail_anyZ R (fuel + 1) m listed a' w' (Nat.le_refl _) R.le hI.lsize (hprefix listed hI.lsize hdone hno) ?_ (hend listed a' w' hI hdone)
        have hlen : ops.size - m ≤ ((List.range ops.size).filter fun i => !listed.getD i true).length := by
          have hsub : (List.range ops.size).filter (fun i => decide (m ≤ i)) = (List.range ops.size).filter fun i => !listed.getD i true := by
            apply List.filter_congr
            intro i hi
            have hi := List.mem_range.1 hi
            rw [getD_ff (by rw [hI.lsize]; exact hi), hprefix listed hI.lsize hdone hno i hi]
            by_cases e : i < m <;> simp [e] <;> omega
          rw [← hsub]
          have : ∀ N, m ≤ N → ((List.range N).filter fun i => decide (m ≤ i)).length = N - m := by
            intro N hN
            induction N with
            | zero => simp
            | succ N ihN =>
              rw [List.range_succ, List.filter_append, List.length_append]
              by_cases e : m ≤ N
              · rw [ihN e]; simp [e]; omega
              · have : m = N + 1 := by omega
                subst this
                have : (List.range N).filter (fun i => decide (N + 1 ≤ i)) = [] := by
                  rw [List.filter_eq_nil_iff]
                  intro i hi
                  have := List.mem_range.1 hi
                  simp; omega
                rw [this]
                simp
          rw [this _ R.le]
          exact Nat.le_refl _
        omega
      · by_cases hzz : ∀ j, j < m → j ≠ z → listed.getD j false = true
        · have zlt := R.zlt
          have zs : z < ops.size := by have := R.le; omega
          have hlz : listed.getD z false = false := by
            cases hlz : listed.getD z false with
            | false => rfl
            | true => exact absurd (fun j hj => by by_cases e : j = z; · rw [e]; exact hlz
                                                   · exact hzz j hj e) hdone
          have hlst : listed = lateL m z ops.size := by
            apply Array.ext
            · rw [hI.lsize]; simp [lateL]
            · intro q q1 q2
              have qs : q < ops.size := by rw [← hI.lsize]; exact q1
              have e1 : listed[q] = listed.getD q false := by simp [Array.getD_eq_getD_getElem?, Array.getElem?_eq_getElem q1]
              rw [e1]
              simp only [lateL, Array.getElem_ofFn]
              by_cases qm : q < m
              · by_cases qz : q = z
                · subst qz; rw [hlz]; simp
                · rw [hzz q qm qz]; simp [qm, qz]
              · rw [hno q (by omega) qs]; simp [qm]
          have ho : ops[z]? = some ops[z] := Array.getElem?_eq_getElem zs
          obtain ⟨o, hoo⟩ : ∃ o, ops[z] = o := ⟨_, rfl⟩
          rw [hoo] at ho
          have hnl' : listed.getD z true = false := by rw [getD_ff (by rw [hI.lsize]; exact zs)]; exact hlz
          have hrd0 : z ∈ Region.ready .any ops listed := by have := R.rdy; rw [← hlst] at this; simpa using this
          obtain ⟨_, o', ho', haf⟩ := mem_ready.1 hrd0
          rw [ho] at ho'
          injection ho' with ho'
          subst ho'
          obtain ⟨hext, hgn⟩ := R.ext o ho
          have him := zlt
          have his := zs
          have hsi : z < listed.size := by rw [hI.lsize]; exact zs
          obtain ⟨t, ht, htn, hne, hsel, hrd, hgd⟩ := R.main z o him ho
          obtain ⟨t', ht', hok, hob, hkz⟩ := hall z o (hat z o him ho)
          have hon : ∀ j, hasOn o j = true → listed.getD j false = true := fun j hj => by
            obtain ⟨e, he, heo, heb⟩ := hasOn_mem hj
            rw [← heo]
            exact haf e he heb
          have hnext : ∀ v w'', (Ks z).holds w'' v → Below w'.heap.size w' w'' → wpAny P .any ops Q fuel (listed.setIfInBounds z true) (a'.put o.dst v) w'' := by
            intro v w'' hv hb
            refine ih _ _ _ ⟨by simpa using hI.lsize, ?_, ?_, below_then hI.below hb, ?_, ?_, ?_⟩ ?_ ?_
            · rw [ht]; exact hI.defers
            · rw [ht]; simpa [Act.put] using hI.size
            · intro s hs
              have hst : s ≠ t := fun e => hs z him (by rw [hd z _ ho, ht, e])
              rw [ht, put_getD (by rw [hI.size]; exact htn), if_neg hst]
              exact hI.other s hs
            · intro j s hjm hj hdj
              rw [getD_set hsi] at hj
              rw [ht, put_getD (by rw [hI.size]; exact htn)]
              by_cases e : j = z
              · subst e
                have : s = t := by rw [hd j _ ho, ht] at hdj; injection hdj with hdj; exact hdj.symm
                rw [if_pos this]
                exact hv
              · rw [if_neg e] at hj
                have hst : s ≠ t := fun e2 => e (dst_injZ R hjm him hdj (by rw [hd z _ ho, ht, e2]))
                rw [if_neg hst]
                obtain ⟨oj, hoj, hdoj⟩ := dstOf_some hdj
                obtain ⟨_, _, hokj, _, _⟩ := hall j oj (hat j oj hjm hoj)
                exact Kd.keep hokj (hI.val j s hjm hj hdj) hb
            · intro q oq hq hlq e he hb
              rw [getD_set hsi] at hlq ⊢
              by_cases e1 : q = z
              · subst e1
                rw [ho] at hq
                injection hq with hq
                subst hq
                split
                · rfl
                · exact haf e he hb
              · rw [if_neg e1] at hlq
                split
                · rfl
                · exact hI.down q oq hq hlq e he hb
            · intro q hq hqs
              rw [getD_set hsi, if_neg (by omega)]
              exact hno q hq hqs
            · have hnl : (!listed.getD z true) = true := by rw [hnl']; rfl
              have hlt : ((List.range ops.size).filter fun k => !(listed.setIfInBounds z true).getD k true).length < ((List.range ops.size).filter fun k => !listed.getD k true).length := by
                have hsub : ((List.range ops.size).filter fun k => !(listed.setIfInBounds z true).getD k true) = (((List.range ops.size).filter fun k => !listed.getD k true).filter fun k => k != z) := by
                  rw [List.filter_filter]
                  apply List.filter_congr
                  intro k _
                  rw [getD_set hsi]
                  by_cases e : k = z
                  · subst e; simp
                  · simp [e]
                rw [hsub]
                exact List.length_filter_lt_length_iff_exists.2 ⟨z, List.mem_filter.2 ⟨List.mem_range.2 his, hnl⟩, by simp⟩
              omega
          have hlook : ∀ s K, lookK (kz z) s = some K → ∃ j, j < z ∧ dstOf ops j = some s ∧ K = Ks j := fun s K hK => hmem z (by omega) s K (lookK_some hK)
          have hgo : ∀ W, Below w.heap.size w W → leanOn (kz z) W o.op.operands.toList (Goes P (Ks z) o W) a := by
            rcases hob with ⟨_, hgo⟩ | ⟨hwk, _⟩
            · exact hgo
            · rw [hgn] at hwk; cases hwk
          obtain ⟨b, hb, b1, b2, b3, b4⟩ := leanOn.out (a' := a') (hgo w' hI.below) hI.size.symm (fun s K hs hK => by
            obtain ⟨j, hj, hdj, rfl⟩ := hlook s K hK
            obtain ⟨o2, ho2, hod2⟩ := dstOf_some hdj
            obtain ⟨s2, hs2, hsn, _⟩ := R.main j o2 (by omega) ho2
            rw [hod2] at hs2
            injection hs2 with hs2
            subst hs2
            obtain ⟨ha, _⟩ := hrd s (by simpa using hs) j (by omega) hdj
            exact ⟨by rw [hI.size]; exact hsn, hI.val j s (by omega) (hon j ha) hdj⟩)
          have heq : execOp a'.eval o = execOp b.eval o := by
            refine execOp_congr o (fun cs bb hc => by rw [hc] at hsel; cases hsel) fun x hx => ?_
            cases x with
            | tmp s =>
              show a'.tmps.getD s undef = b.tmps.getD s undef
              by_cases hks : ∃ K, lookK (kz z) s = some K
              · obtain ⟨K, hK⟩ := hks
                exact (b4 s ⟨K, hK, by simpa using hx⟩).symm
              · have ho2 : ∀ j, j < m → dstOf ops j ≠ some s := by
                  intro j hj hdj
                  obtain ⟨_, hji⟩ := hrd s hx j hj hdj
                  obtain ⟨oj, hoj, hdoj⟩ := dstOf_some hdj
                  have := kz_all hall2 z (by omega) j oj s hji (hat j oj hj hoj) hdoj
                  cases hl : lookK (kz z) s with
                  | some K => exact hks ⟨K, hl⟩
                  | none => exact lookK_none hl _ this
                have e0 := hI.other s ho2
                rcases b3 s with e | e
                · rw [e, e0]
                · exact e.symm
            | const _ => rfl
            | global _ => rfl
            | func _ => rfl
          have hgoes := hb.out
          have hy : ∃ v, (∀ w, (execOp b.eval o).run P w = .ok (.value v) w) ∧ (Ks z).holds w' v := by
            rcases extract_ways (P := P) (ρ := b.eval) hext with ⟨v, hall'⟩ | hnone
            · rw [hall' w'] at hgoes
              exact ⟨v, hall', hgoes.1⟩
            · exfalso
              cases hr : (execOp b.eval o).run P w' with
              | ok n w'' => exact hnone _ _ _ hr
              | halt x w'' => rw [hr] at hgoes; exact hgoes.elim
          obtain ⟨v, hrun, hv⟩ := hy
          refine wpAny_take ho R.nosel (by rw [hlst]; exact R.free) (by rw [hlst]; exact R.rdy) (fun c a w h => hQ t _ c a w (by rw [← ht]; exact h)) (v := v) (.inl ⟨by unfold Region.wanted; rw [hgn], fun w => by rw [heq]; exact hrun w⟩) ?_
          exact hnext v w' hv (Below.refl _ _)
        · refine ⟨fun hr => ?_, fun i hi => ?_⟩
          · exfalso
            refine hdone ?_
            intro j
            induction j using Nat.strongRecOn with
            | _ j ihj =>
              intro hj
              cases hlj : listed.getD j false with
              | true => rfl
              | false =>
                exfalso
                have hjs : j < ops.size := by have := R.le; omega
                have hmem : j ∈ Region.ready .any ops listed := by
                  rw [mem_ready]
                  refine ⟨by rw [getD_ff (by rw [hI.lsize]; exact hjs)]; exact hlj, ops[j], Array.getElem?_eq_getElem hjs, fun e he hb => ?_⟩
                  have := R.down j _ (Array.getElem?_eq_getElem hjs) e he hb
                  exact ihj _ this (by omega)
                rw [hr] at hmem
                cases hmem
          · have hi0 := hi
            rw [mem_ready] at hi
            obtain ⟨hnl', o, ho, haf⟩ := hi
            have his : i < ops.size := (Array.getElem?_eq_some_iff.1 ho).1
            have hsi : i < listed.size := by rw [hI.lsize]; exact his
            have him : i < m := by
              rcases Nat.lt_or_ge i m with hlt | hge
              · exact hlt
              · exact absurd (fun j hj hjz => all_beforeZ R hI.down hge ho haf (i - j - 1) j (by omega) hjz) hzz
            obtain ⟨t, ht, htn, hne, hsel, hrd, hgd⟩ := R.main i o him ho
            obtain ⟨t', ht', hok, hob, hkz⟩ := hall i o (hat i o him ho)
            have hon : ∀ j, hasOn o j = true → listed.getD j false = true := fun j hj => by
              obtain ⟨e, he, heo, heb⟩ := hasOn_mem hj
              rw [← heo]
              exact haf e he heb
            have hnext : ∀ v w'', (Ks i).holds w'' v → Below w'.heap.size w' w'' → wpAny P .any ops Q fuel (listed.setIfInBounds i true) (a'.put o.dst v) w'' := by
              intro v w'' hv hb
              refine ih _ _ _ ⟨by simpa using hI.lsize, ?_, ?_, below_then hI.below hb, ?_, ?_, ?_⟩ ?_ ?_
              · rw [ht]; exact hI.defers
              · rw [ht]; simpa [Act.put] using hI.size
              · intro s hs
                have hst : s ≠ t := fun e => hs i him (by rw [hd i _ ho, ht, e])
                rw [ht, put_getD (by rw [hI.size]; exact htn), if_neg hst]
                exact hI.other s hs
              · intro j s hjm hj hdj
                rw [getD_set hsi] at hj
                rw [ht, put_getD (by rw [hI.size]; exact htn)]
                by_cases e : j = i
                · subst e
                  have : s = t := by rw [hd j _ ho, ht] at hdj; injection hdj with hdj; exact hdj.symm
                  rw [if_pos this]
                  exact hv
                · rw [if_neg e] at hj
                  have hst : s ≠ t := fun e2 => e (dst_injZ R hjm him hdj (by rw [hd i _ ho, ht, e2]))
                  rw [if_neg hst]
                  obtain ⟨oj, hoj, hdoj⟩ := dstOf_some hdj
                  obtain ⟨_, _, hokj, _, _⟩ := hall j oj (hat j oj hjm hoj)
                  exact Kd.keep hokj (hI.val j s hjm hj hdj) hb
              · intro q oq hq hlq e he hb
                rw [getD_set hsi] at hlq ⊢
                by_cases e1 : q = i
                · subst e1
                  rw [ho] at hq
                  injection hq with hq
                  subst hq
                  split
                  · rfl
                  · exact haf e he hb
                · rw [if_neg e1] at hlq
                  split
                  · rfl
                  · exact hI.down q oq hq hlq e he hb
              · intro q hq hqs
                rw [getD_set hsi, if_neg (by omega)]
                exact hno q hq hqs
              · have hnl : (!listed.getD i true) = true := by rw [hnl']; rfl
                have hlt : ((List.range ops.size).filter fun k => !(listed.setIfInBounds i true).getD k true).length < ((List.range ops.size).filter fun k => !listed.getD k true).length := by
                  have hsub : ((List.range ops.size).filter fun k => !(listed.setIfInBounds i true).getD k true) = (((List.range ops.size).filter fun k => !listed.getD k true).filter fun k => k != i) := by
                    rw [List.filter_filter]
                    apply List.filter_congr
                    intro k _
                    rw [getD_set hsi]
                    by_cases e : k = i
                    · subst e; simp
                    · simp [e]
                  rw [hsub]
                  exact List.length_filter_lt_length_iff_exists.2 ⟨i, List.mem_filter.2 ⟨List.mem_range.2 his, hnl⟩, by simp⟩
                omega
            have hlook : ∀ s K, lookK (kz i) s = some K → ∃ j, j < i ∧ dstOf ops j = some s ∧ K = Ks j := fun s K hK => hmem i (by omega) s K (lookK_some hK)
            unfold wpOp
            rw [ho]
            rcases hob with ⟨hwk, hgo⟩ | ⟨hwk, hskip⟩
            · have hw : Region.wanted o (yielded ops a'.tmps) = true := by
                unfold Region.wanted
                cases hg : o.guard with
                | none => rfl
                | some gb =>
                  obtain ⟨g, b⟩ := gb
                  rw [hg] at hwk
                  unfold wantK at hwk
                  simp only at hwk
                  cases hdg : dstOf ops g with
                  | none => rw [hdg] at hwk; cases hwk
                  | some s =>
                    rw [hdg] at hwk
                    cases hlk : lookK (kz i) s with
                    | none => simp only [hlk] at hwk; cases hwk
                    | some K =>
                      simp only [hlk] at hwk
                      split at hwk
                      · rename_i hKe
                        injection hKe with hKe
                        subst hKe
                        rename_i c
                        obtain ⟨j, hj, hdj, hKj⟩ := hlook s _ hlk
                        obtain ⟨hong, hgi⟩ := hgd g b hg
                        obtain rfl := dst_injZ R (by omega) (by omega) hdj hdg
                        have hv := hI.val j s (by omega) (hon j hong) hdj
                        rw [← hKj] at hv
                        have hy : yielded ops a'.tmps j = some c := by
                          have hv' : a'.tmps.getD s undef = .bool c := hv
                          unfold yielded
                          unfold dstOf at hdj
                          rw [hdj]
                          rw [Array.getD_eq_getD_getElem?] at hv'
                          cases hx : a'.tmps[s]? with
                          | none => rw [hx] at hv'; exact absurd hv' (by simp [undef])
                          | some x =>
                            rw [hx] at hv'
                            simp only [Option.getD_some] at hv'
                            subst hv'
                            simp [hx]
                        simp only [hy]
                        injection hwk
                      · cases hwk
              simp only [hw, if_true]
              refine .inl ?_
              obtain ⟨b, hb, b1, b2, b3, b4⟩ := leanOn.out (a' := a') (hgo w' hI.below) hI.size.symm (fun s K hs hK => by
                obtain ⟨j, hj, hdj, rfl⟩ := hlook s K hK
                obtain ⟨o2, ho2, hod2⟩ := dstOf_some hdj
                obtain ⟨s2, hs2, hsn, _⟩ := R.main j o2 (by omega) ho2
                rw [hod2] at hs2
                injection hs2 with hs2
                subst hs2
                obtain ⟨ha, _⟩ := hrd s (by simpa using hs) j (by omega) hdj
                exact ⟨by rw [hI.size]; exact hsn, hI.val j s (by omega) (hon j ha) hdj⟩)
              have heq : execOp a'.eval o = execOp b.eval o := by
                refine execOp_congr o (fun cs bb hc => by rw [hc] at hsel; cases hsel) fun x hx => ?_
                cases x with
                | tmp s =>
                  show a'.tmps.getD s undef = b.tmps.getD s undef
                  by_cases hks : ∃ K, lookK (kz i) s = some K
                  · obtain ⟨K, hK⟩ := hks
                    exact (b4 s ⟨K, hK, by simpa using hx⟩).symm
                  · have ho2 : ∀ j, j < m → dstOf ops j ≠ some s := by
                      intro j hj hdj
                      obtain ⟨_, hji⟩ := hrd s hx j hj hdj
                      obtain ⟨oj, hoj, hdoj⟩ := dstOf_some hdj
                      have := kz_all hall2 i (by omega) j oj s hji (hat j oj hj hoj) hdoj
                      cases hl : lookK (kz i) s with
                      | some K => exact hks ⟨K, hl⟩
                      | none => exact lookK_none hl _ this
                    have e0 := hI.other s ho2
                    rcases b3 s with e | e
                    · rw [e, e0]
                    · exact e.symm
                | const _ => rfl
                | global _ => rfl
                | func _ => rfl
              have hgoes := hb.out
              unfold Oper.wp
              rw [heq]
              generalize (execOp b.eval o).run P w' = r at hgoes
              cases r with
              | ok n w'' =>
                cases n <;> simp only [OpGoes] at hgoes <;> try exact hgoes.elim
                case value v => exact hnext v w'' hgoes.1 hgoes.2
                case enter f args =>
                  refine Calls.mono hgoes ?_
                  rintro e w3 ⟨v, rfl, hv, hb⟩
                  exact hnext v w3 hv hb
              | halt x w'' => exact hgoes.elim
            · have hw : Region.wanted o (yielded ops a'.tmps) = false := by
                unfold Region.wanted
                cases hg : o.guard with
                | none => rw [hg] at hwk; cases hwk
                | some gb =>
                  obtain ⟨g, b⟩ := gb
                  rw [hg] at hwk
                  unfold wantK at hwk
                  simp only at hwk
                  cases hdg : dstOf ops g with
                  | none => rw [hdg] at hwk; cases hwk
                  | some s =>
                    rw [hdg] at hwk
                    cases hlk : lookK (kz i) s with
                    | none => simp only [hlk] at hwk; cases hwk
                    | some K =>
                      simp only [hlk] at hwk
                      split at hwk
                      · rename_i hKe
                        injection hKe with hKe
                        subst hKe
                        rename_i c
                        obtain ⟨j, hj, hdj, hKj⟩ := hlook s _ hlk
                        obtain ⟨hong, hgi⟩ := hgd g b hg
                        obtain rfl := dst_injZ R (by omega) (by omega) hdj hdg
                        have hv := hI.val j s (by omega) (hon j hong) hdj
                        rw [← hKj] at hv
                        have hy : yielded ops a'.tmps j = some c := by
                          have hv' : a'.tmps.getD s undef = .bool c := hv
                          unfold yielded
                          unfold dstOf at hdj
                          rw [hdj]
                          rw [Array.getD_eq_getD_getElem?] at hv'
                          cases hx : a'.tmps[s]? with
                          | none => rw [hx] at hv'; exact absurd hv' (by simp [undef])
                          | some x =>
                            rw [hx] at hv'
                            simp only [Option.getD_some] at hv'
                            subst hv'
                            simp [hx]
                        simp only [hy]
                        injection hwk
                      · cases hwk
              simp only [hw]
              exact hnext _ _ (by rw [hskip]; rfl) (Below.refl _ _)
  refine key ops.size _ a _ ⟨by simp, rfl, rfl, Below.drew (Below.refl _ _), fun _ _ => rfl, fun j t _ hj => ?_, fun i o _ hj => ?_⟩ ?_ ?_
  · exfalso
    revert hj
    simp only [Array.getD_eq_getD_getElem?, Array.getElem?_replicate]
    split <;> simp
  · exfalso
    revert hj
    simp only [Array.getD_eq_getD_getElem?, Array.getElem?_replicate]
    split <;> simp
  · intro i _ hi
    simp [Array.getD_eq_getD_getElem?, Array.getElem?_replicate, hi]
  · exact Nat.le_trans (List.length_filter_le _ _) (by simp)
end
end Go.Proofs.Ytjjhnjkmoogloaa

/- A drawn region with writers into one block (RegX), of which one extract need not be waited for (RegZ). -/
namespace Go.Proofs.Ytjjhnjkmoogloaa
open Go.RowKit
set_option linter.unusedVariables false
set_option linter.unusedSimpArgs false
set_option maxHeartbeats 1000000
/-- Does operation j come behind operation l? -/
def aftY (ops : Array Oper) (l : Nat) : Nat → Nat → Bool
  | 0, _ => false
  | f + 1, j => match ops[j]? with
    | some o => o.after.any fun e => Region.binds .any e && (e.on == l || aftY ops l f e.on)
    | none => false
def lastY (ops : Array Oper) (exs : List Nat) (i : Nat) : Bool := lastX exs i || match exs.getLast? with
  | some l => aftY ops l 40 i
  | none => false
theorem aftY_out {ops : Array Oper} {listed : Array Bool} (hd : ∀ i o, ops[i]? = some o → listed.getD i false = true → ∀ e ∈ o.after, Region.binds .any e = true → listed.getD e.on false = true) {l : Nat} :
    ∀ f j, aftY ops l f j = true → listed.getD j false = true → listed.getD l false = true
  | 0, _, h, _ => by cases h
  | f + 1, j, h, hj => by
    unfold aftY at h
    cases ho : ops[j]? with
    | none => rw [ho] at h; cases h
    | some o =>
      rw [ho] at h
      simp only [Array.any_eq_true, Bool.and_eq_true, Bool.or_eq_true, beq_iff_eq] at h
      obtain ⟨q, hq, hb, hh⟩ := h
      have := hd j o ho hj _ (Array.getElem_mem hq) hb
      rcases hh with e | hh
      · rw [← e]; exact this
      · exact aftY_out hd f _ hh this
theorem lastY_out {ops : Array Oper} {listed : Array Bool} (hd : ∀ i o, ops[i]? = some o → listed.getD i false = true → ∀ e ∈ o.after, Region.binds .any e = true → listed.getD e.on false = true) {exs : List Nat} {j : Nat} (h : lastY ops exs j = true)
    (hj : listed.getD j false = true) : ∃ j', lastX exs j' = true ∧ listed.getD j' false = true := by
  unfold lastY at h
  rw [Bool.or_eq_true] at h
  rcases h with h | h
  · exact ⟨j, h, hj⟩
  · cases hl : exs.getLast? with
    | none => rw [hl] at h; cases h
    | some l =>
      rw [hl] at h
      exact ⟨l, by unfold lastX; rw [hl]; simp, aftY_out hd _ _ h hj⟩
def ObsY (P : Program) (ops : Array Oper) (a0 : Act) (w0 : World) (g : Nat) (J : Nat → World → Prop) (exs : List Nat) (fin : List (Tmp × Kd) → Prop) : Nat → Nat → List (Tmp × Kd) → List Oper → Prop
  | _, _, ks, [] => fin ks
  | i, c, ks, o :: rest => ∃ K t, o.dst = some t ∧ (K.Ok ∧ (lastY ops exs i = true ∨ K.OkX g)) ∧ Ob1X P ops a0 w0 g J c (exs.elem i) ks o K ∧ ObsY P ops a0 w0 g J exs fin (i + 1) (bif exs.elem i then c + 1 else c) ((t, K) :: ks) rest
section
variable {P : Program} {ops : Array Oper} {a0 : Act} {w0 : World} {g : Nat} {J : Nat → World → Prop} {exs : List Nat} {fin : List (Tmp × Kd) → Prop} {i c : Nat} {ks : List (Tmp × Kd)} {rest : List Oper}
  {t : Tmp} {op : Op} {ty : TypeId} {pos : String} {after : Array Edge} {gd : Option (Nat × Bool)}
theorem ObsY.v {x : Value} (hx : exs.elem i = false) (hg : wantK ops ks gd = some true) (ho : ∀ W, w0.grownBy W (some g) → leanOn ks W op.operands.toList (Goes P (.v x) ⟨some t, op, ty, pos, after, gd⟩ W) a0)
    (hr : ObsY P ops a0 w0 g J exs fin (i + 1) c ((t, .v x) :: ks) rest) : ObsY P ops a0 w0 g J exs fin i c ks (⟨some t, op, ty, pos, after, gd⟩ :: rest) :=
  ⟨.v x, t, rfl, ⟨trivial, .inr trivial⟩, .inl ⟨hx, hg, ho⟩, by rw [hx]; exact hr⟩
theorem ObsY.p {q : World → Value → Prop} (hx : exs.elem i = false) (hg : wantK ops ks gd = some true) (hkb : ∀ w w' v, q w v → Below w.heap.size w w' → q w' v) (hk : ∀ w w' v, q w v → w.grownBy w' (some g) → q w' v) (ho : ∀ W, w0.grownBy W (some g) → leanOn ks W op.operands.toList (Goes P (.p q) ⟨some t, op, ty, pos, after, gd⟩ W) a0)
    (hr : ObsY P ops a0 w0 g J exs fin (i + 1) c ((t, .p q) :: ks) rest) : ObsY P ops a0 w0 g J exs fin i c ks (⟨some t, op, ty, pos, after, gd⟩ :: rest) :=
  ⟨.p q, t, rfl, ⟨hkb, .inr hk⟩, .inl ⟨hx, hg, ho⟩, by rw [hx]; exact hr⟩
theorem ObsY.ev {x : Value} (hx : exs.elem i = true) (hg : wantK ops ks gd = some true) (ho : ∀ W, w0.grownBy W (some g) → J c W → leanOn ks W op.operands.toList (GoesX P (.v x) g (J (c + 1)) ⟨some t, op, ty, pos, after, gd⟩ W) a0)
    (hr : ObsY P ops a0 w0 g J exs fin (i + 1) (c + 1) ((t, .v x) :: ks) rest) : ObsY P ops a0 w0 g J exs fin i c ks (⟨some t, op, ty, pos, after, gd⟩ :: rest) :=
  ⟨.v x, t, rfl, ⟨trivial, .inr trivial⟩, .inr (.inl ⟨hx, hg, ho⟩), by rw [hx]; exact hr⟩
theorem ObsY.ap {q : World → Value → Prop} (hx : exs.elem i = false) (hg : wantK ops ks gd = some true) (hl : lastY ops exs i = true) (hkb : ∀ w w' v, q w v → Below w.heap.size w w' → q w' v) (ho : ∀ W, w0.grownBy W (some g) → leanOn ks W op.operands.toList (Goes P (.p q) ⟨some t, op, ty, pos, after, gd⟩ W) a0)
    (hr : ObsY P ops a0 w0 g J exs fin (i + 1) c ((t, .p q) :: ks) rest) : ObsY P ops a0 w0 g J exs fin i c ks (⟨some t, op, ty, pos, after, gd⟩ :: rest) :=
  ⟨.p q, t, rfl, ⟨hkb, .inl hl⟩, .inl ⟨hx, hg, ho⟩, by rw [hx]; exact hr⟩
theorem ObsY.ep {q : World → Value → Prop} (hx : exs.elem i = true) (hg : wantK ops ks gd = some true) (hl : lastY ops exs i = true) (hkb : ∀ w w' v, q w v → Below w.heap.size w w' → q w' v) (ho : ∀ W, w0.grownBy W (some g) → J c W → leanOn ks W op.operands.toList (GoesX P (.p q) g (J (c + 1)) ⟨some t, op, ty, pos, after, gd⟩ W) a0)
    (hr : ObsY P ops a0 w0 g J exs fin (i + 1) (c + 1) ((t, .p q) :: ks) rest) : ObsY P ops a0 w0 g J exs fin i c ks (⟨some t, op, ty, pos, after, gd⟩ :: rest) :=
  ⟨.p q, t, rfl, ⟨hkb, .inl hl⟩, .inr (.inl ⟨hx, hg, ho⟩), by rw [hx]; exact hr⟩
theorem ObsY.skip (hx : exs.elem i = false) (hg : wantK ops ks gd = some false) (hr : ObsY P ops a0 w0 g J exs fin (i + 1) c ((t, .v undef) :: ks) rest) : ObsY P ops a0 w0 g J exs fin i c ks (⟨some t, op, ty, pos, after, gd⟩ :: rest) :=
  ⟨.v undef, t, rfl, ⟨trivial, .inr trivial⟩, .inr (.inr ⟨hx, hg, rfl⟩), by rw [hx]; exact hr⟩
theorem ObsY.nil (h : fin ks) : ObsY P ops a0 w0 g J exs fin i c ks [] := h
end
theorem ObsY.out {P : Program} {ops : Array Oper} {a0 : Act} {w0 : World} {g : Nat} {J : Nat → World → Prop} {exs : List Nat} {fin : List (Tmp × Kd) → Prop} : ∀ {l : List Oper} {i0 : Nat} {ks : List (Tmp × Kd)}, ObsY P ops a0 w0 g J exs fin i0 (czX exs i0) ks l →
    ∃ Ks : Nat → Kd, ∃ kz : Nat → List (Tmp × Kd), kz 0 = ks ∧ fin (kz l.length) ∧ ∀ i o, l[i]? = some o → ∃ t, o.dst = some t ∧ ((Ks i).Ok ∧ (lastY ops exs (i0 + i) = true ∨ (Ks i).OkX g)) ∧ Ob1X P ops a0 w0 g J (czX exs (i0 + i)) (exs.elem (i0 + i)) (kz i) o (Ks i) ∧ kz (i + 1) = (t, Ks i) :: kz i
  | [], i0, ks, h => ⟨fun _ => .v undef, fun _ => ks, rfl, h, fun i o ho => by simp at ho⟩
  | o :: rest, i0, ks, ⟨K, t, hd, hk, hob, hr⟩ => by
    have hr' : ObsY P ops a0 w0 g J exs fin (i0 + 1) (czX exs (i0 + 1)) ((t, K) :: ks) rest := hr
    obtain ⟨Ks, kz, h0, hf, hall⟩ := ObsY.out hr'
    refine ⟨fun i => match i with | 0 => K | i + 1 => Ks i, fun i => match i with | 0 => ks | i + 1 => kz i, rfl, hf, fun i o' ho' => ?_⟩
    cases i with
    | zero =>
      simp only [List.getElem?_cons_zero, Option.some.injEq] at ho'
      subst ho'
      exact ⟨t, hd, hk, hob, h0⟩
    | succ i =>
      have := hall i o' (by simpa using ho')
      rw [show i0 + 1 + i = i0 + (i + 1) from by omega] at this
      exact this
section
variable {P : Program} {Q : Exit → Act → World → Prop}
theorem regionXZ {id : Nat} {l : List Oper} {a : Act} {w : World} (m z : Nat) (exs : List Nat) (g : Nat) (J : Nat → World → Prop) (hm : P.follows .mixedOrders = true) (hchk : regZ l.toArray m z a.tmps.size = true) (hQ : ∀ (t : Tmp) v c a w, Q (.panic c) (Act.put a (some t) v) w → Q (.panic c) a w) (hzx : exs.elem z = false) (hex : exB l.toArray m exs = true)
    (hJ0 : J 0 w) (hJs : ∀ c W W', J c W → Below W.heap.size W W' → J c W')
    (hobs : ObsY P l.toArray a w g J exs (fun ks => ∀ W, w.grownBy W (some g) → J exs.length W → finOn W ks (fun a' => wpList P l.toArray Q (l.drop m) a' W) a) 0 0 [] (l.take m)) :
    (Code.region id l.toArray true).wp P Q a w := by
  have R := regZ_out hchk
  obtain ⟨ops, hops⟩ : ∃ ops, l.toArray = ops := ⟨_, rfl⟩
  have hl' : l = ops.toList := by rw [← hops]
  rw [hops] at hobs R hex ⊢
  rw [hl'] at hobs
  clear hops hl' hchk
  have hex' : ∀ q, q < exs.length → exs.getD q 0 < m ∧ czX exs (exs.getD q 0) = q ∧ (q = 0 ∨ ∃ o, ops[exs.getD q 0]? = some o ∧ hasOn o (exs.getD (q - 1) 0) = true) := by
    intro q hq
    have h := (List.all_eq_true.1 hex) q (List.mem_range.2 hq)
    simp only [Bool.and_eq_true, decide_eq_true_eq, beq_iff_eq, Bool.or_eq_true] at h
    refine ⟨h.1.1, h.1.2, h.2.imp (fun h => h) fun h2 => ?_⟩
    cases ho : ops[exs.getD q 0]? with
    | none => rw [ho] at h2; cases h2
    | some o => rw [ho] at h2; exact ⟨o, rfl, h2⟩
  have hidx : ∀ i, exs.elem i = true → ∃ q, q < exs.length ∧ exs.getD q 0 = i := by
    intro i hi
    obtain ⟨q, hq, e⟩ := List.mem_iff_getElem.1 (List.elem_iff.1 hi)
    exact ⟨q, hq, by rw [List.getD_eq_getElem?_getD, List.getElem?_eq_getElem hq]; exact e⟩
  have hmemE : ∀ q, q < exs.length → exs.elem (exs.getD q 0) = true := by
    intro q hq
    rw [List.elem_iff, List.getD_eq_getElem?_getD, List.getElem?_eq_getElem hq]
    exact List.getElem_mem hq
  obtain ⟨Ks, kz, hz0, hfin, hall⟩ := ObsY.out (i0 := 0) hobs
  simp only [Nat.zero_add] at hall
  have hmlen : (ops.toList.take m).length = m := by simp [R.le]
  rw [hmlen] at hfin
  have hat : ∀ i o, i < m → ops[i]? = some o → (ops.toList.take m)[i]? = some o := fun i o hi ho => by
    rw [List.getElem?_take, if_pos hi]; simpa using ho
  have hta : ∀ i o, (ops.toList.take m)[i]? = some o → i < m ∧ ops[i]? = some o := fun i o ho => by
    rw [List.getElem?_take] at ho
    split at ho
    · exact ⟨‹_›, by simpa using ho⟩
    · cases ho
  have hall2 : ∀ i o, (ops.toList.take m)[i]? = some o → ∃ t, o.dst = some t ∧ kz (i + 1) = (t, Ks i) :: kz i := fun i o ho => by
    obtain ⟨t, h1, _, _, h2⟩ := hall i o ho
    exact ⟨t, h1, h2⟩
  have hmem : ∀ i, i ≤ m → ∀ t K, (t, K) ∈ kz i → ∃ j, j < i ∧ dstOf ops j = some t ∧ K = Ks j := fun i hi t K hm => by
    obtain ⟨j, o, h1, h2, h3, h4⟩ := kz_mem hz0 hall2 i (by omega) t K hm
    obtain ⟨_, ho⟩ := hta j o h2
    exact ⟨j, h1, by unfold dstOf; rw [ho]; exact h3, h4⟩
  refine wp_region_any hm ?_
  have hd : ∀ i o, ops[i]? = some o → dstOf ops i = o.dst := fun i o ho => by unfold dstOf; rw [ho]; rfl
  have hend : ∀ (listed : Array Bool) (a' : Act) (w' : World), RInvX ops a w Ks m g J exs listed a' w' → (∀ j, j < m → listed.getD j false = true) → wpList P ops Q (ops.toList.drop m) a' w' := by
    intro listed a' w' hI hlst
    have HJX : J exs.length w' := by
      obtain ⟨c, hc, hq, hj⟩ := hI.cnt
      have : c = exs.length := by
        rcases Nat.lt_or_ge c exs.length with hlt | hge
        · have h1 := hq c hlt
          rw [hlst _ (hex' c hlt).1] at h1
          simp at h1
        · omega
      rw [← this]; exact hj
    obtain ⟨b, hb, e1, e2, e3, e4⟩ := finOn.out (a' := a') (hfin w' hI.ext HJX) hI.size.symm (fun t K hm => by
      obtain ⟨j, hj, hdj, rfl⟩ := hmem m (Nat.le_refl _) t K hm
      obtain ⟨o, ho, hod⟩ := dstOf_some hdj
      obtain ⟨s, hs, hsn, _⟩ := R.main j o hj ho
      rw [hod] at hs
      injection hs with hs
      subst hs
      exact ⟨by rw [hI.size]; exact hsn, hI.val j t hj (hlst j hj) hdj⟩)
    have : b = a' := by
      cases b with
      | mk bt bd =>
        cases a' with
        | mk at' ad =>
          simp only at e1 e2 e3 e4
          have hdf : bd = ad := by rw [e2]; exact hI.defers.symm
          have htm : bt = at' := by
            apply Array.ext
            · rw [e1]; exact hI.size.symm
            · intro t t1 t2
              have : bt.getD t undef = at'.getD t undef := by
                by_cases hx : ∃ K, (t, K) ∈ kz m
                · exact e4 t hx
                · rw [e3 t (fun K hm => hx ⟨K, hm⟩)]
                  refine (hI.other t fun j hj hdj => hx ?_).symm
                  obtain ⟨o, ho, hod⟩ := dstOf_some hdj
                  exact ⟨Ks j, kz_all hall2 m (by omega) j o t hj (hat j o hj ho) hod⟩
              simpa only [Array.getD_eq_getD_getElem?, Array.getElem?_eq_getElem t1, Array.getElem?_eq_getElem t2, Option.getD_some] using this
          subst hdf htm
          rfl
    rw [this] at hb
    exact hb
  have key : ∀ (fuel : Nat) (listed : Array Bool) (a' : Act) (w' : World), RInvX ops a w Ks m g J exs listed a' w' → (∀ i, m ≤ i → i < ops.size → listed.getD i false = false) →
      ((List.range ops.size).filter fun i => !listed.getD i true).length ≤ fuel → wpAny P .any ops Q fuel listed a' w' := by
    intro fuel
    have hprefix : ∀ (listed : Array Bool), listed.size = ops.size → (∀ j, j < m → listed.getD j false = true) → (∀ i, m ≤ i → i < ops.size → listed.getD i false = false) → ∀ i, i < ops.size → listed.getD i false = decide (i < m) := by
      intro listed hs h1 h2 i hi
      by_cases e : i < m
      · rw [h1 i e]; simp [e]
      · rw [h2 i (by omega) hi]; simp [e]
    induction fuel with
    | zero =>
      intro listed a' w' hI hno hc
      have h0 : ((List.range ops.size).filter fun i => !listed.getD i true) = [] := List.eq_nil_of_length_eq_zero (by omega)
      have hal : ∀ i, i < ops.size → listed.getD i false = true := by
        intro i hi
        rw [List.filter_eq_nil_iff] at h0
        have := h0 i (List.mem_range.2 hi)
        rw [← getD_ff (by rw [hI.lsize]; exact hi)]
        simpa using this
      have hms : m = ops.size := by
        rcases Nat.lt_or_ge m ops.size with hlt | hge
        · have := hno m (Nat.le_refl _) hlt
          rw [hal m hlt] at this
          cases this
        · have := R.le; omega
      have := hend listed a' w' hI (fun j hj => hal j (by omega))
      rw [hms] at this
      have hdr : ops.toList.drop ops.size = [] := by simp
      rw [hdr] at this
      refine ⟨?_, this⟩
      unfold Region.ready
      rw [List.filter_eq_nil_iff] at h0 ⊢
      intro i hi
      have := h0 i hi
      simp only [Bool.not_eq_true] at this ⊢
      rw [this]
      rfl
    | succ fuel ih =>
      intro listed a' w' hI hno hc
      by_cases hdone : ∀ j, j < m → listed.getD j false = true
      · refine tail_anyZ R (fuel + 1) m listed a' w' (Nat.le_refl _) R.le hI.lsize (hprefix listed hI.lsize hdone hno) ?_ (hend listed a' w' hI hdone)
        have hlen : ops.size - m ≤ ((List.range ops.size).filter fun i => !listed.getD i true).length := by
          have hsub : (List.range ops.size).filter (fun i => decide (m ≤ i)) = (List.range ops.size).filter fun i => !listed.getD i true := by
            apply List.filter_congr
            intro i hi
            have hi := List.mem_range.1 hi
            rw [getD_ff (by rw [hI.lsize]; exact hi), hprefix listed hI.lsize hdone hno i hi]
            by_cases e : i < m <;> simp [e] <;> omega
          rw [← hsub]
          have : ∀ N, m ≤ N → ((List.range N).filter fun i => decide (m ≤ i)).length = N - m := by
            intro N hN
            induction N with
            | zero => simp
            | succ N ihN =>
              rw [List.range_succ, List.filter_append, List.length_append]
              by_cases e : m ≤ N
              · rw [ihN e]; simp [e]; omega
              · have : m = N + 1 := by omega
                subst this
                have : (List.range N).filter (fun i => decide (N + 1 ≤ i)) = [] := by
                  rw [List.filter_eq_nil_iff]
                  intro i hi
                  have := List.mem_range.1 hi
                  simp; omega
                rw [this]
                simp
          rw [this _ R.le]
          exact Nat.le_refl _
        omega
      · by_cases hzz : ∀ j, j < m → j ≠ z → listed.getD j false = true
        · have zlt := R.zlt
          have zs : z < ops.size := by have := R.le; omega
          have hlz : listed.getD z false = false := by
            cases hlz : listed.getD z false with
            | false => rfl
            | true => exact absurd (fun j hj => by by_cases e : j = z; · rw [e]; exact hlz
                                                   · exact hzz j hj e) hdone
          have hlst : listed = lateL m z ops.size := by
            apply Array.ext
            · rw [hI.lsize]; simp [lateL]
            · intro q q1 q2
              have qs : q < ops.size := by rw [← hI.lsize]; exact q1
              have e1 : listed[q] = listed.getD q false := by simp [Array.getD_eq_getD_getElem?, Array.getElem?_eq_getElem q1]
              rw [e1]
              simp only [lateL, Array.getElem_ofFn]
              by_cases qm : q < m
              · by_cases qz : q = z
                · subst qz; rw [hlz]; simp
                · rw [hzz q qm qz]; simp [qm, qz]
              · rw [hno q (by omega) qs]; simp [qm]
          have ho : ops[z]? = some ops[z] := Array.getElem?_eq_getElem zs
          obtain ⟨o, hoo⟩ : ∃ o, ops[z] = o := ⟨_, rfl⟩
          rw [hoo] at ho
          have hnl' : listed.getD z true = false := by rw [getD_ff (by rw [hI.lsize]; exact zs)]; exact hlz
          have hrd0 : z ∈ Region.ready .any ops listed := by have := R.rdy; rw [← hlst] at this; simpa using this
          obtain ⟨_, o', ho', haf⟩ := mem_ready.1 hrd0
          rw [ho] at ho'
          injection ho' with ho'
          subst ho'
          obtain ⟨hext, hgn⟩ := R.ext o ho
          have him := zlt
          have his := zs
          have hsi : z < listed.size := by rw [hI.lsize]; exact zs
          obtain ⟨t, ht, htn, hne, hsel, hrd, hgd⟩ := R.main z o him ho
          obtain ⟨t', ht', hok, hob, hkz⟩ := hall z o (hat z o him ho)
          have hon : ∀ j, hasOn o j = true → listed.getD j false = true := fun j hj => by
            obtain ⟨e, he, heo, heb⟩ := hasOn_mem hj
            rw [← heo]
            exact haf e he heb
          have hnext : ∀ v w'', (Ks z).holds w'' v → w'.grownBy w'' (some g) → (∀ j, j < m → listed.getD j false = true → ∀ u, (Ks j).holds w' u → (Ks j).holds w'' u) → (∃ c, c ≤ exs.length ∧ (∀ q, q < exs.length → (listed.setIfInBounds z true).getD (exs.getD q 0) false = decide (q < c)) ∧ J c w'') → wpAny P .any ops Q fuel (listed.setIfInBounds z true) (a'.put o.dst v) w'' := by
            intro v w'' hv hb hkeep hcn
            refine ih _ _ _ ⟨by simpa using hI.lsize, ?_, ?_, ext_trans hI.ext hb, hcn, ?_, ?_, ?_⟩ ?_ ?_
            · rw [ht]; exact hI.defers
            · rw [ht]; simpa [Act.put] using hI.size
            · intro s hs
              have hst : s ≠ t := fun e => hs z him (by rw [hd z _ ho, ht, e])
              rw [ht, put_getD (by rw [hI.size]; exact htn), if_neg hst]
              exact hI.other s hs
            · intro j s hjm hj hdj
              rw [getD_set hsi] at hj
              rw [ht, put_getD (by rw [hI.size]; exact htn)]
              by_cases e : j = z
              · subst e
                have : s = t := by rw [hd j _ ho, ht] at hdj; injection hdj with hdj; exact hdj.symm
                rw [if_pos this]
                exact hv
              · rw [if_neg e] at hj
                have hst : s ≠ t := fun e2 => e (dst_injZ R hjm him hdj (by rw [hd z _ ho, ht, e2]))
                rw [if_neg hst]
                exact hkeep j hjm hj _ (hI.val j s hjm hj hdj)
            · intro q oq hq hlq e he hb
              rw [getD_set hsi] at hlq ⊢
              by_cases e1 : q = z
              · subst e1
                rw [ho] at hq
                injection hq with hq
                subst hq
                split
                · rfl
                · exact haf e he hb
              · rw [if_neg e1] at hlq
                split
                · rfl
                · exact hI.down q oq hq hlq e he hb
            · intro q hq hqs
              rw [getD_set hsi, if_neg (by omega)]
              exact hno q hq hqs
            · have hnl : (!listed.getD z true) = true := by rw [hnl']; rfl
              have hlt : ((List.range ops.size).filter fun k => !(listed.setIfInBounds z true).getD k true).length < ((List.range ops.size).filter fun k => !listed.getD k true).length := by
                have hsub : ((List.range ops.size).filter fun k => !(listed.setIfInBounds z true).getD k true) = (((List.range ops.size).filter fun k => !listed.getD k true).filter fun k => k != z) := by
                  rw [List.filter_filter]
                  apply List.filter_congr
                  intro k _
                  rw [getD_set hsi]
                  by_cases e : k = z
                  · subst e; simp
                  · simp [e]
                rw [hsub]
                exact List.length_filter_lt_length_iff_exists.2 ⟨z, List.mem_filter.2 ⟨List.mem_range.2 his, hnl⟩, by simp⟩
              omega
          have hlook : ∀ s K, lookK (kz z) s = some K → ∃ j, j < z ∧ dstOf ops j = some s ∧ K = Ks j := fun s K hK => hmem z (by omega) s K (lookK_some hK)
          have hokj : ∀ j, j < m → (Ks j).Ok ∧ (lastY ops exs j = true ∨ (Ks j).OkX g) := by
            intro j hj
            have hjs : j < ops.size := by have := R.le; omega
            obtain ⟨_, _, h1, _⟩ := hall j ops[j] (hat j _ hj (Array.getElem?_eq_getElem hjs))
            exact h1
          have hkN : ∀ w'', Below w'.heap.size w' w'' → ∀ j, j < m → listed.getD j false = true → ∀ u, (Ks j).holds w' u → (Ks j).holds w'' u := fun w'' hB j hj _ u hu => Kd.keep (hokj j hj).1 hu hB
          have hcntN : exs.elem z = false → ∀ w'', Below w'.heap.size w' w'' → ∃ c, c ≤ exs.length ∧ (∀ q, q < exs.length → (listed.setIfInBounds z true).getD (exs.getD q 0) false = decide (q < c)) ∧ J c w'' := by
            intro hx w'' hB
            obtain ⟨c, hc, hq, hj⟩ := hI.cnt
            refine ⟨c, hc, fun q hql => ?_, hJs c _ _ hj hB⟩
            rw [getD_set hsi, if_neg (fun e => by have h1 := hmemE q hql; rw [e, hx] at h1; cases h1)]
            exact hq q hql
          have hgo : ∀ W, w.grownBy W (some g) → leanOn (kz z) W o.op.operands.toList (Goes P (Ks z) o W) a := by
            rcases hob with ⟨_, _, hgo⟩ | ⟨hxx, _, _⟩ | ⟨_, hwk, _⟩
            · exact hgo
            · rw [hzx] at hxx; cases hxx
            · rw [hgn] at hwk; cases hwk
          obtain ⟨b, hb, b1, b2, b3, b4⟩ := leanOn.out (a' := a') (hgo w' hI.ext) hI.size.symm (fun s K hs hK => by
            obtain ⟨j, hj, hdj, rfl⟩ := hlook s K hK
            obtain ⟨o2, ho2, hod2⟩ := dstOf_some hdj
            obtain ⟨s2, hs2, hsn, _⟩ := R.main j o2 (by omega) ho2
            rw [hod2] at hs2
            injection hs2 with hs2
            subst hs2
            obtain ⟨ha, _⟩ := hrd s (by simpa using hs) j (by omega) hdj
            exact ⟨by rw [hI.size]; exact hsn, hI.val j s (by omega) (hon j ha) hdj⟩)
          have heq : execOp a'.eval o = execOp b.eval o := by
            refine execOp_congr o (fun cs bb hc => by rw [hc] at hsel; cases hsel) fun x hx => ?_
            cases x with
            | tmp s =>
              show a'.tmps.getD s undef = b.tmps.getD s undef
              by_cases hks : ∃ K, lookK (kz z) s = some K
              · obtain ⟨K, hK⟩ := hks
                exact (b4 s ⟨K, hK, by simpa using hx⟩).symm
              · have ho2 : ∀ j, j < m → dstOf ops j ≠ some s := by
                  intro j hj hdj
                  obtain ⟨_, hji⟩ := hrd s hx j hj hdj
                  obtain ⟨oj, hoj, hdoj⟩ := dstOf_some hdj
                  have := kz_all hall2 z (by omega) j oj s hji (hat j oj hj hoj) hdoj
                  cases hl : lookK (kz z) s with
                  | some K => exact hks ⟨K, hl⟩
                  | none => exact lookK_none hl _ this
                have e0 := hI.other s ho2
                rcases b3 s with e | e
                · rw [e, e0]
                · exact e.symm
            | const _ => rfl
            | global _ => rfl
            | func _ => rfl
          have hgoes := hb.out
          have hy : ∃ v, (∀ w, (execOp b.eval o).run P w = .ok (.value v) w) ∧ (Ks z).holds w' v := by
            rcases extract_ways (P := P) (ρ := b.eval) hext with ⟨v, hall'⟩ | hnone
            · rw [hall' w'] at hgoes
              exact ⟨v, hall', hgoes.1⟩
            · exfalso
              cases hr : (execOp b.eval o).run P w' with
              | ok n w'' => exact hnone _ _ _ hr
              | halt x w'' => rw [hr] at hgoes; exact hgoes.elim
          obtain ⟨v, hrun, hv⟩ := hy
          refine wpAny_take ho R.nosel (by rw [hlst]; exact R.free) (by rw [hlst]; exact R.rdy) (fun c a w h => hQ t _ c a w (by rw [← ht]; exact h)) (v := v) (.inl ⟨by unfold Region.wanted; rw [hgn], fun w => by rw [heq]; exact hrun w⟩) ?_
          exact hnext v w' hv (ext_refl _ _) (hkN w' (Below.refl _ _)) (hcntN hzx w' (Below.refl _ _))
        · refine ⟨fun hr => ?_, fun i hi => ?_⟩
          · exfalso
            refine hdone ?_
            intro j
            induction j using Nat.strongRecOn with
            | _ j ihj =>
              intro hj
              cases hlj : listed.getD j false with
              | true => rfl
              | false =>
                exfalso
                have hjs : j < ops.size := by have := R.le; omega
                have hmem : j ∈ Region.ready .any ops listed := by
                  rw [mem_ready]
                  refine ⟨by rw [getD_ff (by rw [hI.lsize]; exact hjs)]; exact hlj, ops[j], Array.getElem?_eq_getElem hjs, fun e he hb => ?_⟩
                  have := R.down j _ (Array.getElem?_eq_getElem hjs) e he hb
                  exact ihj _ this (by omega)
                rw [hr] at hmem
                cases hmem
          · have hi0 := hi
            rw [mem_ready] at hi
            obtain ⟨hnl', o, ho, haf⟩ := hi
            have his : i < ops.size := (Array.getElem?_eq_some_iff.1 ho).1
            have hsi : i < listed.size := by rw [hI.lsize]; exact his
            have him : i < m := by
              rcases Nat.lt_or_ge i m with hlt | hge
              · exact hlt
              · exact absurd (fun j hj hjz => all_beforeZ R hI.down hge ho haf (i - j - 1) j (by omega) hjz) hzz
            obtain ⟨t, ht, htn, hne, hsel, hrd, hgd⟩ := R.main i o him ho
            obtain ⟨t', ht', hok, hob, hkz⟩ := hall i o (hat i o him ho)
            have hon : ∀ j, hasOn o j = true → listed.getD j false = true := fun j hj => by
              obtain ⟨e, he, heo, heb⟩ := hasOn_mem hj
              rw [← heo]
              exact haf e he heb
            have hnext : ∀ v w'', (Ks i).holds w'' v → w'.grownBy w'' (some g) → (∀ j, j < m → listed.getD j false = true → ∀ u, (Ks j).holds w' u → (Ks j).holds w'' u) → (∃ c, c ≤ exs.length ∧ (∀ q, q < exs.length → (listed.setIfInBounds i true).getD (exs.getD q 0) false = decide (q < c)) ∧ J c w'') → wpAny P .any ops Q fuel (listed.setIfInBounds i true) (a'.put o.dst v) w'' := by
              intro v w'' hv hb hkeep hcn
              refine ih _ _ _ ⟨by simpa using hI.lsize, ?_, ?_, ext_trans hI.ext hb, hcn, ?_, ?_, ?_⟩ ?_ ?_
              · rw [ht]; exact hI.defers
              · rw [ht]; simpa [Act.put] using hI.size
              · intro s hs
                have hst : s ≠ t := fun e => hs i him (by rw [hd i _ ho, ht, e])
                rw [ht, put_getD (by rw [hI.size]; exact htn), if_neg hst]
                exact hI.other s hs
              · intro j s hjm hj hdj
                rw [getD_set hsi] at hj
                rw [ht, put_getD (by rw [hI.size]; exact htn)]
                by_cases e : j = i
                · subst e
                  have : s = t := by rw [hd j _ ho, ht] at hdj; injection hdj with hdj; exact hdj.symm
                  rw [if_pos this]
                  exact hv
                · rw [if_neg e] at hj
                  have hst : s ≠ t := fun e2 => e (dst_injZ R hjm him hdj (by rw [hd i _ ho, ht, e2]))
                  rw [if_neg hst]
                  exact hkeep j hjm hj _ (hI.val j s hjm hj hdj)
              · intro q oq hq hlq e he hb
                rw [getD_set hsi] at hlq ⊢
                by_cases e1 : q = i
                · subst e1
                  rw [ho] at hq
                  injection hq with hq
                  subst hq
                  split
                  · rfl
                  · exact haf e he hb
                · rw [if_neg e1] at hlq
                  split
                  · rfl
                  · exact hI.down q oq hq hlq e he hb
              · intro q hq hqs
                rw [getD_set hsi, if_neg (by omega)]
                exact hno q hq hqs
              · have hnl : (!listed.getD i true) = true := by rw [hnl']; rfl
                have hlt : ((List.range ops.size).filter fun k => !(listed.setIfInBounds i true).getD k true).length < ((List.range ops.size).filter fun k => !listed.getD k true).length := by
                  have hsub : ((List.range ops.size).filter fun k => !(listed.setIfInBounds i true).getD k true) = (((List.range ops.size).filter fun k => !listed.getD k true).filter fun k => k != i) := by
                    rw [List.filter_filter]
                    apply List.filter_congr
                    intro k _
                    rw [getD_set hsi]
                    by_cases e : k = i
                    · subst e; simp
                    · simp [e]
                  rw [hsub]
                  exact List.length_filter_lt_length_iff_exists.2 ⟨i, List.mem_filter.2 ⟨List.mem_range.2 his, hnl⟩, by simp⟩
                omega
            have hlook : ∀ s K, lookK (kz i) s = some K → ∃ j, j < i ∧ dstOf ops j = some s ∧ K = Ks j := fun s K hK => hmem i (by omega) s K (lookK_some hK)
            have hokj : ∀ j, j < m → (Ks j).Ok ∧ (lastY ops exs j = true ∨ (Ks j).OkX g) := by
              intro j hj
              have hjs : j < ops.size := by have := R.le; omega
              obtain ⟨_, _, h1, _⟩ := hall j ops[j] (hat j _ hj (Array.getElem?_eq_getElem hjs))
              exact h1
            have hkN : ∀ w'', Below w'.heap.size w' w'' → ∀ j, j < m → listed.getD j false = true → ∀ u, (Ks j).holds w' u → (Ks j).holds w'' u := fun w'' hB j hj _ u hu => Kd.keep (hokj j hj).1 hu hB
            have hcntN : exs.elem i = false → ∀ w'', Below w'.heap.size w' w'' → ∃ c, c ≤ exs.length ∧ (∀ q, q < exs.length → (listed.setIfInBounds i true).getD (exs.getD q 0) false = decide (q < c)) ∧ J c w'' := by
              intro hx w'' hB
              obtain ⟨c, hc, hq, hj⟩ := hI.cnt
              refine ⟨c, hc, fun q hql => ?_, hJs c _ _ hj hB⟩
              rw [getD_set hsi, if_neg (fun e => by have h1 := hmemE q hql; rw [e, hx] at h1; cases h1)]
              exact hq q hql
            unfold wpOp
            rw [ho]
            rcases hob with ⟨hxx, hwk, hgo⟩ | ⟨hxx, hwk, hgo⟩ | ⟨hxx, hwk, hskip⟩
            · have hw : Region.wanted o (yielded ops a'.tmps) = true := by
                unfold Region.wanted
                cases hg : o.guard with
                | none => rfl
                | some gb =>
                  obtain ⟨g, b⟩ := gb
                  rw [hg] at hwk
                  unfold wantK at hwk
                  simp only at hwk
                  cases hdg : dstOf ops g with
                  | none => rw [hdg] at hwk; cases hwk
                  | some s =>
                    rw [hdg] at hwk
                    cases hlk : lookK (kz i) s with
                    | none => simp only [hlk] at hwk; cases hwk
                    | some K =>
                      simp only [hlk] at hwk
                      split at hwk
                      · rename_i hKe
                        injection hKe with hKe
                        subst hKe
                        rename_i c
                        obtain ⟨j, hj, hdj, hKj⟩ := hlook s _ hlk
                        obtain ⟨hong, hgi⟩ := hgd g b hg
                        obtain rfl := dst_injZ R (by omega) (by omega) hdj hdg
                        have hv := hI.val j s (by omega) (hon j hong) hdj
                        rw [← hKj] at hv
                        have hy : yielded ops a'.tmps j = some c := by
                          have hv' : a'.tmps.getD s undef = .bool c := hv
                          unfold yielded
                          unfold dstOf at hdj
                          rw [hdj]
                          rw [Array.getD_eq_getD_getElem?] at hv'
                          cases hx : a'.tmps[s]? with
                          | none => rw [hx] at hv'; exact absurd hv' (by simp [undef])
                          | some x =>
                            rw [hx] at hv'
                            simp only [Option.getD_some] at hv'
                            subst hv'
                            simp [hx]
                        simp only [hy]
                        injection hwk
                      · cases hwk
              simp only [hw, if_true]
              refine .inl ?_
              obtain ⟨b, hb, b1, b2, b3, b4⟩ := leanOn.out (a' := a') (hgo w' hI.ext) hI.size.symm (fun s K hs hK => by
                obtain ⟨j, hj, hdj, rfl⟩ := hlook s K hK
                obtain ⟨o2, ho2, hod2⟩ := dstOf_some hdj
                obtain ⟨s2, hs2, hsn, _⟩ := R.main j o2 (by omega) ho2
                rw [hod2] at hs2
                injection hs2 with hs2
                subst hs2
                obtain ⟨ha, _⟩ := hrd s (by simpa using hs) j (by omega) hdj
                exact ⟨by rw [hI.size]; exact hsn, hI.val j s (by omega) (hon j ha) hdj⟩)
              have heq : execOp a'.eval o = execOp b.eval o := by
                refine execOp_congr o (fun cs bb hc => by rw [hc] at hsel; cases hsel) fun x hx => ?_
                cases x with
                | tmp s =>
                  show a'.tmps.getD s undef = b.tmps.getD s undef
                  by_cases hks : ∃ K, lookK (kz i) s = some K
                  · obtain ⟨K, hK⟩ := hks
                    exact (b4 s ⟨K, hK, by simpa using hx⟩).symm
                  · have ho2 : ∀ j, j < m → dstOf ops j ≠ some s := by
                      intro j hj hdj
                      obtain ⟨_, hji⟩ := hrd s hx j hj hdj
                      obtain ⟨oj, hoj, hdoj⟩ := dstOf_some hdj
                      have := kz_all hall2 i (by omega) j oj s hji (hat j oj hj hoj) hdoj
                      cases hl : lookK (kz i) s with
                      | some K => exact hks ⟨K, hl⟩
                      | none => exact lookK_none hl _ this
                    have e0 := hI.other s ho2
                    rcases b3 s with e | e
                    · rw [e, e0]
                    · exact e.symm
                | const _ => rfl
                | global _ => rfl
                | func _ => rfl
              have hgoes := hb.out
              unfold Oper.wp
              rw [heq]
              generalize (execOp b.eval o).run P w' = r at hgoes
              cases r with
              | ok n w'' =>
                cases n <;> simp only [OpGoes] at hgoes <;> try exact hgoes.elim
                case value v => exact hnext v w'' hgoes.1 (ext_below hgoes.2) (hkN _ hgoes.2) (hcntN hxx _ hgoes.2)
                case enter f args =>
                  refine Calls.mono hgoes ?_
                  rintro e w3 ⟨v, rfl, hv, hb⟩
                  exact hnext v w3 hv (ext_below hb) (hkN _ hb) (hcntN hxx _ hb)
              | halt x w'' => exact hgoes.elim
            · obtain ⟨q, hql, hqe⟩ := hidx i hxx
              obtain ⟨c, hc, hqs, hj⟩ := hI.cnt
              obtain ⟨hq1, hq2, hq3⟩ := hex' q hql
              have hqc : q = c := by
                have h1 := hqs q hql
                rw [hqe, ← getD_ff hsi, hnl'] at h1
                have h2 : ¬ q < c := by simpa using h1.symm
                rcases hq3 with h3 | ⟨o3, ho3, hh3⟩
                · omega
                · rw [hqe, ho] at ho3
                  injection ho3 with ho3
                  subst ho3
                  have h4 := hon _ hh3
                  by_cases h0 : q = 0
                  · omega
                  · rw [hqs (q - 1) (by omega)] at h4
                    have : q - 1 < c := by simpa using h4
                    omega
              rw [hqe] at hq2
              rw [hq2, hqc] at hgo
              have hkE : ∀ w'', w'.grownBy w'' (some g) → ∀ j, j < m → listed.getD j false = true → ∀ u, (Ks j).holds w' u → (Ks j).holds w'' u := by
                intro w'' hE j hjm hjl u hu
                rcases (hokj j hjm).2 with h1 | h1
                · exfalso
                  obtain ⟨j', h1, hjl⟩ := lastY_out hI.down h1 hjl
                  have hlast : j' = exs.getD (exs.length - 1) 0 := by
                    unfold lastX at h1
                    rw [List.getLast?_eq_getElem?, List.getElem?_eq_getElem (by omega)] at h1
                    rw [List.getD_eq_getElem?_getD, List.getElem?_eq_getElem (by omega)]
                    simp only [beq_iff_eq] at h1
                    exact h1.symm
                  rw [hlast, hqs _ (by omega)] at hjl
                  have : exs.length - 1 < c := by simpa using hjl
                  omega
                · exact Kd.keepX h1 hu hE
              have hcntE : ∀ w'', J (c + 1) w'' → ∃ c, c ≤ exs.length ∧ (∀ q, q < exs.length → (listed.setIfInBounds i true).getD (exs.getD q 0) false = decide (q < c)) ∧ J c w'' := by
                intro w'' hj2
                refine ⟨c + 1, by omega, fun p hp => ?_, hj2⟩
                rw [getD_set hsi]
                by_cases e : exs.getD p 0 = i
                · have hp2 := (hex' p hp).2.1
                  rw [e, hq2] at hp2
                  rw [if_pos e]
                  have : p < c + 1 := by omega
                  simp [this]
                · rw [if_neg e, hqs p hp]
                  have hpq : p ≠ q := fun h => e (by rw [h]; exact hqe)
                  by_cases hpc : p < c
                  · simp [hpc, Nat.lt_succ_of_lt hpc]
                  · have : ¬ p < c + 1 := by omega
                    simp [hpc, this]
              have hw : Region.wanted o (yielded ops a'.tmps) = true := by
                unfold Region.wanted
                cases hg : o.guard with
                | none => rfl
                | some gb =>
                  obtain ⟨g, b⟩ := gb
                  rw [hg] at hwk
                  unfold wantK at hwk
                  simp only at hwk
                  cases hdg : dstOf ops g with
                  | none => rw [hdg] at hwk; cases hwk
                  | some s =>
                    rw [hdg] at hwk
                    cases hlk : lookK (kz i) s with
                    | none => simp only [hlk] at hwk; cases hwk
                    | some K =>
                      simp only [hlk] at hwk
                      split at hwk
                      · rename_i hKe
                        injection hKe with hKe
                        subst hKe
                        rename_i c
                        obtain ⟨j, hj, hdj, hKj⟩ := hlook s _ hlk
                        obtain ⟨hong, hgi⟩ := hgd g b hg
                        obtain rfl := dst_injZ R (by omega) (by omega) hdj hdg
                        have hv := hI.val j s (by omega) (hon j hong) hdj
                        rw [← hKj] at hv
                        have hy : yielded ops a'.tmps j = some c := by
                          have hv' : a'.tmps.getD s undef = .bool c := hv
                          unfold yielded
                          unfold dstOf at hdj
                          rw [hdj]
                          rw [Array.getD_eq_getD_getElem?] at hv'
                          cases hx : a'.tmps[s]? with
                          | none => rw [hx] at hv'; exact absurd hv' (by simp [undef])
                          | some x =>
                            rw [hx] at hv'
                            simp only [Option.getD_some] at hv'
                            subst hv'
                            simp [hx]
                        simp only [hy]
                        injection hwk
                      · cases hwk
              simp only [hw, if_true]
              refine .inl ?_
              obtain ⟨b, hb, b1, b2, b3, b4⟩ := leanOn.out (a' := a') (hgo w' hI.ext hj) hI.size.symm (fun s K hs hK => by
                obtain ⟨j, hj, hdj, rfl⟩ := hlook s K hK
                obtain ⟨o2, ho2, hod2⟩ := dstOf_some hdj
                obtain ⟨s2, hs2, hsn, _⟩ := R.main j o2 (by omega) ho2
                rw [hod2] at hs2
                injection hs2 with hs2
                subst hs2
                obtain ⟨ha, _⟩ := hrd s (by simpa using hs) j (by omega) hdj
                exact ⟨by rw [hI.size]; exact hsn, hI.val j s (by omega) (hon j ha) hdj⟩)
              have heq : execOp a'.eval o = execOp b.eval o := by
                refine execOp_congr o (fun cs bb hc => by rw [hc] at hsel; cases hsel) fun x hx => ?_
                cases x with
                | tmp s =>
                  show a'.tmps.getD s undef = b.tmps.getD s undef
                  by_cases hks : ∃ K, lookK (kz i) s = some K
                  · obtain ⟨K, hK⟩ := hks
                    exact (b4 s ⟨K, hK, by simpa using hx⟩).symm
                  · have ho2 : ∀ j, j < m → dstOf ops j ≠ some s := by
                      intro j hj hdj
                      obtain ⟨_, hji⟩ := hrd s hx j hj hdj
                      obtain ⟨oj, hoj, hdoj⟩ := dstOf_some hdj
                      have := kz_all hall2 i (by omega) j oj s hji (hat j oj hj hoj) hdoj
                      cases hl : lookK (kz i) s with
                      | some K => exact hks ⟨K, hl⟩
                      | none => exact lookK_none hl _ this
                    have e0 := hI.other s ho2
                    rcases b3 s with e | e
                    · rw [e, e0]
                    · exact e.symm
                | const _ => rfl
                | global _ => rfl
                | func _ => rfl
              have hgoes := hb.out
              unfold Oper.wp
              rw [heq]
              generalize (execOp b.eval o).run P w' = r at hgoes
              cases r with
              | ok n w'' =>
                cases n <;> simp only [OpGoes] at hgoes <;> try exact hgoes.elim
                case value v => exact hnext v w'' hgoes.1 hgoes.2.1 (hkE _ hgoes.2.1) (hcntE _ hgoes.2.2)
                case enter f args =>
                  refine Calls.mono hgoes ?_
                  rintro e w3 ⟨v, rfl, hv, hb, hj3⟩
                  exact hnext v w3 hv hb (hkE _ hb) (hcntE _ hj3)
              | halt x w'' => exact hgoes.elim
            · have hw : Region.wanted o (yielded ops a'.tmps) = false := by
                unfold Region.wanted
                cases hg : o.guard with
                | none => rw [hg] at hwk; cases hwk
                | some gb =>
                  obtain ⟨g, b⟩ := gb
                  rw [hg] at hwk
                  unfold wantK at hwk
                  simp only at hwk
                  cases hdg : dstOf ops g with
                  | none => rw [hdg] at hwk; cases hwk
                  | some s =>
                    rw [hdg] at hwk
                    cases hlk : lookK (kz i) s with
                    | none => simp only [hlk] at hwk; cases hwk
                    | some K =>
                      simp only [hlk] at hwk
                      split at hwk
                      · rename_i hKe
                        injection hKe with hKe
                        subst hKe
                        rename_i c
                        obtain ⟨j, hj, hdj, hKj⟩ := hlook s _ hlk
                        obtain ⟨hong, hgi⟩ := hgd g b hg
                        obtain rfl := dst_injZ R (by omega) (by omega) hdj hdg
                        have hv := hI.val j s (by omega) (hon j hong) hdj
                        rw [← hKj] at hv
                        have hy : yielded ops a'.tmps j = some c := by
                          have hv' : a'.tmps.getD s undef = .bool c := hv
                          unfold yielded
                          unfold dstOf at hdj
                          rw [hdj]
                          rw [Array.getD_eq_getD_getElem?] at hv'
                          cases hx : a'.tmps[s]? with
                          | none => rw [hx] at hv'; exact absurd hv' (by simp [undef])
                          | some x =>
                            rw [hx] at hv'
                            simp only [Option.getD_some] at hv'
                            subst hv'
                            simp [hx]
                        simp only [hy]
                        injection hwk
                      · cases hwk
              simp only [hw]
              exact hnext _ _ (by rw [hskip]; rfl) (ext_refl _ _) (hkN _ (Below.refl _ _)) (hcntN hxx _ (Below.refl _ _))
  refine key ops.size _ a _ ⟨by simp, rfl, rfl, ext_below (Below.drew (Below.refl _ _)), ⟨0, Nat.zero_le _, fun q _ => by simp [Array.getD_eq_getD_getElem?, Array.getElem?_replicate]; split <;> simp, hJs 0 _ _ hJ0 (Below.drew (Below.refl _ _))⟩, fun _ _ => rfl, fun j t _ hj => ?_, fun i o _ hj => ?_⟩ ?_ ?_
  · exfalso
    revert hj
    simp only [Array.getD_eq_getD_getElem?, Array.getElem?_replicate]
    split <;> simp
  · exfalso
    revert hj
    simp only [Array.getD_eq_getD_getElem?, Array.getElem?_replicate]
    split <;> simp
  · intro i _ hi
    simp [Array.getD_eq_getD_getElem?, Array.getElem?_replicate, hi]
  · exact Nat.le_trans (List.length_filter_le _ _) (by simp)
end
end Go.Proofs.Ytjjhnjkmoogloaa

/- A segment's options put behind its header. -/
namespace Go.Proofs.Ytjjhnjkmoogloaa
open Go.RowKit
set_option linter.unusedVariables false
set_option linter.unusedSimpArgs false
set_option linter.unusedSimpArgs false
set_option maxHeartbeats 4000000
set_option maxRecDepth 100000

theorem neg_and3 {n : Int} (h0 : 20 ≤ n) (h1 : n ≤ 100) : bits .and .i64 (IntKind.i64.wrap (-n)) 3 = ((padN n.toNat : Nat) : Int) := by
  have tab : ∀ a : Fin 101, bits .and .i64 (IntKind.i64.wrap (-(a.val : Int))) 3 = ((padN a.val : Nat) : Int) := by decide +kernel
  have := tab ⟨n.toNat, by omega⟩
  have e : ((n.toNat : Nat) : Int) = n := by omega
  simp only [e] at this
  exact this
/-- The header in block hb, behind options. -/
structure SoPost (B base hb : Nat) (T : TypeId) (l : List UInt8) (os : List Opt) (w : World) (e : Ending) (w' : World) : Prop where
  out : e = .returned (.tuple #[]) ∧ ∃ A n c, Blk w' hb #[.slice A n c, .bool (!okOs os)] T ∧ (okOs os = true → Own w' base 5 A n c (l ++ optL os)) ∧ Below B w w' ∧ keepT hb w w'
theorem hopts_any (B base hb : Nat) (T : TypeId) (A : Option Addr) (c : Nat) (l : List UInt8) (w0 w : World) (OA : Option Addr) (on oc : Nat) (os : List Opt) (K : Os w0 OA on oc os) (h0w : Below w0.heap.size w0 w) (h0B : w0.heap.size ≤ B) (H : Blk w hb #[.slice A 20 c, .bool false] T)
    (O : Own w base 5 A 20 c l) (hT : T ≠ 5) (b1 : B ≤ hb) (b2 : B ≤ base) (b3 : B ≤ w.heap.size) (b4 : base ≤ w.heap.size) :
    Calls Try.prog 47 #[.pointer (some ⟨hb, 0, none⟩), .slice OA on oc] w (SoPost B base hb T l os w) := by
  have hmax := K.max
  have HL := Lib.hid K.len
  have hc := H.cell
  have hl20 := O.len
  go_enter Try.func47, Try.ntmps47
  go_wp2_with fail
  clear hc
  go_loopw [15] (fun i wr => ∃ (j : Nat) (A' : Option Addr) (n' c' : Nat), j ≤ on ∧ i = .int .i64 j ∧ n' ≤ 60 ∧ 20 ≤ n' ∧ Blk wr hb #[.slice A' n' c', .bool false] T ∧ Own wr base 5 A' n' c' (l ++ optsB (os.take j)) ∧ keepT hb w wr ∧ Below B w wr ∧ Hid (∀ i, i < j → badO (os.getD i zO) = false)) (fun i _ => on - (intOf i).toNat)
  case atStart => exact ⟨0, A, 20, c, by omega, rfl, by omega, by omega, H, by simpa [optsB] using O, keepT.refl _ _, Below.refl _ _, fun i hi => by omega⟩
  case round =>
    obtain ⟨j, Aj, nj, cj, hj, rfl, hnj, hn20, Hj, Oj, Tj, Bj, Gj⟩ := hrel
    have W0 : Below w0.heap.size w0 wr := h0w.trans (Bj.mono h0B)
    obtain ⟨g, rfl, gb, gl⟩ := Oj.ptr (by omega)
    have hjl := Hj.lt
    have gne := Oj.ne_blk Hj hT g rfl
    have hsz := Bj.size
    by_cases hlt : j < on
    · obtain ⟨b, off, rfl, hc⟩ := K.rd (by omega)
      obtain ⟨cK0, Bd, m, d, cD0, bD⟩ := hc j hlt
      have cK := (W0.cell (World.block_lt_of_cell? w0 _ cK0)).trans cK0
      have cD := (W0.cell (World.block_lt_of_cell? w0 _ cD0)).trans cD0
      obtain ⟨k0, k1⟩ := K.at_ok hlt
      have hw := badO_ways (os.getD j zO) m bD.len
      obtain ⟨o, ho⟩ : ∃ o, os.getD j zO = o := ⟨_, rfl⟩
      rw [ho] at cK bD k0 k1 hw
      have HO := Lib.hid ho
      clear hc ho cK0 cD0
      have bm := bD.max
      have hji : (j : Int) < on := by omega
      obtain ⟨κ, hκ⟩ : ∃ κ, o.kind = κ := ⟨_, rfl⟩
      obtain ⟨D, hD⟩ : ∃ D, o.dat = D := ⟨_, rfl⟩
      rw [hκ] at cK k0 k1 hw
      rw [hD] at bD hw
      clear hκ hD
      have hl1 : ∀ (x : Int), 0 ≤ x → x ≤ 255 → (cu [ub x]).toArray = #[.int .u8 x] := fun x x0 x1 => by simp [cu, ub_val]; omega
      obtain ⟨v, hvq⟩ : ∃ W, wr.alloc (.cells #[.int .u8 κ, .slice Bd m d] 66) = W := ⟨_, rfl⟩
      obtain ⟨pk, hpk⟩ : ∃ k : Nat, wr.heap.size = k := ⟨_, rfl⟩
      have Vv : Below wr.heap.size wr v := by rw [← hvq]; (repeat (first | with_reducible exact Below.refl _ _ | with_reducible refine below_drew ?_ | with_reducible refine below_drewN ?_ _ | with_reducible refine below_alloc ?_ (Nat.le_refl _) _ | with_reducible refine Below.setCell ?_ (by first | exact Nat.le_refl _ | (simp only []; omega)) _ | with_reducible assumption))
      have Pv : Blk v pk #[.int .u8 κ, .slice Bd m d] 66 := by rw [← hvq]; exact blk_new _ _ _ _ hpk
      have pv := Pv.cell
      have Ov := Oj.below Vv
      have Hv := Hj.below Vv
      have hvc := Hv.cell
      have Bv := Bj.trans (Vv.mono (by omega))
      have Tv := Tj.trans (fun k cs t _ _ b => b.below Vv : keepT hb wr v)
      rcases hw with ⟨hb', hw⟩ | ⟨hb', hw⟩
      · have HF : Hid (okOs os = false) := okOs_bad (j := j) (by rw [HL.out]; exact hlt) (by rw [HO.out]; exact hb')
        clear hb'
        have Hf := Hv.set_ 1 (.bool true)
        simp only [List.setIfInBounds_toArray, List.set_cons_zero, List.set_cons_succ] at Hf
        have Bf := Bv.setCell (p := ⟨hb, 1, none⟩) b1 (.bool true)
        have Tf := Tv.set 1 (.bool true)
        rcases hw with h1 | ⟨h1, h2, h3⟩ | ⟨h1, h2, h3⟩
        all_goals go_wp2_with fail
        all_goals go_end0
        all_goals exact ⟨rfl, _, _, _, by rw [HF.out]; exact Hf, fun h => absurd h (by rw [HF.out]; decide), Bf, Tf⟩
      · have HTK := Lib.hid (optsB_take (os := os) (j := j) (by rw [HL.out]; exact hlt))
        have GJ : Hid (∀ i, i < j + 1 → badO (os.getD i zO) = false) := fun i hi => by
          by_cases e : i = j
          · subst e; rw [HO.out]; exact hb'
          · exact Gj.out i (by omega)
        clear hb'
        have gne' : hb ≠ g := Ne.symm gne
        have pne : pk ≠ g := by omega
        have hlκ := hl1 κ k0 k1
        have vsz := Vv.size
        have bvs : base ≤ v.heap.size := by omega
        have gvl : g < v.heap.size := by omega
        rcases hw with ⟨h1, h2, h3, h4⟩ | ⟨h1, h2, h3, h4⟩
        · have H4 := Lib.hid h4
          clear h4
          obtain rfl : κ = 1 := by simpa using h2
          subst h3
          go_wp2_with fail
          refine regionX 10 [9] g (fun c W => match c with | 0 => Own W base 5 (some ⟨g, 0, none⟩) nj cj (l ++ optsB (os.take j)) | _ + 1 => True) (by kernel_rfl) (by kernel_rfl) (by kernel_rfl) Ov (fun c W W' hj hb => by cases c with | zero => exact Own.below hj hb | succ n => trivial) ?_; (iterate 10 (first | (apply ObsX.skip (by rfl) (by rfl)) | (apply ObsX.v (by rfl) (by rfl); (intro wo hE; (repeat (first | (intro v hv; ((obtain ⟨Aq, cq, rfl, oq, oq'⟩ := hv))) | (intro _ _ k; try have hcv := cv k))); (have hco := (Hv.ext hE gne').cell; have pco := (Pv.ext hE pne).cell; have hsz2 := hE.size); refine Goes.mk ?_; first | (exact goes_appX _ _ rfl rfl hj (fun k e => by simp [Value.ownBlock] at e; exact e.symm) rfl oq (by omega) (by omega) (fun _ => trivial)) | (go_simp; first | exact goes_v | exact goes_litN hlκ rfl (by omega) (by omega) | (refine goes_enter ?_; first | fail)))) | (apply ObsX.p (q := isN g 1 [ub 1]) (by rfl) (by rfl) st_isN sx_isN; (intro wo hE; (repeat (first | (intro v hv; ((obtain ⟨Aq, cq, rfl, oq, oq'⟩ := hv))) | (intro _ _ k; try have hcv := cv k))); (have hco := (Hv.ext hE gne').cell; have pco := (Pv.ext hE pne).cell; have hsz2 := hE.size); refine Goes.mk ?_; first | (exact goes_appX _ _ rfl rfl hj (fun k e => by simp [Value.ownBlock] at e; exact e.symm) rfl oq (by omega) (by omega) (fun _ => trivial)) | (go_simp; first | exact goes_v | exact goes_litN hlκ rfl (by omega) (by omega) | (refine goes_enter ?_; first | fail)))) | (apply ObsX.ev (by rfl) (by rfl); (intro wo hE hj; (repeat (first | (intro v hv; ((obtain ⟨Aq, cq, rfl, oq, oq'⟩ := hv))) | (intro _ _ k; try have hcv := cv k))); (have hco := (Hv.ext hE gne').cell; have pco := (Pv.ext hE pne).cell; have hsz2 := hE.size); refine GoesX.mk ?_; first | (exact goes_appX _ _ rfl rfl hj (fun k e => by simp [Value.ownBlock] at e; exact e.symm) rfl oq (by omega) (by omega) (fun _ => trivial)) | (go_simp; first | exact goes_v | exact goes_litN hlκ rfl (by omega) (by omega) | (refine goes_enter ?_; first | fail)))) | (apply ObsX.ep (q := isN g 1 [ub 1]) (by rfl) (by rfl) (by rfl) st_isN; (intro wo hE hj; (repeat (first | (intro v hv; ((obtain ⟨Aq, cq, rfl, oq, oq'⟩ := hv))) | (intro _ _ k; try have hcv := cv k))); (have hco := (Hv.ext hE gne').cell; have pco := (Pv.ext hE pne).cell; have hsz2 := hE.size); refine GoesX.mk ?_; first | (exact goes_appX _ _ rfl rfl hj (fun k e => by simp [Value.ownBlock] at e; exact e.symm) rfl oq (by omega) (by omega) (fun _ => trivial)) | (go_simp; first | exact goes_v | exact goes_litN hlκ rfl (by omega) (by omega) | (refine goes_enter ?_; first | fail)))) | (apply ObsX.ep (q := isW base ((l ++ optsB (os.take j)) ++ [ub 1])) (by rfl) (by rfl) (by rfl) st_isW; (intro wo hE hj; (repeat (first | (intro v hv; ((obtain ⟨Aq, cq, rfl, oq, oq'⟩ := hv))) | (intro _ _ k; try have hcv := cv k))); (have hco := (Hv.ext hE gne').cell; have pco := (Pv.ext hE pne).cell; have hsz2 := hE.size); refine GoesX.mk ?_; first | (exact goes_appX _ _ rfl rfl hj (fun k e => by simp [Value.ownBlock] at e; exact e.symm) rfl oq (by omega) (by omega) (fun _ => trivial)) | (go_simp; first | exact goes_v | exact goes_litN hlκ rfl (by omega) (by omega) | (refine goes_enter ?_; first | fail)))))); refine ObsX.nil ?_; intro wz hEz hJz; simp only [finOn, List.drop_succ_cons, List.drop_zero, List.drop_nil]
          rintro v9 ⟨A9, n9, c9, rfl, O9⟩ v8 hv8
          go_simp
          clear hv8
          have u9 : n9 = nj + 1 := by have := O9.len; have := Ov.len; simp at *; omega
          subst u9
          have Hz := Hv.ext hEz gne'
          have Pz := Pv.ext hEz pne
          have Bz := below_ext Bv hEz (by omega) (by omega)
          have Tz : keepT hb w wz := Tv.grown Ov hEz
          have hzc := Hz.cell
          obtain ⟨x, hx⟩ : ∃ W, wz.setCell ⟨hb, 0, none⟩ (.slice A9 (nj + 1) c9) = W := ⟨_, rfl⟩
          have Hx := Hz.set_ 0 (.slice A9 (nj + 1) c9)
          simp only [List.setIfInBounds_toArray, List.set_cons_zero, List.set_cons_succ] at Hx
          have Px := Pz.far ⟨hb, 0, none⟩ (by show hb ≠ pk; omega) (.slice A9 (nj + 1) c9)
          have Ox := O9.away ⟨hb, 0, none⟩ (.slice A9 (nj + 1) c9) (fun a e => O9.ne_blk Hz hT a.block (by rw [e]; rfl))
          have Bx := Bz.setCell (p := ⟨hb, 0, none⟩) b1 (.slice A9 (nj + 1) c9)
          have Tx := Tz.set 0 (.slice A9 (nj + 1) c9)
          rw [hx] at Hx Px Ox Bx Tx
          have hxc := Hx.cell
          have pxc := Px.cell
          by_cases h60 : (nj + 1) ≤ 60
          · have h60' : decide (40 < ((nj + 1) : Int) - 20) = false := by simp; omega
            have h60i : ((nj + 1) : Int) ≤ 60 := by omega
            have Hf := Hx.set_ 1 (.bool false)
            simp only [List.setIfInBounds_toArray, List.set_cons_zero, List.set_cons_succ] at Hf
            have Of := Ox.away ⟨hb, 1, none⟩ (.bool false) (fun a e => Ox.ne_blk Hx hT a.block (by rw [e]; rfl))
            have Bf := Bx.setCell (p := ⟨hb, 1, none⟩) b1 (.bool false)
            have Tf := Tx.set 1 (.bool false)
            have hfc := Hf.cell
            go_wp2_with fail
            exact ⟨⟨j + 1, _, _, _, by omega, by go_num, h60, by omega, Hf, by rw [HTK.out, HO.out, H4.out]; simpa using Of, Tf, Bf, GJ⟩, by simp [intOf]; omega⟩
          · have h60' : decide (40 < ((nj + 1) : Int) - 20) = true := by simp; omega
            have h60i : (60 : Int) < (nj + 1) := by omega
            have HF : Hid (okOs os = false) := okOs_long (j := j + 1) (by rw [HTK.out, HO.out, H4.out]; have := Ox.len; simp at *; omega)
            have Hf := Hx.set_ 1 (.bool true)
            simp only [List.setIfInBounds_toArray, List.set_cons_zero, List.set_cons_succ] at Hf
            have Bf := Bx.setCell (p := ⟨hb, 1, none⟩) b1 (.bool true)
            have Tf := Tx.set 1 (.bool true)
            have hfc := Hf.cell
            go_wp2_with fail
            go_end0
            exact ⟨rfl, _, _, _, by rw [HF.out]; exact Hf, fun h => absurd h (by rw [HF.out]; decide), Bf, Tf⟩
        · have H4 := Lib.hid h4
          clear h4
          have hm38 : (m : Int) ≤ 38 := by omega
          obtain ⟨z, hz⟩ : ∃ z : Int, 2 + (m : Int) = z := ⟨_, rfl⟩
          have z0 : 0 ≤ z := by omega
          have z1 : z ≤ 255 := by omega
          have hws : IntKind.i64.wrap (2 + (m : Int)) = z := by rw [IntKind.wrap_i64]; omega
          have hwu : IntKind.u8.wrap z = z := by rw [IntKind.wrap_u8]; omega
          have hlz := hl1 z z0 z1
          have HZ := Lib.hid hz
          clear hz
          go_wp2_with fail
          refine regionX 10 [9] g (fun c W => match c with | 0 => Own W base 5 (some ⟨g, 0, none⟩) nj cj (l ++ optsB (os.take j)) | _ + 1 => True) (by kernel_rfl) (by kernel_rfl) (by kernel_rfl) Ov (fun c W W' hj hb => by cases c with | zero => exact Own.below hj hb | succ n => trivial) ?_; (iterate 10 (first | (apply ObsX.skip (by rfl) (by rfl)) | (apply ObsX.v (by rfl) (by rfl); (intro wo hE; (repeat (first | (intro v hv; ((obtain ⟨Aq, cq, rfl, oq, oq'⟩ := hv))) | (intro _ _ k; try have hcv := cv k))); (have hco := (Hv.ext hE gne').cell; have pco := (Pv.ext hE pne).cell; have hsz2 := hE.size); refine Goes.mk ?_; first | (exact goes_appX _ _ rfl rfl hj (fun k e => by simp [Value.ownBlock] at e; exact e.symm) rfl oq (by omega) (by omega) (fun _ => trivial)) | (go_simp; first | exact goes_v | exact goes_litN hlκ rfl (by omega) (by omega) | (refine goes_enter ?_; first | fail)))) | (apply ObsX.p (q := isN g 1 [ub κ]) (by rfl) (by rfl) st_isN sx_isN; (intro wo hE; (repeat (first | (intro v hv; ((obtain ⟨Aq, cq, rfl, oq, oq'⟩ := hv))) | (intro _ _ k; try have hcv := cv k))); (have hco := (Hv.ext hE gne').cell; have pco := (Pv.ext hE pne).cell; have hsz2 := hE.size); refine Goes.mk ?_; first | (exact goes_appX _ _ rfl rfl hj (fun k e => by simp [Value.ownBlock] at e; exact e.symm) rfl oq (by omega) (by omega) (fun _ => trivial)) | (go_simp; first | exact goes_v | exact goes_litN hlκ rfl (by omega) (by omega) | (refine goes_enter ?_; first | fail)))) | (apply ObsX.ev (by rfl) (by rfl); (intro wo hE hj; (repeat (first | (intro v hv; ((obtain ⟨Aq, cq, rfl, oq, oq'⟩ := hv))) | (intro _ _ k; try have hcv := cv k))); (have hco := (Hv.ext hE gne').cell; have pco := (Pv.ext hE pne).cell; have hsz2 := hE.size); refine GoesX.mk ?_; first | (exact goes_appX _ _ rfl rfl hj (fun k e => by simp [Value.ownBlock] at e; exact e.symm) rfl oq (by omega) (by omega) (fun _ => trivial)) | (go_simp; first | exact goes_v | exact goes_litN hlκ rfl (by omega) (by omega) | (refine goes_enter ?_; first | fail)))) | (apply ObsX.ep (q := isN g 1 [ub κ]) (by rfl) (by rfl) (by rfl) st_isN; (intro wo hE hj; (repeat (first | (intro v hv; ((obtain ⟨Aq, cq, rfl, oq, oq'⟩ := hv))) | (intro _ _ k; try have hcv := cv k))); (have hco := (Hv.ext hE gne').cell; have pco := (Pv.ext hE pne).cell; have hsz2 := hE.size); refine GoesX.mk ?_; first | (exact goes_appX _ _ rfl rfl hj (fun k e => by simp [Value.ownBlock] at e; exact e.symm) rfl oq (by omega) (by omega) (fun _ => trivial)) | (go_simp; first | exact goes_v | exact goes_litN hlκ rfl (by omega) (by omega) | (refine goes_enter ?_; first | fail)))) | (apply ObsX.ep (q := isW base ((l ++ optsB (os.take j)) ++ [ub κ])) (by rfl) (by rfl) (by rfl) st_isW; (intro wo hE hj; (repeat (first | (intro v hv; ((obtain ⟨Aq, cq, rfl, oq, oq'⟩ := hv))) | (intro _ _ k; try have hcv := cv k))); (have hco := (Hv.ext hE gne').cell; have pco := (Pv.ext hE pne).cell; have hsz2 := hE.size); refine GoesX.mk ?_; first | (exact goes_appX _ _ rfl rfl hj (fun k e => by simp [Value.ownBlock] at e; exact e.symm) rfl oq (by omega) (by omega) (fun _ => trivial)) | (go_simp; first | exact goes_v | exact goes_litN hlκ rfl (by omega) (by omega) | (refine goes_enter ?_; first | fail)))))); refine ObsX.nil ?_; intro wz hEz hJz; simp only [finOn, List.drop_succ_cons, List.drop_zero, List.drop_nil]
          rintro v9 ⟨A9, n9, c9, rfl, O9⟩ v8 hv8
          go_simp
          clear hv8
          have u9 : n9 = nj + 1 := by have := O9.len; have := Ov.len; simp at *; omega
          subst u9
          have Hz := Hv.ext hEz gne'
          have Pz := Pv.ext hEz pne
          have Bz := below_ext Bv hEz (by omega) (by omega)
          have Tz : keepT hb w wz := Tv.grown Ov hEz
          have hzc := Hz.cell
          obtain ⟨x, hx⟩ : ∃ W, wz.setCell ⟨hb, 0, none⟩ (.slice A9 (nj + 1) c9) = W := ⟨_, rfl⟩
          have Hx := Hz.set_ 0 (.slice A9 (nj + 1) c9)
          simp only [List.setIfInBounds_toArray, List.set_cons_zero, List.set_cons_succ] at Hx
          have Px := Pz.far ⟨hb, 0, none⟩ (by show hb ≠ pk; omega) (.slice A9 (nj + 1) c9)
          have Ox := O9.away ⟨hb, 0, none⟩ (.slice A9 (nj + 1) c9) (fun a e => O9.ne_blk Hz hT a.block (by rw [e]; rfl))
          have Bx := Bz.setCell (p := ⟨hb, 0, none⟩) b1 (.slice A9 (nj + 1) c9)
          have Tx := Tz.set 0 (.slice A9 (nj + 1) c9)
          rw [hx] at Hx Px Ox Bx Tx
          have hxc := Hx.cell
          have pxc := Px.cell
          have xsz := Bx.size
          have bxs : base ≤ x.heap.size := by omega
          have bXs : B ≤ x.heap.size := by omega
          go_wp2_with fail
          clear hxc pxc hx
          refine regionN 16 [12, 15] (KeepR B) (fun c W => match c with | 0 => Own W base 5 A9 (nj + 1) c9 ((l ++ optsB (os.take j)) ++ [ub κ]) | _ + 1 => True) (by kernel_rfl) (by kernel_rfl) (by kernel_rfl) (KeepR.of B) (KeepR.trans B) Ox (fun c W W' hj hb => by cases c with | zero => exact Own.below hj hb | succ n => trivial) ?_; (iterate 16 (first | (apply ObsN.skip (by rfl) (by rfl)) | (apply ObsN.v (by rfl) (by rfl); (intro wo hE; (repeat (first | (intro v hv; ((first | (obtain ⟨Aq, cq, rfl, oq⟩ := hv) | (obtain ⟨Ar, nr, cr, rfl, or⟩ := hv; have ur : nj + 1 + 1 = nr := (by have := or.len; have := Ox.len; simp at *; omega); subst ur)))) | (intro _ _ k; try have hcv := cv k))); (have hco := (hE.ty hb _ T hT Hx).cell; have pco := (hE.ty pk _ _ (by decide) Px).cell; have bo := bD.below ((h0w.trans (Bx.mono h0B)).trans (hE.below.mono (by omega))); have hsz2 := hE.below.size); refine Goes.mk ?_; first | ((first | exact goes_appN _ _ rfl rfl hj rfl oq (by omega) (by omega) b2 (fun _ => trivial) | exact goes_appN _ _ rfl rfl or rfl bo (by omega) (by omega) b2 (fun _ => trivial))) | (go_simp; first | exact goes_v | exact goes_litB hlz rfl (by omega) | (refine goes_enter ?_; first | fail)))) | (apply ObsN.l (q := isBs 1 [ub z]) (by rfl) (by rfl) st_isBs; (intro wo hE; (repeat (first | (intro v hv; ((first | (obtain ⟨Aq, cq, rfl, oq⟩ := hv) | (obtain ⟨Ar, nr, cr, rfl, or⟩ := hv; have ur : nj + 1 + 1 = nr := (by have := or.len; have := Ox.len; simp at *; omega); subst ur)))) | (intro _ _ k; try have hcv := cv k))); (have hco := (hE.ty hb _ T hT Hx).cell; have pco := (hE.ty pk _ _ (by decide) Px).cell; have bo := bD.below ((h0w.trans (Bx.mono h0B)).trans (hE.below.mono (by omega))); have hsz2 := hE.below.size); refine Goes.mk ?_; first | ((first | exact goes_appN _ _ rfl rfl hj rfl oq (by omega) (by omega) b2 (fun _ => trivial) | exact goes_appN _ _ rfl rfl or rfl bo (by omega) (by omega) b2 (fun _ => trivial))) | (go_simp; first | exact goes_v | exact goes_litB hlz rfl (by omega) | (refine goes_enter ?_; first | fail)))) | (apply ObsN.l (q := isW base (((l ++ optsB (os.take j)) ++ [ub κ]) ++ [ub z])) (by rfl) (by rfl) st_isW; (intro wo hE; (repeat (first | (intro v hv; ((first | (obtain ⟨Aq, cq, rfl, oq⟩ := hv) | (obtain ⟨Ar, nr, cr, rfl, or⟩ := hv; have ur : nj + 1 + 1 = nr := (by have := or.len; have := Ox.len; simp at *; omega); subst ur)))) | (intro _ _ k; try have hcv := cv k))); (have hco := (hE.ty hb _ T hT Hx).cell; have pco := (hE.ty pk _ _ (by decide) Px).cell; have bo := bD.below ((h0w.trans (Bx.mono h0B)).trans (hE.below.mono (by omega))); have hsz2 := hE.below.size); refine Goes.mk ?_; first | ((first | exact goes_appN _ _ rfl rfl hj rfl oq (by omega) (by omega) b2 (fun _ => trivial) | exact goes_appN _ _ rfl rfl or rfl bo (by omega) (by omega) b2 (fun _ => trivial))) | (go_simp; first | exact goes_v | exact goes_litB hlz rfl (by omega) | (refine goes_enter ?_; first | fail)))) | (apply ObsN.l (q := isW base ((((l ++ optsB (os.take j)) ++ [ub κ]) ++ [ub z]) ++ D)) (by rfl) (by rfl) st_isW; (intro wo hE; (repeat (first | (intro v hv; ((first | (obtain ⟨Aq, cq, rfl, oq⟩ := hv) | (obtain ⟨Ar, nr, cr, rfl, or⟩ := hv; have ur : nj + 1 + 1 = nr := (by have := or.len; have := Ox.len; simp at *; omega); subst ur)))) | (intro _ _ k; try have hcv := cv k))); (have hco := (hE.ty hb _ T hT Hx).cell; have pco := (hE.ty pk _ _ (by decide) Px).cell; have bo := bD.below ((h0w.trans (Bx.mono h0B)).trans (hE.below.mono (by omega))); have hsz2 := hE.below.size); refine Goes.mk ?_; first | ((first | exact goes_appN _ _ rfl rfl hj rfl oq (by omega) (by omega) b2 (fun _ => trivial) | exact goes_appN _ _ rfl rfl or rfl bo (by omega) (by omega) b2 (fun _ => trivial))) | (go_simp; first | exact goes_v | exact goes_litB hlz rfl (by omega) | (refine goes_enter ?_; first | fail)))) | (apply ObsN.ev (by rfl) (by rfl); (intro wo hE hj; (repeat (first | (intro v hv; ((first | (obtain ⟨Aq, cq, rfl, oq⟩ := hv) | (obtain ⟨Ar, nr, cr, rfl, or⟩ := hv; have ur : nj + 1 + 1 = nr := (by have := or.len; have := Ox.len; simp at *; omega); subst ur)))) | (intro _ _ k; try have hcv := cv k))); (have hco := (hE.ty hb _ T hT Hx).cell; have pco := (hE.ty pk _ _ (by decide) Px).cell; have bo := bD.below ((h0w.trans (Bx.mono h0B)).trans (hE.below.mono (by omega))); have hsz2 := hE.below.size); refine GoesN.mk ?_; first | ((first | exact goes_appN _ _ rfl rfl hj rfl oq (by omega) (by omega) b2 (fun _ => trivial) | exact goes_appN _ _ rfl rfl or rfl bo (by omega) (by omega) b2 (fun _ => trivial))) | (go_simp; first | exact goes_v | exact goes_litB hlz rfl (by omega) | (refine goes_enter ?_; first | fail)))) | (apply ObsN.el (q := isBs 1 [ub z]) (by rfl) (by rfl) (by rfl) st_isBs; (intro wo hE hj; (repeat (first | (intro v hv; ((first | (obtain ⟨Aq, cq, rfl, oq⟩ := hv) | (obtain ⟨Ar, nr, cr, rfl, or⟩ := hv; have ur : nj + 1 + 1 = nr := (by have := or.len; have := Ox.len; simp at *; omega); subst ur)))) | (intro _ _ k; try have hcv := cv k))); (have hco := (hE.ty hb _ T hT Hx).cell; have pco := (hE.ty pk _ _ (by decide) Px).cell; have bo := bD.below ((h0w.trans (Bx.mono h0B)).trans (hE.below.mono (by omega))); have hsz2 := hE.below.size); refine GoesN.mk ?_; first | ((first | exact goes_appN _ _ rfl rfl hj rfl oq (by omega) (by omega) b2 (fun _ => trivial) | exact goes_appN _ _ rfl rfl or rfl bo (by omega) (by omega) b2 (fun _ => trivial))) | (go_simp; first | exact goes_v | exact goes_litB hlz rfl (by omega) | (refine goes_enter ?_; first | fail)))) | (apply ObsN.el (q := isW base (((l ++ optsB (os.take j)) ++ [ub κ]) ++ [ub z])) (by rfl) (by rfl) (by rfl) st_isW; (intro wo hE hj; (repeat (first | (intro v hv; ((first | (obtain ⟨Aq, cq, rfl, oq⟩ := hv) | (obtain ⟨Ar, nr, cr, rfl, or⟩ := hv; have ur : nj + 1 + 1 = nr := (by have := or.len; have := Ox.len; simp at *; omega); subst ur)))) | (intro _ _ k; try have hcv := cv k))); (have hco := (hE.ty hb _ T hT Hx).cell; have pco := (hE.ty pk _ _ (by decide) Px).cell; have bo := bD.below ((h0w.trans (Bx.mono h0B)).trans (hE.below.mono (by omega))); have hsz2 := hE.below.size); refine GoesN.mk ?_; first | ((first | exact goes_appN _ _ rfl rfl hj rfl oq (by omega) (by omega) b2 (fun _ => trivial) | exact goes_appN _ _ rfl rfl or rfl bo (by omega) (by omega) b2 (fun _ => trivial))) | (go_simp; first | exact goes_v | exact goes_litB hlz rfl (by omega) | (refine goes_enter ?_; first | fail)))) | (apply ObsN.el (q := isW base ((((l ++ optsB (os.take j)) ++ [ub κ]) ++ [ub z]) ++ D)) (by rfl) (by rfl) (by rfl) st_isW; (intro wo hE hj; (repeat (first | (intro v hv; ((first | (obtain ⟨Aq, cq, rfl, oq⟩ := hv) | (obtain ⟨Ar, nr, cr, rfl, or⟩ := hv; have ur : nj + 1 + 1 = nr := (by have := or.len; have := Ox.len; simp at *; omega); subst ur)))) | (intro _ _ k; try have hcv := cv k))); (have hco := (hE.ty hb _ T hT Hx).cell; have pco := (hE.ty pk _ _ (by decide) Px).cell; have bo := bD.below ((h0w.trans (Bx.mono h0B)).trans (hE.below.mono (by omega))); have hsz2 := hE.below.size); refine GoesN.mk ?_; first | ((first | exact goes_appN _ _ rfl rfl hj rfl oq (by omega) (by omega) b2 (fun _ => trivial) | exact goes_appN _ _ rfl rfl or rfl bo (by omega) (by omega) b2 (fun _ => trivial))) | (go_simp; first | exact goes_v | exact goes_litB hlz rfl (by omega) | (refine goes_enter ?_; first | fail)))) | (apply ObsN.ep (q := isBs 1 [ub z]) (by rfl) (by rfl) (by rfl) st_isBs; (intro wo hE hj; (repeat (first | (intro v hv; ((first | (obtain ⟨Aq, cq, rfl, oq⟩ := hv) | (obtain ⟨Ar, nr, cr, rfl, or⟩ := hv; have ur : nj + 1 + 1 = nr := (by have := or.len; have := Ox.len; simp at *; omega); subst ur)))) | (intro _ _ k; try have hcv := cv k))); (have hco := (hE.ty hb _ T hT Hx).cell; have pco := (hE.ty pk _ _ (by decide) Px).cell; have bo := bD.below ((h0w.trans (Bx.mono h0B)).trans (hE.below.mono (by omega))); have hsz2 := hE.below.size); refine GoesN.mk ?_; first | ((first | exact goes_appN _ _ rfl rfl hj rfl oq (by omega) (by omega) b2 (fun _ => trivial) | exact goes_appN _ _ rfl rfl or rfl bo (by omega) (by omega) b2 (fun _ => trivial))) | (go_simp; first | exact goes_v | exact goes_litB hlz rfl (by omega) | (refine goes_enter ?_; first | fail)))) | (apply ObsN.ep (q := isW base (((l ++ optsB (os.take j)) ++ [ub κ]) ++ [ub z])) (by rfl) (by rfl) (by rfl) st_isW; (intro wo hE hj; (repeat (first | (intro v hv; ((first | (obtain ⟨Aq, cq, rfl, oq⟩ := hv) | (obtain ⟨Ar, nr, cr, rfl, or⟩ := hv; have ur : nj + 1 + 1 = nr := (by have := or.len; have := Ox.len; simp at *; omega); subst ur)))) | (intro _ _ k; try have hcv := cv k))); (have hco := (hE.ty hb _ T hT Hx).cell; have pco := (hE.ty pk _ _ (by decide) Px).cell; have bo := bD.below ((h0w.trans (Bx.mono h0B)).trans (hE.below.mono (by omega))); have hsz2 := hE.below.size); refine GoesN.mk ?_; first | ((first | exact goes_appN _ _ rfl rfl hj rfl oq (by omega) (by omega) b2 (fun _ => trivial) | exact goes_appN _ _ rfl rfl or rfl bo (by omega) (by omega) b2 (fun _ => trivial))) | (go_simp; first | exact goes_v | exact goes_litB hlz rfl (by omega) | (refine goes_enter ?_; first | fail)))) | (apply ObsN.ep (q := isW base ((((l ++ optsB (os.take j)) ++ [ub κ]) ++ [ub z]) ++ D)) (by rfl) (by rfl) (by rfl) st_isW; (intro wo hE hj; (repeat (first | (intro v hv; ((first | (obtain ⟨Aq, cq, rfl, oq⟩ := hv) | (obtain ⟨Ar, nr, cr, rfl, or⟩ := hv; have ur : nj + 1 + 1 = nr := (by have := or.len; have := Ox.len; simp at *; omega); subst ur)))) | (intro _ _ k; try have hcv := cv k))); (have hco := (hE.ty hb _ T hT Hx).cell; have pco := (hE.ty pk _ _ (by decide) Px).cell; have bo := bD.below ((h0w.trans (Bx.mono h0B)).trans (hE.below.mono (by omega))); have hsz2 := hE.below.size); refine GoesN.mk ?_; first | ((first | exact goes_appN _ _ rfl rfl hj rfl oq (by omega) (by omega) b2 (fun _ => trivial) | exact goes_appN _ _ rfl rfl or rfl bo (by omega) (by omega) b2 (fun _ => trivial))) | (go_simp; first | exact goes_v | exact goes_litB hlz rfl (by omega) | (refine goes_enter ?_; first | fail)))))); refine ObsN.nil ?_; intro wz hEz hJz; simp only [finOn, kT, List.drop_succ_cons, List.drop_zero, List.drop_nil]
          rintro v15 ⟨A5, N, c5, rfl, O5⟩ v12 hv12 v11 hv11
          go_simp
          clear hv12 hv11
          have H5 := hEz.ty hb _ T hT Hx
          have B5 := KeepR.bel Bx hEz bXs
          have T5 := KeepR.keepT Tx hEz
          have h5c := H5.cell
          obtain ⟨x5, hx5⟩ : ∃ W, wz.setCell ⟨hb, 0, none⟩ (.slice A5 N c5) = W := ⟨_, rfl⟩
          have Hq := H5.set_ 0 (.slice A5 N c5)
          simp only [List.setIfInBounds_toArray, List.set_cons_zero, List.set_cons_succ] at Hq
          have Oq := O5.away ⟨hb, 0, none⟩ (.slice A5 N c5) (fun a e => O5.ne_blk H5 hT a.block (by rw [e]; rfl))
          have Bq := B5.setCell (p := ⟨hb, 0, none⟩) b1 (.slice A5 N c5)
          have Tq := T5.set 0 (.slice A5 N c5)
          rw [hx5] at Hq Oq Bq Tq
          have hqc := Hq.cell
          have uN : N = nj + 2 + m := by have := O5.len; have := Ox.len; have := bD.len; simp at *; omega
          have hN1 : (N : Int) ≤ 200 := by omega
          have hN2 : (20 : Int) ≤ N := by omega
          have UN := Lib.hid uN
          clear uN
          by_cases h60 : N ≤ 60
          · have h60' : decide (40 < (N : Int) - 20) = false := by simp; omega
            have h60i : (N : Int) ≤ 60 := by omega
            have Hf := Hq.set_ 1 (.bool false)
            simp only [List.setIfInBounds_toArray, List.set_cons_zero, List.set_cons_succ] at Hf
            have Of := Oq.away ⟨hb, 1, none⟩ (.bool false) (fun a e => Oq.ne_blk Hq hT a.block (by rw [e]; rfl))
            have Bf := Bq.setCell (p := ⟨hb, 1, none⟩) b1 (.bool false)
            have Tf := Tq.set 1 (.bool false)
            have hfc := Hf.cell
            go_wp2_with fail
            exact ⟨⟨j + 1, _, _, _, by omega, by go_num, h60, by have := UN.out; omega, Hf, by rw [HTK.out, HO.out, H4.out, HZ.out]; simpa using Of, Tf, Bf, GJ⟩, by simp [intOf]; omega⟩
          · have h60' : decide (40 < (N : Int) - 20) = true := by simp; omega
            have h60i : (60 : Int) < N := by omega
            have HF : Hid (okOs os = false) := okOs_long (j := j + 1) (by rw [HTK.out, HO.out, H4.out, HZ.out]; have := Oq.len; simp at *; omega)
            have Hf := Hq.set_ 1 (.bool true)
            simp only [List.setIfInBounds_toArray, List.set_cons_zero, List.set_cons_succ] at Hf
            have Bf := Bq.setCell (p := ⟨hb, 1, none⟩) b1 (.bool true)
            have Tf := Tq.set 1 (.bool true)
            have hfc := Hf.cell
            go_wp2_with fail
            go_end0
            exact ⟨rfl, _, _, _, by rw [HF.out]; exact Hf, fun h => absurd h (by rw [HF.out]; decide), Bf, Tf⟩
    · obtain rfl : j = on := by omega
      have htk : os.take j = os := List.take_of_length_le (by rw [HL.out]; exact Nat.le_refl _)
      rw [htk] at Oj
      have hlen : 20 + (optsB os).length = nj := by have := Oj.len; rw [List.length_append, hl20] at this; exact this
      have HY : Hid (okOs os = true) := okOs_yes (fun i hi => Gj.out i (by rw [← HL.out]; exact hi)) (by omega)
      obtain ⟨pn, hpn⟩ : ∃ pn, padN nj = pn := ⟨_, rfl⟩
      have HP : Hid ((l ++ optsB os) ++ zs pn = l ++ optL os) := by
        unfold Hid optL
        rw [List.append_assoc]
        congr 3
        rw [← hpn]; unfold padN; omega
      have hp3 : pn ≤ 3 := by rw [← hpn]; unfold padN; omega
      have hand := neg_and3 (n := (nj : Int)) (by omega) (by omega)
      rw [show ((nj : Int)).toNat = nj from rfl, hpn] at hand
      have HPN := Lib.hid hpn
      clear hpn htk hlen
      have gne' : hb ≠ g := Ne.symm gne
      have rsz : base ≤ wr.heap.size := by omega
      have rBs : B ≤ wr.heap.size := by omega
      go_wp2_with fail
      refine regionX 15 [14] g (fun c W => match c with | 0 => Own W base 5 (some ⟨g, 0, none⟩) nj cj (l ++ optsB os) | _ + 1 => True) (by kernel_rfl) (by kernel_rfl) (by kernel_rfl) Oj (fun c W W' hj hb => by cases c with | zero => exact Own.below hj hb | succ n => trivial) ?_; (iterate 15 (first | (apply ObsX.skip (by rfl) (by rfl)) | (apply ObsX.v (by rfl) (by rfl); (intro wo hE; (repeat (first | (intro v hv; (fail)) | (intro _ _ k; try have hcv := cv k))); (have hco := (Hj.ext hE gne').cell; have hsz2 := hE.size); refine Goes.mk ?_; first | (exact goes_zerosX _ _ 24 3 5 .i64 .i64 rfl Try.underlying24 Try.underlying3 info_u8 rfl hj rfl (by omega) (by omega) (by omega) (fun _ => trivial)) | (go_simp; first | exact goes_v | fail | (refine goes_enter ?_; first | fail)))) | (apply ObsX.ev (by rfl) (by rfl); (intro wo hE hj; (repeat (first | (intro v hv; (fail)) | (intro _ _ k; try have hcv := cv k))); (have hco := (Hj.ext hE gne').cell; have hsz2 := hE.size); refine GoesX.mk ?_; first | (exact goes_zerosX _ _ 24 3 5 .i64 .i64 rfl Try.underlying24 Try.underlying3 info_u8 rfl hj rfl (by omega) (by omega) (by omega) (fun _ => trivial)) | (go_simp; first | exact goes_v | fail | (refine goes_enter ?_; first | fail)))) | (apply ObsX.ep (q := (fun w'' v => ∃ A n' c', v = .slice A n' c' ∧ Own w'' base 5 A n' c' ((l ++ optsB os) ++ zs pn))) (by rfl) (by rfl) (by rfl) (fun _ _ _ ⟨A, n, c, e, k⟩ hb => ⟨A, n, c, e, k.below hb⟩); (intro wo hE hj; (repeat (first | (intro v hv; (fail)) | (intro _ _ k; try have hcv := cv k))); (have hco := (Hj.ext hE gne').cell; have hsz2 := hE.size); refine GoesX.mk ?_; first | (exact goes_zerosX _ _ 24 3 5 .i64 .i64 rfl Try.underlying24 Try.underlying3 info_u8 rfl hj rfl (by omega) (by omega) (by omega) (fun _ => trivial)) | (go_simp; first | exact goes_v | fail | (refine goes_enter ?_; first | fail)))))); refine ObsX.nil ?_; intro wz hEz hJz; simp only [finOn, List.drop_succ_cons, List.drop_zero, List.drop_nil]
      rintro v14 ⟨A5, N, c5, rfl, O5⟩
      go_simp
      have H5 := Hj.ext hEz gne'
      have B5 := below_ext Bj hEz (by omega) rBs
      have T5 : keepT hb w wz := Tj.grown Oj hEz
      have h5c := H5.cell
      have Hq := H5.set_ 0 (.slice A5 N c5)
      simp only [List.setIfInBounds_toArray, List.set_cons_zero, List.set_cons_succ] at Hq
      have Oq := O5.away ⟨hb, 0, none⟩ (.slice A5 N c5) (fun a e => O5.ne_blk H5 hT a.block (by rw [e]; rfl))
      have Bq := B5.setCell (p := ⟨hb, 0, none⟩) b1 (.slice A5 N c5)
      have Tq := T5.set 0 (.slice A5 N c5)
      go_wp2_with fail
      go_end0
      exact ⟨rfl, _, _, _, by rw [HY.out]; exact Hq, fun _ => by rw [← HP.out]; exact Oq, Bq, Tq⟩
end Go.Proofs.Ytjjhnjkmoogloaa
