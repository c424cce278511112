/- Packets, as plain data; what bytes say of one. -/
import Derived.Test.YtogbncpchmnbdaaBase
namespace Go.Proofs.Ytogbncpchmnbdaa
open Go.RowKit
structure Pkt where
  tos : Int
  id : Int
  keep : Bool
  ttl : Int
  proto : Int
  src : Int
  dst : Int
  opt : List UInt8
  dat : List UInt8
/-- Its numbers are of their kinds. -/
structure Pkt.Ok (p : Pkt) : Prop where
  tos : 0 ≤ p.tos ∧ p.tos ≤ 255
  id : 0 ≤ p.id ∧ p.id ≤ 65535
  ttl : 0 ≤ p.ttl ∧ p.ttl ≤ 255
  proto : 0 ≤ p.proto ∧ p.proto ≤ 255
  src : 0 ≤ p.src ∧ p.src ≤ 4294967295
  dst : 0 ≤ p.dst ∧ p.dst ≤ 4294967295
def zP : Pkt := ⟨0, 0, false, 0, 0, 0, 0, [], []⟩
theorem zP_ok : zP.Ok := ⟨by decide, by decide, by decide, by decide, by decide, by decide⟩
def sameP (p q : Pkt) : Bool := p.tos == q.tos && p.id == q.id && p.keep == q.keep && p.ttl == q.ttl && p.proto == q.proto && p.src == q.src && p.dst == q.dst && p.opt == q.opt && p.dat == q.dat
theorem sameP_self (p : Pkt) : sameP p p = true := by simp [sameP]
theorem sameP_comm (p q : Pkt) : sameP p q = sameP q p := by
  have h : ∀ {α : Type} [BEq α] [LawfulBEq α] (a b : α), (a == b) = (b == a) := fun a b => by
    rw [Bool.eq_iff_iff, beq_iff_eq, beq_iff_eq]; exact ⟨Eq.symm, Eq.symm⟩
  unfold sameP
  rw [h p.tos, h p.id, h p.keep, h p.ttl, h p.proto, h p.src, h p.dst, h p.opt, h p.dat]
theorem sameP_iff (p q : Pkt) : sameP p q = true ↔ p = q := by
  unfold sameP
  cases p; cases q
  simp only [Bool.and_eq_true, beq_iff_eq, Pkt.mk.injEq]
  constructor
  · rintro ⟨⟨⟨⟨⟨⟨⟨⟨a, b⟩, c⟩, d⟩, e⟩, f⟩, g⟩, h⟩, i⟩; exact ⟨a, b, c, d, e, f, g, h, i⟩
  · rintro ⟨a, b, c, d, e, f, g, h, i⟩; exact ⟨⟨⟨⟨⟨⟨⟨⟨a, b⟩, c⟩, d⟩, e⟩, f⟩, g⟩, h⟩, i⟩
def hdOf (l : List UInt8) : Int := 4 * (bt l 0 % 16)
def alOf (l : List UInt8) : Int := if (l.length : Int) < get16 l 2 then l.length else get16 l 2
def lenE (q : Bool) (l : List UInt8) : Int :=
  if (l.length : Int) < 20 then 3 else if bt l 0 / 16 ≠ 4 then 6 else if hdOf l < 20 then 4 else if (l.length : Int) < hdOf l then 3 else if get16 l 2 < hdOf l then 4 else
  if q = false ∧ (l.length : Int) < get16 l 2 then 3 else 0
def rdE (q : Bool) (l : List UInt8) : Int :=
  if lenE q l ≠ 0 then lenE q l else if csum (l.take (hdOf l).toNat) ≠ 0 then 5 else if get16 l 6 % 16384 ≠ 0 then 7 else if 32768 ≤ get16 l 6 then 4 else
  if q = true ∧ alOf l - hdOf l < 8 then 3 else 0
def rdP (l : List UInt8) : Pkt := ⟨bt l 1, get16 l 4, get16 l 6 != 0, bt l 8, bt l 9, get32 l 12, get32 l 16, (l.take (hdOf l).toNat).drop 20, (l.take (alOf l).toNat).drop (hdOf l).toNat⟩
def rdPk (q : Bool) (l : List UInt8) : Pkt := if rdE q l = 0 then rdP l else zP
theorem rdP_ok (l : List UInt8) : (rdP l).Ok := ⟨⟨bt_lo _ _, bt_hi _ _⟩, ⟨get16_lo _ _, get16_hi _ _⟩, ⟨bt_lo _ _, bt_hi _ _⟩, ⟨bt_lo _ _, bt_hi _ _⟩, ⟨get32_lo _ _, get32_hi _ _⟩, ⟨get32_lo _ _, get32_hi _ _⟩⟩
theorem rdPk_ok (q : Bool) (l : List UInt8) : (rdPk q l).Ok := by
  unfold rdPk; split
  · exact rdP_ok l
  · exact zP_ok
/-- What is known where the lengths are good. -/
theorem len_facts {q : Bool} {l : List UInt8} (h : lenE q l = 0) : 20 ≤ (l.length : Int) ∧ bt l 0 / 16 = 4 ∧ 20 ≤ hdOf l ∧ hdOf l ≤ l.length ∧ hdOf l ≤ alOf l ∧ alOf l ≤ l.length ∧ hdOf l ≤ 60 ∧ hdOf l ≤ get16 l 2 ∧ (q = false → get16 l 2 ≤ l.length) := by
  have b0 := bt_lo l 0
  have b1 := bt_hi l 0
  have hh : hdOf l ≤ 60 := by unfold hdOf; omega
  unfold lenE at h
  split at h
  · omega
  · split at h
    · omega
    · rename_i h2
      split at h
      · omega
      · split at h
        · omega
        · split at h
          · omega
          · split at h
            · omega
            · rename_i hx
              have ha : hdOf l ≤ alOf l ∧ alOf l ≤ l.length := by unfold alOf; split <;> omega
              refine ⟨by omega, by simpa using h2, by omega, by omega, ha.1, ha.2, hh, by omega, fun hq => ?_⟩
              rcases Int.lt_or_le (l.length : Int) (get16 l 2) with hy | hy
              · exact absurd ⟨hq, hy⟩ hx
              · exact hy
end Go.Proofs.Ytogbncpchmnbdaa
