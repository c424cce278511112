/- The closure of ParseGre; what bytes say of a frame. -/
import Derived.Test.YtogbncpchmnbdaaGre3
import Derived.Test.YtogbncpchmnbdaaRegX
import Derived.Test.YtogbncpchmnbdaaEq
import Derived.Test.YtogbncpchmnbdaaPkt
namespace Go.Proofs.Ytogbncpchmnbdaa
open Go.RowKit
set_option linter.unusedVariables false
set_option linter.unusedSimpArgs false
set_option maxHeartbeats 4000000
set_option maxRecDepth 100000

/-- The next number of a frame. -/
theorem next_any (has : Bool) (gb ga : Nat) (A : Option Addr) (n c : Nat) (l : List UInt8) (v : Int) (v0 : 0 ≤ v) (v1 : v ≤ 100) (w : World) (K : Blk w gb #[.slice A n c] 24) (L : Blk w ga #[.int .i64 v] 3) (hne : gb ≠ ga) (hb : Bs w A n c l) :
    Calls Try.prog 55 #[.bool has, .pointer (some ⟨gb, 0, none⟩), .pointer (some ⟨ga, 0, none⟩)] w fun e w' => e = .returned (.int .u32 (if has then get32 l v else 0)) ∧ w.grownBy w' (some ga) ∧ Blk w' ga #[.int .i64 (if has then v + 4 else v)] 3 := by
  have kc := K.cell
  have lc := L.cell
  cases has with
  | false =>
    go_enter Try.func55, Try.ntmps55
    go_wp2_with fail
    go_ret
    exact ⟨rfl, ext_refl _ _, L⟩
  | true =>
    go_enter Try.func55, Try.ntmps55
    go_wp2_with (go_at_call 50; ((with_reducible refine (get32_any A n c l v _ hb).mono ?_); rintro e w1 ⟨rfl, hD⟩); have L1 := L.below hD.bel; have lc1 := L1.cell)
    go_ret
    refine ⟨rfl, ext_trans (ext_below hD.bel) (grownBy_setCell _ ⟨ga, 0, none⟩ _), ?_⟩
    have := L1.set_ 0 (.int .i64 (v + 4))
    simpa using this
def sB (l : List UInt8) : Bool := bt l 0 == 48
def aB (l : List UInt8) : Bool := bt l 1 == 129
def begB (l : List UInt8) : Bool := (bt l 0 == 32 || bt l 0 == 48) && (bt l 1 == 1 || bt l 1 == 129) && bt l 2 == 136 && bt l 3 == 11
def hdG (l : List UInt8) : Nat := 8 + (if sB l then 4 else 0) + (if aB l then 4 else 0)
def geE (p : Pkt) : Int := if p.proto ≠ 47 then 12 else if (p.dat.length : Int) < 8 then 3 else if begB p.dat = false then 4 else if (p.dat.length : Int) < hdG p.dat + get16 p.dat 4 then 3 else if hdG p.dat + get16 p.dat 4 < (p.dat.length : Int) then 4 else 0
def rdF (l : List UInt8) : Frm := ⟨get16 l 6, sB l, aB l, if sB l then get32 l 8 else 0, if aB l then get32 l (if sB l then 12 else 8) else 0, l.drop (hdG l)⟩
def geF (p : Pkt) : Frm := if geE p = 0 then rdF p.dat else zF
theorem rdF_ok (l : List UInt8) : (rdF l).Ok := by
  refine ⟨⟨get16_lo _ _, get16_hi _ _⟩, ?_, ?_⟩
  · show 0 ≤ (if sB l then get32 l 8 else 0) ∧ (if sB l then get32 l 8 else 0) ≤ 4294967295
    split
    · exact ⟨get32_lo _ _, get32_hi _ _⟩
    · exact ⟨by decide, by decide⟩
  · show 0 ≤ (if aB l then get32 l (if sB l then 12 else 8) else 0) ∧ (if aB l then get32 l (if sB l then 12 else 8) else 0) ≤ 4294967295
    split
    · exact ⟨get32_lo _ _, get32_hi _ _⟩
    · exact ⟨by decide, by decide⟩
theorem geF_ok (p : Pkt) : (geF p).Ok := by
  unfold geF; split
  · exact rdF_ok _
  · exact zF_ok
structure FrPost (w : World) (F : Frm) (E : Int) (e : Ending) (w' : World) : Prop where
  out : ∃ B m d, e = .returned (.tuple #[(.agg #[.int .u16 (F).call, .bool (F).hs, .bool (F).ha, .int .u32 (F).seq, .int .u32 (F).ack, .slice B m d]), .int .i64 E]) ∧ Own w' w.heap.size 5 B m d F.dat ∧ Below w.heap.size w w'
theorem frPost_no {w w' : World} {E : Int} (hB : Below w.heap.size w w') : FrPost w zF E (.returned (.tuple #[.agg #[.int .u16 0, .bool false, .bool false, .int .u32 0, .int .u32 0, .slice none 0 0], .int .i64 E])) w' :=
  ⟨none, 0, 0, rfl, own_nil _ _ _, hB⟩
/-! The program's flags. -/
def sW (l : List UInt8) : Bool := bits .and .u8 (bt l 0) 16 != 0
def aW (l : List UInt8) : Bool := bits .and .u8 (bt l 1) 128 != 0
def eqW (l : List UInt8) : Bool := bt l 0 == b0F (sW l) && bt l 1 == b1F (aW l) && bt l 2 == 136 && bt l 3 == 11
theorem s_tab : ∀ a : Fin 256, ((a.val : Int) == b0F (bits .and .u8 (a.val : Int) 16 != 0)) = ((a.val : Int) == 32 || (a.val : Int) == 48) ∧ (((a.val : Int) == 32 || (a.val : Int) == 48) = true → (bits .and .u8 (a.val : Int) 16 != 0) = ((a.val : Int) == 48)) := by decide +kernel
theorem a_tab : ∀ a : Fin 256, ((a.val : Int) == b1F (bits .and .u8 (a.val : Int) 128 != 0)) = ((a.val : Int) == 1 || (a.val : Int) == 129) ∧ (((a.val : Int) == 1 || (a.val : Int) == 129) = true → (bits .and .u8 (a.val : Int) 128 != 0) = ((a.val : Int) == 129)) := by decide +kernel
theorem eqW_begB (l : List UInt8) : eqW l = begB l ∧ (begB l = true → sW l = sB l ∧ aW l = aB l) := by
  have h0 := s_tab ⟨(bt l 0).toNat, by have := bt_lo l 0; have := bt_hi l 0; omega⟩
  have h1 := a_tab ⟨(bt l 1).toNat, by have := bt_lo l 1; have := bt_hi l 1; omega⟩
  have e0 : (((bt l 0).toNat : Nat) : Int) = bt l 0 := by have := bt_lo l 0; omega
  have e1 : (((bt l 1).toNat : Nat) : Int) = bt l 1 := by have := bt_lo l 1; omega
  simp only [e0] at h0
  simp only [e1] at h1
  constructor
  · unfold eqW begB sW aW
    rw [h0.1, h1.1]
  · intro h
    unfold begB at h
    simp only [Bool.and_eq_true] at h
    exact ⟨h0.2 h.1.1.1, h1.2 h.1.1.2⟩
theorem eq_first (l : List UInt8) (s a : Bool) (W : World) : (Op.equalIn 10000 61 (.agg #[.int .u8 (bt l 0), .int .u8 (bt l 1), .int .u8 (bt l 2), .int .u8 (bt l 3)]) (.agg #[.int .u8 (b0F s), .int .u8 (b1F a), .int .u8 136, .int .u8 11])).run Try.prog W =
    .ok (bt l 0 == b0F s && bt l 1 == b1F a && bt l 2 == 136 && bt l 3 == 11) W := by
  obtain ⟨i8, hi8, _, hs8, _⟩ := info_parts info_u8
  have := run_eq_ints (P := Try.prog) W 9998 61 5 .u8 4
    #[.int .u8 (bt l 0), .int .u8 (bt l 1), .int .u8 (bt l 2), .int .u8 (bt l 3)] #[.int .u8 (b0F s), .int .u8 (b1F a), .int .u8 136, .int .u8 11]
    (fun i => [bt l 0, bt l 1, bt l 2, bt l 3].getD i 0) (fun i => [b0F s, b1F a, 136, 11].getD i 0)
    Try.underlying61 Try.underlying5 hi8 hs8 (fun i hi => by
      match i, hi with
      | 0, _ | 1, _ | 2, _ | 3, _ => rfl) (fun i hi => by
      match i, hi with
      | 0, _ | 1, _ | 2, _ | 3, _ => rfl)
  refine this.trans ?_
  congr 1
  rw [Bool.eq_iff_iff]
  simp [List.range, List.range.loop, and_assoc]
end Go.Proofs.Ytogbncpchmnbdaa
