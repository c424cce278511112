/- Frames: whether two are the same; their beginning. -/
import Derived.Test.YtogbncpchmnbdaaIpS
import Derived.Test.YtogbncpchmnbdaaSmall
import Derived.Test.YtogbncpchmnbdaaMsg
namespace Go.Proofs.Ytogbncpchmnbdaa
open Go.RowKit
set_option linter.unusedVariables false
set_option linter.unusedSimpArgs false
set_option maxHeartbeats 4000000
set_option maxRecDepth 100000

structure Frm where
  call : Int
  hs : Bool
  ha : Bool
  seq : Int
  ack : Int
  dat : List UInt8
structure Frm.Ok (f : Frm) : Prop where
  call : 0 ≤ f.call ∧ f.call ≤ 65535
  seq : 0 ≤ f.seq ∧ f.seq ≤ 4294967295
  ack : 0 ≤ f.ack ∧ f.ack ≤ 4294967295
def zF : Frm := ⟨0, false, false, 0, 0, []⟩
theorem zF_ok : zF.Ok := ⟨by decide, by decide, by decide⟩
def sameF (f g : Frm) : Bool := f.call == g.call && f.hs == g.hs && f.ha == g.ha && f.seq == g.seq && f.ack == g.ack && f.dat == g.dat
theorem sameF_self (f : Frm) : sameF f f = true := by simp [sameF]
theorem sameF_iff (f g : Frm) : sameF f g = true ↔ f = g := by
  unfold sameF
  cases f; cases g
  simp only [Bool.and_eq_true, beq_iff_eq, Frm.mk.injEq]
  constructor
  · rintro ⟨⟨⟨⟨⟨a, b⟩, c⟩, d⟩, e⟩, f⟩; exact ⟨a, b, c, d, e, f⟩
  · rintro ⟨a, b, c, d, e, f⟩; exact ⟨⟨⟨⟨⟨a, b⟩, c⟩, d⟩, e⟩, f⟩
theorem gsame_any (f g : Frm) (A1 : Option Addr) (n1 c1 : Nat) (B1 : Option Addr) (m1 d1 : Nat) (w : World) (k1 : Bs w A1 n1 c1 f.dat) (j1 : Bs w B1 m1 d1 g.dat) :
    Calls Try.prog 22 #[(.agg #[.int .u16 (f).call, .bool (f).hs, .bool (f).ha, .int .u32 (f).seq, .int .u32 (f).ack, .slice A1 n1 c1]), (.agg #[.int .u16 (g).call, .bool (g).hs, .bool (g).ha, .int .u32 (g).seq, .int .u32 (g).ack, .slice B1 m1 d1])] w fun e w' => e = .returned (.bool (sameF f g)) ∧ Below w.heap.size w w' := by
  go_enter Try.func22, Try.ntmps22
  go_wp2_with (go_at_call 47; ((with_reducible refine (bequalS_any A1 n1 c1 f.dat B1 m1 d1 g.dat _ ((k1.alloc _).alloc _) ((j1.alloc _).alloc _)).mono ?_); rintro e w1 ⟨rfl, rfl⟩))
  all_goals go_ret
  all_goals refine ⟨?_, by (repeat (first | with_reducible exact Below.refl _ _ | with_reducible refine below_drew ?_ | with_reducible refine below_drewN ?_ _ | with_reducible refine below_alloc ?_ (Nat.le_refl _) _ | with_reducible refine Below.setCell ?_ (by first | exact Nat.le_refl _ | (simp only []; omega)) _ | with_reducible assumption))⟩
  all_goals simp_all [sameF]
theorem rgsame_any (f g : Frm) (A1 : Option Addr) (n1 c1 : Nat) (B1 : Option Addr) (m1 d1 : Nat) (w : World) (k1 : Bs w A1 n1 c1 f.dat) (j1 : Bs w B1 m1 d1 g.dat) :
    Calls Try.prog 23 #[(.agg #[.int .u16 (f).call, .bool (f).hs, .bool (f).ha, .int .u32 (f).seq, .int .u32 (f).ack, .slice A1 n1 c1]), (.agg #[.int .u16 (g).call, .bool (g).hs, .bool (g).ha, .int .u32 (g).seq, .int .u32 (g).ack, .slice B1 m1 d1])] w fun e w' => e = .returned (.bool (sameF f g)) ∧ Below w.heap.size w w' := by
  have x1 := fun o o' => cv ((k1.alloc o).alloc o')
  have y1 := fun o o' => cv ((j1.alloc o).alloc o')
  have s1 := str_beqS f.dat g.dat
  go_enter Try.func23, Try.ntmps23
  go_wp2_with fail
  all_goals go_ret
  all_goals refine ⟨?_, by (repeat (first | with_reducible exact Below.refl _ _ | with_reducible refine below_drew ?_ | with_reducible refine below_drewN ?_ _ | with_reducible refine below_alloc ?_ (Nat.le_refl _) _ | with_reducible refine Below.setCell ?_ (by first | exact Nat.le_refl _ | (simp only []; omega)) _ | with_reducible assumption))⟩
  all_goals simp_all [sameF]
/-- A frame's first two bytes. -/
def b0F (s : Bool) : Int := if s then 48 else 32
def b1F (a : Bool) : Int := if a then 129 else 1
def grB (s a : Bool) : List UInt8 := [ub (b0F s), ub (b1F a), ub 136, ub 11]
theorem begin_any (s a : Bool) (w : World) :
    Calls Try.prog 45 #[.bool s, .bool a] w fun e w' => e = .returned (.agg #[.int .u8 (b0F s), .int .u8 (b1F a), .int .u8 136, .int .u8 11]) ∧ Below w.heap.size w w' := by
  have h1 : bits .or .u8 32 16 = 48 := by decide
  have h2 : bits .or .u8 1 128 = 129 := by decide
  cases s <;> cases a
  all_goals go_enter Try.func45, Try.ntmps45
  all_goals go_wp2_with fail
  all_goals first
    | exact bodyPost_ret (v := .agg #[.int .u8 32, .int .u8 1, .int .u8 136, .int .u8 11]) (by simp [results, Try.results45, go_sem]) rfl ⟨rfl, by (repeat (first | with_reducible exact Below.refl _ _ | with_reducible refine below_drew ?_ | with_reducible refine below_drewN ?_ _ | with_reducible refine below_alloc ?_ (Nat.le_refl _) _ | with_reducible refine Below.setCell ?_ (by first | exact Nat.le_refl _ | (simp only []; omega)) _ | with_reducible assumption))⟩
    | exact bodyPost_ret (v := .agg #[.int .u8 48, .int .u8 1, .int .u8 136, .int .u8 11]) (by simp [results, Try.results45, go_sem]) rfl ⟨rfl, by (repeat (first | with_reducible exact Below.refl _ _ | with_reducible refine below_drew ?_ | with_reducible refine below_drewN ?_ _ | with_reducible refine below_alloc ?_ (Nat.le_refl _) _ | with_reducible refine Below.setCell ?_ (by first | exact Nat.le_refl _ | (simp only []; omega)) _ | with_reducible assumption))⟩
    | exact bodyPost_ret (v := .agg #[.int .u8 32, .int .u8 129, .int .u8 136, .int .u8 11]) (by simp [results, Try.results45, go_sem]) rfl ⟨rfl, by (repeat (first | with_reducible exact Below.refl _ _ | with_reducible refine below_drew ?_ | with_reducible refine below_drewN ?_ _ | with_reducible refine below_alloc ?_ (Nat.le_refl _) _ | with_reducible refine Below.setCell ?_ (by first | exact Nat.le_refl _ | (simp only []; omega)) _ | with_reducible assumption))⟩
    | exact bodyPost_ret (v := .agg #[.int .u8 48, .int .u8 129, .int .u8 136, .int .u8 11]) (by simp [results, Try.results45, go_sem]) rfl ⟨rfl, by (repeat (first | with_reducible exact Below.refl _ _ | with_reducible refine below_drew ?_ | with_reducible refine below_drewN ?_ _ | with_reducible refine below_alloc ?_ (Nat.le_refl _) _ | with_reducible refine Below.setCell ?_ (by first | exact Nat.le_refl _ | (simp only []; omega)) _ | with_reducible assumption))⟩
end Go.Proofs.Ytogbncpchmnbdaa
