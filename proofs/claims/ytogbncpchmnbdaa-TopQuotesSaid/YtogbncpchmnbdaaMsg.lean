/- Messages: whether two are the same; what one is. -/
import Derived.Test.YtogbncpchmnbdaaIpS
import Derived.Test.YtogbncpchmnbdaaSmall
namespace Go.Proofs.Ytogbncpchmnbdaa
open Go.RowKit
set_option linter.unusedVariables false
set_option linter.unusedSimpArgs false
set_option maxHeartbeats 4000000
set_option maxRecDepth 100000

structure Msg where
  ty : Int
  code : Int
  rest : Int
  dat : List UInt8
structure Msg.Ok (m : Msg) : Prop where
  ty : 0 ≤ m.ty ∧ m.ty ≤ 255
  code : 0 ≤ m.code ∧ m.code ≤ 255
  rest : 0 ≤ m.rest ∧ m.rest ≤ 4294967295
def zM : Msg := ⟨0, 0, 0, []⟩
def sameM (m n : Msg) : Bool := m.ty == n.ty && m.code == n.code && m.rest == n.rest && m.dat == n.dat
theorem sameM_self (m : Msg) : sameM m m = true := by simp [sameM]
theorem beq_comm' {α : Type} [BEq α] [LawfulBEq α] (a b : α) : (a == b) = (b == a) := by rw [Bool.eq_iff_iff, beq_iff_eq, beq_iff_eq]; exact ⟨Eq.symm, Eq.symm⟩
theorem sameM_comm (m n : Msg) : sameM m n = sameM n m := by unfold sameM; rw [beq_comm' m.ty, beq_comm' m.code, beq_comm' m.rest, beq_comm' m.dat]
def isErrM (m : Msg) : Bool := m.ty == 3 || m.ty == 11 || m.ty == 12
def isEchoM (m : Msg) : Bool := (m.ty == 8 || m.ty == 0) && m.code == 0
def asksM (m : Msg) : Bool := m.ty == 8 && m.code == 0
theorem msame_any (m n : Msg) (A1 : Option Addr) (n1 c1 : Nat) (B1 : Option Addr) (m1 d1 : Nat) (w : World) (k1 : Bs w A1 n1 c1 m.dat) (j1 : Bs w B1 m1 d1 n.dat) :
    Calls Try.prog 20 #[(.agg #[.int .u8 (m).ty, .int .u8 (m).code, .int .u32 (m).rest, .slice A1 n1 c1]), (.agg #[.int .u8 (n).ty, .int .u8 (n).code, .int .u32 (n).rest, .slice B1 m1 d1])] w fun e w' => e = .returned (.bool (sameM m n)) ∧ Below w.heap.size w w' := by
  go_enter Try.func20, Try.ntmps20
  go_wp2_with (go_at_call 47; ((with_reducible refine (bequalS_any A1 n1 c1 m.dat B1 m1 d1 n.dat _ ((k1.alloc _).alloc _) ((j1.alloc _).alloc _)).mono ?_); rintro e w1 ⟨rfl, rfl⟩))
  all_goals go_ret
  all_goals refine ⟨?_, by (repeat (first | with_reducible exact Below.refl _ _ | with_reducible refine below_drew ?_ | with_reducible refine below_drewN ?_ _ | with_reducible refine below_alloc ?_ (Nat.le_refl _) _ | with_reducible refine Below.setCell ?_ (by first | exact Nat.le_refl _ | (simp only []; omega)) _ | with_reducible assumption))⟩
  all_goals simp_all [sameM]
theorem rmsame_any (m n : Msg) (A1 : Option Addr) (n1 c1 : Nat) (B1 : Option Addr) (m1 d1 : Nat) (w : World) (k1 : Bs w A1 n1 c1 m.dat) (j1 : Bs w B1 m1 d1 n.dat) :
    Calls Try.prog 21 #[(.agg #[.int .u8 (m).ty, .int .u8 (m).code, .int .u32 (m).rest, .slice A1 n1 c1]), (.agg #[.int .u8 (n).ty, .int .u8 (n).code, .int .u32 (n).rest, .slice B1 m1 d1])] w fun e w' => e = .returned (.bool (sameM m n)) ∧ Below w.heap.size w w' := by
  have x1 := fun o o' => cv ((k1.alloc o).alloc o')
  have y1 := fun o o' => cv ((j1.alloc o).alloc o')
  have s1 := str_beqS m.dat n.dat
  go_enter Try.func21, Try.ntmps21
  go_wp2_with fail
  all_goals go_ret
  all_goals refine ⟨?_, by (repeat (first | with_reducible exact Below.refl _ _ | with_reducible refine below_drew ?_ | with_reducible refine below_drewN ?_ _ | with_reducible refine below_alloc ?_ (Nat.le_refl _) _ | with_reducible refine Below.setCell ?_ (by first | exact Nat.le_refl _ | (simp only []; omega)) _ | with_reducible assumption))⟩
  all_goals simp_all [sameM]
theorem riserr_any (m : Msg) (A1 : Option Addr) (n1 c1 : Nat) (w : World) :
    Calls Try.prog 27 #[(.agg #[.int .u8 (m).ty, .int .u8 (m).code, .int .u32 (m).rest, .slice A1 n1 c1])] w fun e w' => e = .returned (.bool (isErrM m)) ∧ Below w.heap.size w w' := by
  go_enter Try.func27, Try.ntmps27
  go_wp2_with fail
  all_goals go_ret
  all_goals refine ⟨?_, by (repeat (first | with_reducible exact Below.refl _ _ | with_reducible refine below_drew ?_ | with_reducible refine below_drewN ?_ _ | with_reducible refine below_alloc ?_ (Nat.le_refl _) _ | with_reducible refine Below.setCell ?_ (by first | exact Nat.le_refl _ | (simp only []; omega)) _ | with_reducible assumption))⟩
  all_goals simp_all [isErrM]
theorem risecho_any (m : Msg) (A1 : Option Addr) (n1 c1 : Nat) (w : World) :
    Calls Try.prog 28 #[(.agg #[.int .u8 (m).ty, .int .u8 (m).code, .int .u32 (m).rest, .slice A1 n1 c1])] w fun e w' => e = .returned (.bool (isEchoM m)) ∧ Below w.heap.size w w' := by
  go_enter Try.func28, Try.ntmps28
  go_wp2_with fail
  all_goals go_ret
  all_goals refine ⟨?_, by (repeat (first | with_reducible exact Below.refl _ _ | with_reducible refine below_drew ?_ | with_reducible refine below_drewN ?_ _ | with_reducible refine below_alloc ?_ (Nat.le_refl _) _ | with_reducible refine Below.setCell ?_ (by first | exact Nat.le_refl _ | (simp only []; omega)) _ | with_reducible assumption))⟩
  all_goals simp_all [isEchoM]
theorem rasks_any (m : Msg) (A1 : Option Addr) (n1 c1 : Nat) (w : World) :
    Calls Try.prog 29 #[(.agg #[.int .u8 (m).ty, .int .u8 (m).code, .int .u32 (m).rest, .slice A1 n1 c1])] w fun e w' => e = .returned (.bool (asksM m)) ∧ Below w.heap.size w w' := by
  go_enter Try.func29, Try.ntmps29
  go_wp2_with fail
  all_goals go_ret
  all_goals refine ⟨?_, by (repeat (first | with_reducible exact Below.refl _ _ | with_reducible refine below_drew ?_ | with_reducible refine below_drewN ?_ _ | with_reducible refine below_alloc ?_ (Nat.le_refl _) _ | with_reducible refine Below.setCell ?_ (by first | exact Nat.le_refl _ | (simp only []; omega)) _ | with_reducible assumption))⟩
  all_goals simp_all [asksM]
theorem andNot8_tab : ∀ a : Fin 256, (bits .andNot .u8 (a.val : Int) 8 == 0) = ((a.val : Int) == 8 || (a.val : Int) == 0) := by decide +kernel
theorem andNot8 {x : Int} (h0 : 0 ≤ x) (h1 : x ≤ 255) : (bits .andNot .u8 x 8 == 0) = (x == 8 || x == 0) := by
  have h := andNot8_tab ⟨x.toNat, by omega⟩
  have e : ((x.toNat : Nat) : Int) = x := by omega
  simp only [e] at h
  exact h
theorem isecho_any (m : Msg) (hm : m.Ok) (A1 : Option Addr) (n1 c1 : Nat) (w : World) :
    Calls Try.prog 25 #[(.agg #[.int .u8 (m).ty, .int .u8 (m).code, .int .u32 (m).rest, .slice A1 n1 c1])] w fun e w' => e = .returned (.bool (isEchoM m)) ∧ Below w.heap.size w w' := by
  have hn := andNot8 hm.ty.1 hm.ty.2
  go_enter Try.func25, Try.ntmps25
  go_wp2_with fail
  all_goals go_ret
  all_goals refine ⟨?_, by (repeat (first | with_reducible exact Below.refl _ _ | with_reducible refine below_drew ?_ | with_reducible refine below_drewN ?_ _ | with_reducible refine below_alloc ?_ (Nat.le_refl _) _ | with_reducible refine Below.setCell ?_ (by first | exact Nat.le_refl _ | (simp only []; omega)) _ | with_reducible assumption))⟩
  all_goals simp_all [isEchoM]
theorem asks_any (m : Msg) (hm : m.Ok) (A1 : Option Addr) (n1 c1 : Nat) (w : World) :
    Calls Try.prog 26 #[(.agg #[.int .u8 (m).ty, .int .u8 (m).code, .int .u32 (m).rest, .slice A1 n1 c1])] w fun e w' => e = .returned (.bool (asksM m)) ∧ Below w.heap.size w w' := by
  have he : asksM m = (isEchoM m && m.ty == 8) := by
    unfold asksM isEchoM
    cases m.ty == 8 <;> simp
  have HE := Lib.hid he
  clear he
  obtain ⟨b, hb⟩ : ∃ b, isEchoM m = b := ⟨_, rfl⟩
  have hc := fun W => isecho_any m hm A1 n1 c1 W
  rw [hb] at HE
  simp only [hb] at hc
  have P1 := blk_new w #[.int .u8 (m).ty, .int .u8 (m).code, .int .u32 (m).rest, .slice A1 n1 c1] 28 _ rfl
  go_enter Try.func26, Try.ntmps26
  cases b
  all_goals go_wp2_with (go_at_call 25; ((with_reducible refine (hc _).mono ?_); rintro e w1 ⟨rfl, hB1⟩); have pc := (P1.below hB1).cell)
  all_goals go_ret
  all_goals refine ⟨?_, below_then (by (repeat (first | with_reducible exact Below.refl _ _ | with_reducible refine below_drew ?_ | with_reducible refine below_drewN ?_ _ | with_reducible refine below_alloc ?_ (Nat.le_refl _) _ | with_reducible refine Below.setCell ?_ (by first | exact Nat.le_refl _ | (simp only []; omega)) _ | with_reducible assumption))) hB1⟩
  all_goals rw [HE.out]
  all_goals rfl
end Go.Proofs.Ytogbncpchmnbdaa
