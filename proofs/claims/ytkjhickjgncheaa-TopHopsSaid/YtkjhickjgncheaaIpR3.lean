import Derived.Test.YtkjhickjgncheaaIpR2
namespace Go.Proofs.Ytkjhickjgncheaa
open Go.RowKit
set_option linter.unusedVariables false
set_option linter.unusedSimpArgs false
set_option maxHeartbeats 4000000
set_option maxRecDepth 100000

theorem rParse_any (A : Option Addr) (n c : Nat) (l : List UInt8) (w : World) (hb : Bs w A n c l) :
    Calls Try.prog 22 #[.slice A n c] w (RdPost w false l) := by
  go_enter Try.func22, Try.ntmps22
  go_wp2_with fail
  refine (rread_any A n c l false _ (hb.alloc _)).mono ?_
  intro e w1 hP
  obtain ⟨A1, n1, c1, A2, n2, c2, rfl, k1, k2, a1, a2, T1⟩ := hP.out
  have P1 := (blk_new w #[.int .u8 0, .int .u16 0, .bool false, .int .u8 0, .int .u8 0, .int .u32 0, .int .u32 0, .slice none 0 0, .slice none 0 0] 26 _ rfl).below T1
  have T := below_then ((Below.refl _ w).alloc (Nat.le_refl _) _) T1
  clear hP T1
  have pc := P1.cell
  generalize hp : rdPk false l = p at *
  generalize he : rdE false l = e at *
  have HP := Lib.hid hp
  have HE := Lib.hid he
  clear hp he
  go_wp2_with fail
  obtain ⟨w2, hw2, S⟩ := store9 P1 (.int .u8 p.tos) (.int .u16 p.id) (.bool p.keep) (.int .u8 p.ttl) (.int .u8 p.proto) (.int .u32 p.src) (.int .u32 p.dst) (.slice A1 n1 c1) (.slice A2 n2 c2)
  rw [hw2]
  have K1 := S.bs k1 (fun x e => by have := a1 x e; simp at this; omega)
  have K2 := S.bs k2 (fun x e => by have := a2 x e; simp at this; omega)
  have TF := S.bel T (Nat.le_refl _)
  have pf := S.blk.cell
  clear hw2 S P1 pc k1 k2 T
  refine bodyPost_ret (v := .tuple #[(.agg #[.int .u8 (p).tos, .int .u16 (p).id, .bool (p).keep, .int .u8 (p).ttl, .int .u8 (p).proto, .int .u32 (p).src, .int .u32 (p).dst, .slice A1 n1 c1, .slice A2 n2 c2]), .int .i64 e]) (by simp [results, Try.results22, go_sem, pf]) rfl ⟨A1, n1, c1, A2, n2, c2, by rw [HP.out, HE.out], by rw [HP.out]; exact K1, by rw [HP.out]; exact K2, fun x e => by have := a1 x e; simp at this; omega, fun x e => by have := a2 x e; simp at this; omega, TF⟩
theorem rQuote_any (A : Option Addr) (n c : Nat) (l : List UInt8) (w : World) (hb : Bs w A n c l) :
    Calls Try.prog 24 #[.slice A n c] w (RdPost w true l) := by
  go_enter Try.func24, Try.ntmps24
  go_wp2_with fail
  refine (rread_any A n c l true _ (hb.alloc _)).mono ?_
  intro e w1 hP
  obtain ⟨A1, n1, c1, A2, n2, c2, rfl, k1, k2, a1, a2, T1⟩ := hP.out
  have P1 := (blk_new w #[.int .u8 0, .int .u16 0, .bool false, .int .u8 0, .int .u8 0, .int .u32 0, .int .u32 0, .slice none 0 0, .slice none 0 0] 26 _ rfl).below T1
  have T := below_then ((Below.refl _ w).alloc (Nat.le_refl _) _) T1
  clear hP T1
  have pc := P1.cell
  generalize hp : rdPk true l = p at *
  generalize he : rdE true l = e at *
  have HP := Lib.hid hp
  have HE := Lib.hid he
  clear hp he
  go_wp2_with fail
  obtain ⟨w2, hw2, S⟩ := store9 P1 (.int .u8 p.tos) (.int .u16 p.id) (.bool p.keep) (.int .u8 p.ttl) (.int .u8 p.proto) (.int .u32 p.src) (.int .u32 p.dst) (.slice A1 n1 c1) (.slice A2 n2 c2)
  rw [hw2]
  have K1 := S.bs k1 (fun x e => by have := a1 x e; simp at this; omega)
  have K2 := S.bs k2 (fun x e => by have := a2 x e; simp at this; omega)
  have TF := S.bel T (Nat.le_refl _)
  have pf := S.blk.cell
  clear hw2 S P1 pc k1 k2 T
  refine bodyPost_ret (v := .tuple #[(.agg #[.int .u8 (p).tos, .int .u16 (p).id, .bool (p).keep, .int .u8 (p).ttl, .int .u8 (p).proto, .int .u32 (p).src, .int .u32 (p).dst, .slice A1 n1 c1, .slice A2 n2 c2]), .int .i64 e]) (by simp [results, Try.results24, go_sem, pf]) rfl ⟨A1, n1, c1, A2, n2, c2, by rw [HP.out, HE.out], by rw [HP.out]; exact K1, by rw [HP.out]; exact K2, fun x e => by have := a1 x e; simp at this; omega, fun x e => by have := a2 x e; simp at this; omega, TF⟩
end Go.Proofs.Ytkjhickjgncheaa
