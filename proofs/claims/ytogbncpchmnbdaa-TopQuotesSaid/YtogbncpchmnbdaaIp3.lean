import Derived.Test.YtogbncpchmnbdaaIp2
import Derived.Defers
import Derived.Recover
import Derived.WideLaws
import Derived.RegionTactic
namespace Go.Proofs.Ytogbncpchmnbdaa
open Go.RowKit
set_option linter.unusedVariables false
set_option linter.unusedSimpArgs false
set_option maxHeartbeats 4000000
set_option maxRecDepth 100000

theorem catch_fault (a b : Nat) (x e : Int) (c0 c1 c2 c3 c4 c5 c6 c7 c8 : Value) (w : World) (hab : a ≠ b) (K : Blk w a #[c0, c1, c2, c3, c4, c5, c6, c7, c8] 26) (L : Blk w b #[.int .i64 x] 31) :
    CallsD Try.prog 68 #[.pointer (some ⟨a, 0, none⟩), .pointer (some ⟨b, 0, none⟩)] (.panicking [{ v := fault e, recovered := false }]) w fun r u' w' =>
      r = .returned (.tuple #[]) ∧ u' = .panicking [{ v := fault e, recovered := true }] ∧ Blk w' a #[.int .u8 0, .int .u16 0, .bool false, .int .u8 0, .int .u8 0, .int .u32 0, .int .u32 0, .slice none 0 0, .slice none 0 0] 26 ∧ Blk w' b #[.int .i64 e] 31 ∧
        (∀ B w0, Below B w0 w → B ≤ a → B ≤ b → Below B w0 w') := by
  have hta : ∀ (W : World) (v : Value), (Instr.typeAssert (.iface 87 v) 20 87 true).run Try.prog W = .ok (.tuple #[v, .bool true]) W := fun W v => by kernel_rfl
  have ka := K.cell
  have kb := L.cell
  have la := K.lt
  have lb := L.lt
  refine callsD_of_wpS Try.func68 rfl fun c₀ cs hu => ?_
  apply wpS_seq
  apply wpS_region
  simp [wpOpsS, go_sem, recoverD, hu, Try.ntmps68, Exit.thenS, fault]
  refine wpS_of_wp ?_
  simp only [List.size_toArray, List.length_cons, List.length_nil, Nat.reduceAdd, Nat.reduceSub, Array.replicate_succ, Array.replicate_zero, List.push_toArray, List.append_toArray, List.nil_append, List.cons_append, List.setIfInBounds_toArray, List.set_cons_zero, List.set_cons_succ]
  go_wp2_with fail
  have K1 := K.alloc (.cells #[.int .i64 e] 87)
  have L1 := L.alloc (.cells #[.int .i64 e] 87)
  have F1 := blk_new w #[.int .i64 e] 87 _ rfl
  have hB : ∀ B w0, Below B w0 w → B ≤ a → Below B w0 (w.alloc (.cells #[.int .i64 e] 87)) := fun B w0 h hB => h.alloc (by omega) _
  generalize hw1 : w.alloc (.cells #[.int .i64 e] 87) = w1 at *
  obtain ⟨f, hf⟩ : ∃ f, w.heap.size = f := ⟨_, rfl⟩
  rw [hf] at F1 la lb ⊢
  have nfa : a ≠ f := by omega
  have nfb : b ≠ f := by omega
  clear hw1 hf ka kb K L
  have ka := K1.cell
  have kb := L1.cell
  have kf := F1.cell
  have ra : ∀ (W : World) (j : Nat) (v : Value), (W.setCell ⟨a, j, none⟩ v).cell? ⟨f, 0, none⟩ = W.cell? ⟨f, 0, none⟩ := fun W j v => World.cell?_setCell_far W _ _ v nfa
  have rb : ∀ (W : World) (j : Nat) (v : Value), (W.setCell ⟨a, j, none⟩ v).cell? ⟨b, 0, none⟩ = W.cell? ⟨b, 0, none⟩ := fun W j v => World.cell?_setCell_far W _ _ v hab
  go_region
  go_wp2_with fail
  obtain ⟨w2, hw2, S⟩ := store9 K1 (.int .u8 0) (.int .u16 0) (.bool false) (.int .u8 0) (.int .u8 0) (.int .u32 0) (.int .u32 0) (.slice none 0 0) (.slice none 0 0)
  rw [hw2]
  have hfin : Blk (w2.setCell ⟨b, 0, none⟩ (.int .i64 e)).drew a #[.int .u8 0, .int .u16 0, .bool false, .int .u8 0, .int .u8 0, .int .u32 0, .int .u32 0, .slice none 0 0, .slice none 0 0] 26 ∧ Blk (w2.setCell ⟨b, 0, none⟩ (.int .i64 e)).drew b #[.int .i64 e] 31 ∧
      (∀ B w0, Below B w0 w → B ≤ a → B ≤ b → Below B w0 (w2.setCell ⟨b, 0, none⟩ (.int .i64 e)).drew) :=
    ⟨(S.blk.far ⟨b, 0, none⟩ (Ne.symm hab) _).drew, ((S.other (Ne.symm hab) L1).set_ 0 _).drew, fun B w0 h h1 h2 => below_drew ((S.bel (hB B w0 h h1) h1).setCell (p := ⟨b, 0, none⟩) h2 _)⟩
  exact ⟨rfl, _, rfl, .tuple #[], results_none rfl _ _ _, rfl, rfl, hfin⟩
theorem catch_idle (a b : Nat) (w : World) :
    CallsD Try.prog 68 #[.pointer (some ⟨a, 0, none⟩), .pointer (some ⟨b, 0, none⟩)] .returning w fun r u' w' => r = .returned (.tuple #[]) ∧ u' = .returning ∧ w = w' := by
  refine callsD_of_wpS Try.func68 rfl fun c₀ cs hu => ?_
  apply wpS_seq
  apply wpS_region
  simp [wpOpsS, go_sem, recoverD, hu, Try.ntmps68, Exit.thenS]
  refine wpS_of_wp ?_
  simp only [List.size_toArray, List.length_cons, List.length_nil, Nat.reduceAdd, Nat.reduceSub, Array.replicate_succ, Array.replicate_zero, List.push_toArray, List.append_toArray, List.nil_append, List.cons_append, List.setIfInBounds_toArray, List.set_cons_zero, List.set_cons_succ]
  go_wp2_with fail
  refine ⟨rfl, .returning, ?_, .tuple #[], results_none rfl _ _ _, rfl, rfl, rfl⟩
  rw [← hu]
structure RdPost (w : World) (q : Bool) (l : List UInt8) (e : Ending) (w' : World) : Prop where
  out : ∃ A1 n1 c1 A2 n2 c2, e = .returned (.tuple #[(.agg #[.int .u8 (rdPk q l).tos, .int .u16 (rdPk q l).id, .bool (rdPk q l).keep, .int .u8 (rdPk q l).ttl, .int .u8 (rdPk q l).proto, .int .u32 (rdPk q l).src, .int .u32 (rdPk q l).dst, .slice A1 n1 c1, .slice A2 n2 c2]), .int .i64 (rdE q l)]) ∧ Bs w' A1 n1 c1 (rdPk q l).opt ∧ Bs w' A2 n2 c2 (rdPk q l).dat ∧ (∀ a, A1 = some a → w.heap.size ≤ a.block) ∧ (∀ a, A2 = some a → w.heap.size ≤ a.block) ∧ Below w.heap.size w w'
theorem read_any (A : Option Addr) (n c : Nat) (l : List UInt8) (q : Bool) (le : Int) (hle : le = if q then 8 else 0) (w : World) (hb : Bs w A n c l) :
    Calls Try.prog 58 #[.slice A n c, .bool q, .int .i64 le] w (RdPost w q l) := by
  have hmf : ∀ (fn : Fn) (first cap : Array Value) (w : World), (Instr.makeFunc fn first cap).run Try.prog w = .ok (.func fn first cap) w := fun _ _ _ _ => rfl
  have HLE := Lib.hid hle
  clear hle
  go_enter_defers Try.func58, Try.ntmps58
  go_wp2_with fail
  obtain ⟨w0, hw0⟩ : ∃ w0, (w.alloc (.cells #[.int .u8 0, .int .u16 0, .bool false, .int .u8 0, .int .u8 0, .int .u32 0, .int .u32 0, .slice none 0 0, .slice none 0 0] 26)).alloc (.cells #[.int .i64 0] 31) = w0 := ⟨_, rfl⟩
  have P0 : Blk w0 w.heap.size #[.int .u8 0, .int .u16 0, .bool false, .int .u8 0, .int .u8 0, .int .u32 0, .int .u32 0, .slice none 0 0, .slice none 0 0] 26 := by rw [← hw0]; exact (blk_new w _ _ _ rfl).alloc _
  have E0 : Blk w0 (w.heap.size + 1) #[.int .i64 0] 31 := by rw [← hw0]; exact blk_new _ _ _ _ (by simp)
  have T0 : Below w.heap.size w w0 := by rw [← hw0]; (repeat (first | with_reducible exact Below.refl _ _ | with_reducible refine below_drew ?_ | with_reducible refine below_drewN ?_ _ | with_reducible refine below_alloc ?_ (Nat.le_refl _) _ | with_reducible refine Below.setCell ?_ (by first | exact Nat.le_refl _ | (simp only []; omega)) _ | with_reducible assumption))
  have hs : w0.heap.size = w.heap.size + 1 + 1 := by rw [← hw0]; simp
  have hb0 := hb.below T0
  obtain ⟨a, ha⟩ : ∃ a, w.heap.size = a := ⟨_, rfl⟩
  obtain ⟨b, hb'⟩ : ∃ b, a + 1 = b := ⟨_, rfl⟩
  rw [hw0, ← hs]
  rw [ha] at hs P0 E0
  rw [hb'] at hs E0
  rw [ha, hb']
  have hne : a ≠ b := by omega
  refine (packet_any w0 w0.heap.size A n c l q _ hb0 (below_alloc (Below.refl _ w0) (Nat.le_refl _) _) (Nat.le_refl _) (blk_new w0 _ _ _ rfl) le HLE.out).mono ?_
  intro e w1 hP
  have P1 := P0.below hP.bel
  have E1 := E0.below hP.bel
  have T1 := below_then T0 hP.bel
  clear hw0
  by_cases hE : rdE q l = 0
  · obtain ⟨A1, n1, c1, A2, n2, c2, rfl, k1, k2, a1, a2⟩ := hP.ok hE
    have hR : rdPk q l = rdP l := by unfold rdPk; rw [if_pos hE]
    obtain ⟨p, hp⟩ : ∃ p, rdP l = p := ⟨_, rfl⟩
    rw [hp] at k1 k2 hR ⊢
    have HE := Lib.hid hE
    have HR := Lib.hid hR
    have HA := Lib.hid ha
    have HB := Lib.hid hb'
    have HS := Lib.hid hs
    clear hE hP hp hR ha hb' hs
    have pc := P1.cell
    have ec := E1.cell
    have nb : ∀ (W : World) (j : Nat) (v : Value), (W.setCell ⟨a, j, none⟩ v).cell? ⟨b, 0, none⟩ = W.cell? ⟨b, 0, none⟩ := fun W j v => World.cell?_setCell_far W _ _ v hne
    go_wp2_with fail
    obtain ⟨w2, hw2, S⟩ := store9 P1 (.int .u8 p.tos) (.int .u16 p.id) (.bool p.keep) (.int .u8 p.ttl) (.int .u8 p.proto) (.int .u32 p.src) (.int .u32 p.dst) (.slice A1 n1 c1) (.slice A2 n2 c2)
    rw [hw2]
    have hsz := HA.out
    have hsb := HB.out
    have hss := HS.out
    have P3 := S.blk.far ⟨b, 0, none⟩ (Ne.symm hne) (.int .i64 0)
    have E3 : Blk (w2.setCell ⟨b, 0, none⟩ (.int .i64 0)) b #[.int .i64 0] 31 := (S.other (Ne.symm hne) E1).set_ 0 _
    have T3 := (S.bel T1 (by omega)).setCell (p := ⟨b, 0, none⟩) (by simp; omega) (.int .i64 0)
    have K1 := (S.bs k1 (fun x e => by have := a1 x e; omega)).away ⟨b, 0, none⟩ (fun x e => by have := a1 x e; simp; omega) (.int .i64 0)
    have K2 := (S.bs k2 (fun x e => by have := a2 x e; omega)).away ⟨b, 0, none⟩ (fun x e => by have := a2 x e; simp; omega) (.int .i64 0)
    clear hsz hsb hss hw2 S pc ec nb k1 k2 T1 P1 E1
    generalize w2.setCell ⟨b, 0, none⟩ (.int .i64 0) = w3 at *
    refine leaves_cons (f := 68) (args := #[.pointer (some ⟨a, 0, none⟩), .pointer (some ⟨b, 0, none⟩)]) (by simp) (by simp [go_sem]) ?_
    refine (catch_idle a b _).mono ?_
    rintro e u' w4 ⟨rfl, rfl, rfl⟩
    have pc := P3.cell
    have ec := E3.cell
    simp [Leaves, settle, results, Try.results58, go_sem, pc, ec]
    exact ⟨A1, n1, c1, A2, n2, c2, by rw [HR.out, HE.out], by rw [HR.out]; exact K1, by rw [HR.out]; exact K2, fun x e => Nat.le_trans T0.size (a1 x e), fun x e => Nat.le_trans T0.size (a2 x e), T3⟩
  · have hx := hP.no hE
    subst hx
    clear hP
    have HA := Lib.hid ha
    have HB := Lib.hid hb'
    have HS := Lib.hid hs
    clear ha hb' hs
    go_wp2_with fail
    refine leaves_cons (f := 68) (args := #[.pointer (some ⟨a, 0, none⟩), .pointer (some ⟨b, 0, none⟩)]) (by simp) (by simp [go_sem]) ?_
    refine (catch_fault a b _ _ _ _ _ _ _ _ _ _ _ _ hne P1 E1).mono ?_
    rintro e u' w2 ⟨rfl, rfl, P2, E2, hB⟩
    have pc := P2.cell
    have ec := E2.cell
    have T2 := hB _ _ T1 (by have := HA.out; omega) (by have := HA.out; have := HB.out; omega)
    simp [Leaves, settle, results, Try.results58, go_sem, pc, ec]
    have hR : rdPk q l = zP := by unfold rdPk; rw [if_neg hE]
    exact ⟨none, 0, 0, none, 0, 0, by rw [hR]; rfl, by rw [hR]; exact Bs.none_ _, by rw [hR]; exact Bs.none_ _, fun x e => (by cases e), fun x e => (by cases e), T2⟩
theorem ipQuote_any (A : Option Addr) (n c : Nat) (l : List UInt8) (w : World) (hb : Bs w A n c l) :
    Calls Try.prog 36 #[.slice A n c] w (RdPost w true l) := by
  go_enter Try.func36, Try.ntmps36
  go_wp2_with fail
  refine (read_any A n c l true 8 rfl _ (hb.alloc _)).mono ?_
  intro e w1 hP
  obtain ⟨A1, n1, c1, A2, n2, c2, rfl, k1, k2, a1, a2, T1⟩ := hP.out
  have P1 := (blk_new w #[.int .u8 0, .int .u16 0, .bool false, .int .u8 0, .int .u8 0, .int .u32 0, .int .u32 0, .slice none 0 0, .slice none 0 0] 26 _ rfl).below T1
  have T := below_then ((Below.refl _ w).alloc (Nat.le_refl _) _) T1
  clear hP T1
  have pc := P1.cell
  generalize hp : rdPk true l = p at *
  generalize he : rdE true l = e at *
  have HP := Lib.hid hp
  have HE := Lib.hid he
  clear hp he
  go_wp2_with fail
  obtain ⟨w2, hw2, S⟩ := store9 P1 (.int .u8 p.tos) (.int .u16 p.id) (.bool p.keep) (.int .u8 p.ttl) (.int .u8 p.proto) (.int .u32 p.src) (.int .u32 p.dst) (.slice A1 n1 c1) (.slice A2 n2 c2)
  rw [hw2]
  have K1 := S.bs k1 (fun x e => by have := a1 x e; simp at this; omega)
  have K2 := S.bs k2 (fun x e => by have := a2 x e; simp at this; omega)
  have TF := S.bel T (Nat.le_refl _)
  have pf := S.blk.cell
  clear hw2 S P1 pc k1 k2 T
  refine bodyPost_ret (v := .tuple #[(.agg #[.int .u8 (p).tos, .int .u16 (p).id, .bool (p).keep, .int .u8 (p).ttl, .int .u8 (p).proto, .int .u32 (p).src, .int .u32 (p).dst, .slice A1 n1 c1, .slice A2 n2 c2]), .int .i64 e]) (by simp [results, Try.results36, go_sem, pf]) rfl ⟨A1, n1, c1, A2, n2, c2, by rw [HP.out, HE.out], by rw [HP.out]; exact K1, by rw [HP.out]; exact K2, fun x e => by have := a1 x e; simp at this; omega, fun x e => by have := a2 x e; simp at this; omega, TF⟩
end Go.Proofs.Ytogbncpchmnbdaa
