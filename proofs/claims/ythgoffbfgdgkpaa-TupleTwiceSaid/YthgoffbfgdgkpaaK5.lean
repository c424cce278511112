/- Parts of the proofs of this seat, laid together: Tup TupR Tup2 Tup3 Live5 Open OpenPkt OpenMsgT OpenSeg OpenTup. -/
import Derived.MapKept
import Derived.WalkKit
import Derived.ProofKit
import Derived.OpenShut
import Derived.ChangeOld
import Derived.Below
import Derived.SizedLaws
import Derived.JoinedCond
import Derived.Deep.Fields
import Derived.Test.YthgoffbfgdgkpaaK4
import Derived.Test.YthgoffbfgdgkpaaK1
import Derived.Test.YthgoffbfgdgkpaaK3
import Derived.Test.YthgoffbfgdgkpaaK2
import Derived.Test.YthgoffbfgdgkpaaRows
/- Tuples: the other direction, the key, the number. -/
namespace Go.Proofs.Ythgoffbfgdgkpaa
open Go.RowKit
set_option linter.unusedVariables false
set_option linter.unusedSimpArgs false
set_option linter.unusedSimpArgs false
set_option maxHeartbeats 4000000
set_option maxRecDepth 100000

structure Tup where
  proto : Int
  src : Int
  dst : Int
  sp : Int
  dp : Int
structure Tup.Ok (t : Tup) : Prop where
  proto : 0 ≤ t.proto ∧ t.proto ≤ 255
  src : 0 ≤ t.src ∧ t.src ≤ 4294967295
  dst : 0 ≤ t.dst ∧ t.dst ≤ 4294967295
  sp : 0 ≤ t.sp ∧ t.sp ≤ 65535
  dp : 0 ≤ t.dp ∧ t.dp ≤ 65535
def zT : Tup := ⟨0, 0, 0, 0, 0⟩
def revT (t : Tup) : Tup := ⟨t.proto, t.dst, t.src, t.dp, t.sp⟩
def keyT (t : Tup) : Tup := if t.proto = 47 then { t with sp := 0 } else t
theorem keyT_ok {t : Tup} (h : t.Ok) : (keyT t).Ok := by
  unfold keyT; split
  · exact ⟨h.1, h.2, h.3, by simp, h.5⟩
  · exact h
theorem revT_ok {t : Tup} (h : t.Ok) : (revT t).Ok := ⟨h.1, h.3, h.2, h.5, h.4⟩
theorem revT_twice (t : Tup) : revT (revT t) = t := rfl
theorem keyT_twice (t : Tup) : keyT (keyT t) = keyT t := by
  unfold keyT; split
  · rename_i h; simp [h]
  · rfl
def hstep (h : Int) (b : UInt8) : Int := bits .xor .u32 h (b.toNat : Int) * 16777619 % 4294967296
def hashL (h : Int) (l : List UInt8) : Int := l.foldl hstep h
def tupB (t : Tup) : List UInt8 := [ub t.proto] ++ four t.src ++ four t.dst ++ two t.sp ++ two t.dp
def hashT (t : Tup) : Int := hashL 2166136261 (tupB (keyT t))
theorem hstep_ok (h : Int) (b : UInt8) : 0 ≤ hstep h b ∧ hstep h b ≤ 4294967295 := by unfold hstep; omega
theorem hashL_ok {h : Int} (h0 : 0 ≤ h ∧ h ≤ 4294967295) (l : List UInt8) : 0 ≤ hashL h l ∧ hashL h l ≤ 4294967295 := by
  unfold hashL
  induction l generalizing h with
  | nil => exact h0
  | cons b l ih => exact ih (hstep_ok h b)
theorem hashL_append (h : Int) (a b : List UInt8) : hashL h (a ++ b) = hashL (hashL h a) b := List.foldl_append ..
/-- The n lowest bytes of a number, the highest first. -/
def beB (v : Int) : Nat → List UInt8
  | 0 => []
  | n + 1 => ub (v / 2 ^ (8 * n)) :: beB v n
theorem beB_1 {v : Int} : beB v 1 = [ub v] := by simp [beB]
theorem beB_4 {a b : Int} (b0 : 0 ≤ b) (b1 : b ≤ 65535) : beB (a * 65536 + b) 4 = two a ++ two b := by
  simp only [beB, two]
  have e : ∀ x y : Int, x % 256 = y % 256 → ub x = ub y := fun x y h => by unfold ub; rw [h]
  rw [e ((a * 65536 + b) / 2 ^ (8 * 3)) (a / 256) (by omega), e ((a * 65536 + b) / 2 ^ (8 * 2)) a (by omega), e ((a * 65536 + b) / 2 ^ (8 * 1)) (b / 256) (by omega), e ((a * 65536 + b) / 2 ^ (8 * 0)) b (by omega)]
  rfl
theorem beB_8 {a b : Int} (b0 : 0 ≤ b) (b1 : b ≤ 4294967295) : beB (a * 4294967296 + b) 8 = four a ++ four b := by
  simp only [beB, four]
  have e : ∀ x y : Int, x % 256 = y % 256 → ub x = ub y := fun x y h => by unfold ub; rw [h]
  rw [e ((a * 4294967296 + b) / 2 ^ (8 * 7)) (a / 16777216) (by omega), e ((a * 4294967296 + b) / 2 ^ (8 * 6)) (a / 65536) (by omega), e ((a * 4294967296 + b) / 2 ^ (8 * 5)) (a / 256) (by omega), e ((a * 4294967296 + b) / 2 ^ (8 * 4)) a (by omega),
    e ((a * 4294967296 + b) / 2 ^ (8 * 3)) (b / 16777216) (by omega), e ((a * 4294967296 + b) / 2 ^ (8 * 2)) (b / 65536) (by omega), e ((a * 4294967296 + b) / 2 ^ (8 * 1)) (b / 256) (by omega), e ((a * 4294967296 + b) / 2 ^ (8 * 0)) b (by omega)]
  rfl
theorem rev_any (t : Tup) (w : World) : Calls Try.prog 13 #[(.agg #[.int .u8 (t).proto, .int .u32 (t).src, .int .u32 (t).dst, .int .u16 (t).sp, .int .u16 (t).dp])] w fun e w' => e = .returned (.agg #[.int .u8 (revT t).proto, .int .u32 (revT t).src, .int .u32 (revT t).dst, .int .u16 (revT t).sp, .int .u16 (revT t).dp]) ∧ Below w.heap.size w w' := by
  go_enter Try.func13, Try.ntmps13
  go_wp2_with fail
  exact bodyPost_ret (v := (.agg #[.int .u8 (revT t).proto, .int .u32 (revT t).src, .int .u32 (revT t).dst, .int .u16 (revT t).sp, .int .u16 (revT t).dp])) (by simp [results, Try.results13, go_sem, revT]) rfl ⟨rfl, by (repeat (first | with_reducible exact Below.refl _ _ | with_reducible refine below_drew ?_ | with_reducible refine below_drewN ?_ _ | with_reducible refine below_alloc ?_ (Nat.le_refl _) _ | with_reducible refine Below.setCell ?_ (by first | exact Nat.le_refl _ | (simp only []; omega)) _ | with_reducible assumption))⟩
theorem rrev_any (t : Tup) (w : World) : Calls Try.prog 14 #[(.agg #[.int .u8 (t).proto, .int .u32 (t).src, .int .u32 (t).dst, .int .u16 (t).sp, .int .u16 (t).dp])] w fun e w' => e = .returned (.agg #[.int .u8 (revT t).proto, .int .u32 (revT t).src, .int .u32 (revT t).dst, .int .u16 (revT t).sp, .int .u16 (revT t).dp]) ∧ Below w.heap.size w w' := by
  go_enter Try.func14, Try.ntmps14
  go_wp2_with fail
  exact bodyPost_ret (v := (.agg #[.int .u8 (revT t).proto, .int .u32 (revT t).src, .int .u32 (revT t).dst, .int .u16 (revT t).sp, .int .u16 (revT t).dp])) (by simp [results, Try.results14, go_sem, revT]) rfl ⟨rfl, by (repeat (first | with_reducible exact Below.refl _ _ | with_reducible refine below_drew ?_ | with_reducible refine below_drewN ?_ _ | with_reducible refine below_alloc ?_ (Nat.le_refl _) _ | with_reducible refine Below.setCell ?_ (by first | exact Nat.le_refl _ | (simp only []; omega)) _ | with_reducible assumption))⟩
theorem key_any (t : Tup) (w : World) : Calls Try.prog 15 #[(.agg #[.int .u8 (t).proto, .int .u32 (t).src, .int .u32 (t).dst, .int .u16 (t).sp, .int .u16 (t).dp])] w fun e w' => e = .returned (.agg #[.int .u8 (keyT t).proto, .int .u32 (keyT t).src, .int .u32 (keyT t).dst, .int .u16 (keyT t).sp, .int .u16 (keyT t).dp]) ∧ Below w.heap.size w w' := by
  obtain ⟨p, a, b, c, d⟩ := t
  by_cases h : p = 47
  · subst h
    go_enter Try.func15, Try.ntmps15
    go_wp2_with fail
    exact bodyPost_ret (v := (.agg #[.int .u8 (keyT (⟨47, a, b, c, d⟩ : Tup)).proto, .int .u32 (keyT (⟨47, a, b, c, d⟩ : Tup)).src, .int .u32 (keyT (⟨47, a, b, c, d⟩ : Tup)).dst, .int .u16 (keyT (⟨47, a, b, c, d⟩ : Tup)).sp, .int .u16 (keyT (⟨47, a, b, c, d⟩ : Tup)).dp])) (by simp [results, Try.results15, go_sem, keyT]) rfl ⟨rfl, by (repeat (first | with_reducible exact Below.refl _ _ | with_reducible refine below_drew ?_ | with_reducible refine below_drewN ?_ _ | with_reducible refine below_alloc ?_ (Nat.le_refl _) _ | with_reducible refine Below.setCell ?_ (by first | exact Nat.le_refl _ | (simp only []; omega)) _ | with_reducible assumption))⟩
  · have h1 : (p == 47) = false := by simpa using h
    have hk : keyT ⟨p, a, b, c, d⟩ = ⟨p, a, b, c, d⟩ := by unfold keyT; rw [if_neg h]
    rw [hk]
    clear h hk
    go_enter Try.func15, Try.ntmps15
    go_wp2_with fail
    exact bodyPost_ret (v := (.agg #[.int .u8 ((⟨p, a, b, c, d⟩ : Tup)).proto, .int .u32 ((⟨p, a, b, c, d⟩ : Tup)).src, .int .u32 ((⟨p, a, b, c, d⟩ : Tup)).dst, .int .u16 ((⟨p, a, b, c, d⟩ : Tup)).sp, .int .u16 ((⟨p, a, b, c, d⟩ : Tup)).dp])) (by simp [results, Try.results15, go_sem]) rfl ⟨rfl, by (repeat (first | with_reducible exact Below.refl _ _ | with_reducible refine below_drew ?_ | with_reducible refine below_drewN ?_ _ | with_reducible refine below_alloc ?_ (Nat.le_refl _) _ | with_reducible refine Below.setCell ?_ (by first | exact Nat.le_refl _ | (simp only []; omega)) _ | with_reducible assumption))⟩
theorem rkey_any (t : Tup) (w : World) : Calls Try.prog 16 #[(.agg #[.int .u8 (t).proto, .int .u32 (t).src, .int .u32 (t).dst, .int .u16 (t).sp, .int .u16 (t).dp])] w fun e w' => e = .returned (.agg #[.int .u8 (keyT t).proto, .int .u32 (keyT t).src, .int .u32 (keyT t).dst, .int .u16 (keyT t).sp, .int .u16 (keyT t).dp]) ∧ Below w.heap.size w w' := by
  obtain ⟨p, a, b, c, d⟩ := t
  by_cases h : p = 47
  · subst h
    go_enter Try.func16, Try.ntmps16
    go_wp2_with fail
    exact bodyPost_ret (v := (.agg #[.int .u8 (keyT (⟨47, a, b, c, d⟩ : Tup)).proto, .int .u32 (keyT (⟨47, a, b, c, d⟩ : Tup)).src, .int .u32 (keyT (⟨47, a, b, c, d⟩ : Tup)).dst, .int .u16 (keyT (⟨47, a, b, c, d⟩ : Tup)).sp, .int .u16 (keyT (⟨47, a, b, c, d⟩ : Tup)).dp])) (by simp [results, Try.results16, go_sem, keyT]) rfl ⟨rfl, by (repeat (first | with_reducible exact Below.refl _ _ | with_reducible refine below_drew ?_ | with_reducible refine below_drewN ?_ _ | with_reducible refine below_alloc ?_ (Nat.le_refl _) _ | with_reducible refine Below.setCell ?_ (by first | exact Nat.le_refl _ | (simp only []; omega)) _ | with_reducible assumption))⟩
  · have h1 : (p == 47) = false := by simpa using h
    have hk : keyT ⟨p, a, b, c, d⟩ = ⟨p, a, b, c, d⟩ := by unfold keyT; rw [if_neg h]
    rw [hk]
    clear h hk
    go_enter Try.func16, Try.ntmps16
    go_wp2_with fail
    exact bodyPost_ret (v := (.agg #[.int .u8 ((⟨p, a, b, c, d⟩ : Tup)).proto, .int .u32 ((⟨p, a, b, c, d⟩ : Tup)).src, .int .u32 ((⟨p, a, b, c, d⟩ : Tup)).dst, .int .u16 ((⟨p, a, b, c, d⟩ : Tup)).sp, .int .u16 ((⟨p, a, b, c, d⟩ : Tup)).dp])) (by simp [results, Try.results16, go_sem]) rfl ⟨rfl, by (repeat (first | with_reducible exact Below.refl _ _ | with_reducible refine below_drew ?_ | with_reducible refine below_drewN ?_ _ | with_reducible refine below_alloc ?_ (Nat.le_refl _) _ | with_reducible refine Below.setCell ?_ (by first | exact Nat.le_refl _ | (simp only []; omega)) _ | with_reducible assumption))⟩
theorem Sto.drewN {W : World} {r : Nat} {wf : World} {cs : Array Value} {t : TypeId} (h : Sto W r wf cs t) (n : Nat) : Sto W r (wf.drewN n) cs t :=
  ⟨h.blk.drewN n, fun b hB => below_drewN (h.bel b hB) n, fun b ha => (h.bs b ha).drewN n, fun hk b => (h.other hk b).drewN n, fun b ha => (h.own b ha).drewN n⟩
theorem Sto.more {W : World} {r : Nat} {wf w' : World} {cs : Array Value} {t : TypeId} (h : Sto W r wf cs t) (hb : Below wf.heap.size wf w') : Sto W r w' cs t :=
  ⟨h.blk.below hb, fun b hB => (h.bel b hB).trans (hb.mono (Nat.le_of_lt (Nat.lt_of_le_of_lt hB h.blk.lt))), fun b ha => (h.bs b ha).below hb, fun hk b => (h.other hk b).below hb, fun b ha => (h.own b ha).below hb⟩
theorem Sto.then_ {W : World} {r : Nat} {w1 w2 : World} {cs cs' : Array Value} {t t' : TypeId} (h : Sto W r w1 cs t) (k : Sto w1 r w2 cs' t') : Sto W r w2 cs' t' :=
  ⟨k.blk, fun b hB => k.bel (h.bel b hB) hB, fun b ha => k.bs (h.bs b ha) ha, fun hk b => k.other hk (h.other hk b), fun b ha => k.own (h.own b ha) ha⟩
/-- One step of the number: a byte more; the closure's cell holds it. -/
theorem step_any (v : Int) (v0 : 0 ≤ v) (v1 : v < 18446744073709551616) (n : Nat) (hn : n ≤ 8) (g : Nat) (h : Int) (w : World) (G : Blk w g #[.int .u32 h] 23) (h0 : 0 ≤ h ∧ h ≤ 4294967295) :
    Calls Try.prog 33 #[.int .u64 v, .int .i64 (n : Int), .pointer (some ⟨g, 0, none⟩)] w fun e w' => e = .returned (.tuple #[]) ∧ Sto w g w' #[.int .u32 (hashL h (beB v n))] 23 := by
  go_enter Try.func33, Try.ntmps33
  go_wp2_with fail
  go_loopw [1] (fun i wr => ∃ (m : Nat) (x : Int), m ≤ n ∧ i = .int .i64 (m : Int) ∧ 0 ≤ x ∧ x ≤ 4294967295 ∧ Hid (hashL x (beB v m) = hashL h (beB v n)) ∧ Sto w g wr #[.int .u32 x] 23) (fun i _ => (intOf i).toNat)
  case atStart => exact ⟨n, h, Nat.le_refl _, rfl, h0.1, h0.2, rfl, Sto.nil G⟩
  case round =>
    obtain ⟨m, x, hm, rfl, x0, x1, hx, S⟩ := hrel
    have gc := S.blk.cell
    have gl := S.blk.lt
    cases m with
    | zero =>
      go_wp2_with fail
      go_end0
      exact ⟨rfl, by have := hx.out; simp only [beB, hashL, List.foldl_nil] at this; unfold hashL; rw [← this]; exact S⟩
    | succ m =>
      obtain ⟨m1, hm1⟩ : ∃ m1 : Nat, m + 1 = m1 := ⟨_, rfl⟩
      have hm1i : (m1 : Int) - 1 = (m : Int) := by omega
      have hm0 : 0 < (m1 : Int) := by omega
      obtain ⟨s, hs⟩ : ∃ s : Int, 8 * (m : Int) = s := ⟨_, rfl⟩
      have s0 : 0 ≤ s ∧ s < 64 := by omega
      have hsn : s.toNat = 8 * m := by omega
      have HX : Hid (hashL (hstep x (ub (v / 2 ^ s.toNat))) (beB v m) = hashL h (beB v n)) := by
        have := hx.out; rw [hsn]; exact this
      rw [hm1]
      obtain ⟨q, hq⟩ : ∃ q : Int, v / 2 ^ s.toNat = q := ⟨_, rfl⟩
      rw [hq] at HX
      obtain ⟨y, hy⟩ : ∃ y, bits .xor .u32 x (q % 256) * 16777619 % 4294967296 = y := ⟨_, rfl⟩
      have hy2 : hstep x (ub q) = y := by unfold hstep; rw [ub_val]; exact hy
      have hyk := hstep_ok x (ub q)
      rw [hy2] at HX hyk
      obtain ⟨y0, y1⟩ := hyk
      have wm : IntKind.i64.wrap (m : Int) = m := by rw [IntKind.wrap_i64]; omega
      have ws : IntKind.i64.wrap s = s := by rw [IntKind.wrap_i64]; omega
      obtain ⟨s0, s1⟩ := s0
      have q0 : 0 ≤ q := by rw [← hq]; exact Int.ediv_nonneg v0 (Int.le_of_lt (Int.pow_pos (by omega)))
      have hmn : m < n := by omega
      clear hy2 hsn
      clear hm1 hx
      go_wp2_with fail
      refine region_txt 10 (by kernel_rfl) (by kernel_rfl) ?_; (iterate 10 (first | (apply ObsK.skip (by rfl)) | (apply ObsK.v (by rfl); (intro wo hT; (repeat (first | (intro _ _ k; try have hcv := cv k))); (have gco := (S.blk.below hT).cell); refine Goes.mk ?_; go_simp; first | exact goes_v | exact goes_b (by assumption) | (refine goes_enter ?_; first | fail))) | (apply ObsK.b (by rfl); (intro wo hT; (repeat (first | (intro _ _ k; try have hcv := cv k))); (have gco := (S.blk.below hT).cell); refine Goes.mk ?_; go_simp; first | exact goes_v | exact goes_b (by assumption) | (refine goes_enter ?_; first | fail))))); refine ObsK.nil ?_; intro wz hBz; simp only [finOn, List.drop_succ_cons, List.drop_zero, List.drop_nil]
      go_simp
      have Gz := S.blk.below hBz
      have gz := Gz.cell
      have gzl := Gz.lt
      go_wp2_with fail
      refine ⟨⟨m, y, by omega, by go_num, y0, y1, HX, ?_⟩, by simp [intOf]; omega⟩
      have := (S.more hBz).set 0 (.int .u32 y)
      rw [show q % 256 % 4294967296 = q % 256 from by omega, hy]
      exact this
theorem or_u64a {a b : Int} (a0 : 0 ≤ a) (a1 : a ≤ 4294967295) (b0 : 0 ≤ b) (b1 : b ≤ 4294967295) : bits .or .u64 (a * 4294967296) b = a * 4294967296 + b := by
  obtain ⟨A, rfl⟩ := Int.eq_ofNat_of_zero_le a0
  obtain ⟨B, rfl⟩ := Int.eq_ofNat_of_zero_le b0
  have h1 := u64_or_nat (A * 4294967296) B (by omega) (by omega)
  have h2 := or_shift (a := A) (k := 32) (b := B) (by simp only [Nat.reducePow]; omega)
  simp only [Nat.reducePow] at h2
  rw [h2, show ((A * 4294967296 : Nat) : Int) = (A : Int) * 4294967296 from by omega] at h1
  rw [h1]; omega
theorem or_u64b {a b : Int} (a0 : 0 ≤ a) (a1 : a ≤ 65535) (b0 : 0 ≤ b) (b1 : b ≤ 65535) : bits .or .u64 (a * 65536) b = a * 65536 + b := by
  obtain ⟨A, rfl⟩ := Int.eq_ofNat_of_zero_le a0
  obtain ⟨B, rfl⟩ := Int.eq_ofNat_of_zero_le b0
  have h1 := u64_or_nat (A * 65536) B (by omega) (by omega)
  have h2 := or_shift (a := A) (k := 16) (b := B) (by simp only [Nat.reducePow]; omega)
  simp only [Nat.reducePow] at h2
  rw [h2, show ((A * 65536 : Nat) : Int) = (A : Int) * 65536 from by omega] at h1
  rw [h1]; omega
theorem hash_any (t : Tup) (ht : t.Ok) (w : World) : Calls Try.prog 17 #[(.agg #[.int .u8 (t).proto, .int .u32 (t).src, .int .u32 (t).dst, .int .u16 (t).sp, .int .u16 (t).dp])] w fun e w' => e = .returned (.int .u32 (hashT t)) ∧ Below w.heap.size w w' := by
  have ck := fun W => key_any t W
  obtain ⟨k, hk⟩ : ∃ k, keyT t = k := ⟨_, rfl⟩
  have ok : k.Ok := by rw [← hk]; exact keyT_ok ht
  have HH : Hid (hashT t = hashL (hashL (hashL 2166136261 (beB k.proto 1)) (beB (k.src * 4294967296 + k.dst) 8)) (beB (k.sp * 65536 + k.dp) 4)) := by
    unfold Hid hashT tupB
    rw [hk, beB_1, beB_8 ok.dst.1 ok.dst.2, beB_4 ok.dp.1 ok.dp.2, ← hashL_append, ← hashL_append]
    simp
  rw [hk] at ck
  clear hk
  obtain ⟨⟨p0, p1⟩, ⟨s0, s1⟩, ⟨d0, d1⟩, ⟨a0, a1⟩, ⟨b0, b1⟩⟩ := ok
  have o1 : bits .or .u64 (k.src * 4294967296) k.dst = k.src * 4294967296 + k.dst := or_u64a s0 s1 d0 d1
  have o2 : bits .or .u64 (k.sp * 65536) k.dp = k.sp * 65536 + k.dp := or_u64b a0 a1 b0 b1
  obtain ⟨v1, hv1⟩ : ∃ v, k.src * 4294967296 + k.dst = v := ⟨_, rfl⟩
  obtain ⟨v2, hv2⟩ : ∃ v, k.sp * 65536 + k.dp = v := ⟨_, rfl⟩
  rw [hv1] at o1 HH
  rw [hv2] at o2 HH
  have v10 : 0 ≤ v1 ∧ v1 < 18446744073709551616 := by omega
  have v20 : 0 ≤ v2 ∧ v2 < 18446744073709551616 := by omega
  have h10 := hashL_ok (h := 2166136261) (by omega) (beB k.proto 1)
  obtain ⟨h1, hh1⟩ : ∃ h, hashL 2166136261 (beB k.proto 1) = h := ⟨_, rfl⟩
  rw [hh1] at HH h10
  have h20 := hashL_ok h10 (beB v1 8)
  obtain ⟨h2, hh2⟩ : ∃ h, hashL h1 (beB v1 8) = h := ⟨_, rfl⟩
  rw [hh2] at HH h20
  obtain ⟨h3, hh3⟩ : ∃ h, hashL h2 (beB v2 4) = h := ⟨_, rfl⟩
  rw [hh3] at HH
  have c1 : ∀ (g : Nat) (W : World), Blk W g #[.int .u32 2166136261] 23 → Calls Try.prog 33 #[.int .u64 k.proto, .int .i64 1, .pointer (some ⟨g, 0, none⟩)] W fun e w' => e = .returned (.tuple #[]) ∧ Sto W g w' #[.int .u32 (hashL 2166136261 (beB k.proto 1))] 23 := fun g W G => step_any k.proto p0 (by omega) 1 (by omega) g 2166136261 W G (by omega)
  have c2 : ∀ (g : Nat) (W : World), Blk W g #[.int .u32 h1] 23 → Calls Try.prog 33 #[.int .u64 v1, .int .i64 8, .pointer (some ⟨g, 0, none⟩)] W fun e w' => e = .returned (.tuple #[]) ∧ Sto W g w' #[.int .u32 (hashL h1 (beB v1 8))] 23 := fun g W G => step_any v1 v10.1 v10.2 8 (by omega) g h1 W G h10
  have c3 : ∀ (g : Nat) (W : World), Blk W g #[.int .u32 h2] 23 → Calls Try.prog 33 #[.int .u64 v2, .int .i64 4, .pointer (some ⟨g, 0, none⟩)] W fun e w' => e = .returned (.tuple #[]) ∧ Sto W g w' #[.int .u32 (hashL h2 (beB v2 4))] 23 := fun g W G => step_any v2 v20.1 v20.2 4 (by omega) g h2 W G h20
  rw [hh1] at c1
  rw [hh2] at c2
  rw [hh3] at c3
  have hmf : ∀ (fn : Fn) (first cap : Array Value) (w : World), (Instr.makeFunc fn first cap).run Try.prog w = .ok (.func fn first cap) w := fun _ _ _ _ => rfl
  clear hv1 hv2 hh1 hh2 hh3
  go_enter Try.func17, Try.ntmps17
  go_wp2_with (first
    | (go_at_call 15; ((with_reducible refine (ck _).mono ?_); rintro e w1 ⟨rfl, hB1⟩); (obtain ⟨kk, hkk⟩ : ∃ kk : Nat, w1.heap.size = kk := ⟨_, rfl⟩); (obtain ⟨w2, hw2⟩ : ∃ W, ((w1.alloc (.cells #[.int .u8 (k).proto, .int .u32 (k).src, .int .u32 (k).dst, .int .u16 (k).sp, .int .u16 (k).dp] 28)).alloc (.cells #[.int .u32 2166136261] 23)) = W := ⟨_, rfl⟩); have K2 : Blk w2 kk #[.int .u8 (k).proto, .int .u32 (k).src, .int .u32 (k).dst, .int .u16 (k).sp, .int .u16 (k).dp] 28 := (by rw [← hw2]; exact (blk_new _ _ _ _ hkk).alloc _); have H2 : Blk w2 (kk + 1) #[.int .u32 2166136261] 23 := (by rw [← hw2]; exact blk_new _ _ _ _ (by simp [hkk])); have kc2 := K2.cell; have R1 := below_then ((Below.refl w.heap.size w).alloc (Nat.le_refl _) _) hB1; have R2 : Below w.heap.size w w2 := (by rw [← hw2]; have := R1.size; (repeat (first | with_reducible exact Below.refl _ _ | with_reducible refine below_drew ?_ | with_reducible refine below_drewN ?_ _ | with_reducible refine below_alloc ?_ (Nat.le_refl _) _ | with_reducible refine Below.setCell ?_ (by first | exact Nat.le_refl _ | (simp only []; omega)) _ | with_reducible assumption))); have r2 := R1.size)
    | (go_at_call 33; ((with_reducible refine (c1 (kk + 1) w2 H2).mono ?_); rintro e w3 ⟨rfl, S3⟩); have K3 := S3.other (by omega) K2; have kc3 := K3.cell)
    | (go_at_call 33; ((with_reducible refine (c2 (kk + 1) w3 S3.blk).mono ?_); rintro e w4 ⟨rfl, S4⟩); have K4 := S4.other (by omega) K3; have kc4 := K4.cell)
    | (go_at_call 33; ((with_reducible refine (c3 (kk + 1) w4 S4.blk).mono ?_); rintro e w5 ⟨rfl, S5⟩); have hc5 := S5.blk.cell))
  go_ret
  exact ⟨congrArg (fun z => Ending.returned (.int .u32 z)) HH.out.symm, S5.bel (S4.bel (S3.bel R2 (by omega)) (by omega)) (by omega)⟩
end Go.Proofs.Ythgoffbfgdgkpaa

/- The document's number of a tuple. -/
namespace Go.Proofs.Ythgoffbfgdgkpaa
open Go.RowKit
set_option linter.unusedVariables false
set_option linter.unusedSimpArgs false
set_option linter.unusedSimpArgs false
set_option maxHeartbeats 4000000
set_option maxRecDepth 100000

theorem hashL_take {h : Int} {l : List UInt8} {j : Nat} (hj : j < l.length) : hashL h (l.take (j + 1)) = hstep (hashL h (l.take j)) (l.getD j 0) := by
  unfold hashL
  rw [List.take_succ_eq_append_getElem hj, List.foldl_append]
  simp [List.getD_eq_getElem?_getD, List.getElem?_eq_getElem hj]
theorem rhash_any (t : Tup) (ht : t.Ok) (w : World) : Calls Try.prog 18 #[(.agg #[.int .u8 (t).proto, .int .u32 (t).src, .int .u32 (t).dst, .int .u16 (t).sp, .int .u16 (t).dp])] w fun e w' => e = .returned (.int .u32 (hashT t)) ∧ Below w.heap.size w w' := by
  have ck := fun W => rkey_any t W
  obtain ⟨k, hk⟩ : ∃ k, keyT t = k := ⟨_, rfl⟩
  have ok : k.Ok := by rw [← hk]; exact keyT_ok ht
  have HH : Hid (hashT t = hashL 2166136261 ([ub k.proto] ++ four k.src ++ four k.dst ++ two k.sp ++ two k.dp)) := by unfold Hid hashT tupB; rw [hk]
  rw [hk] at ck
  clear hk
  obtain ⟨⟨p0, p1⟩, ⟨s0, s1⟩, ⟨d0, d1⟩, ⟨a0, a1⟩, ⟨b0, b1⟩⟩ := ok
  have hlit : Hid (#[Value.int .u8 k.proto] = (cu [ub k.proto]).toArray) := by unfold Hid; simp [cu, ub_val]; omega
  go_enter Try.func18, Try.ntmps18
  go_wp2_with (go_at_call 16; ((with_reducible refine (ck _).mono ?_); rintro e w0 ⟨rfl, hB1⟩); (obtain ⟨kk, hkk⟩ : ∃ kk : Nat, w0.heap.size = kk := ⟨_, rfl⟩); (obtain ⟨w1, hw1⟩ : ∃ W, w0.alloc (.cells #[.int .u8 (k).proto, .int .u32 (k).src, .int .u32 (k).dst, .int .u16 (k).sp, .int .u16 (k).dp] 28) = W := ⟨_, rfl⟩); (obtain ⟨w2, hw2⟩ : ∃ W, (w1.alloc (.cells #[.int .u8 k.proto] 5)) = W := ⟨_, rfl⟩); have z1 : w1.heap.size = kk + 1 := (by rw [← hw1]; simp [hkk]); have K1 : Blk w1 kk #[.int .u8 (k).proto, .int .u32 (k).src, .int .u32 (k).dst, .int .u16 (k).sp, .int .u16 (k).dp] 28 := (by rw [← hw1]; exact blk_new _ _ _ _ hkk); have kc1 := K1.cell; have O2 : Own w2 w1.heap.size 5 (some ⟨kk + 1, 0, none⟩) 1 1 [ub k.proto] := (by rw [← hw2, hlit.out]; exact own_litk _ _ (by omega) _ _ _ _ rfl (by omega) (by omega)); have R1 := below_then ((Below.refl w.heap.size w).alloc (Nat.le_refl _) _) hB1; have V1 : Below w0.heap.size w0 w1 := (by rw [← hw1]; (repeat (first | with_reducible exact Below.refl _ _ | with_reducible refine below_drew ?_ | with_reducible refine below_drewN ?_ _ | with_reducible refine below_alloc ?_ (Nat.le_refl _) _ | with_reducible refine Below.setCell ?_ (by first | exact Nat.le_refl _ | (simp only []; omega)) _ | with_reducible assumption))); have V2 : Below w1.heap.size w1 w2 := (by rw [← hw2]; (repeat (first | with_reducible exact Below.refl _ _ | with_reducible refine below_drew ?_ | with_reducible refine below_drewN ?_ _ | with_reducible refine below_alloc ?_ (Nat.le_refl _) _ | with_reducible refine Below.setCell ?_ (by first | exact Nat.le_refl _ | (simp only []; omega)) _ | with_reducible assumption))); have K2 := K1.below V2; have kc2 := K2.cell; have z2 : w2.heap.size = kk + 2 := (by rw [← hw2]; simp [z1]))
  refine regionX 8 [4] (kk + 1) (fun c W => match c with | 0 => Own W w1.heap.size 5 (some ⟨kk + 1, 0, none⟩) 1 1 [ub k.proto] | _ + 1 => True) (by kernel_rfl) (by kernel_rfl) (by kernel_rfl) O2 (fun c W W' hj hb => by cases c with | zero => exact Own.below hj hb | succ n => trivial) ?_; (iterate 8 (first | (apply ObsX.skip (by rfl) (by rfl)) | (apply ObsX.v (by rfl) (by rfl); (intro wo hE; (repeat (first | (intro v hv; ((obtain ⟨Aq, cq, rfl, oq, oq'⟩ := hv))) | (intro _ _ k; try have hcv := cv k))); (have sco := (K2.ext hE (by omega)).cell; have hsz2 := hE.size); refine Goes.mk ?_; first | (exact goes_appX _ _ rfl rfl hj (fun k e => by simp [Value.ownBlock] at e; exact e.symm) rfl oq (by omega) (by omega) (fun _ => trivial)) | (go_simp; first | exact goes_v | fail | (refine goes_enter ?_; first | (go_at_call 34; ((with_reducible refine (four_any k.src s0 s1 wo).mono ?_); rintro e w9 ⟨A9, c9, rfl, ho9, hB9⟩); exact ret_p ⟨_, _, rfl, ho9.bs, fun a e => ⟨by have := ho9.ge a e; omega, own_lt ho9 e⟩⟩ hB9) | (go_at_call 34; ((with_reducible refine (four_any k.dst d0 d1 wo).mono ?_); rintro e w9 ⟨A9, c9, rfl, ho9, hB9⟩); exact ret_p ⟨_, _, rfl, ho9.bs, fun a e => ⟨by have := ho9.ge a e; omega, own_lt ho9 e⟩⟩ hB9))))) | (apply ObsX.p (q := isN (kk + 1) 4 (four k.src)) (by rfl) (by rfl) st_isN sx_isN; (intro wo hE; (repeat (first | (intro v hv; ((obtain ⟨Aq, cq, rfl, oq, oq'⟩ := hv))) | (intro _ _ k; try have hcv := cv k))); (have sco := (K2.ext hE (by omega)).cell; have hsz2 := hE.size); refine Goes.mk ?_; first | (exact goes_appX _ _ rfl rfl hj (fun k e => by simp [Value.ownBlock] at e; exact e.symm) rfl oq (by omega) (by omega) (fun _ => trivial)) | (go_simp; first | exact goes_v | fail | (refine goes_enter ?_; first | (go_at_call 34; ((with_reducible refine (four_any k.src s0 s1 wo).mono ?_); rintro e w9 ⟨A9, c9, rfl, ho9, hB9⟩); exact ret_p ⟨_, _, rfl, ho9.bs, fun a e => ⟨by have := ho9.ge a e; omega, own_lt ho9 e⟩⟩ hB9) | (go_at_call 34; ((with_reducible refine (four_any k.dst d0 d1 wo).mono ?_); rintro e w9 ⟨A9, c9, rfl, ho9, hB9⟩); exact ret_p ⟨_, _, rfl, ho9.bs, fun a e => ⟨by have := ho9.ge a e; omega, own_lt ho9 e⟩⟩ hB9))))) | (apply ObsX.p (q := isN (kk + 1) 4 (four k.dst)) (by rfl) (by rfl) st_isN sx_isN; (intro wo hE; (repeat (first | (intro v hv; ((obtain ⟨Aq, cq, rfl, oq, oq'⟩ := hv))) | (intro _ _ k; try have hcv := cv k))); (have sco := (K2.ext hE (by omega)).cell; have hsz2 := hE.size); refine Goes.mk ?_; first | (exact goes_appX _ _ rfl rfl hj (fun k e => by simp [Value.ownBlock] at e; exact e.symm) rfl oq (by omega) (by omega) (fun _ => trivial)) | (go_simp; first | exact goes_v | fail | (refine goes_enter ?_; first | (go_at_call 34; ((with_reducible refine (four_any k.src s0 s1 wo).mono ?_); rintro e w9 ⟨A9, c9, rfl, ho9, hB9⟩); exact ret_p ⟨_, _, rfl, ho9.bs, fun a e => ⟨by have := ho9.ge a e; omega, own_lt ho9 e⟩⟩ hB9) | (go_at_call 34; ((with_reducible refine (four_any k.dst d0 d1 wo).mono ?_); rintro e w9 ⟨A9, c9, rfl, ho9, hB9⟩); exact ret_p ⟨_, _, rfl, ho9.bs, fun a e => ⟨by have := ho9.ge a e; omega, own_lt ho9 e⟩⟩ hB9))))) | (apply ObsX.ev (by rfl) (by rfl); (intro wo hE hj; (repeat (first | (intro v hv; ((obtain ⟨Aq, cq, rfl, oq, oq'⟩ := hv))) | (intro _ _ k; try have hcv := cv k))); (have sco := (K2.ext hE (by omega)).cell; have hsz2 := hE.size); refine GoesX.mk ?_; first | (exact goes_appX _ _ rfl rfl hj (fun k e => by simp [Value.ownBlock] at e; exact e.symm) rfl oq (by omega) (by omega) (fun _ => trivial)) | (go_simp; first | exact goes_v | fail | (refine goes_enter ?_; first | (go_at_call 34; ((with_reducible refine (four_any k.src s0 s1 wo).mono ?_); rintro e w9 ⟨A9, c9, rfl, ho9, hB9⟩); exact ret_p ⟨_, _, rfl, ho9.bs, fun a e => ⟨by have := ho9.ge a e; omega, own_lt ho9 e⟩⟩ hB9) | (go_at_call 34; ((with_reducible refine (four_any k.dst d0 d1 wo).mono ?_); rintro e w9 ⟨A9, c9, rfl, ho9, hB9⟩); exact ret_p ⟨_, _, rfl, ho9.bs, fun a e => ⟨by have := ho9.ge a e; omega, own_lt ho9 e⟩⟩ hB9))))) | (apply ObsX.ep (q := isN (kk + 1) 4 (four k.src)) (by rfl) (by rfl) (by rfl) st_isN; (intro wo hE hj; (repeat (first | (intro v hv; ((obtain ⟨Aq, cq, rfl, oq, oq'⟩ := hv))) | (intro _ _ k; try have hcv := cv k))); (have sco := (K2.ext hE (by omega)).cell; have hsz2 := hE.size); refine GoesX.mk ?_; first | (exact goes_appX _ _ rfl rfl hj (fun k e => by simp [Value.ownBlock] at e; exact e.symm) rfl oq (by omega) (by omega) (fun _ => trivial)) | (go_simp; first | exact goes_v | fail | (refine goes_enter ?_; first | (go_at_call 34; ((with_reducible refine (four_any k.src s0 s1 wo).mono ?_); rintro e w9 ⟨A9, c9, rfl, ho9, hB9⟩); exact ret_p ⟨_, _, rfl, ho9.bs, fun a e => ⟨by have := ho9.ge a e; omega, own_lt ho9 e⟩⟩ hB9) | (go_at_call 34; ((with_reducible refine (four_any k.dst d0 d1 wo).mono ?_); rintro e w9 ⟨A9, c9, rfl, ho9, hB9⟩); exact ret_p ⟨_, _, rfl, ho9.bs, fun a e => ⟨by have := ho9.ge a e; omega, own_lt ho9 e⟩⟩ hB9))))) | (apply ObsX.ep (q := isW w1.heap.size ([ub k.proto] ++ four k.src)) (by rfl) (by rfl) (by rfl) st_isW; (intro wo hE hj; (repeat (first | (intro v hv; ((obtain ⟨Aq, cq, rfl, oq, oq'⟩ := hv))) | (intro _ _ k; try have hcv := cv k))); (have sco := (K2.ext hE (by omega)).cell; have hsz2 := hE.size); refine GoesX.mk ?_; first | (exact goes_appX _ _ rfl rfl hj (fun k e => by simp [Value.ownBlock] at e; exact e.symm) rfl oq (by omega) (by omega) (fun _ => trivial)) | (go_simp; first | exact goes_v | fail | (refine goes_enter ?_; first | (go_at_call 34; ((with_reducible refine (four_any k.src s0 s1 wo).mono ?_); rintro e w9 ⟨A9, c9, rfl, ho9, hB9⟩); exact ret_p ⟨_, _, rfl, ho9.bs, fun a e => ⟨by have := ho9.ge a e; omega, own_lt ho9 e⟩⟩ hB9) | (go_at_call 34; ((with_reducible refine (four_any k.dst d0 d1 wo).mono ?_); rintro e w9 ⟨A9, c9, rfl, ho9, hB9⟩); exact ret_p ⟨_, _, rfl, ho9.bs, fun a e => ⟨by have := ho9.ge a e; omega, own_lt ho9 e⟩⟩ hB9))))) | (apply ObsX.ep (q := isN (kk + 1) 4 (four k.dst)) (by rfl) (by rfl) (by rfl) st_isN; (intro wo hE hj; (repeat (first | (intro v hv; ((obtain ⟨Aq, cq, rfl, oq, oq'⟩ := hv))) | (intro _ _ k; try have hcv := cv k))); (have sco := (K2.ext hE (by omega)).cell; have hsz2 := hE.size); refine GoesX.mk ?_; first | (exact goes_appX _ _ rfl rfl hj (fun k e => by simp [Value.ownBlock] at e; exact e.symm) rfl oq (by omega) (by omega) (fun _ => trivial)) | (go_simp; first | exact goes_v | fail | (refine goes_enter ?_; first | (go_at_call 34; ((with_reducible refine (four_any k.src s0 s1 wo).mono ?_); rintro e w9 ⟨A9, c9, rfl, ho9, hB9⟩); exact ret_p ⟨_, _, rfl, ho9.bs, fun a e => ⟨by have := ho9.ge a e; omega, own_lt ho9 e⟩⟩ hB9) | (go_at_call 34; ((with_reducible refine (four_any k.dst d0 d1 wo).mono ?_); rintro e w9 ⟨A9, c9, rfl, ho9, hB9⟩); exact ret_p ⟨_, _, rfl, ho9.bs, fun a e => ⟨by have := ho9.ge a e; omega, own_lt ho9 e⟩⟩ hB9))))))); refine ObsX.nil ?_; intro wz hEz hJz; simp only [finOn, List.drop_succ_cons, List.drop_zero, List.drop_nil]
  rintro v12 ⟨A12, c12, rfl, k12, -⟩ v10 ⟨A10, n10, c10, rfl, O10⟩ v9 hv9
  clear hv9
  go_simp
  have u10 : n10 = 5 := by rw [← O10.len]; rfl
  subst u10
  have hBy := below_ext V2 hEz (by omega) V2.size
  have K10 := K1.below hBy
  have kc10 := K10.cell
  clear kc2
  go_wp2_with (at_builtin; refine wpList_append_bs (w0 := w1) _ rfl _ _ _ rfl w1.heap.size 5 Try.underlying24 info_u8 A10 5 c10 _ rfl O10 A12 4 c12 (four k.dst) rfl k12 hBy (by omega) (by first | exact Nat.le_refl _ | exact Below.size hBy | omega | (simp <;> omega)) ?_; intro A8 n8 c8 w8 O8 hB8 _ hz8; have u8 : 9 = n8 := (by rw [← O8.len]; rfl); subst u8; (obtain ⟨g8, rfl, ge8, gt8⟩ := O8.ptr (by omega)); have K8 := K1.below hB8; have kc8 := K8.cell)
  clear kc10 k12
  refine regionX 8 [4] g8 (fun c W => match c with | 0 => Own W w1.heap.size 5 (some ⟨g8, 0, none⟩) 9 c8 (([ub k.proto] ++ four k.src) ++ four k.dst) | _ + 1 => True) (by kernel_rfl) (by kernel_rfl) (by kernel_rfl) O8 (fun c W W' hj hb => by cases c with | zero => exact Own.below hj hb | succ n => trivial) ?_; (iterate 8 (first | (apply ObsX.skip (by rfl) (by rfl)) | (apply ObsX.v (by rfl) (by rfl); (intro wo hE; (repeat (first | (intro v hv; ((obtain ⟨Aq, cq, rfl, oq, oq'⟩ := hv))) | (intro _ _ k; try have hcv := cv k))); (have sco := (K8.ext hE (by omega)).cell; have hsz2 := hE.size); refine Goes.mk ?_; first | (exact goes_appX _ _ rfl rfl hj (fun k e => by simp [Value.ownBlock] at e; exact e.symm) rfl oq (by omega) (by omega) (fun _ => trivial)) | (go_simp; first | exact goes_v | fail | (refine goes_enter ?_; first | (go_at_call 35; ((with_reducible refine (two_any k.sp a0 a1 wo).mono ?_); rintro e w9 ⟨A9, c9, rfl, ho9, hB9⟩); exact ret_p ⟨_, _, rfl, ho9.bs, fun a e => ⟨by have := ho9.ge a e; omega, own_lt ho9 e⟩⟩ hB9) | (go_at_call 35; ((with_reducible refine (two_any k.dp b0 b1 wo).mono ?_); rintro e w9 ⟨A9, c9, rfl, ho9, hB9⟩); exact ret_p ⟨_, _, rfl, ho9.bs, fun a e => ⟨by have := ho9.ge a e; omega, own_lt ho9 e⟩⟩ hB9))))) | (apply ObsX.p (q := isN g8 2 (two k.sp)) (by rfl) (by rfl) st_isN sx_isN; (intro wo hE; (repeat (first | (intro v hv; ((obtain ⟨Aq, cq, rfl, oq, oq'⟩ := hv))) | (intro _ _ k; try have hcv := cv k))); (have sco := (K8.ext hE (by omega)).cell; have hsz2 := hE.size); refine Goes.mk ?_; first | (exact goes_appX _ _ rfl rfl hj (fun k e => by simp [Value.ownBlock] at e; exact e.symm) rfl oq (by omega) (by omega) (fun _ => trivial)) | (go_simp; first | exact goes_v | fail | (refine goes_enter ?_; first | (go_at_call 35; ((with_reducible refine (two_any k.sp a0 a1 wo).mono ?_); rintro e w9 ⟨A9, c9, rfl, ho9, hB9⟩); exact ret_p ⟨_, _, rfl, ho9.bs, fun a e => ⟨by have := ho9.ge a e; omega, own_lt ho9 e⟩⟩ hB9) | (go_at_call 35; ((with_reducible refine (two_any k.dp b0 b1 wo).mono ?_); rintro e w9 ⟨A9, c9, rfl, ho9, hB9⟩); exact ret_p ⟨_, _, rfl, ho9.bs, fun a e => ⟨by have := ho9.ge a e; omega, own_lt ho9 e⟩⟩ hB9))))) | (apply ObsX.p (q := isN g8 2 (two k.dp)) (by rfl) (by rfl) st_isN sx_isN; (intro wo hE; (repeat (first | (intro v hv; ((obtain ⟨Aq, cq, rfl, oq, oq'⟩ := hv))) | (intro _ _ k; try have hcv := cv k))); (have sco := (K8.ext hE (by omega)).cell; have hsz2 := hE.size); refine Goes.mk ?_; first | (exact goes_appX _ _ rfl rfl hj (fun k e => by simp [Value.ownBlock] at e; exact e.symm) rfl oq (by omega) (by omega) (fun _ => trivial)) | (go_simp; first | exact goes_v | fail | (refine goes_enter ?_; first | (go_at_call 35; ((with_reducible refine (two_any k.sp a0 a1 wo).mono ?_); rintro e w9 ⟨A9, c9, rfl, ho9, hB9⟩); exact ret_p ⟨_, _, rfl, ho9.bs, fun a e => ⟨by have := ho9.ge a e; omega, own_lt ho9 e⟩⟩ hB9) | (go_at_call 35; ((with_reducible refine (two_any k.dp b0 b1 wo).mono ?_); rintro e w9 ⟨A9, c9, rfl, ho9, hB9⟩); exact ret_p ⟨_, _, rfl, ho9.bs, fun a e => ⟨by have := ho9.ge a e; omega, own_lt ho9 e⟩⟩ hB9))))) | (apply ObsX.ev (by rfl) (by rfl); (intro wo hE hj; (repeat (first | (intro v hv; ((obtain ⟨Aq, cq, rfl, oq, oq'⟩ := hv))) | (intro _ _ k; try have hcv := cv k))); (have sco := (K8.ext hE (by omega)).cell; have hsz2 := hE.size); refine GoesX.mk ?_; first | (exact goes_appX _ _ rfl rfl hj (fun k e => by simp [Value.ownBlock] at e; exact e.symm) rfl oq (by omega) (by omega) (fun _ => trivial)) | (go_simp; first | exact goes_v | fail | (refine goes_enter ?_; first | (go_at_call 35; ((with_reducible refine (two_any k.sp a0 a1 wo).mono ?_); rintro e w9 ⟨A9, c9, rfl, ho9, hB9⟩); exact ret_p ⟨_, _, rfl, ho9.bs, fun a e => ⟨by have := ho9.ge a e; omega, own_lt ho9 e⟩⟩ hB9) | (go_at_call 35; ((with_reducible refine (two_any k.dp b0 b1 wo).mono ?_); rintro e w9 ⟨A9, c9, rfl, ho9, hB9⟩); exact ret_p ⟨_, _, rfl, ho9.bs, fun a e => ⟨by have := ho9.ge a e; omega, own_lt ho9 e⟩⟩ hB9))))) | (apply ObsX.ep (q := isN g8 2 (two k.sp)) (by rfl) (by rfl) (by rfl) st_isN; (intro wo hE hj; (repeat (first | (intro v hv; ((obtain ⟨Aq, cq, rfl, oq, oq'⟩ := hv))) | (intro _ _ k; try have hcv := cv k))); (have sco := (K8.ext hE (by omega)).cell; have hsz2 := hE.size); refine GoesX.mk ?_; first | (exact goes_appX _ _ rfl rfl hj (fun k e => by simp [Value.ownBlock] at e; exact e.symm) rfl oq (by omega) (by omega) (fun _ => trivial)) | (go_simp; first | exact goes_v | fail | (refine goes_enter ?_; first | (go_at_call 35; ((with_reducible refine (two_any k.sp a0 a1 wo).mono ?_); rintro e w9 ⟨A9, c9, rfl, ho9, hB9⟩); exact ret_p ⟨_, _, rfl, ho9.bs, fun a e => ⟨by have := ho9.ge a e; omega, own_lt ho9 e⟩⟩ hB9) | (go_at_call 35; ((with_reducible refine (two_any k.dp b0 b1 wo).mono ?_); rintro e w9 ⟨A9, c9, rfl, ho9, hB9⟩); exact ret_p ⟨_, _, rfl, ho9.bs, fun a e => ⟨by have := ho9.ge a e; omega, own_lt ho9 e⟩⟩ hB9))))) | (apply ObsX.ep (q := isW w1.heap.size ((([ub k.proto] ++ four k.src) ++ four k.dst) ++ two k.sp)) (by rfl) (by rfl) (by rfl) st_isW; (intro wo hE hj; (repeat (first | (intro v hv; ((obtain ⟨Aq, cq, rfl, oq, oq'⟩ := hv))) | (intro _ _ k; try have hcv := cv k))); (have sco := (K8.ext hE (by omega)).cell; have hsz2 := hE.size); refine GoesX.mk ?_; first | (exact goes_appX _ _ rfl rfl hj (fun k e => by simp [Value.ownBlock] at e; exact e.symm) rfl oq (by omega) (by omega) (fun _ => trivial)) | (go_simp; first | exact goes_v | fail | (refine goes_enter ?_; first | (go_at_call 35; ((with_reducible refine (two_any k.sp a0 a1 wo).mono ?_); rintro e w9 ⟨A9, c9, rfl, ho9, hB9⟩); exact ret_p ⟨_, _, rfl, ho9.bs, fun a e => ⟨by have := ho9.ge a e; omega, own_lt ho9 e⟩⟩ hB9) | (go_at_call 35; ((with_reducible refine (two_any k.dp b0 b1 wo).mono ?_); rintro e w9 ⟨A9, c9, rfl, ho9, hB9⟩); exact ret_p ⟨_, _, rfl, ho9.bs, fun a e => ⟨by have := ho9.ge a e; omega, own_lt ho9 e⟩⟩ hB9))))) | (apply ObsX.ep (q := isN g8 2 (two k.dp)) (by rfl) (by rfl) (by rfl) st_isN; (intro wo hE hj; (repeat (first | (intro v hv; ((obtain ⟨Aq, cq, rfl, oq, oq'⟩ := hv))) | (intro _ _ k; try have hcv := cv k))); (have sco := (K8.ext hE (by omega)).cell; have hsz2 := hE.size); refine GoesX.mk ?_; first | (exact goes_appX _ _ rfl rfl hj (fun k e => by simp [Value.ownBlock] at e; exact e.symm) rfl oq (by omega) (by omega) (fun _ => trivial)) | (go_simp; first | exact goes_v | fail | (refine goes_enter ?_; first | (go_at_call 35; ((with_reducible refine (two_any k.sp a0 a1 wo).mono ?_); rintro e w9 ⟨A9, c9, rfl, ho9, hB9⟩); exact ret_p ⟨_, _, rfl, ho9.bs, fun a e => ⟨by have := ho9.ge a e; omega, own_lt ho9 e⟩⟩ hB9) | (go_at_call 35; ((with_reducible refine (two_any k.dp b0 b1 wo).mono ?_); rintro e w9 ⟨A9, c9, rfl, ho9, hB9⟩); exact ret_p ⟨_, _, rfl, ho9.bs, fun a e => ⟨by have := ho9.ge a e; omega, own_lt ho9 e⟩⟩ hB9))))))); refine ObsX.nil ?_; intro wz hEz hJz; simp only [finOn, List.drop_succ_cons, List.drop_zero, List.drop_nil]
  rintro v22 ⟨A22, c22, rfl, k22, -⟩ v20 ⟨A20, n20, c20, rfl, O20⟩ v19 hv19
  clear hv19
  go_simp
  have u20 : n20 = 11 := by rw [← O20.len]; rfl
  subst u20
  have hBz := below_ext hB8 hEz (by omega) hB8.size
  have HH2 : Hid ((([ub k.proto] ++ four k.src) ++ four k.dst) ++ two k.sp ++ two k.dp = tupB k) := rfl
  clear kc8 K8 K10 kc1
  go_wp2_with (at_builtin; refine wpList_append_bs (w0 := w1) _ rfl _ _ _ rfl w1.heap.size 5 Try.underlying24 info_u8 A20 11 c20 _ rfl O20 A22 2 c22 (two k.dp) rfl k22 hBz (by omega) (by first | exact Nat.le_refl _ | exact Below.size hBz | omega | (simp <;> omega)) ?_; intro A30 n30 c30 w30 O30 hB30 _ hz30; have u30 : 13 = n30 := (by rw [← O30.len]; rfl); subst u30; have b30 := O30.bs; rw [HH2.out] at b30; have kc30 := (K1.below hB30).cell)
  obtain ⟨g, rfl, gg, gt⟩ := O30.ptr (by omega)
  have HH3 : Hid (hashT t = hashL 2166136261 (tupB k)) := HH
  clear kc30 HH HH2 O20 O30 O2 O8 hlit
  go_loopw [5, 6] (fun x i wr => ∃ (j : Nat), j ≤ 13 ∧ x = .int .u32 (hashL 2166136261 ((tupB k).take j)) ∧ i = .int .i64 (j : Int) ∧ wr = w30) (fun _ i _ => 13 - (intOf i).toNat)
  case atStart => exact ⟨0, by omega, rfl, rfl, rfl⟩
  case round =>
    obtain ⟨j, hj, rfl, rfl, rfl⟩ := hrel
    have hxk := hashL_ok (h := 2166136261) (by omega) ((tupB k).take j)
    obtain ⟨x, hx⟩ : ∃ x, hashL 2166136261 ((tupB k).take j) = x := ⟨_, rfl⟩
    rw [hx] at hxk
    rw [hx]
    obtain ⟨x0, x1⟩ := hxk
    have l13 : (tupB k).length = 13 := rfl
    by_cases hj2 : j < 13
    · have hl := hashL_take (h := 2166136261) (l := tupB k) (j := j) (by omega)
      rw [hx] at hl
      obtain ⟨y, hy⟩ : ∃ y : UInt8, (tupB k).getD j 0 = y := ⟨_, rfl⟩
      rw [hy] at hl
      have cl := b30.at_ (j := j) (by omega)
      rw [show bt (tupB k) j = (y.toNat : Int) from by unfold bt; rw [hy], Nat.zero_add] at cl
      have hs2 : hstep x y = bits .xor .u32 x (y.toNat : Int) * 16777619 % 4294967296 := rfl
      have hy2 := y.toNat_lt
      obtain ⟨z, hz⟩ : ∃ z : Int, (y.toNat : Int) = z := ⟨_, rfl⟩
      rw [hz] at cl hs2
      have z0 : 0 ≤ z ∧ z ≤ 255 := by omega
      obtain ⟨z0, z1⟩ := z0
      rw [hs2] at hl
      have HL : Hid (hashL 2166136261 ((tupB k).take (j + 1)) = bits .xor .u32 x z * 16777619 % 4294967296) := hl
      have hji : (j : Int) < 13 := by omega
      clear hs2 hl hx hy hz
      go_wp2_with fail
      exact ⟨⟨j + 1, by omega, by rw [HL.out], by go_num, (by first | trivial | rfl)⟩, by simp [intOf]; omega⟩
    · have hj3 : j = 13 := by omega
      subst hj3
      have HX : Hid (hashT t = x) := by rw [← hx, HH3.out]; rfl
      clear hx HH3
      go_wp2_with fail
      go_ret
      exact ⟨congrArg (fun z => Ending.returned (.int .u32 z)) HX.out.symm, (below_then R1 V1).trans (hB30.mono (by have := R1.size; have := V1.size; omega))⟩
end Go.Proofs.Ythgoffbfgdgkpaa

/- The protocols' ways to tell ports (the program's map of functions), and each of them. -/
namespace Go.Proofs.Ythgoffbfgdgkpaa
open Go.RowKit Go.MapKept
set_option linter.unusedVariables false
set_option linter.unusedSimpArgs false
set_option maxHeartbeats 4000000
set_option maxRecDepth 100000

def fnV (n : Nat) : Value := .func (.func n) #[] #[]
def wayT : Value := .agg #[.func (.func 48) #[] #[], .func (.func 46) #[] #[]]
def wayU : Value := .agg #[.func (.func 49) #[] #[], .func (.func 46) #[] #[]]
def wayI : Value := .agg #[.func (.func 50) #[] #[], .func (.func 51) #[] #[]]
def wayG : Value := .agg #[.func (.func 52) #[] #[], .func (.func 53) #[] #[]]
def kn : Nat → Array MapEntry
  | 0 => #[]
  | 1 => #[⟨.int .u8 6, wayT, 0⟩]
  | 2 => #[⟨.int .u8 6, wayT, 0⟩, ⟨.int .u8 17, wayU, 1⟩]
  | 3 => #[⟨.int .u8 6, wayT, 0⟩, ⟨.int .u8 17, wayU, 1⟩, ⟨.int .u8 1, wayI, 2⟩]
  | _ => #[⟨.int .u8 6, wayT, 0⟩, ⟨.int .u8 17, wayU, 1⟩, ⟨.int .u8 1, wayI, 2⟩, ⟨.int .u8 47, wayG, 3⟩]
theorem push_setK {α : Type} (h : Array α) (x y : α) : (h.push x).setIfInBounds h.size y = h.push y := by
  apply Array.ext_getElem?
  intro i
  simp only [Array.getElem?_setIfInBounds, Array.getElem?_push, Array.size_push]
  by_cases e : i = h.size
  · simp [e]
  · simp [e, Ne.symm e]
theorem run_insertK {w : World} {es es' : Array MapEntry} {c : Nat} (k : Int) (v : Value) (h : Instr.findNow (.int .u8) (.int .u8 k) es.toList 0 = some none) (he : es.push ⟨.int .u8 k, v, c⟩ = es') :
    (Instr.mapUpdate 63 (.map (some w.heap.size)) (.int .u8 k) v).run Try.prog (w.alloc (.map es c)) = .ok () (w.alloc (.map es' (c + 1))) := by
  have hb : (w.alloc (.map es c)).heap[w.heap.size]? = some (.map es c) := (heap_alloc w _).1
  have ht := Try.underlying63
  have hk := Try.underlying5
  have hkey : IsKey (.int .u8) (.int .u8 k) := rfl
  subst he
  simp [Instr.mapUpdate, run_underlying ht, MapKept.run_getObj_map hb, run_checkKey hk hkey, run_findKey hk h, run_setObj_map _ hb, Result.andThen]
  show ({ w with heap := (w.heap.push _).setIfInBounds w.heap.size _ } : World) = _
  rw [push_setK]
  rfl
theorem known_any (w : World) :
    Calls Try.prog 27 #[] w fun e w' => e = .returned (.map (some w.heap.size)) ∧ w' = w.alloc (.map (kn 4) 4) := by
  have h0 : (Instr.makeMap 63 none).run Try.prog w = .ok (.map (some w.heap.size)) (w.alloc (.map (kn 0) 0)) := rfl
  have h1 := run_insertK (w := w) (es := kn 0) (es' := kn 1) (c := 0) 6 wayT rfl rfl
  have h2 := run_insertK (w := w) (es := kn 1) (es' := kn 2) (c := 1) 17 wayU rfl rfl
  have h3 := run_insertK (w := w) (es := kn 2) (es' := kn 3) (c := 2) 1 wayI rfl rfl
  have h4 := run_insertK (w := w) (es := kn 3) (es' := kn 4) (c := 3) 47 wayG rfl rfl
  unfold wayT at h1; unfold wayU at h2; unfold wayI at h3; unfold wayG at h4
  go_enter Try.func27, Try.ntmps27
  go_wp2_with fail
  go_ret
  exact ⟨rfl, rfl⟩
def knB (t : Int) : Bool := t == 6 || t == 17 || t == 1 || t == 47
def knV (t : Int) : Value := if t = 6 then wayT else if t = 17 then wayU else if t = 1 then wayI else if t = 47 then wayG else .agg #[.nilFunc, .nilFunc]
theorem run_known {W : World} {r : Nat} (h : W.heap[r]? = some (.map (kn 4) 4)) (t : Int) :
    (Instr.lookup 63 (.map (some r)) (.int .u8 t) true).run Try.prog W = .ok (.tuple #[knV t, .bool (knB t)]) W := by
  have ht := Try.underlying63
  have hk := Try.underlying5
  have hkey : IsKey (.int .u8) (.int .u8 t) := rfl
  have hz : (zeroValue 61).run Try.prog W = .ok (.agg #[.nilFunc, .nilFunc]) W := by rfl
  have hemp : (kn 4).isEmpty = false := rfl
  by_cases h6 : t = 6
  · subst h6
    have hf : Instr.findNow (.int .u8) (.int .u8 6) (kn 4).toList 0 = some (some (0, wayT)) := rfl
    simp [Instr.lookup, run_underlying ht, MapKept.run_getObj_map h, run_checkKey hk hkey, run_findKey hk hf, Result.andThen, knV, knB]
  by_cases h17 : t = 17
  · subst h17
    have hf : Instr.findNow (.int .u8) (.int .u8 17) (kn 4).toList 0 = some (some (1, wayU)) := rfl
    simp [Instr.lookup, run_underlying ht, MapKept.run_getObj_map h, run_checkKey hk hkey, run_findKey hk hf, Result.andThen, knV, knB]
  by_cases h1 : t = 1
  · subst h1
    have hf : Instr.findNow (.int .u8) (.int .u8 1) (kn 4).toList 0 = some (some (2, wayI)) := rfl
    simp [Instr.lookup, run_underlying ht, MapKept.run_getObj_map h, run_checkKey hk hkey, run_findKey hk hf, Result.andThen, knV, knB]
  by_cases h47 : t = 47
  · subst h47
    have hf : Instr.findNow (.int .u8) (.int .u8 47) (kn 4).toList 0 = some (some (3, wayG)) := rfl
    simp [Instr.lookup, run_underlying ht, MapKept.run_getObj_map h, run_checkKey hk hkey, run_findKey hk hf, Result.andThen, knV, knB]
  have hf : Instr.findNow (.int .u8) (.int .u8 t) (kn 4).toList 0 = some none := by
    simp [kn, Instr.findNow, Instr.sameNow, beq_eq_false_iff_ne.2 h6, beq_eq_false_iff_ne.2 h17, beq_eq_false_iff_ne.2 h1, beq_eq_false_iff_ne.2 h47]
  simp [Instr.lookup, run_underlying ht, MapKept.run_getObj_map h, run_checkKey hk hkey, run_findKey hk hf, Result.andThen, knV, knB, hz, h6, h17, h1, h47]

structure PtPost (w : World) (a b E : Int) (e : Ending) (w' : World) : Prop where
  out : e = .returned (.tuple #[.agg #[.int .u16 a, .int .u16 b], .int .i64 E]) ∧ Below w.heap.size w w'
theorem ptcp_any (p : Pkt) (hp : p.Ok) (A1 : Option Addr) (n1 c1 : Nat) (A2 : Option Addr) (n2 c2 : Nat) (w : World) (k2 : Bs w A2 n2 c2 p.dat) (h7 : n2 ≤ 140737488400000) :
    Calls Try.prog 48 #[(.agg #[.int .u8 (p).tos, .int .u16 (p).id, .bool (p).keep, .int .u8 (p).ttl, .int .u8 (p).proto, .int .u32 (p).src, .int .u32 (p).dst, .slice A1 n1 c1, .slice A2 n2 c2])] w (PtPost w (tcS p).src (tcS p).dst (tcE p)) := by
  have ht := fun W (h : Bs W A2 n2 c2 p.dat) => tcp_any p hp A1 n1 c1 A2 n2 c2 W h h7
  obtain ⟨s, hs⟩ : ∃ s, tcS p = s := ⟨_, rfl⟩
  obtain ⟨E, hE⟩ : ∃ s, tcE p = s := ⟨_, rfl⟩
  rw [hs, hE] at ht
  rw [hs, hE]
  clear hs hE
  obtain ⟨k, hk⟩ : ∃ k : Nat, w.heap.size = k := ⟨_, rfl⟩
  obtain ⟨w1, hw1⟩ : ∃ W, ((w.alloc (.cells #[.int .u8 (p).tos, .int .u16 (p).id, .bool (p).keep, .int .u8 (p).ttl, .int .u8 (p).proto, .int .u32 (p).src, .int .u32 (p).dst, .slice A1 n1 c1, .slice A2 n2 c2] 26)).alloc (.cells #[.int .u16 0, .int .u16 0] 66)) = W := ⟨_, rfl⟩
  have P1 : Blk w1 k #[.int .u8 (p).tos, .int .u16 (p).id, .bool (p).keep, .int .u8 (p).ttl, .int .u8 (p).proto, .int .u32 (p).src, .int .u32 (p).dst, .slice A1 n1 c1, .slice A2 n2 c2] 26 := by rw [← hw1]; exact ((blk_new _ _ _ k (by simp [hk])).alloc _)
  have Z1 : Blk w1 (k + 1) #[.int .u16 0, .int .u16 0] 66 := by rw [← hw1]; exact (blk_new _ _ _ (k + 1) (by simp [hk]))
  have R1 : Below w.heap.size w w1 := by rw [← hw1]; (repeat (first | with_reducible exact Below.refl _ _ | with_reducible refine below_drew ?_ | with_reducible refine below_drewN ?_ _ | with_reducible refine below_alloc ?_ (Nat.le_refl _) _ | with_reducible refine Below.setCell ?_ (by first | exact Nat.le_refl _ | (simp only []; omega)) _ | with_reducible assumption))
  have Pc1 := P1.cell
  have Zc1 := Z1.cell
  have Pl1 := P1.lt
  have Zl1 := Z1.lt
  have x1 := (k2).below R1
  go_enter Try.func48, Try.ntmps48
  go_wp2_with (go_at_call 70; ((with_reducible refine (ht w1 x1).mono ?_); rintro e u2 ⟨⟨OA, on, oc, DA, dn, dc, rfl, -, -, -, hB2⟩⟩); (obtain ⟨w2, hw2⟩ : ∃ W, u2.alloc (.cells #[.int .u16 (s).src, .int .u16 (s).dst, .int .u32 (s).seq, .int .u32 (s).ack, .int .u8 (s).flags, .int .u16 (s).win, .int .u16 (s).urg, .slice OA on oc, .slice DA dn dc] 42) = W := ⟨_, rfl⟩); have V2 : Below u2.heap.size u2 w2 := (by rw [← hw2]; (repeat (first | with_reducible exact Below.refl _ _ | with_reducible refine below_drew ?_ | with_reducible refine below_drewN ?_ _ | with_reducible refine below_alloc ?_ (Nat.le_refl _) _ | with_reducible refine Below.setCell ?_ (by first | exact Nat.le_refl _ | (simp only []; omega)) _ | with_reducible assumption))); (obtain ⟨kS2, hkS2⟩ : ∃ k : Nat, u2.heap.size = k := ⟨_, rfl⟩); have S2 : Blk w2 kS2 #[.int .u16 (s).src, .int .u16 (s).dst, .int .u32 (s).seq, .int .u32 (s).ack, .int .u8 (s).flags, .int .u16 (s).win, .int .u16 (s).urg, .slice OA on oc, .slice DA dn dc] 42 := (by rw [← hw2]; exact blk_new u2 _ _ _ hkS2); have Sc2 := S2.cell; have T2 := below_then hB2 V2; have P2 := P1.below T2; have Pc2 := P2.cell; clear Pc1; have Z2 := Z1.below T2; have Zc2 := Z2.cell; clear Zc1; have x2 := x1.below T2; have R2 := below_then R1 T2)
  obtain ⟨wf, hwf, Sf⟩ := store2 Z2 (.int .u16 s.src) (.int .u16 s.dst)
  rw [hwf]
  have pf := Sf.blk.cell
  exact bodyPost_ret (by simp [results, Try.results48, go_sem, pf]) rfl ⟨⟨rfl, Sf.bel R2 (by omega)⟩⟩

theorem pudp_any (p : Pkt) (hp : p.Ok) (A1 : Option Addr) (n1 c1 : Nat) (A2 : Option Addr) (n2 c2 : Nat) (w : World) (k2 : Bs w A2 n2 c2 p.dat) :
    Calls Try.prog 49 #[(.agg #[.int .u8 (p).tos, .int .u16 (p).id, .bool (p).keep, .int .u8 (p).ttl, .int .u8 (p).proto, .int .u32 (p).src, .int .u32 (p).dst, .slice A1 n1 c1, .slice A2 n2 c2])] w (PtPost w (udD p).src (udD p).dst (udE p)) := by
  have ht := fun W (h : Bs W A2 n2 c2 p.dat) => udp_any p hp A1 n1 c1 A2 n2 c2 W h
  obtain ⟨s, hs⟩ : ∃ s, udD p = s := ⟨_, rfl⟩
  obtain ⟨E, hE⟩ : ∃ s, udE p = s := ⟨_, rfl⟩
  rw [hs, hE] at ht
  rw [hs, hE]
  clear hs hE
  obtain ⟨k, hk⟩ : ∃ k : Nat, w.heap.size = k := ⟨_, rfl⟩
  obtain ⟨w1, hw1⟩ : ∃ W, ((w.alloc (.cells #[.int .u8 (p).tos, .int .u16 (p).id, .bool (p).keep, .int .u8 (p).ttl, .int .u8 (p).proto, .int .u32 (p).src, .int .u32 (p).dst, .slice A1 n1 c1, .slice A2 n2 c2] 26)).alloc (.cells #[.int .u16 0, .int .u16 0] 66)) = W := ⟨_, rfl⟩
  have P1 : Blk w1 k #[.int .u8 (p).tos, .int .u16 (p).id, .bool (p).keep, .int .u8 (p).ttl, .int .u8 (p).proto, .int .u32 (p).src, .int .u32 (p).dst, .slice A1 n1 c1, .slice A2 n2 c2] 26 := by rw [← hw1]; exact ((blk_new _ _ _ k (by simp [hk])).alloc _)
  have Z1 : Blk w1 (k + 1) #[.int .u16 0, .int .u16 0] 66 := by rw [← hw1]; exact (blk_new _ _ _ (k + 1) (by simp [hk]))
  have R1 : Below w.heap.size w w1 := by rw [← hw1]; (repeat (first | with_reducible exact Below.refl _ _ | with_reducible refine below_drew ?_ | with_reducible refine below_drewN ?_ _ | with_reducible refine below_alloc ?_ (Nat.le_refl _) _ | with_reducible refine Below.setCell ?_ (by first | exact Nat.le_refl _ | (simp only []; omega)) _ | with_reducible assumption))
  have Pc1 := P1.cell
  have Zc1 := Z1.cell
  have Pl1 := P1.lt
  have Zl1 := Z1.lt
  have x1 := (k2).below R1
  go_enter Try.func49, Try.ntmps49
  go_wp2_with (go_at_call 71; ((with_reducible refine (ht w1 x1).mono ?_); rintro e u2 ⟨⟨DA, dn, dc, rfl, -, hB2⟩⟩); (obtain ⟨w2, hw2⟩ : ∃ W, u2.alloc (.cells #[.int .u16 (s).src, .int .u16 (s).dst, .bool (s).bare, .slice DA dn dc] 45) = W := ⟨_, rfl⟩); have V2 : Below u2.heap.size u2 w2 := (by rw [← hw2]; (repeat (first | with_reducible exact Below.refl _ _ | with_reducible refine below_drew ?_ | with_reducible refine below_drewN ?_ _ | with_reducible refine below_alloc ?_ (Nat.le_refl _) _ | with_reducible refine Below.setCell ?_ (by first | exact Nat.le_refl _ | (simp only []; omega)) _ | with_reducible assumption))); (obtain ⟨kS2, hkS2⟩ : ∃ k : Nat, u2.heap.size = k := ⟨_, rfl⟩); have S2 : Blk w2 kS2 #[.int .u16 (s).src, .int .u16 (s).dst, .bool (s).bare, .slice DA dn dc] 45 := (by rw [← hw2]; exact blk_new u2 _ _ _ hkS2); have Sc2 := S2.cell; have T2 := below_then hB2 V2; have P2 := P1.below T2; have Pc2 := P2.cell; clear Pc1; have Z2 := Z1.below T2; have Zc2 := Z2.cell; clear Zc1; have x2 := x1.below T2; have R2 := below_then R1 T2)
  obtain ⟨wf, hwf, Sf⟩ := store2 Z2 (.int .u16 s.src) (.int .u16 s.dst)
  rw [hwf]
  have pf := Sf.blk.cell
  exact bodyPost_ret (by simp [results, Try.results49, go_sem, pf]) rfl ⟨⟨rfl, Sf.bel R2 (by omega)⟩⟩

theorem pgre_any (p : Pkt) (A1 : Option Addr) (n1 c1 : Nat) (A2 : Option Addr) (n2 c2 : Nat) (w : World) (k2 : Bs w A2 n2 c2 p.dat) :
    Calls Try.prog 52 #[(.agg #[.int .u8 (p).tos, .int .u16 (p).id, .bool (p).keep, .int .u8 (p).ttl, .int .u8 (p).proto, .int .u32 (p).src, .int .u32 (p).dst, .slice A1 n1 c1, .slice A2 n2 c2])] w (PtPost w 0 (geF p).call (geE p)) := by
  have ht := fun W (h : Bs W A2 n2 c2 p.dat) => gre_any p A1 n1 c1 A2 n2 c2 W h
  obtain ⟨s, hs⟩ : ∃ s, geF p = s := ⟨_, rfl⟩
  obtain ⟨E, hE⟩ : ∃ s, geE p = s := ⟨_, rfl⟩
  rw [hs, hE] at ht
  rw [hs, hE]
  clear hs hE
  obtain ⟨k, hk⟩ : ∃ k : Nat, w.heap.size = k := ⟨_, rfl⟩
  obtain ⟨w1, hw1⟩ : ∃ W, ((w.alloc (.cells #[.int .u8 (p).tos, .int .u16 (p).id, .bool (p).keep, .int .u8 (p).ttl, .int .u8 (p).proto, .int .u32 (p).src, .int .u32 (p).dst, .slice A1 n1 c1, .slice A2 n2 c2] 26)).alloc (.cells #[.int .u16 0, .int .u16 0] 66)) = W := ⟨_, rfl⟩
  have P1 : Blk w1 k #[.int .u8 (p).tos, .int .u16 (p).id, .bool (p).keep, .int .u8 (p).ttl, .int .u8 (p).proto, .int .u32 (p).src, .int .u32 (p).dst, .slice A1 n1 c1, .slice A2 n2 c2] 26 := by rw [← hw1]; exact ((blk_new _ _ _ k (by simp [hk])).alloc _)
  have Z1 : Blk w1 (k + 1) #[.int .u16 0, .int .u16 0] 66 := by rw [← hw1]; exact (blk_new _ _ _ (k + 1) (by simp [hk]))
  have R1 : Below w.heap.size w w1 := by rw [← hw1]; (repeat (first | with_reducible exact Below.refl _ _ | with_reducible refine below_drew ?_ | with_reducible refine below_drewN ?_ _ | with_reducible refine below_alloc ?_ (Nat.le_refl _) _ | with_reducible refine Below.setCell ?_ (by first | exact Nat.le_refl _ | (simp only []; omega)) _ | with_reducible assumption))
  have Pc1 := P1.cell
  have Zc1 := Z1.cell
  have Pl1 := P1.lt
  have Zl1 := Z1.lt
  have x1 := (k2).below R1
  go_enter Try.func52, Try.ntmps52
  go_wp2_with (go_at_call 73; ((with_reducible refine (ht w1 x1).mono ?_); rintro e u2 ⟨⟨DA, dn, dc, rfl, -, hB2⟩⟩); (obtain ⟨w2, hw2⟩ : ∃ W, u2.alloc (.cells #[.int .u16 (s).call, .bool (s).hs, .bool (s).ha, .int .u32 (s).seq, .int .u32 (s).ack, .slice DA dn dc] 52) = W := ⟨_, rfl⟩); have V2 : Below u2.heap.size u2 w2 := (by rw [← hw2]; (repeat (first | with_reducible exact Below.refl _ _ | with_reducible refine below_drew ?_ | with_reducible refine below_drewN ?_ _ | with_reducible refine below_alloc ?_ (Nat.le_refl _) _ | with_reducible refine Below.setCell ?_ (by first | exact Nat.le_refl _ | (simp only []; omega)) _ | with_reducible assumption))); (obtain ⟨kS2, hkS2⟩ : ∃ k : Nat, u2.heap.size = k := ⟨_, rfl⟩); have S2 : Blk w2 kS2 #[.int .u16 (s).call, .bool (s).hs, .bool (s).ha, .int .u32 (s).seq, .int .u32 (s).ack, .slice DA dn dc] 52 := (by rw [← hw2]; exact blk_new u2 _ _ _ hkS2); have Sc2 := S2.cell; have T2 := below_then hB2 V2; have P2 := P1.below T2; have Pc2 := P2.cell; clear Pc1; have Z2 := Z1.below T2; have Zc2 := Z2.cell; clear Zc1; have x2 := x1.below T2; have R2 := below_then R1 T2)
  obtain ⟨wf, hwf, Sf⟩ := store2 Z2 (.int .u16 0) (.int .u16 s.call)
  rw [hwf]
  have pf := Sf.blk.cell
  exact bodyPost_ret (by simp [results, Try.results52, go_sem, pf]) rfl ⟨⟨rfl, Sf.bel R2 (by omega)⟩⟩

def picE (E : Int) (m : Msg) : Int := if E = 0 ∧ isEchoM m = false then 12 else E
theorem picmp_any (p : Pkt) (A1 : Option Addr) (n1 c1 : Nat) (A2 : Option Addr) (n2 c2 : Nat) (w : World) (k2 : Bs w A2 n2 c2 p.dat) :
    Calls Try.prog 50 #[(.agg #[.int .u8 (p).tos, .int .u16 (p).id, .bool (p).keep, .int .u8 (p).ttl, .int .u8 (p).proto, .int .u32 (p).src, .int .u32 (p).dst, .slice A1 n1 c1, .slice A2 n2 c2])] w (PtPost w ((icM p).rest / 65536) ((icM p).rest / 65536) (picE (icE p) (icM p))) := by
  have ht := fun W (h : Bs W A2 n2 c2 p.dat) => icmp_any p A1 n1 c1 A2 n2 c2 W h
  have hm := icM_ok p
  have hc := fun B b1 b2 W => isecho_any (icM p) hm B b1 b2 W
  obtain ⟨s, hs⟩ : ∃ s, icM p = s := ⟨_, rfl⟩
  obtain ⟨E, hE⟩ : ∃ s, icE p = s := ⟨_, rfl⟩
  rw [hs, hE] at ht
  rw [hs] at hm hc
  rw [hs, hE]
  obtain ⟨r0, r1⟩ := hm.rest
  obtain ⟨q, hq⟩ : ∃ q, s.rest / 65536 = q := ⟨_, rfl⟩
  have hq0 : 0 ≤ q ∧ q ≤ 65535 := by omega
  have hq1 : q % 65536 = q := by omega
  rw [hq]
  obtain ⟨b, hb⟩ : ∃ b, isEchoM s = b := ⟨_, rfl⟩
  have HE : Hid (picE E s = if E = 0 ∧ b = false then 12 else E) := by unfold Hid picE; rw [hb]
  rw [hb] at hc
  clear hs hE hm hb
  obtain ⟨k, hk⟩ : ∃ k : Nat, w.heap.size = k := ⟨_, rfl⟩
  obtain ⟨w1, hw1⟩ : ∃ W, ((w.alloc (.cells #[.int .u8 (p).tos, .int .u16 (p).id, .bool (p).keep, .int .u8 (p).ttl, .int .u8 (p).proto, .int .u32 (p).src, .int .u32 (p).dst, .slice A1 n1 c1, .slice A2 n2 c2] 26)).alloc (.cells #[.int .u16 0, .int .u16 0] 66)) = W := ⟨_, rfl⟩
  have P1 : Blk w1 k #[.int .u8 (p).tos, .int .u16 (p).id, .bool (p).keep, .int .u8 (p).ttl, .int .u8 (p).proto, .int .u32 (p).src, .int .u32 (p).dst, .slice A1 n1 c1, .slice A2 n2 c2] 26 := by rw [← hw1]; exact ((blk_new _ _ _ k (by simp [hk])).alloc _)
  have Z1 : Blk w1 (k + 1) #[.int .u16 0, .int .u16 0] 66 := by rw [← hw1]; exact (blk_new _ _ _ (k + 1) (by simp [hk]))
  have R1 : Below w.heap.size w w1 := by rw [← hw1]; (repeat (first | with_reducible exact Below.refl _ _ | with_reducible refine below_drew ?_ | with_reducible refine below_drewN ?_ _ | with_reducible refine below_alloc ?_ (Nat.le_refl _) _ | with_reducible refine Below.setCell ?_ (by first | exact Nat.le_refl _ | (simp only []; omega)) _ | with_reducible assumption))
  have Pc1 := P1.cell
  have Zc1 := Z1.cell
  have Pl1 := P1.lt
  have Zl1 := Z1.lt
  have x1 := (k2).below R1
  by_cases h0 : E = 0
  · subst h0
    cases b
    · go_enter Try.func50, Try.ntmps50
      go_wp2_with (first
        | (go_at_call 41; ((with_reducible refine (ht w1 x1).mono ?_); rintro e u2 ⟨⟨DA, dn, dc, rfl, -, hB2⟩⟩); (obtain ⟨w2, hw2⟩ : ∃ W, u2.alloc (.cells #[.int .u8 (s).ty, .int .u8 (s).code, .int .u32 (s).rest, .slice DA dn dc] 49) = W := ⟨_, rfl⟩); have V2 : Below u2.heap.size u2 w2 := (by rw [← hw2]; (repeat (first | with_reducible exact Below.refl _ _ | with_reducible refine below_drew ?_ | with_reducible refine below_drewN ?_ _ | with_reducible refine below_alloc ?_ (Nat.le_refl _) _ | with_reducible refine Below.setCell ?_ (by first | exact Nat.le_refl _ | (simp only []; omega)) _ | with_reducible assumption))); (obtain ⟨kS2, hkS2⟩ : ∃ k : Nat, u2.heap.size = k := ⟨_, rfl⟩); have S2 : Blk w2 kS2 #[.int .u8 (s).ty, .int .u8 (s).code, .int .u32 (s).rest, .slice DA dn dc] 49 := (by rw [← hw2]; exact blk_new u2 _ _ _ hkS2); have Sc2 := S2.cell; have T2 := below_then hB2 V2; have P2 := P1.below T2; have Pc2 := P2.cell; clear Pc1; have Z2 := Z1.below T2; have Zc2 := Z2.cell; clear Zc1; have x2 := x1.below T2; have R2 := below_then R1 T2)
        | (go_at_call 72; ((with_reducible refine (hc DA dn dc w2).mono ?_); rintro e w3 ⟨rfl, hB3⟩); have P3 := P2.below hB3; have Pc3 := P3.cell; clear Pc2; have Z3 := Z2.below hB3; have Zc3 := Z3.cell; clear Zc2; have S3 := S2.below hB3; have Sc3 := S3.cell; clear Sc2; have x3 := x2.below hB3; have R3 := below_then R2 hB3))
      obtain ⟨wf, hwf, Sf⟩ := store2 Z3 (.int .u16 q) (.int .u16 q)
      rw [hwf]
      have pf := Sf.blk.cell
      exact bodyPost_ret (v := .tuple #[.agg #[.int .u16 q, .int .u16 q], .int .i64 12]) (by simp [results, Try.results50, go_sem, pf]) rfl ⟨⟨by rw [HE.out, if_pos (by simp)], Sf.bel R3 (by omega)⟩⟩

    · go_enter Try.func50, Try.ntmps50
      go_wp2_with (first
        | (go_at_call 41; ((with_reducible refine (ht w1 x1).mono ?_); rintro e u2 ⟨⟨DA, dn, dc, rfl, -, hB2⟩⟩); (obtain ⟨w2, hw2⟩ : ∃ W, u2.alloc (.cells #[.int .u8 (s).ty, .int .u8 (s).code, .int .u32 (s).rest, .slice DA dn dc] 49) = W := ⟨_, rfl⟩); have V2 : Below u2.heap.size u2 w2 := (by rw [← hw2]; (repeat (first | with_reducible exact Below.refl _ _ | with_reducible refine below_drew ?_ | with_reducible refine below_drewN ?_ _ | with_reducible refine below_alloc ?_ (Nat.le_refl _) _ | with_reducible refine Below.setCell ?_ (by first | exact Nat.le_refl _ | (simp only []; omega)) _ | with_reducible assumption))); (obtain ⟨kS2, hkS2⟩ : ∃ k : Nat, u2.heap.size = k := ⟨_, rfl⟩); have S2 : Blk w2 kS2 #[.int .u8 (s).ty, .int .u8 (s).code, .int .u32 (s).rest, .slice DA dn dc] 49 := (by rw [← hw2]; exact blk_new u2 _ _ _ hkS2); have Sc2 := S2.cell; have T2 := below_then hB2 V2; have P2 := P1.below T2; have Pc2 := P2.cell; clear Pc1; have Z2 := Z1.below T2; have Zc2 := Z2.cell; clear Zc1; have x2 := x1.below T2; have R2 := below_then R1 T2)
        | (go_at_call 72; ((with_reducible refine (hc DA dn dc w2).mono ?_); rintro e w3 ⟨rfl, hB3⟩); have P3 := P2.below hB3; have Pc3 := P3.cell; clear Pc2; have Z3 := Z2.below hB3; have Zc3 := Z3.cell; clear Zc2; have S3 := S2.below hB3; have Sc3 := S3.cell; clear Sc2; have x3 := x2.below hB3; have R3 := below_then R2 hB3))
      obtain ⟨wf, hwf, Sf⟩ := store2 Z3 (.int .u16 q) (.int .u16 q)
      rw [hwf]
      have pf := Sf.blk.cell
      exact bodyPost_ret (v := .tuple #[.agg #[.int .u16 q, .int .u16 q], .int .i64 0]) (by simp [results, Try.results50, go_sem, pf]) rfl ⟨⟨by rw [HE.out, if_neg (by simp)], Sf.bel R3 (by omega)⟩⟩

  · go_enter Try.func50, Try.ntmps50
    have h0b : (E == 0) = false := by simpa using h0
    go_wp2_with (go_at_call 41; ((with_reducible refine (ht w1 x1).mono ?_); rintro e u2 ⟨⟨DA, dn, dc, rfl, -, hB2⟩⟩); (obtain ⟨w2, hw2⟩ : ∃ W, u2.alloc (.cells #[.int .u8 (s).ty, .int .u8 (s).code, .int .u32 (s).rest, .slice DA dn dc] 49) = W := ⟨_, rfl⟩); have V2 : Below u2.heap.size u2 w2 := (by rw [← hw2]; (repeat (first | with_reducible exact Below.refl _ _ | with_reducible refine below_drew ?_ | with_reducible refine below_drewN ?_ _ | with_reducible refine below_alloc ?_ (Nat.le_refl _) _ | with_reducible refine Below.setCell ?_ (by first | exact Nat.le_refl _ | (simp only []; omega)) _ | with_reducible assumption))); (obtain ⟨kS2, hkS2⟩ : ∃ k : Nat, u2.heap.size = k := ⟨_, rfl⟩); have S2 : Blk w2 kS2 #[.int .u8 (s).ty, .int .u8 (s).code, .int .u32 (s).rest, .slice DA dn dc] 49 := (by rw [← hw2]; exact blk_new u2 _ _ _ hkS2); have Sc2 := S2.cell; have T2 := below_then hB2 V2; have P2 := P1.below T2; have Pc2 := P2.cell; clear Pc1; have Z2 := Z1.below T2; have Zc2 := Z2.cell; clear Zc1; have x2 := x1.below T2; have R2 := below_then R1 T2)
    obtain ⟨wf, hwf, Sf⟩ := store2 Z2 (.int .u16 q) (.int .u16 q)
    rw [hwf]
    have pf := Sf.blk.cell
    exact bodyPost_ret (v := .tuple #[.agg #[.int .u16 q, .int .u16 q], .int .i64 E]) (by simp [results, Try.results50, go_sem, pf]) rfl ⟨⟨by rw [HE.out, if_neg (by simp [h0])], Sf.bel R2 (by omega)⟩⟩
structure TtPost (w : World) (T : Tup) (E : Int) (e : Ending) (w' : World) : Prop where
  out : e = .returned (.tuple #[(.agg #[.int .u8 (T).proto, .int .u32 (T).src, .int .u32 (T).dst, .int .u16 (T).sp, .int .u16 (T).dp]), .int .i64 E]) ∧ Below w.heap.size w w'
def tuP (p : Pkt) (a b E : Int) : Tup := if E ≠ 0 then zT else ⟨p.proto, p.src, p.dst, a, b⟩
theorem tupled_any (p : Pkt) (A1 : Option Addr) (n1 c1 : Nat) (A2 : Option Addr) (n2 c2 : Nat) (a b E : Int) (w : World) :
    Calls Try.prog 28 #[(.agg #[.int .u8 (p).tos, .int .u16 (p).id, .bool (p).keep, .int .u8 (p).ttl, .int .u8 (p).proto, .int .u32 (p).src, .int .u32 (p).dst, .slice A1 n1 c1, .slice A2 n2 c2]), .agg #[.int .u16 a, .int .u16 b], .int .i64 E] w (TtPost w (tuP p a b E) E) := by
  by_cases h0 : E = 0
  · subst h0
    go_enter Try.func28, Try.ntmps28
    go_wp2_with fail
    exact bodyPost_ret (v := .tuple #[(.agg #[.int .u8 ((⟨p.proto, p.src, p.dst, a, b⟩ : Tup)).proto, .int .u32 ((⟨p.proto, p.src, p.dst, a, b⟩ : Tup)).src, .int .u32 ((⟨p.proto, p.src, p.dst, a, b⟩ : Tup)).dst, .int .u16 ((⟨p.proto, p.src, p.dst, a, b⟩ : Tup)).sp, .int .u16 ((⟨p.proto, p.src, p.dst, a, b⟩ : Tup)).dp]), .int .i64 0]) (by simp [results, Try.results28, go_sem]) rfl ⟨⟨rfl, by (repeat (first | with_reducible exact Below.refl _ _ | with_reducible refine below_drew ?_ | with_reducible refine below_drewN ?_ _ | with_reducible refine below_alloc ?_ (Nat.le_refl _) _ | with_reducible refine Below.setCell ?_ (by first | exact Nat.le_refl _ | (simp only []; omega)) _ | with_reducible assumption))⟩⟩
  · have h0b : (E != 0) = true := by simpa using h0
    have hz : tuP p a b E = zT := by unfold tuP; rw [if_pos h0]
    rw [hz]
    clear h0 hz
    go_enter Try.func28, Try.ntmps28
    go_wp2_with fail
    exact bodyPost_ret (v := .tuple #[(.agg #[.int .u8 (zT).proto, .int .u32 (zT).src, .int .u32 (zT).dst, .int .u16 (zT).sp, .int .u16 (zT).dp]), .int .i64 E]) (by simp [results, Try.results28, go_sem, zT]) rfl ⟨⟨rfl, by (repeat (first | with_reducible exact Below.refl _ _ | with_reducible refine below_drew ?_ | with_reducible refine below_drewN ?_ _ | with_reducible refine below_alloc ?_ (Nat.le_refl _) _ | with_reducible refine Below.setCell ?_ (by first | exact Nat.le_refl _ | (simp only []; omega)) _ | with_reducible assumption))⟩⟩
end Go.Proofs.Ythgoffbfgdgkpaa

/- The program's Of (printed by wip/tools/genof.py). -/
namespace Go.Proofs.Ythgoffbfgdgkpaa
open Go.RowKit Go.MapKept
set_option linter.unusedVariables false
set_option linter.unusedSimpArgs false
set_option linter.unusedSimpArgs false
set_option maxHeartbeats 8000000
set_option maxRecDepth 100000

def isKn : World → Value → Prop := fun w v => ∃ r, v = .map (some r) ∧ w.heap[r]? = some (.map (kn 4) 4)
theorem st_isKn : ∀ w w' v, isKn w v → Below w.heap.size w w' → isKn w' v := fun w w' v ⟨r, h, k⟩ hb => ⟨r, h, by
  have := hb.block r (by
    rcases Nat.lt_or_ge r w.heap.size with h1 | h1
    · exact h1
    · rw [Array.getElem?_eq_none h1] at k; cases k)
  rw [this]; exact k⟩
theorem ret_isKn {wo : World} : ∃ v, Ending.returned (.map (some wo.heap.size)) = .returned v ∧ isKn (wo.alloc (.map (kn 4) 4)) v ∧ Below wo.heap.size wo (wo.alloc (.map (kn 4) 4)) := ⟨_, rfl, ⟨_, rfl, (heap_alloc wo _).1⟩, (Below.refl _ _).alloc (Nat.le_refl _) _⟩

theorem of_tcp_ (p : Pkt) (A1 : Option Addr) (n1 c1 : Nat) (A2 : Option Addr) (n2 c2 : Nat) (w : World) (k2 : Bs w A2 n2 c2 p.dat) (hpr : p.proto = 6) (a b E : Int)
    (ht : ∀ W, Bs W A2 n2 c2 p.dat → Calls Try.prog 48 #[(.agg #[.int .u8 (p).tos, .int .u16 (p).id, .bool (p).keep, .int .u8 (p).ttl, .int .u8 (p).proto, .int .u32 (p).src, .int .u32 (p).dst, .slice A1 n1 c1, .slice A2 n2 c2])] W (PtPost W a b E)) :
    Calls Try.prog 10 #[(.agg #[.int .u8 (p).tos, .int .u16 (p).id, .bool (p).keep, .int .u8 (p).ttl, .int .u8 (p).proto, .int .u32 (p).src, .int .u32 (p).dst, .slice A1 n1 c1, .slice A2 n2 c2])] w (TtPost w (tuP p a b E) E) := by
  have hrun : ∀ (W : World) (r : Nat), W.heap[r]? = some (.map (kn 4) 4) → (Instr.lookup 63 (.map (some r)) (.int .u8 p.proto) true).run Try.prog W = .ok (.tuple #[.agg #[.func (.func 48) #[] #[], .func (.func 46) #[] #[]], .bool true]) W := fun W r h => by
    have := run_known h p.proto
    rw [show knV p.proto = .agg #[.func (.func 48) #[] #[], .func (.func 46) #[] #[]] from by rw [hpr]; rfl, show knB p.proto = true from by rw [hpr]; rfl] at this
    exact this
  clear hpr
  have htu := fun W => tupled_any p A1 n1 c1 A2 n2 c2 a b E W
  obtain ⟨T, hT'⟩ : ∃ T, tuP p a b E = T := ⟨_, rfl⟩
  rw [hT'] at htu
  rw [hT']
  clear hT'
  obtain ⟨k, hk⟩ : ∃ k : Nat, w.heap.size = k := ⟨_, rfl⟩
  obtain ⟨w1, hw1⟩ : ∃ W, ((w.alloc (.cells #[.int .u8 (p).tos, .int .u16 (p).id, .bool (p).keep, .int .u8 (p).ttl, .int .u8 (p).proto, .int .u32 (p).src, .int .u32 (p).dst, .slice A1 n1 c1, .slice A2 n2 c2] 26)).alloc (.cells #[.int .u8 0, .int .u32 0, .int .u32 0, .int .u16 0, .int .u16 0] 28)) = W := ⟨_, rfl⟩
  have P1 : Blk w1 k #[.int .u8 (p).tos, .int .u16 (p).id, .bool (p).keep, .int .u8 (p).ttl, .int .u8 (p).proto, .int .u32 (p).src, .int .u32 (p).dst, .slice A1 n1 c1, .slice A2 n2 c2] 26 := by rw [← hw1]; exact ((blk_new _ _ _ k (by simp [hk])).alloc _)
  have Z1 : Blk w1 (k + 1) #[.int .u8 0, .int .u32 0, .int .u32 0, .int .u16 0, .int .u16 0] 28 := by rw [← hw1]; exact (blk_new _ _ _ (k + 1) (by simp [hk]))
  have R1 : Below w.heap.size w w1 := by rw [← hw1]; (repeat (first | with_reducible exact Below.refl _ _ | with_reducible refine below_drew ?_ | with_reducible refine below_drewN ?_ _ | with_reducible refine below_alloc ?_ (Nat.le_refl _) _ | with_reducible refine Below.setCell ?_ (by first | exact Nat.le_refl _ | (simp only []; omega)) _ | with_reducible assumption))
  have Pc1 := P1.cell
  have Zc1 := Z1.cell
  have Pl1 := P1.lt
  have Zl1 := Z1.lt
  have x1 := (k2).below R1
  go_enter Try.func10, Try.ntmps10
  go_wp2_with fail
  refine region_z 8 6 (by kernel_rfl) (by kernel_rfl) (fun _ _ _ _ _ h => h) ?_; (iterate 8 (first | (apply ObsK.skip (by rfl)) | (apply ObsK.v (by rfl); (intro wo hT; (repeat (first | (intro v hv; ((obtain ⟨r, rfl, hm⟩ := hv; have hlk := hrun _ r hm))) | (intro _ _ k; try have hcv := cv k))); (have pc := (P1.below hT).cell; have hsz : w1.heap.size ≤ wo.heap.size := hT.size); refine Goes.mk ?_; go_simp; first | exact goes_v | exact goes_b (by assumption) | exact goes_new hsz | (refine goes_enter ?_; first | (go_at_call 27; ((with_reducible refine (known_any wo).mono ?_); rintro e w9 ⟨rfl, rfl⟩); exact ret_isKn)))) | (apply ObsK.b (by rfl); (intro wo hT; (repeat (first | (intro v hv; ((obtain ⟨r, rfl, hm⟩ := hv; have hlk := hrun _ r hm))) | (intro _ _ k; try have hcv := cv k))); (have pc := (P1.below hT).cell; have hsz : w1.heap.size ≤ wo.heap.size := hT.size); refine Goes.mk ?_; go_simp; first | exact goes_v | exact goes_b (by assumption) | exact goes_new hsz | (refine goes_enter ?_; first | (go_at_call 27; ((with_reducible refine (known_any wo).mono ?_); rintro e w9 ⟨rfl, rfl⟩); exact ret_isKn)))) | (apply ObsK.p (q := isKn) (by rfl) st_isKn; (intro wo hT; (repeat (first | (intro v hv; ((obtain ⟨r, rfl, hm⟩ := hv; have hlk := hrun _ r hm))) | (intro _ _ k; try have hcv := cv k))); (have pc := (P1.below hT).cell; have hsz : w1.heap.size ≤ wo.heap.size := hT.size); refine Goes.mk ?_; go_simp; first | exact goes_v | exact goes_b (by assumption) | exact goes_new hsz | (refine goes_enter ?_; first | (go_at_call 27; ((with_reducible refine (known_any wo).mono ?_); rintro e w9 ⟨rfl, rfl⟩); exact ret_isKn)))) | (apply ObsK.p (q := isNew w1.heap.size #[.nilFunc, .nilFunc] 61) (by rfl) st_isNew; (intro wo hT; (repeat (first | (intro v hv; ((obtain ⟨r, rfl, hm⟩ := hv; have hlk := hrun _ r hm))) | (intro _ _ k; try have hcv := cv k))); (have pc := (P1.below hT).cell; have hsz : w1.heap.size ≤ wo.heap.size := hT.size); refine Goes.mk ?_; go_simp; first | exact goes_v | exact goes_b (by assumption) | exact goes_new hsz | (refine goes_enter ?_; first | (go_at_call 27; ((with_reducible refine (known_any wo).mono ?_); rintro e w9 ⟨rfl, rfl⟩); exact ret_isKn)))))); refine ObsK.nil ?_; intro wz hBz; simp only [finOn, List.drop_succ_cons, List.drop_zero, List.drop_nil]
  rintro _ ⟨gS, rfl, hS, S2⟩ _ ⟨m, rfl, -⟩
  go_simp
  obtain ⟨wq, hwq, Sq⟩ := store2 S2 (.func (.func 48) #[] #[]) (.func (.func 46) #[] #[])
  have hBq := Sq.bel hBz hS
  have cS2 := S2.cell
  have hsf : ∀ (W : World) (a : Addr) (fn : Fn) (m : Mode), (store a (.func fn #[] #[]) m).run Try.prog W = stored Try.prog W a (.func fn #[] #[]) m := fun W a fn m => run_store _ W a _ m rfl
  have S2 := Sq.blk
  have Sc2 := S2.cell
  have P2 := P1.below hBq
  have Pc2 := P2.cell
  clear Pc1
  have Z2 := Z1.below hBq
  have Zc2 := Z2.cell
  clear Zc1
  have x2 := x1.below hBq
  have R2 := below_then R1 hBq
  go_wp2_with (first
    | (go_at_call 48; ((with_reducible refine (ht wq x2).mono ?_); rintro e u3 ⟨⟨rfl, hB3⟩⟩); (obtain ⟨w3, hw3⟩ : ∃ W, u3.alloc (.cells #[.int .u16 a, .int .u16 b] 66) = W := ⟨_, rfl⟩); have V3 : Below u3.heap.size u3 w3 := (by rw [← hw3]; (repeat (first | with_reducible exact Below.refl _ _ | with_reducible refine below_drew ?_ | with_reducible refine below_drewN ?_ _ | with_reducible refine below_alloc ?_ (Nat.le_refl _) _ | with_reducible refine Below.setCell ?_ (by first | exact Nat.le_refl _ | (simp only []; omega)) _ | with_reducible assumption))); (obtain ⟨kQ3, hkQ3⟩ : ∃ k : Nat, u3.heap.size = k := ⟨_, rfl⟩); have Q3 : Blk w3 kQ3 #[.int .u16 a, .int .u16 b] 66 := (by rw [← hw3]; exact blk_new u3 _ _ _ hkQ3); have Qc3 := Q3.cell; have T3 := below_then hB3 V3; have P3 := P2.below T3; have Pc3 := P3.cell; clear Pc2; have Z3 := Z2.below T3; have Zc3 := Z3.cell; clear Zc2; have S3 := S2.below T3; have Sc3 := S3.cell; clear Sc2; have x3 := x2.below T3; have R3 := below_then R2 T3)
    | (go_at_call 28; ((with_reducible refine (htu w3).mono ?_); rintro e w4 ⟨⟨rfl, hB4⟩⟩); have P4 := P3.below hB4; have Pc4 := P4.cell; clear Pc3; have Z4 := Z3.below hB4; have Zc4 := Z4.cell; clear Zc3; have S4 := S3.below hB4; have Sc4 := S4.cell; clear Sc3; have Q4 := Q3.below hB4; have Qc4 := Q4.cell; clear Qc3; have x4 := x3.below hB4; have R4 := below_then R3 hB4))
  obtain ⟨wf, hwf, Sf⟩ := store5 Z4 (.int .u8 T.proto) (.int .u32 T.src) (.int .u32 T.dst) (.int .u16 T.sp) (.int .u16 T.dp)
  rw [hwf]
  have pf := Sf.blk.cell
  exact bodyPost_ret (v := .tuple #[(.agg #[.int .u8 (T).proto, .int .u32 (T).src, .int .u32 (T).dst, .int .u16 (T).sp, .int .u16 (T).dp]), .int .i64 E]) (by simp [results, Try.results10, go_sem, pf]) rfl ⟨⟨rfl, Sf.bel R4 (by omega)⟩⟩

theorem of_tcp (p : Pkt) (hp : p.Ok) (A1 : Option Addr) (n1 c1 : Nat) (A2 : Option Addr) (n2 c2 : Nat) (w : World) (k2 : Bs w A2 n2 c2 p.dat) (h7 : n2 ≤ 140737488400000) (hpr : p.proto = 6) :
    Calls Try.prog 10 #[(.agg #[.int .u8 (p).tos, .int .u16 (p).id, .bool (p).keep, .int .u8 (p).ttl, .int .u8 (p).proto, .int .u32 (p).src, .int .u32 (p).dst, .slice A1 n1 c1, .slice A2 n2 c2])] w (TtPost w (tuP p (tcS p).src (tcS p).dst (tcE p)) (tcE p)) :=
  of_tcp_ p A1 n1 c1 A2 n2 c2 w k2 hpr _ _ _ (fun W h => ptcp_any p hp A1 n1 c1 A2 n2 c2 W h h7)
theorem of_udp_ (p : Pkt) (A1 : Option Addr) (n1 c1 : Nat) (A2 : Option Addr) (n2 c2 : Nat) (w : World) (k2 : Bs w A2 n2 c2 p.dat) (hpr : p.proto = 17) (a b E : Int)
    (ht : ∀ W, Bs W A2 n2 c2 p.dat → Calls Try.prog 49 #[(.agg #[.int .u8 (p).tos, .int .u16 (p).id, .bool (p).keep, .int .u8 (p).ttl, .int .u8 (p).proto, .int .u32 (p).src, .int .u32 (p).dst, .slice A1 n1 c1, .slice A2 n2 c2])] W (PtPost W a b E)) :
    Calls Try.prog 10 #[(.agg #[.int .u8 (p).tos, .int .u16 (p).id, .bool (p).keep, .int .u8 (p).ttl, .int .u8 (p).proto, .int .u32 (p).src, .int .u32 (p).dst, .slice A1 n1 c1, .slice A2 n2 c2])] w (TtPost w (tuP p a b E) E) := by
  have hrun : ∀ (W : World) (r : Nat), W.heap[r]? = some (.map (kn 4) 4) → (Instr.lookup 63 (.map (some r)) (.int .u8 p.proto) true).run Try.prog W = .ok (.tuple #[.agg #[.func (.func 49) #[] #[], .func (.func 46) #[] #[]], .bool true]) W := fun W r h => by
    have := run_known h p.proto
    rw [show knV p.proto = .agg #[.func (.func 49) #[] #[], .func (.func 46) #[] #[]] from by rw [hpr]; rfl, show knB p.proto = true from by rw [hpr]; rfl] at this
    exact this
  clear hpr
  have htu := fun W => tupled_any p A1 n1 c1 A2 n2 c2 a b E W
  obtain ⟨T, hT'⟩ : ∃ T, tuP p a b E = T := ⟨_, rfl⟩
  rw [hT'] at htu
  rw [hT']
  clear hT'
  obtain ⟨k, hk⟩ : ∃ k : Nat, w.heap.size = k := ⟨_, rfl⟩
  obtain ⟨w1, hw1⟩ : ∃ W, ((w.alloc (.cells #[.int .u8 (p).tos, .int .u16 (p).id, .bool (p).keep, .int .u8 (p).ttl, .int .u8 (p).proto, .int .u32 (p).src, .int .u32 (p).dst, .slice A1 n1 c1, .slice A2 n2 c2] 26)).alloc (.cells #[.int .u8 0, .int .u32 0, .int .u32 0, .int .u16 0, .int .u16 0] 28)) = W := ⟨_, rfl⟩
  have P1 : Blk w1 k #[.int .u8 (p).tos, .int .u16 (p).id, .bool (p).keep, .int .u8 (p).ttl, .int .u8 (p).proto, .int .u32 (p).src, .int .u32 (p).dst, .slice A1 n1 c1, .slice A2 n2 c2] 26 := by rw [← hw1]; exact ((blk_new _ _ _ k (by simp [hk])).alloc _)
  have Z1 : Blk w1 (k + 1) #[.int .u8 0, .int .u32 0, .int .u32 0, .int .u16 0, .int .u16 0] 28 := by rw [← hw1]; exact (blk_new _ _ _ (k + 1) (by simp [hk]))
  have R1 : Below w.heap.size w w1 := by rw [← hw1]; (repeat (first | with_reducible exact Below.refl _ _ | with_reducible refine below_drew ?_ | with_reducible refine below_drewN ?_ _ | with_reducible refine below_alloc ?_ (Nat.le_refl _) _ | with_reducible refine Below.setCell ?_ (by first | exact Nat.le_refl _ | (simp only []; omega)) _ | with_reducible assumption))
  have Pc1 := P1.cell
  have Zc1 := Z1.cell
  have Pl1 := P1.lt
  have Zl1 := Z1.lt
  have x1 := (k2).below R1
  go_enter Try.func10, Try.ntmps10
  go_wp2_with fail
  refine region_z 8 6 (by kernel_rfl) (by kernel_rfl) (fun _ _ _ _ _ h => h) ?_; (iterate 8 (first | (apply ObsK.skip (by rfl)) | (apply ObsK.v (by rfl); (intro wo hT; (repeat (first | (intro v hv; ((obtain ⟨r, rfl, hm⟩ := hv; have hlk := hrun _ r hm))) | (intro _ _ k; try have hcv := cv k))); (have pc := (P1.below hT).cell; have hsz : w1.heap.size ≤ wo.heap.size := hT.size); refine Goes.mk ?_; go_simp; first | exact goes_v | exact goes_b (by assumption) | exact goes_new hsz | (refine goes_enter ?_; first | (go_at_call 27; ((with_reducible refine (known_any wo).mono ?_); rintro e w9 ⟨rfl, rfl⟩); exact ret_isKn)))) | (apply ObsK.b (by rfl); (intro wo hT; (repeat (first | (intro v hv; ((obtain ⟨r, rfl, hm⟩ := hv; have hlk := hrun _ r hm))) | (intro _ _ k; try have hcv := cv k))); (have pc := (P1.below hT).cell; have hsz : w1.heap.size ≤ wo.heap.size := hT.size); refine Goes.mk ?_; go_simp; first | exact goes_v | exact goes_b (by assumption) | exact goes_new hsz | (refine goes_enter ?_; first | (go_at_call 27; ((with_reducible refine (known_any wo).mono ?_); rintro e w9 ⟨rfl, rfl⟩); exact ret_isKn)))) | (apply ObsK.p (q := isKn) (by rfl) st_isKn; (intro wo hT; (repeat (first | (intro v hv; ((obtain ⟨r, rfl, hm⟩ := hv; have hlk := hrun _ r hm))) | (intro _ _ k; try have hcv := cv k))); (have pc := (P1.below hT).cell; have hsz : w1.heap.size ≤ wo.heap.size := hT.size); refine Goes.mk ?_; go_simp; first | exact goes_v | exact goes_b (by assumption) | exact goes_new hsz | (refine goes_enter ?_; first | (go_at_call 27; ((with_reducible refine (known_any wo).mono ?_); rintro e w9 ⟨rfl, rfl⟩); exact ret_isKn)))) | (apply ObsK.p (q := isNew w1.heap.size #[.nilFunc, .nilFunc] 61) (by rfl) st_isNew; (intro wo hT; (repeat (first | (intro v hv; ((obtain ⟨r, rfl, hm⟩ := hv; have hlk := hrun _ r hm))) | (intro _ _ k; try have hcv := cv k))); (have pc := (P1.below hT).cell; have hsz : w1.heap.size ≤ wo.heap.size := hT.size); refine Goes.mk ?_; go_simp; first | exact goes_v | exact goes_b (by assumption) | exact goes_new hsz | (refine goes_enter ?_; first | (go_at_call 27; ((with_reducible refine (known_any wo).mono ?_); rintro e w9 ⟨rfl, rfl⟩); exact ret_isKn)))))); refine ObsK.nil ?_; intro wz hBz; simp only [finOn, List.drop_succ_cons, List.drop_zero, List.drop_nil]
  rintro _ ⟨gS, rfl, hS, S2⟩ _ ⟨m, rfl, -⟩
  go_simp
  obtain ⟨wq, hwq, Sq⟩ := store2 S2 (.func (.func 49) #[] #[]) (.func (.func 46) #[] #[])
  have hBq := Sq.bel hBz hS
  have cS2 := S2.cell
  have hsf : ∀ (W : World) (a : Addr) (fn : Fn) (m : Mode), (store a (.func fn #[] #[]) m).run Try.prog W = stored Try.prog W a (.func fn #[] #[]) m := fun W a fn m => run_store _ W a _ m rfl
  have S2 := Sq.blk
  have Sc2 := S2.cell
  have P2 := P1.below hBq
  have Pc2 := P2.cell
  clear Pc1
  have Z2 := Z1.below hBq
  have Zc2 := Z2.cell
  clear Zc1
  have x2 := x1.below hBq
  have R2 := below_then R1 hBq
  go_wp2_with (first
    | (go_at_call 49; ((with_reducible refine (ht wq x2).mono ?_); rintro e u3 ⟨⟨rfl, hB3⟩⟩); (obtain ⟨w3, hw3⟩ : ∃ W, u3.alloc (.cells #[.int .u16 a, .int .u16 b] 66) = W := ⟨_, rfl⟩); have V3 : Below u3.heap.size u3 w3 := (by rw [← hw3]; (repeat (first | with_reducible exact Below.refl _ _ | with_reducible refine below_drew ?_ | with_reducible refine below_drewN ?_ _ | with_reducible refine below_alloc ?_ (Nat.le_refl _) _ | with_reducible refine Below.setCell ?_ (by first | exact Nat.le_refl _ | (simp only []; omega)) _ | with_reducible assumption))); (obtain ⟨kQ3, hkQ3⟩ : ∃ k : Nat, u3.heap.size = k := ⟨_, rfl⟩); have Q3 : Blk w3 kQ3 #[.int .u16 a, .int .u16 b] 66 := (by rw [← hw3]; exact blk_new u3 _ _ _ hkQ3); have Qc3 := Q3.cell; have T3 := below_then hB3 V3; have P3 := P2.below T3; have Pc3 := P3.cell; clear Pc2; have Z3 := Z2.below T3; have Zc3 := Z3.cell; clear Zc2; have S3 := S2.below T3; have Sc3 := S3.cell; clear Sc2; have x3 := x2.below T3; have R3 := below_then R2 T3)
    | (go_at_call 28; ((with_reducible refine (htu w3).mono ?_); rintro e w4 ⟨⟨rfl, hB4⟩⟩); have P4 := P3.below hB4; have Pc4 := P4.cell; clear Pc3; have Z4 := Z3.below hB4; have Zc4 := Z4.cell; clear Zc3; have S4 := S3.below hB4; have Sc4 := S4.cell; clear Sc3; have Q4 := Q3.below hB4; have Qc4 := Q4.cell; clear Qc3; have x4 := x3.below hB4; have R4 := below_then R3 hB4))
  obtain ⟨wf, hwf, Sf⟩ := store5 Z4 (.int .u8 T.proto) (.int .u32 T.src) (.int .u32 T.dst) (.int .u16 T.sp) (.int .u16 T.dp)
  rw [hwf]
  have pf := Sf.blk.cell
  exact bodyPost_ret (v := .tuple #[(.agg #[.int .u8 (T).proto, .int .u32 (T).src, .int .u32 (T).dst, .int .u16 (T).sp, .int .u16 (T).dp]), .int .i64 E]) (by simp [results, Try.results10, go_sem, pf]) rfl ⟨⟨rfl, Sf.bel R4 (by omega)⟩⟩

theorem of_udp (p : Pkt) (hp : p.Ok) (A1 : Option Addr) (n1 c1 : Nat) (A2 : Option Addr) (n2 c2 : Nat) (w : World) (k2 : Bs w A2 n2 c2 p.dat) (hpr : p.proto = 17) :
    Calls Try.prog 10 #[(.agg #[.int .u8 (p).tos, .int .u16 (p).id, .bool (p).keep, .int .u8 (p).ttl, .int .u8 (p).proto, .int .u32 (p).src, .int .u32 (p).dst, .slice A1 n1 c1, .slice A2 n2 c2])] w (TtPost w (tuP p (udD p).src (udD p).dst (udE p)) (udE p)) :=
  of_udp_ p A1 n1 c1 A2 n2 c2 w k2 hpr _ _ _ (fun W h => pudp_any p hp A1 n1 c1 A2 n2 c2 W h)
theorem of_icmp_ (p : Pkt) (A1 : Option Addr) (n1 c1 : Nat) (A2 : Option Addr) (n2 c2 : Nat) (w : World) (k2 : Bs w A2 n2 c2 p.dat) (hpr : p.proto = 1) (a b E : Int)
    (ht : ∀ W, Bs W A2 n2 c2 p.dat → Calls Try.prog 50 #[(.agg #[.int .u8 (p).tos, .int .u16 (p).id, .bool (p).keep, .int .u8 (p).ttl, .int .u8 (p).proto, .int .u32 (p).src, .int .u32 (p).dst, .slice A1 n1 c1, .slice A2 n2 c2])] W (PtPost W a b E)) :
    Calls Try.prog 10 #[(.agg #[.int .u8 (p).tos, .int .u16 (p).id, .bool (p).keep, .int .u8 (p).ttl, .int .u8 (p).proto, .int .u32 (p).src, .int .u32 (p).dst, .slice A1 n1 c1, .slice A2 n2 c2])] w (TtPost w (tuP p a b E) E) := by
  have hrun : ∀ (W : World) (r : Nat), W.heap[r]? = some (.map (kn 4) 4) → (Instr.lookup 63 (.map (some r)) (.int .u8 p.proto) true).run Try.prog W = .ok (.tuple #[.agg #[.func (.func 50) #[] #[], .func (.func 51) #[] #[]], .bool true]) W := fun W r h => by
    have := run_known h p.proto
    rw [show knV p.proto = .agg #[.func (.func 50) #[] #[], .func (.func 51) #[] #[]] from by rw [hpr]; rfl, show knB p.proto = true from by rw [hpr]; rfl] at this
    exact this
  clear hpr
  have htu := fun W => tupled_any p A1 n1 c1 A2 n2 c2 a b E W
  obtain ⟨T, hT'⟩ : ∃ T, tuP p a b E = T := ⟨_, rfl⟩
  rw [hT'] at htu
  rw [hT']
  clear hT'
  obtain ⟨k, hk⟩ : ∃ k : Nat, w.heap.size = k := ⟨_, rfl⟩
  obtain ⟨w1, hw1⟩ : ∃ W, ((w.alloc (.cells #[.int .u8 (p).tos, .int .u16 (p).id, .bool (p).keep, .int .u8 (p).ttl, .int .u8 (p).proto, .int .u32 (p).src, .int .u32 (p).dst, .slice A1 n1 c1, .slice A2 n2 c2] 26)).alloc (.cells #[.int .u8 0, .int .u32 0, .int .u32 0, .int .u16 0, .int .u16 0] 28)) = W := ⟨_, rfl⟩
  have P1 : Blk w1 k #[.int .u8 (p).tos, .int .u16 (p).id, .bool (p).keep, .int .u8 (p).ttl, .int .u8 (p).proto, .int .u32 (p).src, .int .u32 (p).dst, .slice A1 n1 c1, .slice A2 n2 c2] 26 := by rw [← hw1]; exact ((blk_new _ _ _ k (by simp [hk])).alloc _)
  have Z1 : Blk w1 (k + 1) #[.int .u8 0, .int .u32 0, .int .u32 0, .int .u16 0, .int .u16 0] 28 := by rw [← hw1]; exact (blk_new _ _ _ (k + 1) (by simp [hk]))
  have R1 : Below w.heap.size w w1 := by rw [← hw1]; (repeat (first | with_reducible exact Below.refl _ _ | with_reducible refine below_drew ?_ | with_reducible refine below_drewN ?_ _ | with_reducible refine below_alloc ?_ (Nat.le_refl _) _ | with_reducible refine Below.setCell ?_ (by first | exact Nat.le_refl _ | (simp only []; omega)) _ | with_reducible assumption))
  have Pc1 := P1.cell
  have Zc1 := Z1.cell
  have Pl1 := P1.lt
  have Zl1 := Z1.lt
  have x1 := (k2).below R1
  go_enter Try.func10, Try.ntmps10
  go_wp2_with fail
  refine region_z 8 6 (by kernel_rfl) (by kernel_rfl) (fun _ _ _ _ _ h => h) ?_; (iterate 8 (first | (apply ObsK.skip (by rfl)) | (apply ObsK.v (by rfl); (intro wo hT; (repeat (first | (intro v hv; ((obtain ⟨r, rfl, hm⟩ := hv; have hlk := hrun _ r hm))) | (intro _ _ k; try have hcv := cv k))); (have pc := (P1.below hT).cell; have hsz : w1.heap.size ≤ wo.heap.size := hT.size); refine Goes.mk ?_; go_simp; first | exact goes_v | exact goes_b (by assumption) | exact goes_new hsz | (refine goes_enter ?_; first | (go_at_call 27; ((with_reducible refine (known_any wo).mono ?_); rintro e w9 ⟨rfl, rfl⟩); exact ret_isKn)))) | (apply ObsK.b (by rfl); (intro wo hT; (repeat (first | (intro v hv; ((obtain ⟨r, rfl, hm⟩ := hv; have hlk := hrun _ r hm))) | (intro _ _ k; try have hcv := cv k))); (have pc := (P1.below hT).cell; have hsz : w1.heap.size ≤ wo.heap.size := hT.size); refine Goes.mk ?_; go_simp; first | exact goes_v | exact goes_b (by assumption) | exact goes_new hsz | (refine goes_enter ?_; first | (go_at_call 27; ((with_reducible refine (known_any wo).mono ?_); rintro e w9 ⟨rfl, rfl⟩); exact ret_isKn)))) | (apply ObsK.p (q := isKn) (by rfl) st_isKn; (intro wo hT; (repeat (first | (intro v hv; ((obtain ⟨r, rfl, hm⟩ := hv; have hlk := hrun _ r hm))) | (intro _ _ k; try have hcv := cv k))); (have pc := (P1.below hT).cell; have hsz : w1.heap.size ≤ wo.heap.size := hT.size); refine Goes.mk ?_; go_simp; first | exact goes_v | exact goes_b (by assumption) | exact goes_new hsz | (refine goes_enter ?_; first | (go_at_call 27; ((with_reducible refine (known_any wo).mono ?_); rintro e w9 ⟨rfl, rfl⟩); exact ret_isKn)))) | (apply ObsK.p (q := isNew w1.heap.size #[.nilFunc, .nilFunc] 61) (by rfl) st_isNew; (intro wo hT; (repeat (first | (intro v hv; ((obtain ⟨r, rfl, hm⟩ := hv; have hlk := hrun _ r hm))) | (intro _ _ k; try have hcv := cv k))); (have pc := (P1.below hT).cell; have hsz : w1.heap.size ≤ wo.heap.size := hT.size); refine Goes.mk ?_; go_simp; first | exact goes_v | exact goes_b (by assumption) | exact goes_new hsz | (refine goes_enter ?_; first | (go_at_call 27; ((with_reducible refine (known_any wo).mono ?_); rintro e w9 ⟨rfl, rfl⟩); exact ret_isKn)))))); refine ObsK.nil ?_; intro wz hBz; simp only [finOn, List.drop_succ_cons, List.drop_zero, List.drop_nil]
  rintro _ ⟨gS, rfl, hS, S2⟩ _ ⟨m, rfl, -⟩
  go_simp
  obtain ⟨wq, hwq, Sq⟩ := store2 S2 (.func (.func 50) #[] #[]) (.func (.func 51) #[] #[])
  have hBq := Sq.bel hBz hS
  have cS2 := S2.cell
  have hsf : ∀ (W : World) (a : Addr) (fn : Fn) (m : Mode), (store a (.func fn #[] #[]) m).run Try.prog W = stored Try.prog W a (.func fn #[] #[]) m := fun W a fn m => run_store _ W a _ m rfl
  have S2 := Sq.blk
  have Sc2 := S2.cell
  have P2 := P1.below hBq
  have Pc2 := P2.cell
  clear Pc1
  have Z2 := Z1.below hBq
  have Zc2 := Z2.cell
  clear Zc1
  have x2 := x1.below hBq
  have R2 := below_then R1 hBq
  go_wp2_with (first
    | (go_at_call 50; ((with_reducible refine (ht wq x2).mono ?_); rintro e u3 ⟨⟨rfl, hB3⟩⟩); (obtain ⟨w3, hw3⟩ : ∃ W, u3.alloc (.cells #[.int .u16 a, .int .u16 b] 66) = W := ⟨_, rfl⟩); have V3 : Below u3.heap.size u3 w3 := (by rw [← hw3]; (repeat (first | with_reducible exact Below.refl _ _ | with_reducible refine below_drew ?_ | with_reducible refine below_drewN ?_ _ | with_reducible refine below_alloc ?_ (Nat.le_refl _) _ | with_reducible refine Below.setCell ?_ (by first | exact Nat.le_refl _ | (simp only []; omega)) _ | with_reducible assumption))); (obtain ⟨kQ3, hkQ3⟩ : ∃ k : Nat, u3.heap.size = k := ⟨_, rfl⟩); have Q3 : Blk w3 kQ3 #[.int .u16 a, .int .u16 b] 66 := (by rw [← hw3]; exact blk_new u3 _ _ _ hkQ3); have Qc3 := Q3.cell; have T3 := below_then hB3 V3; have P3 := P2.below T3; have Pc3 := P3.cell; clear Pc2; have Z3 := Z2.below T3; have Zc3 := Z3.cell; clear Zc2; have S3 := S2.below T3; have Sc3 := S3.cell; clear Sc2; have x3 := x2.below T3; have R3 := below_then R2 T3)
    | (go_at_call 28; ((with_reducible refine (htu w3).mono ?_); rintro e w4 ⟨⟨rfl, hB4⟩⟩); have P4 := P3.below hB4; have Pc4 := P4.cell; clear Pc3; have Z4 := Z3.below hB4; have Zc4 := Z4.cell; clear Zc3; have S4 := S3.below hB4; have Sc4 := S4.cell; clear Sc3; have Q4 := Q3.below hB4; have Qc4 := Q4.cell; clear Qc3; have x4 := x3.below hB4; have R4 := below_then R3 hB4))
  obtain ⟨wf, hwf, Sf⟩ := store5 Z4 (.int .u8 T.proto) (.int .u32 T.src) (.int .u32 T.dst) (.int .u16 T.sp) (.int .u16 T.dp)
  rw [hwf]
  have pf := Sf.blk.cell
  exact bodyPost_ret (v := .tuple #[(.agg #[.int .u8 (T).proto, .int .u32 (T).src, .int .u32 (T).dst, .int .u16 (T).sp, .int .u16 (T).dp]), .int .i64 E]) (by simp [results, Try.results10, go_sem, pf]) rfl ⟨⟨rfl, Sf.bel R4 (by omega)⟩⟩

theorem of_icmp (p : Pkt) (A1 : Option Addr) (n1 c1 : Nat) (A2 : Option Addr) (n2 c2 : Nat) (w : World) (k2 : Bs w A2 n2 c2 p.dat) (hpr : p.proto = 1) :
    Calls Try.prog 10 #[(.agg #[.int .u8 (p).tos, .int .u16 (p).id, .bool (p).keep, .int .u8 (p).ttl, .int .u8 (p).proto, .int .u32 (p).src, .int .u32 (p).dst, .slice A1 n1 c1, .slice A2 n2 c2])] w (TtPost w (tuP p ((icM p).rest / 65536) ((icM p).rest / 65536) (picE (icE p) (icM p))) (picE (icE p) (icM p))) :=
  of_icmp_ p A1 n1 c1 A2 n2 c2 w k2 hpr _ _ _ (fun W h => picmp_any p A1 n1 c1 A2 n2 c2 W h)
theorem of_gre_ (p : Pkt) (A1 : Option Addr) (n1 c1 : Nat) (A2 : Option Addr) (n2 c2 : Nat) (w : World) (k2 : Bs w A2 n2 c2 p.dat) (hpr : p.proto = 47) (a b E : Int)
    (ht : ∀ W, Bs W A2 n2 c2 p.dat → Calls Try.prog 52 #[(.agg #[.int .u8 (p).tos, .int .u16 (p).id, .bool (p).keep, .int .u8 (p).ttl, .int .u8 (p).proto, .int .u32 (p).src, .int .u32 (p).dst, .slice A1 n1 c1, .slice A2 n2 c2])] W (PtPost W a b E)) :
    Calls Try.prog 10 #[(.agg #[.int .u8 (p).tos, .int .u16 (p).id, .bool (p).keep, .int .u8 (p).ttl, .int .u8 (p).proto, .int .u32 (p).src, .int .u32 (p).dst, .slice A1 n1 c1, .slice A2 n2 c2])] w (TtPost w (tuP p a b E) E) := by
  have hrun : ∀ (W : World) (r : Nat), W.heap[r]? = some (.map (kn 4) 4) → (Instr.lookup 63 (.map (some r)) (.int .u8 p.proto) true).run Try.prog W = .ok (.tuple #[.agg #[.func (.func 52) #[] #[], .func (.func 53) #[] #[]], .bool true]) W := fun W r h => by
    have := run_known h p.proto
    rw [show knV p.proto = .agg #[.func (.func 52) #[] #[], .func (.func 53) #[] #[]] from by rw [hpr]; rfl, show knB p.proto = true from by rw [hpr]; rfl] at this
    exact this
  clear hpr
  have htu := fun W => tupled_any p A1 n1 c1 A2 n2 c2 a b E W
  obtain ⟨T, hT'⟩ : ∃ T, tuP p a b E = T := ⟨_, rfl⟩
  rw [hT'] at htu
  rw [hT']
  clear hT'
  obtain ⟨k, hk⟩ : ∃ k : Nat, w.heap.size = k := ⟨_, rfl⟩
  obtain ⟨w1, hw1⟩ : ∃ W, ((w.alloc (.cells #[.int .u8 (p).tos, .int .u16 (p).id, .bool (p).keep, .int .u8 (p).ttl, .int .u8 (p).proto, .int .u32 (p).src, .int .u32 (p).dst, .slice A1 n1 c1, .slice A2 n2 c2] 26)).alloc (.cells #[.int .u8 0, .int .u32 0, .int .u32 0, .int .u16 0, .int .u16 0] 28)) = W := ⟨_, rfl⟩
  have P1 : Blk w1 k #[.int .u8 (p).tos, .int .u16 (p).id, .bool (p).keep, .int .u8 (p).ttl, .int .u8 (p).proto, .int .u32 (p).src, .int .u32 (p).dst, .slice A1 n1 c1, .slice A2 n2 c2] 26 := by rw [← hw1]; exact ((blk_new _ _ _ k (by simp [hk])).alloc _)
  have Z1 : Blk w1 (k + 1) #[.int .u8 0, .int .u32 0, .int .u32 0, .int .u16 0, .int .u16 0] 28 := by rw [← hw1]; exact (blk_new _ _ _ (k + 1) (by simp [hk]))
  have R1 : Below w.heap.size w w1 := by rw [← hw1]; (repeat (first | with_reducible exact Below.refl _ _ | with_reducible refine below_drew ?_ | with_reducible refine below_drewN ?_ _ | with_reducible refine below_alloc ?_ (Nat.le_refl _) _ | with_reducible refine Below.setCell ?_ (by first | exact Nat.le_refl _ | (simp only []; omega)) _ | with_reducible assumption))
  have Pc1 := P1.cell
  have Zc1 := Z1.cell
  have Pl1 := P1.lt
  have Zl1 := Z1.lt
  have x1 := (k2).below R1
  go_enter Try.func10, Try.ntmps10
  go_wp2_with fail
  refine region_z 8 6 (by kernel_rfl) (by kernel_rfl) (fun _ _ _ _ _ h => h) ?_; (iterate 8 (first | (apply ObsK.skip (by rfl)) | (apply ObsK.v (by rfl); (intro wo hT; (repeat (first | (intro v hv; ((obtain ⟨r, rfl, hm⟩ := hv; have hlk := hrun _ r hm))) | (intro _ _ k; try have hcv := cv k))); (have pc := (P1.below hT).cell; have hsz : w1.heap.size ≤ wo.heap.size := hT.size); refine Goes.mk ?_; go_simp; first | exact goes_v | exact goes_b (by assumption) | exact goes_new hsz | (refine goes_enter ?_; first | (go_at_call 27; ((with_reducible refine (known_any wo).mono ?_); rintro e w9 ⟨rfl, rfl⟩); exact ret_isKn)))) | (apply ObsK.b (by rfl); (intro wo hT; (repeat (first | (intro v hv; ((obtain ⟨r, rfl, hm⟩ := hv; have hlk := hrun _ r hm))) | (intro _ _ k; try have hcv := cv k))); (have pc := (P1.below hT).cell; have hsz : w1.heap.size ≤ wo.heap.size := hT.size); refine Goes.mk ?_; go_simp; first | exact goes_v | exact goes_b (by assumption) | exact goes_new hsz | (refine goes_enter ?_; first | (go_at_call 27; ((with_reducible refine (known_any wo).mono ?_); rintro e w9 ⟨rfl, rfl⟩); exact ret_isKn)))) | (apply ObsK.p (q := isKn) (by rfl) st_isKn; (intro wo hT; (repeat (first | (intro v hv; ((obtain ⟨r, rfl, hm⟩ := hv; have hlk := hrun _ r hm))) | (intro _ _ k; try have hcv := cv k))); (have pc := (P1.below hT).cell; have hsz : w1.heap.size ≤ wo.heap.size := hT.size); refine Goes.mk ?_; go_simp; first | exact goes_v | exact goes_b (by assumption) | exact goes_new hsz | (refine goes_enter ?_; first | (go_at_call 27; ((with_reducible refine (known_any wo).mono ?_); rintro e w9 ⟨rfl, rfl⟩); exact ret_isKn)))) | (apply ObsK.p (q := isNew w1.heap.size #[.nilFunc, .nilFunc] 61) (by rfl) st_isNew; (intro wo hT; (repeat (first | (intro v hv; ((obtain ⟨r, rfl, hm⟩ := hv; have hlk := hrun _ r hm))) | (intro _ _ k; try have hcv := cv k))); (have pc := (P1.below hT).cell; have hsz : w1.heap.size ≤ wo.heap.size := hT.size); refine Goes.mk ?_; go_simp; first | exact goes_v | exact goes_b (by assumption) | exact goes_new hsz | (refine goes_enter ?_; first | (go_at_call 27; ((with_reducible refine (known_any wo).mono ?_); rintro e w9 ⟨rfl, rfl⟩); exact ret_isKn)))))); refine ObsK.nil ?_; intro wz hBz; simp only [finOn, List.drop_succ_cons, List.drop_zero, List.drop_nil]
  rintro _ ⟨gS, rfl, hS, S2⟩ _ ⟨m, rfl, -⟩
  go_simp
  obtain ⟨wq, hwq, Sq⟩ := store2 S2 (.func (.func 52) #[] #[]) (.func (.func 53) #[] #[])
  have hBq := Sq.bel hBz hS
  have cS2 := S2.cell
  have hsf : ∀ (W : World) (a : Addr) (fn : Fn) (m : Mode), (store a (.func fn #[] #[]) m).run Try.prog W = stored Try.prog W a (.func fn #[] #[]) m := fun W a fn m => run_store _ W a _ m rfl
  have S2 := Sq.blk
  have Sc2 := S2.cell
  have P2 := P1.below hBq
  have Pc2 := P2.cell
  clear Pc1
  have Z2 := Z1.below hBq
  have Zc2 := Z2.cell
  clear Zc1
  have x2 := x1.below hBq
  have R2 := below_then R1 hBq
  go_wp2_with (first
    | (go_at_call 52; ((with_reducible refine (ht wq x2).mono ?_); rintro e u3 ⟨⟨rfl, hB3⟩⟩); (obtain ⟨w3, hw3⟩ : ∃ W, u3.alloc (.cells #[.int .u16 a, .int .u16 b] 66) = W := ⟨_, rfl⟩); have V3 : Below u3.heap.size u3 w3 := (by rw [← hw3]; (repeat (first | with_reducible exact Below.refl _ _ | with_reducible refine below_drew ?_ | with_reducible refine below_drewN ?_ _ | with_reducible refine below_alloc ?_ (Nat.le_refl _) _ | with_reducible refine Below.setCell ?_ (by first | exact Nat.le_refl _ | (simp only []; omega)) _ | with_reducible assumption))); (obtain ⟨kQ3, hkQ3⟩ : ∃ k : Nat, u3.heap.size = k := ⟨_, rfl⟩); have Q3 : Blk w3 kQ3 #[.int .u16 a, .int .u16 b] 66 := (by rw [← hw3]; exact blk_new u3 _ _ _ hkQ3); have Qc3 := Q3.cell; have T3 := below_then hB3 V3; have P3 := P2.below T3; have Pc3 := P3.cell; clear Pc2; have Z3 := Z2.below T3; have Zc3 := Z3.cell; clear Zc2; have S3 := S2.below T3; have Sc3 := S3.cell; clear Sc2; have x3 := x2.below T3; have R3 := below_then R2 T3)
    | (go_at_call 28; ((with_reducible refine (htu w3).mono ?_); rintro e w4 ⟨⟨rfl, hB4⟩⟩); have P4 := P3.below hB4; have Pc4 := P4.cell; clear Pc3; have Z4 := Z3.below hB4; have Zc4 := Z4.cell; clear Zc3; have S4 := S3.below hB4; have Sc4 := S4.cell; clear Sc3; have Q4 := Q3.below hB4; have Qc4 := Q4.cell; clear Qc3; have x4 := x3.below hB4; have R4 := below_then R3 hB4))
  obtain ⟨wf, hwf, Sf⟩ := store5 Z4 (.int .u8 T.proto) (.int .u32 T.src) (.int .u32 T.dst) (.int .u16 T.sp) (.int .u16 T.dp)
  rw [hwf]
  have pf := Sf.blk.cell
  exact bodyPost_ret (v := .tuple #[(.agg #[.int .u8 (T).proto, .int .u32 (T).src, .int .u32 (T).dst, .int .u16 (T).sp, .int .u16 (T).dp]), .int .i64 E]) (by simp [results, Try.results10, go_sem, pf]) rfl ⟨⟨rfl, Sf.bel R4 (by omega)⟩⟩

theorem of_gre (p : Pkt) (A1 : Option Addr) (n1 c1 : Nat) (A2 : Option Addr) (n2 c2 : Nat) (w : World) (k2 : Bs w A2 n2 c2 p.dat) (hpr : p.proto = 47) :
    Calls Try.prog 10 #[(.agg #[.int .u8 (p).tos, .int .u16 (p).id, .bool (p).keep, .int .u8 (p).ttl, .int .u8 (p).proto, .int .u32 (p).src, .int .u32 (p).dst, .slice A1 n1 c1, .slice A2 n2 c2])] w (TtPost w (tuP p 0 (geF p).call (geE p)) (geE p)) :=
  of_gre_ p A1 n1 c1 A2 n2 c2 w k2 hpr _ _ _ (fun W h => pgre_any p A1 n1 c1 A2 n2 c2 W h)
theorem of_no (p : Pkt) (A1 : Option Addr) (n1 c1 : Nat) (A2 : Option Addr) (n2 c2 : Nat) (w : World) (h6 : p.proto ≠ 6) (h17 : p.proto ≠ 17) (h1 : p.proto ≠ 1) (h47 : p.proto ≠ 47) :
    Calls Try.prog 10 #[(.agg #[.int .u8 (p).tos, .int .u16 (p).id, .bool (p).keep, .int .u8 (p).ttl, .int .u8 (p).proto, .int .u32 (p).src, .int .u32 (p).dst, .slice A1 n1 c1, .slice A2 n2 c2])] w (TtPost w zT 12) := by
  have hrun : ∀ (W : World) (r : Nat), W.heap[r]? = some (.map (kn 4) 4) → (Instr.lookup 63 (.map (some r)) (.int .u8 p.proto) true).run Try.prog W = .ok (.tuple #[.agg #[.nilFunc, .nilFunc], .bool false]) W := fun W r h => by
    have := run_known h p.proto
    rw [show knV p.proto = .agg #[.nilFunc, .nilFunc] from by unfold knV; rw [if_neg h6, if_neg h17, if_neg h1, if_neg h47], show knB p.proto = false from by simp [knB, h6, h17, h1, h47]] at this
    exact this
  clear h6 h17 h1 h47
  obtain ⟨k, hk⟩ : ∃ k : Nat, w.heap.size = k := ⟨_, rfl⟩
  obtain ⟨w1, hw1⟩ : ∃ w1, (w.alloc (.cells #[.int .u8 (p).tos, .int .u16 (p).id, .bool (p).keep, .int .u8 (p).ttl, .int .u8 (p).proto, .int .u32 (p).src, .int .u32 (p).dst, .slice A1 n1 c1, .slice A2 n2 c2] 26)).alloc (.cells #[.int .u8 0, .int .u32 0, .int .u32 0, .int .u16 0, .int .u16 0] 28) = w1 := ⟨_, rfl⟩
  have P1 : Blk w1 k #[.int .u8 (p).tos, .int .u16 (p).id, .bool (p).keep, .int .u8 (p).ttl, .int .u8 (p).proto, .int .u32 (p).src, .int .u32 (p).dst, .slice A1 n1 c1, .slice A2 n2 c2] 26 := by rw [← hw1]; exact (blk_new w _ _ k hk).alloc _
  have Z1 : Blk w1 (k + 1) #[.int .u8 0, .int .u32 0, .int .u32 0, .int .u16 0, .int .u16 0] 28 := by rw [← hw1]; exact blk_new _ _ _ _ (by simp [hk])
  have R1 : Below w.heap.size w w1 := by rw [← hw1]; (repeat (first | with_reducible exact Below.refl _ _ | with_reducible refine below_drew ?_ | with_reducible refine below_drewN ?_ _ | with_reducible refine below_alloc ?_ (Nat.le_refl _) _ | with_reducible refine Below.setCell ?_ (by first | exact Nat.le_refl _ | (simp only []; omega)) _ | with_reducible assumption))
  have Zl1 := Z1.lt
  have Pc1 := P1.cell
  have Zc1 := Z1.cell
  go_enter Try.func10, Try.ntmps10
  go_wp2_with fail
  refine region_z 8 6 (by kernel_rfl) (by kernel_rfl) (fun _ _ _ _ _ h => h) ?_; (iterate 8 (first | (apply ObsK.skip (by rfl)) | (apply ObsK.v (by rfl); (intro wo hT; (repeat (first | (intro v hv; ((obtain ⟨r, rfl, hm⟩ := hv; have hlk := hrun _ r hm))) | (intro _ _ k; try have hcv := cv k))); (have pc := (P1.below hT).cell; have hsz : w1.heap.size ≤ wo.heap.size := hT.size); refine Goes.mk ?_; go_simp; first | exact goes_v | exact goes_b (by assumption) | exact goes_new hsz | (refine goes_enter ?_; first | (go_at_call 27; ((with_reducible refine (known_any wo).mono ?_); rintro e w9 ⟨rfl, rfl⟩); exact ret_isKn)))) | (apply ObsK.b (by rfl); (intro wo hT; (repeat (first | (intro v hv; ((obtain ⟨r, rfl, hm⟩ := hv; have hlk := hrun _ r hm))) | (intro _ _ k; try have hcv := cv k))); (have pc := (P1.below hT).cell; have hsz : w1.heap.size ≤ wo.heap.size := hT.size); refine Goes.mk ?_; go_simp; first | exact goes_v | exact goes_b (by assumption) | exact goes_new hsz | (refine goes_enter ?_; first | (go_at_call 27; ((with_reducible refine (known_any wo).mono ?_); rintro e w9 ⟨rfl, rfl⟩); exact ret_isKn)))) | (apply ObsK.p (q := isKn) (by rfl) st_isKn; (intro wo hT; (repeat (first | (intro v hv; ((obtain ⟨r, rfl, hm⟩ := hv; have hlk := hrun _ r hm))) | (intro _ _ k; try have hcv := cv k))); (have pc := (P1.below hT).cell; have hsz : w1.heap.size ≤ wo.heap.size := hT.size); refine Goes.mk ?_; go_simp; first | exact goes_v | exact goes_b (by assumption) | exact goes_new hsz | (refine goes_enter ?_; first | (go_at_call 27; ((with_reducible refine (known_any wo).mono ?_); rintro e w9 ⟨rfl, rfl⟩); exact ret_isKn)))) | (apply ObsK.p (q := isNew w1.heap.size #[.nilFunc, .nilFunc] 61) (by rfl) st_isNew; (intro wo hT; (repeat (first | (intro v hv; ((obtain ⟨r, rfl, hm⟩ := hv; have hlk := hrun _ r hm))) | (intro _ _ k; try have hcv := cv k))); (have pc := (P1.below hT).cell; have hsz : w1.heap.size ≤ wo.heap.size := hT.size); refine Goes.mk ?_; go_simp; first | exact goes_v | exact goes_b (by assumption) | exact goes_new hsz | (refine goes_enter ?_; first | (go_at_call 27; ((with_reducible refine (known_any wo).mono ?_); rintro e w9 ⟨rfl, rfl⟩); exact ret_isKn)))))); refine ObsK.nil ?_; intro wz hBz; simp only [finOn, List.drop_succ_cons, List.drop_zero, List.drop_nil]
  rintro _ ⟨gS, rfl, hS, S2⟩ _ ⟨m, rfl, -⟩
  go_simp
  obtain ⟨wq, hwq, Sq⟩ := store2 S2 .nilFunc .nilFunc
  have hBq := Sq.bel hBz hS
  have cS2 := S2.cell
  have hsf : ∀ (W : World) (a : Addr) (m : Mode), (store a .nilFunc m).run Try.prog W = stored Try.prog W a .nilFunc m := fun W a m => run_store _ W a _ m rfl
  have Z2 := Z1.below hBq
  have Zc2 := Z2.cell
  have R2 := below_then R1 hBq
  go_wp2_with fail
  obtain ⟨wf, hwf, Sf⟩ := store5 Z2 (.int .u8 0) (.int .u32 0) (.int .u32 0) (.int .u16 0) (.int .u16 0)
  rw [hwf]
  have pf := Sf.blk.cell
  exact bodyPost_ret (v := .tuple #[(.agg #[.int .u8 (zT).proto, .int .u32 (zT).src, .int .u32 (zT).dst, .int .u16 (zT).sp, .int .u16 (zT).dp]), .int .i64 12]) (by simp [results, Try.results10, go_sem, pf, zT]) rfl ⟨⟨rfl, Sf.bel R2 (by omega)⟩⟩
def ofE (p : Pkt) : Int := if p.proto = 6 then tcE p else if p.proto = 17 then udE p else if p.proto = 1 then picE (icE p) (icM p) else if p.proto = 47 then geE p else 12
def ofT (p : Pkt) : Tup := if p.proto = 6 then tuP p (tcS p).src (tcS p).dst (tcE p) else if p.proto = 17 then tuP p (udD p).src (udD p).dst (udE p) else if p.proto = 1 then tuP p ((icM p).rest / 65536) ((icM p).rest / 65536) (picE (icE p) (icM p)) else if p.proto = 47 then tuP p 0 (geF p).call (geE p) else zT
theorem of_any (p : Pkt) (hp : p.Ok) (A1 : Option Addr) (n1 c1 : Nat) (A2 : Option Addr) (n2 c2 : Nat) (w : World) (k2 : Bs w A2 n2 c2 p.dat) (h7 : n2 ≤ 140737488400000) :
    Calls Try.prog 10 #[(.agg #[.int .u8 (p).tos, .int .u16 (p).id, .bool (p).keep, .int .u8 (p).ttl, .int .u8 (p).proto, .int .u32 (p).src, .int .u32 (p).dst, .slice A1 n1 c1, .slice A2 n2 c2])] w (TtPost w (ofT p) (ofE p)) := by
  unfold ofT ofE
  by_cases h6 : p.proto = 6
  · rw [if_pos h6, if_pos h6]; exact of_tcp p hp A1 n1 c1 A2 n2 c2 w k2 h7 h6
  rw [if_neg h6, if_neg h6]
  by_cases h17 : p.proto = 17
  · rw [if_pos h17, if_pos h17]; exact of_udp p hp A1 n1 c1 A2 n2 c2 w k2 h17
  rw [if_neg h17, if_neg h17]
  by_cases h1 : p.proto = 1
  · rw [if_pos h1, if_pos h1]; exact of_icmp p A1 n1 c1 A2 n2 c2 w k2 h1
  rw [if_neg h1, if_neg h1]
  by_cases h47 : p.proto = 47
  · rw [if_pos h47, if_pos h47]; exact of_gre p A1 n1 c1 A2 n2 c2 w k2 h47
  rw [if_neg h47, if_neg h47]
  exact of_no p A1 n1 c1 A2 n2 c2 w h6 h17 h1 h47
end Go.Proofs.Ythgoffbfgdgkpaa

/- lychgatelaw05.live. -/
namespace Go.Proofs.Ythgoffbfgdgkpaa
open Go.RowKit
set_option linter.unusedVariables false
set_option linter.unusedSimpArgs false
set_option maxHeartbeats 4000000
set_option maxRecDepth 100000

def q05 : Pkt := ⟨0, 0, false, 0, 0, 1, 2, [], []⟩
def d05 : Dgm := ⟨3, 4, false, []⟩
def p05 : Pkt := ⟨0, 0, false, 0, 17, 1, 2, [], dS q05 d05⟩
def t05 : Tup := ⟨17, 1, 2, 3, 4⟩
theorem q05_ok : q05.Ok := ⟨by decide, by decide, by decide, by decide, by decide, by decide⟩
theorem p05_ok : p05.Ok := ⟨by decide, by decide, by decide, by decide, by decide, by decide⟩
theorem t05_ok : t05.Ok := ⟨by decide, by decide, by decide, by decide, by decide⟩
theorem live05_any (w : World) : Calls Try.prog 12 #[] w fun e w' => e = .returned (.bool true) ∧ Below w.heap.size w w' := by
  have cu : ∀ W, Calls Try.prog 20 #[.agg #[.int .u8 0, .int .u16 0, .bool false, .int .u8 0, .int .u8 0, .int .u32 1, .int .u32 2, .slice none 0 0, .slice none 0 0], .agg #[.int .u16 3, .int .u16 4, .bool false, .slice none 0 0]] W fun e w' => ∃ B1 m1 d1 B2 d2, e = .returned (.tuple #[.agg #[.int .u8 0, .int .u16 0, .bool false, .int .u8 0, .int .u8 17, .int .u32 1, .int .u32 2, .slice B1 m1 d1, .slice B2 8 d2], .int .i64 0]) ∧ Bs w' B2 8 d2 p05.dat ∧ Below W.heap.size W w' := fun W => by
    have hh := rdbuild_any q05 q05_ok none 0 0 none 0 0 d05 ⟨by decide, by decide⟩ none 0 0 W (Bs.none_ _) (Bs.none_ _)
    refine hh.mono fun e w' hq => ?_
    obtain ⟨B1, m1, d1, B2, m2, d2, rfl, -, h2, h3⟩ := hq.out
    have e1 : dbP q05 d05 = p05 := by kernel_rfl
    have e2 : dbE q05 d05 = 0 := by kernel_rfl
    rw [e1] at h2 ⊢
    rw [e2]
    have h5 : m2 = 8 := by have h4 := h2.len; rw [show p05.dat = dS q05 d05 from rfl, dS_len] at h4; simpa [d05] using h4.symm
    subst h5
    exact ⟨B1, m1, d1, B2, d2, rfl, h2.bs, h3⟩
  have co : ∀ W B1 m1 d1 B2 d2, Bs W B2 8 d2 p05.dat → Calls Try.prog 10 #[.agg #[.int .u8 0, .int .u16 0, .bool false, .int .u8 0, .int .u8 17, .int .u32 1, .int .u32 2, .slice B1 m1 d1, .slice B2 8 d2]] W fun e w' => e = .returned (.tuple #[.agg #[.int .u8 17, .int .u32 1, .int .u32 2, .int .u16 3, .int .u16 4], .int .i64 0]) ∧ Below W.heap.size W w' := fun W B1 m1 d1 B2 d2 K => by
    have hh := of_any p05 p05_ok B1 m1 d1 B2 8 d2 W K (by omega)
    refine hh.mono fun e w' hq => ?_
    obtain ⟨rfl, h3⟩ := hq.out
    have e1 : ofT p05 = t05 := by kernel_rfl
    have e2 : ofE p05 = 0 := by kernel_rfl
    rw [e1, e2]
    exact ⟨rfl, h3⟩
  have cr : ∀ W, Calls Try.prog 13 #[.agg #[.int .u8 17, .int .u32 1, .int .u32 2, .int .u16 3, .int .u16 4]] W fun e w' => e = .returned (.agg #[.int .u8 17, .int .u32 2, .int .u32 1, .int .u16 4, .int .u16 3]) ∧ Below W.heap.size W w' := fun W => rev_any t05 W
  obtain ⟨h, hh⟩ : ∃ h, hashT t05 = h := ⟨_, rfl⟩
  have hne : (h != 0) = true := by rw [← hh]; kernel_rfl
  have ch : ∀ W, Calls Try.prog 17 #[.agg #[.int .u8 17, .int .u32 1, .int .u32 2, .int .u16 3, .int .u16 4]] W fun e w' => e = .returned (.int .u32 h) ∧ Below W.heap.size W w' := fun W => by rw [← hh]; exact hash_any t05 t05_ok W
  clear hh
  have hfd : ∀ W : World, (Instr.field 28 (.agg #[.int .u8 17, .int .u32 2, .int .u32 1, .int .u16 4, .int .u16 3]) 1).run Try.prog W = .ok (.int .u32 2) W := fun W => rfl
  have R1 := Below.refl w.heap.size w
  obtain ⟨w1, hw1⟩ : ∃ W, w = W := ⟨_, rfl⟩
  rw [hw1] at R1

  subst hw1
  go_enter Try.func12, Try.ntmps12
  go_wp2_with (first
    | (go_at_call 20; ((with_reducible refine (cu w).mono ?_); rintro e u2 ⟨B1, m1, d1, B2, d2, rfl, k9, hB2⟩); (obtain ⟨w2, hw2⟩ : ∃ W, u2.alloc (.cells #[.int .u8 0, .int .u16 0, .bool false, .int .u8 0, .int .u8 17, .int .u32 1, .int .u32 2, .slice B1 m1 d1, .slice B2 8 d2] 26) = W := ⟨_, rfl⟩); have V2 : Below u2.heap.size u2 w2 := (by rw [← hw2]; (repeat (first | with_reducible exact Below.refl _ _ | with_reducible refine below_drew ?_ | with_reducible refine below_drewN ?_ _ | with_reducible refine below_alloc ?_ (Nat.le_refl _) _ | with_reducible refine Below.setCell ?_ (by first | exact Nat.le_refl _ | (simp only []; omega)) _ | with_reducible assumption))); (obtain ⟨kP2, hkP2⟩ : ∃ k : Nat, u2.heap.size = k := ⟨_, rfl⟩); have P2 : Blk w2 kP2 #[.int .u8 0, .int .u16 0, .bool false, .int .u8 0, .int .u8 17, .int .u32 1, .int .u32 2, .slice B1 m1 d1, .slice B2 8 d2] 26 := (by rw [← hw2]; exact blk_new u2 _ _ _ hkP2); have Pc2 := P2.cell; have T2 := below_then hB2 V2; have x2 := (k9).below V2; have R2 := below_then R1 T2)
    | (go_at_call 10; ((with_reducible refine (co w2 B1 m1 d1 B2 d2 x2).mono ?_); rintro e u3 ⟨rfl, hB3⟩); (obtain ⟨w3, hw3⟩ : ∃ W, u3.alloc (.cells #[.int .u8 17, .int .u32 1, .int .u32 2, .int .u16 3, .int .u16 4] 28) = W := ⟨_, rfl⟩); have V3 : Below u3.heap.size u3 w3 := (by rw [← hw3]; (repeat (first | with_reducible exact Below.refl _ _ | with_reducible refine below_drew ?_ | with_reducible refine below_drewN ?_ _ | with_reducible refine below_alloc ?_ (Nat.le_refl _) _ | with_reducible refine Below.setCell ?_ (by first | exact Nat.le_refl _ | (simp only []; omega)) _ | with_reducible assumption))); (obtain ⟨kS3, hkS3⟩ : ∃ k : Nat, u3.heap.size = k := ⟨_, rfl⟩); have S3 : Blk w3 kS3 #[.int .u8 17, .int .u32 1, .int .u32 2, .int .u16 3, .int .u16 4] 28 := (by rw [← hw3]; exact blk_new u3 _ _ _ hkS3); have Sc3 := S3.cell; have T3 := below_then hB3 V3; have P3 := P2.below T3; have Pc3 := P3.cell; clear Pc2; have x3 := x2.below T3; have R3 := below_then R2 T3)
    | (go_at_call 13; ((with_reducible refine (cr w3).mono ?_); rintro e w4 ⟨rfl, hB4⟩); have P4 := P3.below hB4; have Pc4 := P4.cell; clear Pc3; have S4 := S3.below hB4; have Sc4 := S4.cell; clear Sc3; have x4 := x3.below hB4; have R4 := below_then R3 hB4)
    | (go_at_call 17; ((with_reducible refine (ch w4).mono ?_); rintro e w5 ⟨rfl, hB5⟩); have P5 := P4.below hB5; have Pc5 := P5.cell; clear Pc4; have S5 := S4.below hB5; have Sc5 := S5.cell; clear Sc4; have x5 := x4.below hB5; have R5 := below_then R4 hB5))
  go_ret
  exact ⟨rfl, R5⟩
end Go.Proofs.Ythgoffbfgdgkpaa

/- What an argument's reading gives the walks, and the row's last step for a law whose arguments stay. -/
namespace Go.Proofs.Ythgoffbfgdgkpaa
open Go.ChangeShapes Go.WideShapes Go.ChangeAt Go.RowKit
set_option linter.unusedVariables false

theorem own_knob : ownKnob Try.prog.godebug = none := by kernel_rfl
theorem laid_out : laidOutB Try.prog = true := by kernel_rfl
section
variable {H : Type} {enc : TypeId × Value → H} {P : Program} {w : World} {base : Nat} {held : Bool} {spare : Nat → Bool}
/-- A slice of bytes that came in, opened. -/
theorem open_bs {t e : TypeId} {fuel : Nat} {v : Value} {x : DataW H × List MemPlace} (ht : P.underlying t = some (.slice e)) (he : P.underlying e = some (.int .u8)) (hc : P.cellsOf e = 1)
    (h : DataW.trod enc P w base spare held fuel t [v] = some x) :
    ∃ A n c l, v = .slice A n c ∧ (n ≤ 200000000000000 → Bs w A n c l) ∧ ((x.1 = .nil ∧ n = 0) ∨ ∃ es sp, x.1 = .slice es sp ∧ es.length = n) := by
  rcases open_ints ht he hc h with ⟨hcs, rfl⟩ | ⟨a, len, cap, zs, hcs, _, hl, hm, hz, rfl, hcell, hwz⟩
  · simp only [List.cons.injEq, and_true] at hcs
    subst hcs
    exact ⟨none, 0, 0, [], rfl, fun _ => Bs.none_ w, .inl ⟨rfl, rfl⟩⟩
  · simp only [List.cons.injEq, and_true] at hcs
    subst hcs
    have hzl : len ≤ zs.length := by rw [hz]; split <;> omega
    have hlen : ((zs.take len).map ub).length = len := by simp; omega
    refine ⟨some a, len, cap, (zs.take len).map ub, rfl, fun hn => ⟨hlen, hl, hn, (fun h => by cases h), fun h0 => ?_⟩, .inr ⟨_, _, rfl, by simp [lits]; omega⟩⟩
    obtain ⟨b, off, spot⟩ := a
    have hc0 := hcell 0 (by omega)
    have hspot : spot = none := by simpa [Addr.add] using World.cell?_spot hc0
    subst hspot
    refine ⟨b, off, rfl, fun j hj => ?_⟩
    have h1 := hcell j (by omega)
    have ha : (⟨b, off, none⟩ : Addr).add j = ⟨b, off + j, none⟩ := by unfold Addr.add; split <;> simp_all
    rw [ha] at h1
    rw [h1]
    have hb : 0 ≤ zs.getD j 0 ∧ zs.getD j 0 ≤ 255 := by
      have hmem : zs.getD j 0 ∈ zs := by
        rw [List.getD_eq_getElem?_getD, List.getElem?_eq_getElem (by omega)]
        exact List.getElem_mem _
      simpa [Lit.wf, IntKind.min, IntKind.max, IntKind.signed, IntKind.bits] using hwz _ hmem
    have e : zs.getD j 0 = bt ((zs.take len).map ub) j := by
      have hj' : j < zs.length := by omega
      have e1 : zs.getD j 0 = zs[j] := by rw [List.getD_eq_getElem?_getD, List.getElem?_eq_getElem hj']; rfl
      have e2 : ((zs.take len).map ub).getD j 0 = ub zs[j] := by
        rw [List.getD_eq_getElem?_getD, List.getElem?_map, List.getElem?_take, if_pos hj, List.getElem?_eq_getElem hj']
        rfl
      unfold bt
      rw [e2, ub_val, e1]
      rw [e1] at hb
      omega
    rw [e]

/-- An array of whole numbers that came in, opened. -/
theorem open_arr {r : Reach} {b0 : Nat} {t e : TypeId} {k : IntKind} {n : Nat} {v : Value} {d : DataW H} {ps : List MemPlace} (ht : P.underlying t = some (.array n e)) (he : P.underlying e = some (.int k)) (hc : P.cellsOf e = 1) (hn : P.cellsOf t = n)
    (hval : Value.okWide P w r b0 t v) (hd : DataW.Trod enc P w base spare held t v d ps) :
    ∃ f : Nat → Int, v = .agg ((List.range n).map fun i => Value.int k (f i)).toArray ∧ ∀ i, i < n → (Lit.int k (f i)).wf = true := by
  unfold Value.okWide at hval
  rw [ht] at hval
  obtain ⟨cs, rfl, hcs, _⟩ := hval
  obtain ⟨fuel, hf⟩ := hd
  obtain ⟨xs, m, rfl, hx, hl, hxl, hi⟩ := DataW.trod_array ht hf
  have key : ∀ i, i < n → ∃ a, cs[i]? = some (.int k a) ∧ (Lit.int k a).wf = true := by
    intro i hin
    have h1 := hi i hin
    rw [List.getElem?_eq_getElem (by omega), hc] at h1
    obtain ⟨a, h2, _, hw⟩ := DataW.trod_int he h1
    have h3 : (((Value.agg cs).cells.toList.drop (i * 1)).take 1)[0]? = some (.int k a) := by rw [h2]; rfl
    refine ⟨a, ?_, hw⟩
    simpa [Value.cells, List.getElem?_take, List.getElem?_drop] using h3
  refine ⟨fun i => if h : i < n then (key i h).choose else 0, ?_, fun i hin => by simp only [dif_pos hin]; exact (key i hin).choose_spec.2⟩
  congr 1
  apply Array.ext_getElem?
  intro i
  by_cases hin : i < n
  · rw [(key i hin).choose_spec.1]
    simp [hin]
  · rw [Array.getElem?_eq_none (by omega)]
    simp [hin]

/-- Behind a law: true, and all that was there is as it was. -/
theorem args_stay : ∀ {ts : List TypeId} {vs : List Value} {ds : List (DataW H)} {ps : List MemPlace} {W W' : World}, laidOutB P = true → ts.all (fun t => P.readableRec t && decide (t < P.types.size)) = true →
    DataW.TrodAll enc P W 0 (fun _ => true) true ts vs ds ps → Below W.heap.size W W' → DataW.TrodAll enc P W' 0 (fun b => decide (b < W.heap.size)) true ts vs ds ps
  | [], vs, ds, ps, W, W', _, _, h, _ => by
    obtain ⟨rfl, rfl, rfl⟩ := trodAll_nil h
    exact trodAll_mk0
  | t :: ts, vs, ds, ps, W, W', hl, hr, h, hb => by
    simp only [List.all_cons, Bool.and_eq_true, decide_eq_true_eq] at hr
    obtain ⟨v, vs', d, ds', p, q, rfl, rfl, rfl, h1, h2⟩ := trodAll_cons h
    have hlt : ∀ x ∈ p, x.block < W.heap.size := by obtain ⟨m, hm⟩ := h1; exact DataW.trod_lt m _ _ _ hm
    exact trodAll_cons_mk (Below.trod hl hr.1.1 hr.1.2 h1 hb hlt) (args_stay hl (by simpa using hr.2) h2 hb)
theorem law_post {f : Func} {s : ChangeSpec} {W W' : World} {args : Array Value} {ds : List (DataW H)} {before : List MemPlace} {tb : TypeId} (hb' : P.underlying tb = some .bool) (hres : f.resultTypes = #[tb]) (hl : laidOutB P = true)
    (hr : f.params.toList.all (fun t => P.readableRec t && decide (t < P.types.size)) = true) (hvars : s.vars = [])
    (hfn : s.fn H (ds ++ []) = { results := [.lit (.bool true)], args := ds }) (hW : DataW.Whole enc P f.params.toList s.vars false W args.toList ds [] before) (hb : Below W.heap.size W W') :
    s.post enc P f false true false false W args (.bool true) W' := by
  have hW2 := hW
  obtain ⟨p, q, hA, hV, rfl, hfz, hnd⟩ := hW
  rw [hvars] at hV
  obtain ⟨_, rfl⟩ := trodVars_none hV
  refine ⟨_, _, _, [], p, [], hW2, ?_, ?_, ?_, hb.frame _, fun h => by cases h⟩
  · rw [hfn, hres]
    exact trodAll_mk1 (shut_bool hb' _)
  · rw [hfn]
    exact args_stay hl hr hA hb
  · rw [hfn, hvars]
    rfl
end
end Go.Proofs.Ythgoffbfgdgkpaa

/- A packet that came in, opened. -/
namespace Go.Proofs.Ythgoffbfgdgkpaa
open Go.ChangeShapes Go.WideShapes Go.ChangeAt Go.RowKit Go.Deep
set_option linter.unusedVariables false
set_option maxRecDepth 100000

section
variable {H : Type} {enc : TypeId × Value → H} {P : Program} {w : World} {base : Nat} {held : Bool} {spare : Nat → Bool}
/-- A struct of one-cell fields that came in, opened. -/
theorem open_struct {r : Reach} {b0 : Nat} {t : TypeId} {fs : Array Field} {v : Value} {d : DataW H} {ps : List MemPlace} (hs : P.underlying t = some (.struct fs)) (hone : oneCellFields P fs = true)
    (hv : Value.okWide P w r b0 t v) (h : DataW.Trod enc P w base spare held t v d ps) :
    ∃ (cs : List Value) (xs : List (DataW H × List MemPlace)) (n : Nat), v = .agg cs.toArray ∧ cs.length = P.cellsOf t ∧ d = .agg (xs.map (·.1)) ∧ xs.length = fs.size ∧
      ∀ i f, fs[i]? = some f → DataW.trod enc P w base spare held n f.type ((cs.drop i).take 1) = xs[i]? := by
  obtain ⟨cs, rfl, hsz⟩ := okWide_struct hs hv
  obtain ⟨fuel, hf⟩ := h
  obtain ⟨xs, n, _, hx, hl, hxl, hi⟩ := DataW.trod_struct hs hf
  simp only [Prod.mk.injEq] at hx
  refine ⟨cs.toList, xs, n, by simp, by simpa using hsz, hx.1, hxl, fun i f hfi => ?_⟩
  have h1 := hi i f hfi
  obtain ⟨o, k⟩ := hone_of hone i f hfi
  simpa [Value.cells, o, k] using h1
theorem list9 {α : Type} {l : List α} (h : l.length = 9) : ∃ a b c d e f g i j, l = [a, b, c, d, e, f, g, i, j] := by
  match l, h with
  | [a, b, c, d, e, f, g, i, j], _ => exact ⟨a, b, c, d, e, f, g, i, j, rfl⟩
theorem slice_small {t e : TypeId} {n : Nat} {y : DataW H} (ht : P.underlying t = some (.slice e)) (hb : P.bytesOf e = 1) (hw : ∀ m ∈ y.weights P t, m ≤ reachBytes) (hd : (y = .nil ∧ n = 0) ∨ ∃ es sp, y = .slice es sp ∧ es.length = n) : n ≤ 200000000000000 := by
  rcases hd with ⟨_, h⟩ | ⟨es, sp, rfl, hn⟩
  · omega
  · have h1 := hw ((es.length + sp.length) * P.bytesOf e) (by simp [DataW.weights, ht])
    rw [hb] at h1
    simp only [reachBytes] at h1
    omega
theorem trod_byte {t : TypeId} {n : Nat} {v : Value} {y : DataW H × List MemPlace} (ht : P.underlying t = some (.int .u8)) (h : DataW.trod enc P w base spare held n t [v] = some y) : ∃ a, v = .int .u8 a ∧ 0 ≤ a ∧ a ≤ 255 := by
  obtain ⟨a, e, -, hw⟩ := DataW.trod_int ht h
  injection e with e
  exact ⟨a, e, by simpa [Lit.wf, IntKind.min, IntKind.max, IntKind.signed, IntKind.bits] using hw⟩
theorem trod_u16 {t : TypeId} {n : Nat} {v : Value} {y : DataW H × List MemPlace} (ht : P.underlying t = some (.int .u16)) (h : DataW.trod enc P w base spare held n t [v] = some y) : ∃ a, v = .int .u16 a ∧ 0 ≤ a ∧ a ≤ 65535 := by
  obtain ⟨a, e, -, hw⟩ := DataW.trod_int ht h
  injection e with e
  exact ⟨a, e, by simpa [Lit.wf, IntKind.min, IntKind.max, IntKind.signed, IntKind.bits] using hw⟩
theorem trod_u32 {t : TypeId} {n : Nat} {v : Value} {y : DataW H × List MemPlace} (ht : P.underlying t = some (.int .u32)) (h : DataW.trod enc P w base spare held n t [v] = some y) : ∃ a, v = .int .u32 a ∧ 0 ≤ a ∧ a ≤ 4294967295 := by
  obtain ⟨a, e, -, hw⟩ := DataW.trod_int ht h
  injection e with e
  exact ⟨a, e, by simpa [Lit.wf, IntKind.min, IntKind.max, IntKind.signed, IntKind.bits] using hw⟩
theorem trod_yes {t : TypeId} {n : Nat} {v : Value} {y : DataW H × List MemPlace} (ht : P.underlying t = some .bool) (h : DataW.trod enc P w base spare held n t [v] = some y) : ∃ b, v = .bool b := by
  obtain ⟨b, e, -⟩ := DataW.trod_bool ht h
  injection e with e
  exact ⟨b, e⟩
/-- A field of bytes. -/
theorem trod_bytes {t e : TypeId} {n : Nat} {v : Value} {y : DataW H × List MemPlace} (ht : P.underlying t = some (.slice e)) (he : P.underlying e = some (.int .u8)) (hc : P.cellsOf e = 1) (hb : P.bytesOf e = 1)
    (hw : ∀ m ∈ y.1.weights P t, m ≤ reachBytes) (h : DataW.trod enc P w base spare held n t [v] = some y) : ∃ A n c l, v = .slice A n c ∧ Bs w A n c l := by
  obtain ⟨A, n, c, l, hv, hbs, hd⟩ := open_bs ht he hc h
  exact ⟨A, n, c, l, hv, hbs (slice_small ht hb hw hd)⟩
theorem weights_field {t : TypeId} {fs : Array Field} {parts : List (DataW H)} {j : Nat} {f : Field} {y : DataW H} (hs : P.underlying t = some (.struct fs)) (hsz : ∀ m ∈ (DataW.agg parts).weights P t, m ≤ reachBytes) (hf : fs[j]? = some f) (hy : parts[j]? = some y) :
    ∀ m ∈ y.weights P f.type, m ≤ reachBytes := by
  intro m hm
  refine hsz m ?_
  rw [DataW.weights, hs]
  exact DataW.weights_mem_each (j := j) (by simp [hf]) hy m hm
end
section
variable {H : Type} {enc : TypeId × Value → H} {w : World} {base : Nat} {held : Bool} {spare : Nat → Bool}
theorem open_pkt {r : Reach} {b0 : Nat} {v : Value} {d : DataW H} {ps : List MemPlace} (hval : Value.okWide Try.prog w r b0 26 v) (hd : DataW.Trod enc Try.prog w base spare held 26 v d ps)
    (hsz : ∀ m ∈ d.weights Try.prog 26, m ≤ reachBytes) :
    ∃ (p : Pkt) (A1 : Option Addr) (n1 c1 : Nat) (A2 : Option Addr) (n2 c2 : Nat), v = (.agg #[.int .u8 (p).tos, .int .u16 (p).id, .bool (p).keep, .int .u8 (p).ttl, .int .u8 (p).proto, .int .u32 (p).src, .int .u32 (p).dst, .slice A1 n1 c1, .slice A2 n2 c2]) ∧ p.Ok ∧ Bs w A1 n1 c1 p.opt ∧ Bs w A2 n2 c2 p.dat := by
  have hu := Try.underlying26
  obtain ⟨cs, xs, n, rfl, hcl, rfl, hxl, hi⟩ := open_struct hu (by kernel_rfl) hval hd
  rw [show (Try.prog.cellsOf 26) = 9 from by kernel_rfl] at hcl
  obtain ⟨v0, v1, v2, v3, v4, v5, v6, v7, v8, rfl⟩ := list9 hcl
  obtain ⟨y0, y1, y2, y3, y4, y5, y6, y7, y8, rfl⟩ := list9 (by simpa using hxl)
  obtain ⟨a0, rfl, b0l, b0h⟩ := trod_byte (t := 5) Try.underlying5 (by simpa using hi 0 _ rfl)
  obtain ⟨a1, rfl, b1l, b1h⟩ := trod_u16 (t := 22) Try.underlying22 (by simpa using hi 1 _ rfl)
  obtain ⟨a2, rfl⟩ := trod_yes (t := 4) Try.underlying4 (by simpa using hi 2 _ rfl)
  obtain ⟨a3, rfl, b3l, b3h⟩ := trod_byte (t := 5) Try.underlying5 (by simpa using hi 3 _ rfl)
  obtain ⟨a4, rfl, b4l, b4h⟩ := trod_byte (t := 5) Try.underlying5 (by simpa using hi 4 _ rfl)
  obtain ⟨a5, rfl, b5l, b5h⟩ := trod_u32 (t := 23) Try.underlying23 (by simpa using hi 5 _ rfl)
  obtain ⟨a6, rfl, b6l, b6h⟩ := trod_u32 (t := 23) Try.underlying23 (by simpa using hi 6 _ rfl)
  obtain ⟨A1, n1, c1, l1, rfl, k1⟩ := trod_bytes (t := 24) Try.underlying24 Try.underlying5 (by kernel_rfl) (by kernel_rfl) (weights_field (j := 7) (y := y7.1) hu hsz rfl (by simp)) (by simpa using hi 7 _ rfl)
  obtain ⟨A2, n2, c2, l2, rfl, k2⟩ := trod_bytes (t := 24) Try.underlying24 Try.underlying5 (by kernel_rfl) (by kernel_rfl) (weights_field (j := 8) (y := y8.1) hu hsz rfl (by simp)) (by simpa using hi 8 _ rfl)
  exact ⟨⟨a0, a1, a2, a3, a4, a5, a6, l1, l2⟩, A1, n1, c1, A2, n2, c2, rfl, ⟨⟨b0l, b0h⟩, ⟨b1l, b1h⟩, ⟨b3l, b3h⟩, ⟨b4l, b4h⟩, ⟨b5l, b5h⟩, ⟨b6l, b6h⟩⟩, k1, k2⟩
end
end Go.Proofs.Ythgoffbfgdgkpaa

/- Parts of what came in, opened: structs by their cells, arrays, bytes with their bound. -/
namespace Go.Proofs.Ythgoffbfgdgkpaa
open Go.ChangeShapes Go.WideShapes Go.ChangeAt Go.RowKit Go.Deep
set_option linter.unusedVariables false

section
variable {H : Type} {enc : TypeId × Value → H} {P : Program} {w : World} {base : Nat} {held : Bool} {spare : Nat → Bool}
theorem list4 {α : Type} {l : List α} (h : l.length = 4) : ∃ a b c d, l = [a, b, c, d] := by
  match l, h with
  | [a, b, c, d], _ => exact ⟨a, b, c, d, rfl⟩
theorem list6 {α : Type} {l : List α} (h : l.length = 6) : ∃ a b c d e f, l = [a, b, c, d, e, f] := by
  match l, h with
  | [a, b, c, d, e, f], _ => exact ⟨a, b, c, d, e, f, rfl⟩
theorem slice_smallT {t e : TypeId} {n : Nat} {y : DataW H} (ht : P.underlying t = some (.slice e)) (hb : P.bytesOf e = 1) (hw : ∀ m ∈ y.weights P t, m ≤ reachBytes) (hd : (y = .nil ∧ n = 0) ∨ ∃ es sp, y = .slice es sp ∧ es.length = n) : n ≤ 140737488351232 := by
  rcases hd with ⟨_, h⟩ | ⟨es, sp, rfl, hn⟩
  · omega
  · have h1 := hw ((es.length + sp.length) * P.bytesOf e) (by simp [DataW.weights, ht])
    rw [hb] at h1
    simp only [reachBytes] at h1
    omega
theorem trod_bytesT {t e : TypeId} {n : Nat} {v : Value} {y : DataW H × List MemPlace} (ht : P.underlying t = some (.slice e)) (he : P.underlying e = some (.int .u8)) (hc : P.cellsOf e = 1) (hb : P.bytesOf e = 1)
    (hw : ∀ m ∈ y.1.weights P t, m ≤ reachBytes) (h : DataW.trod enc P w base spare held n t [v] = some y) : ∃ A n c l, v = .slice A n c ∧ Bs w A n c l ∧ n ≤ 140737488351232 := by
  obtain ⟨A, n, c, l, hv, hbs, hd⟩ := open_bs ht he hc h
  have hs := slice_smallT ht hb hw hd
  exact ⟨A, n, c, l, hv, hbs (by omega), hs⟩
/-- A struct of one-cell fields, by its cells. -/
theorem open_structT {t : TypeId} {fs : Array Field} {cs : List Value} {n0 : Nat} {x : DataW H × List MemPlace} (hs : P.underlying t = some (.struct fs)) (hone : oneCellFields P fs = true)
    (h : DataW.trod enc P w base spare held n0 t cs = some x) :
    ∃ (xs : List (DataW H × List MemPlace)) (n : Nat), cs.length = P.cellsOf t ∧ x.1 = .agg (xs.map (·.1)) ∧ xs.length = fs.size ∧
      ∀ i f, fs[i]? = some f → DataW.trod enc P w base spare held n f.type ((cs.drop i).take 1) = xs[i]? := by
  obtain ⟨xs, n, _, hx, hl, hxl, hi⟩ := DataW.trod_struct hs h
  refine ⟨xs, n, hl, by rw [hx], hxl, fun i f hfi => ?_⟩
  have h1 := hi i f hfi
  obtain ⟨o, k⟩ := hone_of hone i f hfi
  simpa [o, k] using h1
theorem mem_weightsAll {e : TypeId} : ∀ {ds : List (DataW H)} {j : Nat} {d : DataW H}, ds[j]? = some d → ∀ n ∈ d.weights P e, n ∈ DataW.weightsAll P e ds
  | [], j, d, h, _, _ => by simp at h
  | x :: r, 0, d, h, n, hn => by
    simp only [List.getElem?_cons_zero, Option.some.injEq] at h
    subst h
    simp only [DataW.weightsAll, List.mem_append]
    exact .inl hn
  | x :: r, j + 1, d, h, n, hn => by
    simp only [List.getElem?_cons_succ] at h
    simp only [DataW.weightsAll, List.mem_append]
    exact .inr (mem_weightsAll h n hn)
theorem weights_arr {t e : TypeId} {n : Nat} {parts : List (DataW H)} {j : Nat} {y : DataW H} (ht : P.underlying t = some (.array n e)) (hsz : ∀ m ∈ (DataW.agg parts).weights P t, m ≤ reachBytes) (hy : parts[j]? = some y) :
    ∀ m ∈ y.weights P e, m ≤ reachBytes := fun m hm => hsz m (by rw [DataW.weights, ht]; exact mem_weightsAll hy m hm)
end
end Go.Proofs.Ythgoffbfgdgkpaa

/- A segment, a datagram, numbers of 32 bits that came in, opened. -/
namespace Go.Proofs.Ythgoffbfgdgkpaa
open Go.ChangeShapes Go.WideShapes Go.ChangeAt Go.RowKit Go.Deep
set_option linter.unusedVariables false
set_option maxRecDepth 100000

theorem list2 {α : Type} {l : List α} (h : l.length = 2) : ∃ a b, l = [a, b] := by
  match l, h with
  | [a, b], _ => exact ⟨a, b, rfl⟩
section
variable {H : Type} {enc : TypeId × Value → H} {w : World} {base : Nat} {held : Bool} {spare : Nat → Bool}
/-- One option. -/
theorem open_optT {cs : List Value} {n0 : Nat} {x : DataW H × List MemPlace} (h : DataW.trod enc Try.prog w base spare held n0 97 cs = some x) (hsz : ∀ m ∈ x.1.weights Try.prog 97, m ≤ reachBytes) :
    ∃ (o : Opt) (A : Option Addr) (n c : Nat), cs = [.int .u8 o.kind, .slice A n c] ∧ o.Ok ∧ Bs w A n c o.dat := by
  have hu := Try.underlying97
  obtain ⟨xs, n, hcl, hx, hxl, hi⟩ := open_structT hu (by kernel_rfl) h
  rw [hx] at hsz
  rw [show (Try.prog.cellsOf 97) = 2 from by kernel_rfl] at hcl
  obtain ⟨v0, v1, rfl⟩ := list2 hcl
  obtain ⟨y0, y1, rfl⟩ := list2 (by simpa using hxl)
  obtain ⟨a0, rfl, b0l, b0h⟩ := trod_byte (t := 5) Try.underlying5 (by simpa using hi 0 _ rfl)
  obtain ⟨A1, n1, c1, l1, rfl, k1, z1⟩ := trod_bytesT (t := 24) Try.underlying24 Try.underlying5 (by kernel_rfl) (by kernel_rfl) (weights_field (j := 1) (y := y1.1) hu hsz rfl (by simp)) (by simpa using hi 1 _ rfl)
  exact ⟨⟨a0, l1⟩, A1, n1, c1, rfl, ⟨⟨b0l, b0h⟩⟩, k1⟩
/-- A slice of options. -/
theorem open_opts {v : Value} {n0 : Nat} {x : DataW H × List MemPlace} (h : DataW.trod enc Try.prog w base spare held n0 40 [v] = some x) (hsz : ∀ m ∈ x.1.weights Try.prog 40, m ≤ reachBytes) :
    ∃ (A : Option Addr) (n c : Nat) (os : List Opt), v = .slice A n c ∧ Os w A n c os := by
  have hu := Try.underlying40
  rcases DataW.trod_slice hu h with ⟨hcs, _⟩ | ⟨a, len, cap, elems, rest, n, _, hcs, rfl, hb, hl, hm, hlen, hel, hsp, hns⟩
  · simp only [List.cons.injEq, and_true] at hcs
    subst hcs
    exact ⟨none, 0, 0, [], rfl, Os.none_ w⟩
  · simp only [List.cons.injEq, and_true] at hcs
    subst hcs
    rw [show (Try.prog.cellsOf 97) = 2 from by kernel_rfl] at hel
    have hw : ∀ (i : Nat) (y : DataW H × List MemPlace), elems[i]? = some y → ∀ m ∈ y.1.weights Try.prog 97, m ≤ reachBytes := fun i y hy m hmem => hsz m (by
      simp only [DataW.weights, hu]
      exact List.mem_cons_of_mem _ (List.mem_append_left _ (mem_weightsAll (d := y.1) (j := i) (by simp [hy]) m hmem)))
    have hn : len ≤ 4398046511104 := by
      have h1 := hsz ((elems.length + rest.length) * Try.prog.bytesOf 97) (by simp [DataW.weights, hu])
      rw [show Try.prog.bytesOf 97 = 32 from by kernel_rfl] at h1
      simp only [reachBytes] at h1
      omega
    have key : ∀ i, i < len → ∃ (o : Opt) (A : Option Addr) (n c : Nat), w.cell? (a.add (i * 2)) = some (.int .u8 o.kind) ∧ w.cell? ((a.add (i * 2)).add 1) = some (.slice A n c) ∧ o.Ok ∧ Bs w A n c o.dat := by
      intro i hi
      have h1 := hel i hi
      rw [List.getElem?_eq_getElem (by omega)] at h1
      obtain ⟨cs, h2, h3⟩ := Option.bind_eq_some_iff.1 h1
      obtain ⟨h4, h5, h6⟩ := World.cells?_some h2
      obtain ⟨o, A, n', c', rfl, ho, hB⟩ := open_optT h3 (hw i _ (List.getElem?_eq_getElem (by omega)))
      have e0 := h6 0 (by omega)
      have e1 := h6 1 (by omega)
      refine ⟨o, A, n', c', ?_, e1, ho, hB⟩
      simpa [Addr.add] using e0
    obtain ⟨f, hf⟩ : ∃ f : Nat → Opt, ∀ i, i < len → ∃ (A : Option Addr) (n c : Nat), w.cell? (a.add (i * 2)) = some (.int .u8 (f i).kind) ∧ w.cell? ((a.add (i * 2)).add 1) = some (.slice A n c) ∧ (f i).Ok ∧ Bs w A n c (f i).dat :=
      Classical.axiomOfChoice (r := fun (i : Nat) (o : Opt) => i < len → ∃ (A : Option Addr) (n c : Nat), w.cell? (a.add (i * 2)) = some (.int .u8 o.kind) ∧ w.cell? ((a.add (i * 2)).add 1) = some (.slice A n c) ∧ o.Ok ∧ Bs w A n c o.dat) (fun i => by
        by_cases hi : i < len
        · obtain ⟨o, h⟩ := key i hi
          exact ⟨o, fun _ => h⟩
        · exact ⟨zO, fun h => absurd h hi⟩)
    clear key
    obtain ⟨b, off, spot⟩ := a
    refine ⟨some ⟨b, off, spot⟩, len, cap, (List.range len).map f, rfl, ⟨by simp, hl, hn, (fun h => by cases h), ?_, fun h0 => ?_⟩⟩
    · intro o ho
      obtain ⟨i, hi, rfl⟩ := List.mem_map.1 ho
      obtain ⟨A, n', c', _, _, h3, _⟩ := hf i (List.mem_range.1 hi)
      exact h3
    · have hspot : spot = none := by
        obtain ⟨A, n', c', e0, _⟩ := hf 0 h0
        simpa [Addr.add] using World.cell?_spot e0
      subst hspot
      refine ⟨b, off, rfl, fun j hj => ?_⟩
      have hg : ((List.range len).map f).getD j zO = f j := by
        rw [List.getD_eq_getElem?_getD, List.getElem?_map, List.getElem?_range hj]
        rfl
      rw [hg]
      obtain ⟨A, n', c', e0, e1, _, e3⟩ := hf j hj
      have ha : (⟨b, off, none⟩ : Addr).add (j * 2) = ⟨b, off + j * 2, none⟩ := by unfold Addr.add; split <;> simp_all
      rw [ha] at e0 e1
      exact ⟨e0, A, n', c', by simpa [Addr.add] using e1, e3⟩
theorem open_seg {r : Reach} {b0 : Nat} {v : Value} {d : DataW H} {ps : List MemPlace} (hval : Value.okWide Try.prog w r b0 42 v) (hd : DataW.Trod enc Try.prog w base spare held 42 v d ps)
    (hsz : ∀ m ∈ d.weights Try.prog 42, m ≤ reachBytes) :
    ∃ (s : Seg) (OA : Option Addr) (on oc : Nat) (A1 : Option Addr) (n1 c1 : Nat), v = (.agg #[.int .u16 (s).src, .int .u16 (s).dst, .int .u32 (s).seq, .int .u32 (s).ack, .int .u8 (s).flags, .int .u16 (s).win, .int .u16 (s).urg, .slice OA on oc, .slice A1 n1 c1]) ∧ s.Ok ∧ Os w OA on oc s.opts ∧ Bs w A1 n1 c1 s.dat ∧ n1 ≤ 140737488351232 := by
  have hu := Try.underlying42
  obtain ⟨cs, xs, n, rfl, hcl, rfl, hxl, hi⟩ := open_struct hu (by kernel_rfl) hval hd
  rw [show (Try.prog.cellsOf 42) = 9 from by kernel_rfl] at hcl
  obtain ⟨v0, v1, v2, v3, v4, v5, v6, v7, v8, rfl⟩ := list9 hcl
  obtain ⟨y0, y1, y2, y3, y4, y5, y6, y7, y8, rfl⟩ := list9 (by simpa using hxl)
  obtain ⟨a0, rfl, b0l, b0h⟩ := trod_u16 (t := 22) Try.underlying22 (by simpa using hi 0 _ rfl)
  obtain ⟨a1, rfl, b1l, b1h⟩ := trod_u16 (t := 22) Try.underlying22 (by simpa using hi 1 _ rfl)
  obtain ⟨a2, rfl, b2l, b2h⟩ := trod_u32 (t := 23) Try.underlying23 (by simpa using hi 2 _ rfl)
  obtain ⟨a3, rfl, b3l, b3h⟩ := trod_u32 (t := 23) Try.underlying23 (by simpa using hi 3 _ rfl)
  obtain ⟨a4, rfl, b4l, b4h⟩ := trod_byte (t := 5) Try.underlying5 (by simpa using hi 4 _ rfl)
  obtain ⟨a5, rfl, b5l, b5h⟩ := trod_u16 (t := 22) Try.underlying22 (by simpa using hi 5 _ rfl)
  obtain ⟨a6, rfl, b6l, b6h⟩ := trod_u16 (t := 22) Try.underlying22 (by simpa using hi 6 _ rfl)
  obtain ⟨OA, on, oc, os, rfl, K⟩ := open_opts (by simpa using hi 7 _ rfl) (weights_field (j := 7) (y := y7.1) hu hsz rfl (by simp))
  obtain ⟨A1, n1, c1, l1, rfl, k1, z1⟩ := trod_bytesT (t := 24) Try.underlying24 Try.underlying5 (by kernel_rfl) (by kernel_rfl) (weights_field (j := 8) (y := y8.1) hu hsz rfl (by simp)) (by simpa using hi 8 _ rfl)
  exact ⟨⟨a0, a1, a2, a3, a4, a5, a6, os, l1⟩, OA, on, oc, A1, n1, c1, rfl, ⟨⟨b0l, b0h⟩, ⟨b1l, b1h⟩, ⟨b2l, b2h⟩, ⟨b3l, b3h⟩, ⟨b4l, b4h⟩, ⟨b5l, b5h⟩, ⟨b6l, b6h⟩, K.ok⟩, K, k1, z1⟩
theorem open_dgmT {cs : List Value} {n0 : Nat} {x : DataW H × List MemPlace} (h : DataW.trod enc Try.prog w base spare held n0 45 cs = some x) (hsz : ∀ m ∈ x.1.weights Try.prog 45, m ≤ reachBytes) :
    ∃ (f : Dgm) (A1 : Option Addr) (n1 c1 : Nat), cs = [.int .u16 (f).src, .int .u16 (f).dst, .bool (f).bare, .slice A1 n1 c1] ∧ f.Ok ∧ Bs w A1 n1 c1 f.dat ∧ n1 ≤ 140737488351232 := by
  have hu := Try.underlying45
  obtain ⟨xs, n, hcl, hx, hxl, hi⟩ := open_structT hu (by kernel_rfl) h
  rw [hx] at hsz
  rw [show (Try.prog.cellsOf 45) = 4 from by kernel_rfl] at hcl
  obtain ⟨v0, v1, v2, v3, rfl⟩ := list4 hcl
  obtain ⟨y0, y1, y2, y3, rfl⟩ := list4 (by simpa using hxl)
  obtain ⟨a0, rfl, b0l, b0h⟩ := trod_u16 (t := 22) Try.underlying22 (by simpa using hi 0 _ rfl)
  obtain ⟨a1, rfl, b1l, b1h⟩ := trod_u16 (t := 22) Try.underlying22 (by simpa using hi 1 _ rfl)
  obtain ⟨a2, rfl⟩ := trod_yes (t := 4) Try.underlying4 (by simpa using hi 2 _ rfl)
  obtain ⟨A1, n1, c1, l1, rfl, k1, z1⟩ := trod_bytesT (t := 24) Try.underlying24 Try.underlying5 (by kernel_rfl) (by kernel_rfl) (weights_field (j := 3) (y := y3.1) hu hsz rfl (by simp)) (by simpa using hi 3 _ rfl)
  exact ⟨⟨a0, a1, a2, l1⟩, A1, n1, c1, rfl, ⟨⟨b0l, b0h⟩, ⟨b1l, b1h⟩⟩, k1, z1⟩
theorem open_dgm {r : Reach} {b0 : Nat} {v : Value} {d : DataW H} {ps : List MemPlace} (hval : Value.okWide Try.prog w r b0 45 v) (hd : DataW.Trod enc Try.prog w base spare held 45 v d ps)
    (hsz : ∀ m ∈ d.weights Try.prog 45, m ≤ reachBytes) :
    ∃ (f : Dgm) (A1 : Option Addr) (n1 c1 : Nat), v = (.agg #[.int .u16 (f).src, .int .u16 (f).dst, .bool (f).bare, .slice A1 n1 c1]) ∧ f.Ok ∧ Bs w A1 n1 c1 f.dat ∧ n1 ≤ 140737488351232 := by
  obtain ⟨cs, rfl, -⟩ := okWide_struct Try.underlying45 hval
  obtain ⟨fuel, hf⟩ := hd
  obtain ⟨f, A1, n1, c1, he, h1, h2, h3⟩ := open_dgmT hf hsz
  refine ⟨f, A1, n1, c1, ?_, h1, h2, h3⟩
  congr 1
  apply Array.ext'
  simpa [Value.cells] using he
/-- Numbers of 32 bits in memory. -/
structure Ws (w : World) (A : Option Addr) (n c : Nat) (l : List Int) : Prop where
  len : l.length = n
  cap : n ≤ c
  max : n ≤ 35184372088832
  nil : A = none → c = 0
  ok : ∀ x ∈ l, 0 ≤ x ∧ x ≤ 4294967295
  rd : 0 < n → ∃ b off, A = some ⟨b, off, none⟩ ∧ ∀ j, j < n → w.cell? ⟨b, off + j, none⟩ = some (.int .u32 (l.getD j 0))
theorem Ws.below {w w' : World} {A : Option Addr} {n c : Nat} {l : List Int} (h : Ws w A n c l) (hb : Below w.heap.size w w') : Ws w' A n c l :=
  ⟨h.len, h.cap, h.max, h.nil, h.ok, fun hn => by
    obtain ⟨b, off, e, hc⟩ := h.rd hn
    exact ⟨b, off, e, fun j hj => (hb.cell (World.block_lt_of_cell? w _ (hc j hj))).trans (hc j hj)⟩⟩
theorem Ws.none_ (w : World) : Ws w none 0 0 [] := ⟨rfl, Nat.zero_le _, by omega, fun _ => rfl, (fun x h => by cases h), fun h => absurd h (by omega)⟩
end
end Go.Proofs.Ythgoffbfgdgkpaa

/- A tuple that came in, opened. -/
namespace Go.Proofs.Ythgoffbfgdgkpaa
open Go.ChangeShapes Go.WideShapes Go.ChangeAt Go.RowKit Go.Deep
set_option linter.unusedVariables false
set_option maxRecDepth 100000

section
variable {H : Type} {enc : TypeId × Value → H} {w : World} {base : Nat} {held : Bool} {spare : Nat → Bool}
theorem list5 {α : Type} {l : List α} (h : l.length = 5) : ∃ a b c d e, l = [a, b, c, d, e] := by
  match l, h with
  | [a, b, c, d, e], _ => exact ⟨a, b, c, d, e, rfl⟩
theorem open_tup {r : Reach} {b0 : Nat} {v : Value} {d : DataW H} {ps : List MemPlace} (hval : Value.okWide Try.prog w r b0 28 v) (hd : DataW.Trod enc Try.prog w base spare held 28 v d ps)
    (hsz : ∀ m ∈ d.weights Try.prog 28, m ≤ reachBytes) :
    ∃ (t : Tup), v = (.agg #[.int .u8 (t).proto, .int .u32 (t).src, .int .u32 (t).dst, .int .u16 (t).sp, .int .u16 (t).dp]) ∧ t.Ok := by
  have hu := Try.underlying28
  obtain ⟨cs, xs, n, rfl, hcl, rfl, hxl, hi⟩ := open_struct hu (by kernel_rfl) hval hd
  rw [show (Try.prog.cellsOf 28) = 5 from by kernel_rfl] at hcl
  obtain ⟨v0, v1, v2, v3, v4, rfl⟩ := list5 hcl
  obtain ⟨y0, y1, y2, y3, y4, rfl⟩ := list5 (by simpa using hxl)
  obtain ⟨a0, rfl, b0l, b0h⟩ := trod_byte (t := 5) Try.underlying5 (by simpa using hi 0 _ rfl)
  obtain ⟨a1, rfl, b1l, b1h⟩ := trod_u32 (t := 23) Try.underlying23 (by simpa using hi 1 _ rfl)
  obtain ⟨a2, rfl, b2l, b2h⟩ := trod_u32 (t := 23) Try.underlying23 (by simpa using hi 2 _ rfl)
  obtain ⟨a3, rfl, b3l, b3h⟩ := trod_u16 (t := 22) Try.underlying22 (by simpa using hi 3 _ rfl)
  obtain ⟨a4, rfl, b4l, b4h⟩ := trod_u16 (t := 22) Try.underlying22 (by simpa using hi 4 _ rfl)
  exact ⟨⟨a0, a1, a2, a3, a4⟩, rfl, ⟨⟨b0l, b0h⟩, ⟨b1l, b1h⟩, ⟨b2l, b2h⟩, ⟨b3l, b3h⟩, ⟨b4l, b4h⟩⟩⟩
end
end Go.Proofs.Ythgoffbfgdgkpaa
