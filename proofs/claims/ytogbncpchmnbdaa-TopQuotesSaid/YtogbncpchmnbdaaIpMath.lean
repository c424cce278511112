/- Plain laws of packets' bytes: what is built is read back; what is cut or changed is told. -/
import Derived.Test.YtogbncpchmnbdaaIpR4
import Derived.Test.YtogbncpchmnbdaaMath3
import Derived.Test.YtogbncpchmnbdaaIpS2
namespace Go.Proofs.Ytogbncpchmnbdaa
open Go.RowKit
set_option linter.unusedVariables false
set_option maxRecDepth 100000

def bdL (p : Pkt) : List UInt8 := if bdE p = 0 then put16 (hdL p) 10 (csum (hdL p)) ++ p.dat else []
theorem bdE_zero {p : Pkt} (h : bdE p = 0) : p.opt.length ≤ 40 ∧ p.opt.length % 4 = 0 ∧ 20 + p.opt.length + p.dat.length ≤ 65535 := by
  unfold bdE at h
  split at h
  · omega
  · split at h <;> omega
theorem bdE_zero_iff (p : Pkt) : bdE p = 0 ↔ rightP p = true := by
  unfold bdE rightP
  split
  · simp; omega
  · split
    · simp; omega
    · simp; omega
/-- A header's 20 bytes with the check sum c. -/
def hx (p : Pkt) (c : Int) : List UInt8 := [ub (64 + (20 + (p.opt.length : Int)) / 4), ub p.tos, ub ((20 + (p.opt.length : Int) + (p.dat.length : Int)) / 256), ub (20 + (p.opt.length : Int) + (p.dat.length : Int)), ub (p.id / 256), ub p.id, if p.keep = true then 64 else 0, 0, ub p.ttl, ub p.proto, ub (c / 256), ub c, ub (p.src / 16777216), ub (p.src / 65536), ub (p.src / 256), ub p.src, ub (p.dst / 16777216), ub (p.dst / 65536), ub (p.dst / 256), ub p.dst]
theorem hx_len (p : Pkt) (c : Int) : (hx p c).length = 20 := rfl
theorem hdL_hx (p : Pkt) : hdL p = hx p 0 ++ p.opt := by
  have e0 : ub 0 = 0 := by decide
  unfold hdL hx
  simp [two, four, e0]
theorem hx_put (p : Pkt) (c d : Int) : put16 (hx p c) ((10 : Nat) : Int) d = hx p d := by
  rw [put16_eq (by rw [hx_len]; omega)]
  simp [hx]
theorem hdL_put (p : Pkt) (c : Int) : put16 (hdL p) 10 c = hx p c ++ p.opt := by
  rw [hdL_hx, show (10 : Int) = ((10 : Nat) : Int) from rfl, put16_append (by rw [hx_len]; omega), hx_put]
theorem hdL_len (p : Pkt) : (hdL p).length = 20 + p.opt.length := by rw [hdL_hx, List.length_append, hx_len]
theorem good_hd (p : Pkt) : csum (hx p (csum (hdL p)) ++ p.opt) = 0 := by
  rw [← hdL_put]
  refine good_put (j := 5) (z := hdL p) (by rw [hdL_len]; omega) ?_
  rw [hdL_hx]
  rfl
theorem bdL_form {p : Pkt} (h : bdE p = 0) : bdL p = hx p (csum (hdL p)) ++ (p.opt ++ p.dat) := by
  unfold bdL; rw [if_pos h, hdL_put, List.append_assoc]
theorem bdL_len {p : Pkt} (h : bdE p = 0) : (bdL p).length = 20 + p.opt.length + p.dat.length := by
  rw [bdL_form h]; simp [hx_len]; omega
theorem bdL_bad {p : Pkt} (h : bdE p ≠ 0) : bdL p = [] := by unfold bdL; rw [if_neg h]
/-- What bytes that begin so say. -/
theorem hx_at {p : Pkt} (hp : p.Ok) {c : Int} (c0 : 0 ≤ c) (c1 : c ≤ 65535) (r : List UInt8) (hn : p.opt.length ≤ 40) (hz : 20 + p.opt.length + p.dat.length ≤ 65535) :
    bt (hx p c ++ r) 0 = 69 + (p.opt.length : Int) / 4 ∧ bt (hx p c ++ r) 1 = p.tos ∧ get16 (hx p c ++ r) 2 = 20 + (p.opt.length : Int) + (p.dat.length : Int) ∧ get16 (hx p c ++ r) 4 = p.id ∧
    get16 (hx p c ++ r) 6 = (if p.keep = true then 16384 else 0) ∧ bt (hx p c ++ r) 8 = p.ttl ∧ bt (hx p c ++ r) 9 = p.proto ∧ get16 (hx p c ++ r) 10 = c ∧ get32 (hx p c ++ r) 12 = p.src ∧ get32 (hx p c ++ r) 16 = p.dst := by
  obtain ⟨⟨o1, o1'⟩, ⟨o2, o2'⟩, ⟨o3, o3'⟩, ⟨o4, o4'⟩, ⟨o5, o5'⟩, ⟨o6, o6'⟩⟩ := hp
  have hl : (hx p c ++ r).length = 20 + r.length := by rw [List.length_append, hx_len]
  refine ⟨?_, ?_, ?_, ?_, ?_, ?_, ?_, ?_, ?_, ?_⟩
  · show ((ub _).toNat : Int) = _
    rw [ub_val]; omega
  · show ((ub _).toNat : Int) = _
    rw [ub_val]; omega
  · rw [get16_in (by omega) (by omega)]
    show ((ub _).toNat : Int) * 256 + ((ub _).toNat : Int) = _
    rw [ub_val, ub_val]; omega
  · rw [get16_in (by omega) (by omega)]
    show ((ub _).toNat : Int) * 256 + ((ub _).toNat : Int) = _
    rw [ub_val, ub_val]; omega
  · rw [get16_in (by omega) (by omega)]
    show (((if p.keep = true then (64 : UInt8) else 0)).toNat : Int) * 256 + (((0 : UInt8)).toNat : Int) = _
    cases p.keep <;> rfl
  · show ((ub _).toNat : Int) = _
    rw [ub_val]; omega
  · show ((ub _).toNat : Int) = _
    rw [ub_val]; omega
  · rw [get16_in (by omega) (by omega)]
    show ((ub _).toNat : Int) * 256 + ((ub _).toNat : Int) = _
    rw [ub_val, ub_val]; omega
  · rw [get32_in (by omega) (by omega), get16_in (by omega) (by omega), get16_in (by omega) (by omega)]
    show (((ub _).toNat : Int) * 256 + ((ub _).toNat : Int)) * 65536 + (((ub _).toNat : Int) * 256 + ((ub _).toNat : Int)) = _
    rw [ub_val, ub_val, ub_val, ub_val]; omega
  · rw [get32_in (by omega) (by omega), get16_in (by omega) (by omega), get16_in (by omega) (by omega)]
    show (((ub _).toNat : Int) * 256 + ((ub _).toNat : Int)) * 65536 + (((ub _).toNat : Int) * 256 + ((ub _).toNat : Int)) = _
    rw [ub_val, ub_val, ub_val, ub_val]; omega
/-- Bytes with good lengths and a good sum. -/
theorem rd_good {l : List UInt8} {n d : Nat} (q : Bool) (hn : n ≤ 40) (h4 : n % 4 = 0) (hd : 20 + n + d ≤ l.length) (h0 : bt l 0 = 69 + (n : Int) / 4) (h2 : get16 l 2 = 20 + (n : Int) + (d : Int)) (hs : csum (l.take (20 + n)) = 0) :
    hdOf l = 20 + n ∧ alOf l = 20 + n + d ∧ rdE q l = (if get16 l 6 % 16384 ≠ 0 then 7 else if 32768 ≤ get16 l 6 then 4 else if q = true ∧ d < 8 then 3 else 0) := by
  have e1 : hdOf l = 20 + n := by unfold hdOf; omega
  have e2 : alOf l = 20 + n + d := by unfold alOf; rw [h2, if_neg (by omega)]
  have e3 : lenE q l = 0 := by
    unfold lenE
    rw [e1, h2, if_neg (by omega), if_neg (by omega), if_neg (by omega), if_neg (by omega), if_neg (by omega), if_neg (by rintro ⟨_, h⟩; omega)]
  refine ⟨e1, e2, ?_⟩
  unfold rdE
  rw [e3, e1, e2, show ((20 + (n : Int)).toNat) = 20 + n from by omega, hs, if_neg (by simp), if_neg (by simp)]
  have : (20 + (n : Int) + d - (20 + n) < 8) = (d < 8) := by rw [eq_iff_iff]; omega
  simp only [this]
theorem rd_form {p : Pkt} (hp : p.Ok) (h : bdE p = 0) {c : Int} (c0 : 0 ≤ c) (c1 : c ≤ 65535) (hs : csum (hx p c ++ p.opt) = 0) (m : List UInt8) :
    rdE false (hx p c ++ (p.opt ++ (p.dat ++ m))) = 0 ∧ rdP (hx p c ++ (p.opt ++ (p.dat ++ m))) = p ∧ (8 ≤ p.dat.length → rdE true (hx p c ++ (p.opt ++ (p.dat ++ m))) = 0) := by
  obtain ⟨n1, n2, n3⟩ := bdE_zero h
  obtain ⟨f0, f1, f2, f3, f4, f5, f6, f7, f8, f9⟩ := hx_at hp c0 c1 (p.opt ++ (p.dat ++ m)) n1 n3
  have t1 : (hx p c ++ (p.opt ++ (p.dat ++ m))).take (20 + p.opt.length) = hx p c ++ p.opt := by
    rw [← List.append_assoc]; exact List.take_left' (by rw [List.length_append, hx_len])
  have t2 : (hx p c ++ (p.opt ++ (p.dat ++ m))).take (20 + p.opt.length + p.dat.length) = hx p c ++ p.opt ++ p.dat := by
    rw [← List.append_assoc, ← List.append_assoc]; exact List.take_left' (by rw [List.length_append, List.length_append, hx_len])
  have hl : 20 + p.opt.length + p.dat.length ≤ (hx p c ++ (p.opt ++ (p.dat ++ m))).length := by simp [hx_len]; omega
  have k6 : ¬ (get16 (hx p c ++ (p.opt ++ (p.dat ++ m))) 6 % 16384 ≠ 0) ∧ ¬ (32768 ≤ get16 (hx p c ++ (p.opt ++ (p.dat ++ m))) 6) ∧ (get16 (hx p c ++ (p.opt ++ (p.dat ++ m))) 6 != 0) = p.keep := by
    rw [f4]; cases p.keep <;> decide
  have e := fun q => rd_good (l := hx p c ++ (p.opt ++ (p.dat ++ m))) q n1 n2 hl f0 f2 (by rw [t1]; exact hs)
  refine ⟨?_, ?_, fun h8 => ?_⟩
  · rw [(e false).2.2, if_neg k6.1, if_neg k6.2.1]; simp
  · have d1 : (20 + (p.opt.length : Int)).toNat = 20 + p.opt.length := by omega
    have d2 : (20 + (p.opt.length : Int) + (p.dat.length : Int)).toNat = 20 + p.opt.length + p.dat.length := by omega
    unfold rdP
    rw [(e false).1, (e false).2.1, d1, d2, t1, t2, f1, f3, k6.2.2, f5, f6, f8, f9, List.drop_left' (hx_len p c), List.drop_left' (by rw [List.length_append, hx_len])]
  · rw [(e true).2.2, if_neg k6.1, if_neg k6.2.1, if_neg (by omega)]
theorem rd_back {p : Pkt} (hp : p.Ok) (h : bdE p = 0) (m : List UInt8) : rdE false (bdL p ++ m) = 0 ∧ rdP (bdL p ++ m) = p ∧ (8 ≤ p.dat.length → rdE true (bdL p ++ m) = 0) := by
  rw [bdL_form h, List.append_assoc, List.append_assoc]
  exact rd_form hp h (csum_lo _) (csum_hi _) (good_hd p) m
theorem rdPk_back {p : Pkt} (hp : p.Ok) (h : bdE p = 0) (m : List UInt8) : rdPk false (bdL p ++ m) = p := by
  unfold rdPk; rw [if_pos (rd_back hp h m).1, (rd_back hp h m).2.1]

/-! ### Changed bytes -/
theorem flip_told {p : Pkt} (hp : p.Ok) (h : bdE p = 0) {j : Nat} {x : Int} (x0 : 0 ≤ x) (x1 : x ≤ 255) (hj : j < 20 + p.opt.length) (hx : x ≠ bt (bdL p) j) (hv : j = 0 → x / 16 ≠ 4) :
    rdE false ((bdL p).set j (ub x)) ≠ 0 := by
  intro hE
  obtain ⟨n1, n2, n3⟩ := bdE_zero h
  have hlen := bdL_len h
  have f0 := (hx_at hp (csum_lo (hdL p)) (csum_hi (hdL p)) (p.opt ++ p.dat) n1 n3).1
  rw [← bdL_form h] at f0
  have ux := ub_val x
  unfold rdE at hE
  split at hE
  · rename_i h1; exact h1 hE
  · rename_i h1
    obtain ⟨g1, g2, g3, g4, -⟩ := len_facts (Decidable.not_not.1 h1)
    rw [bt_set] at g2
    by_cases e : j = 0
    · subst e
      rw [if_pos ⟨rfl, by omega⟩] at g2
      exact hv rfl (by omega)
    · have e1 : hdOf ((bdL p).set j (ub x)) = 20 + p.opt.length := by unfold hdOf; rw [bt_set, if_neg (by omega), f0]; omega
      rw [e1, show ((20 + (p.opt.length : Int)).toNat) = 20 + p.opt.length from by omega, List.take_set] at hE
      rw [if_pos] at hE
      · omega
      · refine csum_flip (by rw [List.length_take]; omega) (by rw [bt_take (by omega)]; omega) ?_
        rw [bdL_form h, ← List.append_assoc, List.take_left' (by rw [List.length_append, hx_len])]
        exact good_hd p
theorem cut_told {p : Pkt} (hp : p.Ok) (h : bdE p = 0) {k : Nat} (hk : k < (bdL p).length) : rdE false ((bdL p).take k) = 3 := by
  obtain ⟨n1, n2, n3⟩ := bdE_zero h
  have hlen := bdL_len h
  obtain ⟨f0, -, f2, -⟩ := hx_at hp (csum_lo (hdL p)) (csum_hi (hdL p)) (p.opt ++ p.dat) n1 n3
  rw [← bdL_form h] at f0 f2
  have hl : ((bdL p).take k).length = k := by rw [List.length_take]; omega
  have e : lenE false ((bdL p).take k) = 3 := by
    unfold lenE
    rw [hl]
    by_cases k1 : (k : Int) < 20
    · rw [if_pos k1]
    · rw [if_neg k1, if_neg (by rw [bt_take (by omega), f0]; omega)]
      have e1 : hdOf ((bdL p).take k) = 20 + p.opt.length := by unfold hdOf; rw [bt_take (by omega), f0]; omega
      rw [e1, if_neg (by omega)]
      by_cases k2 : (k : Int) < 20 + p.opt.length
      · rw [if_pos k2]
      · have e2 : get16 ((bdL p).take k) 2 = 20 + (p.opt.length : Int) + p.dat.length := by rw [← f2]; exact get16_take (i := 2) (by omega) (by omega)
        rw [if_neg k2, e2, if_neg (by omega), if_pos ⟨rfl, by omega⟩]
  unfold rdE
  rw [e]; rfl
/-- Bytes with other bits in the header's third word, and their sum. -/
def fixL (l : List UInt8) (b : Int) (h : Nat) : List UInt8 := put16 (put16 (put16 l 6 b) 10 0) 10 (csum ((put16 (put16 l 6 b) 10 0).take h))
theorem fix_told {p : Pkt} (hp : p.Ok) (h : bdE p = 0) {b : Int} (b0 : 0 ≤ b) (b1 : b ≤ 65535) :
    get16 (fixL (bdL p) b (20 + p.opt.length)) 6 = b ∧ rdE false (fixL (bdL p) b (20 + p.opt.length)) = (if b % 16384 ≠ 0 then 7 else if 32768 ≤ b then 4 else 0) := by
  obtain ⟨n1, n2, n3⟩ := bdE_zero h
  have hlen := bdL_len h
  obtain ⟨f0, -, f2, -⟩ := hx_at hp (csum_lo (hdL p)) (csum_hi (hdL p)) (p.opt ++ p.dat) n1 n3
  rw [← bdL_form h] at f0 f2
  have c6 : (6 : Int) = ((6 : Nat) : Int) := rfl
  have c10 : (10 : Int) = ((10 : Nat) : Int) := rfl
  have c2 : (2 : Int) = ((2 : Nat) : Int) := rfl
  have g6 : get16 (fixL (bdL p) b (20 + p.opt.length)) 6 = b := by
    unfold fixL
    rw [c6, c10, get16_put16_far (by simp only [put16_length]; omega) (by simp only [put16_length]; omega) (by omega), get16_put16_far (by simp only [put16_length]; omega) (by simp only [put16_length]; omega) (by omega), get16_put16 b0 b1 (by omega)]
  have g2 : get16 (fixL (bdL p) b (20 + p.opt.length)) 2 = 20 + (p.opt.length : Int) + (p.dat.length : Int) := by
    unfold fixL
    rw [c2, c6, c10, get16_put16_far (by simp only [put16_length]; omega) (by simp only [put16_length]; omega) (by omega), get16_put16_far (by simp only [put16_length]; omega) (by simp only [put16_length]; omega) (by omega), get16_put16_far (by omega) (by omega) (by omega)]
    exact f2
  have g0 : bt (fixL (bdL p) b (20 + p.opt.length)) 0 = 69 + (p.opt.length : Int) / 4 := by
    unfold fixL
    rw [c6, c10, bt_put16 (by simp only [put16_length]; omega), bt_put16 (by simp only [put16_length]; omega), bt_put16 (by omega)]
    simpa using f0
  have hl : (fixL (bdL p) b (20 + p.opt.length)).length = (bdL p).length := by unfold fixL; simp only [put16_length]
  have e := rd_good (l := fixL (bdL p) b (20 + p.opt.length)) (d := p.dat.length) false n1 n2 (by omega) g0 g2 (by
    unfold fixL
    generalize hz : put16 (put16 (bdL p) 6 b) 10 0 = z
    have zl : z.length = (bdL p).length := by rw [← hz]; simp only [put16_length]
    rw [c10, put16_take (by omega) (by omega)]
    refine good_put (j := 5) (by rw [List.length_take]; omega) ?_
    have z5 : wd z 5 = 0 := by rw [← hz]; exact wd_put16_same (j := 5) (by omega) (by omega) (by rw [put16_length]; omega)
    unfold wd at z5 ⊢
    rw [bt_take (by omega), bt_take (by omega)]
    exact z5)
  refine ⟨g6, ?_⟩
  rw [e.2.2, g6]
  simp
theorem hops_told {p : Pkt} (hp : p.Ok) (h : bdE p = 0) (ht : p.ttl ≠ 0) :
    get16 (bdL p) 8 = p.ttl * 256 + p.proto ∧
    rdE false (put16 (put16 (bdL p) 8 (p.ttl * 256 + p.proto - 256)) 10 (patch (get16 (bdL p) 10) (p.ttl * 256 + p.proto) (p.ttl * 256 + p.proto - 256))) = 0 ∧
    rdP (put16 (put16 (bdL p) 8 (p.ttl * 256 + p.proto - 256)) 10 (patch (get16 (bdL p) 10) (p.ttl * 256 + p.proto) (p.ttl * 256 + p.proto - 256))) = { p with ttl := p.ttl - 1 } := by
  obtain ⟨n1, n2, n3⟩ := bdE_zero h
  obtain ⟨⟨o1, o1'⟩, ⟨o2, o2'⟩, ⟨o3, o3'⟩, ⟨o4, o4'⟩, ⟨o5, o5'⟩, ⟨o6, o6'⟩⟩ := id hp
  obtain ⟨-, -, -, -, -, f5, f6, f7, -⟩ := hx_at hp (csum_lo (hdL p)) (csum_hi (hdL p)) (p.opt ++ p.dat) n1 n3
  have c8 : (8 : Int) = ((8 : Nat) : Int) := rfl
  have c10 : (10 : Int) = ((10 : Nat) : Int) := rfl
  obtain ⟨v, hv⟩ : ∃ v, p.ttl * 256 + p.proto - 256 = v := ⟨_, rfl⟩
  have v0 : 0 ≤ v := by omega
  have v1 : v ≤ 65535 := by omega
  rw [hv, bdL_form h, f7]
  have g8 : get16 (hx p (csum (hdL p)) ++ (p.opt ++ p.dat)) 8 = p.ttl * 256 + p.proto := by
    rw [get16_in (by omega) (by simp [hx_len]; omega), ← f5, ← f6]
    rfl
  refine ⟨g8, ?_⟩
  obtain ⟨t, hT⟩ : ∃ t, patch (csum (hdL p)) (p.ttl * 256 + p.proto) v = t := ⟨_, rfl⟩
  rw [hT]
  have t0 : 0 ≤ t ∧ t ≤ 65535 := by rw [← hT]; unfold patch; have := fd_lo ((65535 - csum (hdL p)) + (65535 - (p.ttl * 256 + p.proto)) + v); have := fd_hi ((65535 - csum (hdL p)) + (65535 - (p.ttl * 256 + p.proto)) + v); omega
  have hput : ∀ c, put16 (hx p c) ((8 : Nat) : Int) v = hx { p with ttl := p.ttl - 1 } c := by
    intro c
    have u1 : ub (v / 256) = ub (p.ttl - 1) := by rw [← hv]; unfold ub; congr 2; omega
    have u2 : ub v = ub p.proto := by rw [← hv]; unfold ub; congr 2; omega
    rw [put16_eq (by rw [hx_len]; omega), u1, u2]
    simp [hx]
  have e1 : put16 (put16 (hx p (csum (hdL p)) ++ (p.opt ++ p.dat)) 8 v) 10 t = hx { p with ttl := p.ttl - 1 } t ++ (p.opt ++ (p.dat ++ [])) := by
    rw [c8, c10, put16_append (by rw [hx_len]; omega), hput, put16_append (by rw [hx_len]; omega), hx_put, List.append_nil]
  have hs : csum (hx { p with ttl := p.ttl - 1 } t ++ p.opt) = 0 := by
    have w4 : wd (hdL p) 4 = p.ttl * 256 + p.proto := by
      rw [hdL_hx]
      unfold wd
      show ((ub p.ttl).toNat : Int) * 256 + ((ub p.proto).toNat : Int) = _
      rw [ub_val, ub_val]; omega
    have e2 : put16 (put16 (put16 (hdL p) (2 * 5 : Nat) (csum (hdL p))) (2 * 4 : Nat) v) (2 * 5 : Nat) (patch (csum (hdL p)) (wd (hdL p) 4) v) = hx { p with ttl := p.ttl - 1 } t ++ p.opt := by
      rw [w4, hT]
      show put16 (put16 (put16 (hdL p) 10 _) ((8 : Nat) : Int) v) ((10 : Nat) : Int) t = _
      rw [hdL_put, put16_append (by rw [hx_len]; omega), hput, put16_append (by rw [hx_len]; omega), hx_put]
    rw [← e2]
    refine patched_good v0 v1 (by rw [hdL_len]; omega) (by rw [hdL_len]; omega) (by omega) (by rw [hdL_hx]; rfl) ⟨0, ?_⟩
    rw [e2]
    show ((ub _).toNat : Int) ≠ 0
    rw [ub_val]
    show (64 + (20 + (p.opt.length : Int)) / 4) % 256 ≠ 0
    omega
  rw [e1]
  have hp' : Pkt.Ok { p with ttl := p.ttl - 1 } := ⟨⟨o1, o1'⟩, ⟨o2, o2'⟩, ⟨by show 0 ≤ p.ttl - 1; omega, by show p.ttl - 1 ≤ 255; omega⟩, ⟨o4, o4'⟩, ⟨o5, o5'⟩, ⟨o6, o6'⟩⟩
  have hh := rd_form hp' (by exact h) t0.1 t0.2 hs []
  exact ⟨hh.1, hh.2.1⟩
/-- What is built of what bytes say are these bytes, but for the sum. -/
theorem bytes_back {l : List UInt8} (h : rdE false l = 0) : bdE (rdP l) = 0 ∧ (bdL (rdP l)).length ≤ l.length ∧ ∀ i, i < (bdL (rdP l)).length → i ≠ 10 → i ≠ 11 → bt (bdL (rdP l)) i = bt l i := by
  unfold rdE at h
  split at h
  · rename_i h1; exact absurd h h1
  rename_i hE
  split at h
  · omega
  split at h
  · omega
  rename_i h6
  split at h
  · omega
  rename_i h6'
  obtain ⟨g1, g2, g3, g4, g5, g6, g7, g8, g9⟩ := len_facts (Decidable.not_not.1 hE)
  have g9 := g9 rfl
  have ha : alOf l = get16 l 2 := by unfold alOf; rw [if_neg (by omega)]
  have hi16 := get16_hi l 2
  obtain ⟨H, hH⟩ : ∃ H : Nat, hdOf l = H := ⟨(hdOf l).toNat, by omega⟩
  obtain ⟨T, hT⟩ : ∃ T : Nat, get16 l 2 = T := ⟨(get16 l 2).toNat, by omega⟩
  have hol : (rdP l).opt = (l.take H).drop 20 := by show (l.take (hdOf l).toNat).drop 20 = _; rw [hH]; rfl
  have hdl : (rdP l).dat = (l.take T).drop H := by show (l.take (alOf l).toNat).drop (hdOf l).toNat = _; rw [hH, ha, hT]; rfl
  have hn : (rdP l).opt.length = H - 20 := by rw [hol, List.length_drop, List.length_take]; omega
  have hm : (rdP l).dat.length = T - H := by rw [hdl, List.length_drop, List.length_take]; omega
  have h4 : hdOf l % 4 = 0 := by unfold hdOf; omega
  have hb0 : bdE (rdP l) = 0 := by
    unfold bdE
    rw [hn, hm, if_neg (by omega), if_neg (by omega)]
  have hlen := bdL_len hb0
  rw [hn, hm] at hlen
  refine ⟨hb0, by omega, fun i hi n10 n11 => ?_⟩
  have hod : (rdP l).opt ++ (rdP l).dat = (l.take T).drop 20 := by
    rw [hol, hdl]
    have e1 : l.take T = l.take H ++ (l.take T).drop H := by
      conv => lhs; rw [← List.take_append_drop H (l.take T)]
      rw [List.take_take, Nat.min_eq_left (by omega)]
    conv => rhs; rw [e1]
    rw [List.drop_append_of_le_length (by rw [List.length_take]; omega)]
  rw [bdL_form hb0, hod]
  by_cases hi20 : 20 ≤ i
  · obtain ⟨k, rfl⟩ : ∃ k, i = 20 + k := ⟨i - 20, by omega⟩
    rw [show 20 + k = (hx (rdP l) (csum (hdL (rdP l)))).length + k from by rw [hx_len], bt_append_right, hx_len]
    unfold bt
    simp only [List.getD_eq_getElem?_getD, List.getElem?_drop]
    rw [List.getElem?_take, if_pos (by omega)]
  · have l0 := bt_lo l 0
    have l0' := bt_hi l 0
    have l1 := bt_lo l 1
    have l1' := bt_hi l 1
    have l8 := bt_lo l 8
    have l8' := bt_hi l 8
    have l9 := bt_lo l 9
    have l9' := bt_hi l 9
    have e2 : get16 l 2 = bt l 2 * 256 + bt l 3 := get16_in (by omega) (by omega)
    have e4 : get16 l 4 = bt l 4 * 256 + bt l 5 := get16_in (by omega) (by omega)
    have e6 : get16 l 6 = bt l 6 * 256 + bt l 7 := get16_in (by omega) (by omega)
    have e12 : get32 l 12 = (bt l 12 * 256 + bt l 13) * 65536 + (bt l 14 * 256 + bt l 15) := by rw [get32_in (by omega) (by omega), get16_in (by omega) (by omega), get16_in (by omega) (by omega)]; rfl
    have e16 : get32 l 16 = (bt l 16 * 256 + bt l 17) * 65536 + (bt l 18 * 256 + bt l 19) := by rw [get32_in (by omega) (by omega), get16_in (by omega) (by omega), get16_in (by omega) (by omega)]; rfl
    have bb : ∀ j, 0 ≤ bt l j ∧ bt l j ≤ 255 := fun j => ⟨bt_lo l j, bt_hi l j⟩
    have b2 := bb 2
    have b3 := bb 3
    have b4 := bb 4
    have b5 := bb 5
    have b6 := bb 6
    have b7 := bb 7
    have b12 := bb 12
    have b13 := bb 13
    have b14 := bb 14
    have b15 := bb 15
    have b16 := bb 16
    have b17 := bb 17
    have b18 := bb 18
    have b19 := bb 19
    have h0 : bt l 0 = 64 + bt l 0 % 16 := by omega
    have hh : hdOf l = 4 * (bt l 0 % 16) := rfl
    have hk : ((if (rdP l).keep = true then (64 : UInt8) else 0).toNat : Int) = bt l 6 ∧ bt l 7 = 0 := by
      show ((if (get16 l 6 != 0) = true then (64 : UInt8) else 0).toNat : Int) = _ ∧ _
      by_cases hz : get16 l 6 = 0
      · rw [if_neg (by simp [hz])]
        exact ⟨by show (0 : Int) = _; omega, by omega⟩
      · rw [if_pos (by simp [hz])]
        exact ⟨by show (64 : Int) = _; omega, by omega⟩
    have hc : i = 0 ∨ i = 1 ∨ i = 2 ∨ i = 3 ∨ i = 4 ∨ i = 5 ∨ i = 6 ∨ i = 7 ∨ i = 8 ∨ i = 9 ∨ i = 12 ∨ i = 13 ∨ i = 14 ∨ i = 15 ∨ i = 16 ∨ i = 17 ∨ i = 18 ∨ i = 19 := by omega
    rcases hc with rfl | rfl | rfl | rfl | rfl | rfl | rfl | rfl | rfl | rfl | rfl | rfl | rfl | rfl | rfl | rfl | rfl | rfl
    · show ((ub (64 + (20 + ((rdP l).opt.length : Int)) / 4)).toNat : Int) = _
      rw [ub_val, hn]; omega
    · show ((ub (bt l 1)).toNat : Int) = _
      rw [ub_val]; omega
    · show ((ub ((20 + ((rdP l).opt.length : Int) + ((rdP l).dat.length : Int)) / 256)).toNat : Int) = _
      rw [ub_val, hn, hm]; omega
    · show ((ub (20 + ((rdP l).opt.length : Int) + ((rdP l).dat.length : Int))).toNat : Int) = _
      rw [ub_val, hn, hm]; omega
    · show ((ub (get16 l 4 / 256)).toNat : Int) = _
      rw [ub_val]; omega
    · show ((ub (get16 l 4)).toNat : Int) = _
      rw [ub_val]; omega
    · exact hk.1
    · show (0 : Int) = _
      omega
    · show ((ub (bt l 8)).toNat : Int) = _
      rw [ub_val]; omega
    · show ((ub (bt l 9)).toNat : Int) = _
      rw [ub_val]; omega
    · show ((ub (get32 l 12 / 16777216)).toNat : Int) = _
      rw [ub_val]; omega
    · show ((ub (get32 l 12 / 65536)).toNat : Int) = _
      rw [ub_val]; omega
    · show ((ub (get32 l 12 / 256)).toNat : Int) = _
      rw [ub_val]; omega
    · show ((ub (get32 l 12)).toNat : Int) = _
      rw [ub_val]; omega
    · show ((ub (get32 l 16 / 16777216)).toNat : Int) = _
      rw [ub_val]; omega
    · show ((ub (get32 l 16 / 65536)).toNat : Int) = _
      rw [ub_val]; omega
    · show ((ub (get32 l 16 / 256)).toNat : Int) = _
      rw [ub_val]; omega
    · show ((ub (get32 l 16)).toNat : Int) = _
      rw [ub_val]; omega
end Go.Proofs.Ytogbncpchmnbdaa
