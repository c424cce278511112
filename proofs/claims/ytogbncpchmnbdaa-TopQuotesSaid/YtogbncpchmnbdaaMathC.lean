/- Plain laws of messages and frames: what is built is read back; what is cut is told. -/
import Derived.Test.YtogbncpchmnbdaaMath3
import Derived.Test.YtogbncpchmnbdaaGre5
import Derived.Test.YtogbncpchmnbdaaMsg3
namespace Go.Proofs.Ytogbncpchmnbdaa
open Go.RowKit
set_option linter.unusedVariables false
set_option maxRecDepth 100000

theorem mL_at (m : Msg) (hm : m.Ok) : bt (mL m) 0 = m.ty ∧ bt (mL m) 1 = m.code ∧ bt (mL m) 2 = 0 ∧ bt (mL m) 3 = 0 ∧ get16 (mL m) ((4 : Nat) : Int) = m.rest / 65536 ∧ get16 (mL m) ((6 : Nat) : Int) = m.rest % 65536 := by
  obtain ⟨⟨a0, a1⟩, ⟨b0, b1⟩, ⟨c0, c1⟩⟩ := hm
  have hl := mL_len m
  refine ⟨?_, ?_, rfl, rfl, ?_, ?_⟩
  · show ((ub _).toNat : Int) = _
    rw [ub_val]; omega
  · show ((ub _).toNat : Int) = _
    rw [ub_val]; omega
  · rw [get16_in (by omega) (by omega)]
    show ((ub _).toNat : Int) * 256 + ((ub _).toNat : Int) = _
    rw [ub_val, ub_val]; omega
  · rw [get16_in (by omega) (by omega)]
    show ((ub _).toNat : Int) * 256 + ((ub _).toNat : Int) = _
    rw [ub_val, ub_val]; omega
theorem mS_good (m : Msg) : csum (mS m) = 0 :=
  good_put (j := 1) (z := mL m) (by rw [mL_len]; omega) rfl
theorem mS_back (m : Msg) (hm : m.Ok) : bt (mS m) 0 = m.ty ∧ bt (mS m) 1 = m.code ∧ get32 (mS m) 4 = m.rest ∧ (mS m).drop 8 = m.dat := by
  obtain ⟨h0, h1, -, -, h4, h6⟩ := mL_at m hm
  have hl := mL_len m
  have c2 : (2 : Int) = ((2 : Nat) : Int) := rfl
  obtain ⟨-, -, ⟨c0, c1⟩⟩ := hm
  refine ⟨?_, ?_, ?_, ?_⟩
  · unfold mS
    rw [c2, bt_put16 (by omega), if_neg (by omega), if_neg (by omega), h0]
  · unfold mS
    rw [c2, bt_put16 (by omega), if_neg (by omega), if_neg (by omega), h1]
  · rw [get32_in (by omega) (by rw [mS_len]; omega)]
    unfold mS
    show get16 (put16 (mL m) ((2 : Nat) : Int) _) ((4 : Nat) : Int) * 65536 + get16 (put16 (mL m) ((2 : Nat) : Int) _) ((6 : Nat) : Int) = _
    rw [get16_put16_far (by omega) (by omega) (by omega), get16_put16_far (by omega) (by omega) (by omega), h4, h6]
    omega
  · have e : mL m = ([ub m.ty, ub m.code, 0, 0] ++ four m.rest) ++ m.dat := rfl
    have e8 : ([ub m.ty, ub m.code, 0, 0] ++ four m.rest).length = 8 := rfl
    unfold mS
    rw [c2, e, put16_append (by rw [e8]; omega), List.drop_left' (by rw [put16_length, e8])]
theorem ic_back (p : Pkt) (m : Msg) (hm : m.Ok) : icE { p with proto := 1, dat := mS m } = 0 ∧ icM { p with proto := 1, dat := mS m } = m := by
  have e : icE { p with proto := 1, dat := mS m } = 0 := icE_0 rfl (by show (8 : Int) ≤ ((mS m).length : Int); rw [mS_len]; omega) (mS_good m)
  refine ⟨e, ?_⟩
  obtain ⟨h0, h1, h2, h3⟩ := mS_back m hm
  unfold icM
  rw [if_pos e]
  show (⟨bt (mS m) 0, bt (mS m) 1, get32 (mS m) 4, (mS m).drop 8⟩ : Msg) = m
  rw [h0, h1, h2, h3]
theorem ic_flip (p : Pkt) (m : Msg) {j : Nat} {x : Int} (x0 : 0 ≤ x) (x1 : x ≤ 255) (hj : j < 8 + m.dat.length) (hx : x ≠ bt (mS m) j) :
    icE { p with proto := 1, dat := (mS m).set j (ub x) } = 5 := by
  refine icE_5 rfl (by show (8 : Int) ≤ (((mS m).set j (ub x)).length : Int); rw [List.length_set, mS_len]; omega) ?_
  exact csum_flip (by rw [mS_len]; omega) (by rw [ub_val]; omega) (mS_good m)
theorem icM_bad {p : Pkt} (h : icE p ≠ 0) : icM p = zM := by unfold icM; rw [if_neg h]

/-! ### Frames -/
theorem bgP_bad {p : Pkt} {f : Frm} (h : bgE p f ≠ 0) : bgP p f = zP := by
  revert h
  unfold bgE bgP
  split
  · intro; rfl
  · intro h
    unfold withP
    rw [gL_len, if_neg h]
theorem bgP_ok {p : Pkt} {f : Frm} (h : bgE p f = 0) : bgP p f = { p with proto := 47, dat := gL f } := by
  revert h
  unfold bgE bgP
  split
  · intro h; exact absurd h (by decide)
  · intro h
    unfold withP
    rw [gL_len, if_pos h]
theorem gH_len (f : Frm) : (gH f).length = 8 + (if f.hs then 4 else 0) + (if f.ha then 4 else 0) := by
  unfold gH grB two four
  cases f.hs <;> cases f.ha <;> simp
theorem gH_at (f : Frm) (hf : f.Ok) (hl : f.dat.length ≤ 65535) (r : List UInt8) :
    bt (gH f ++ r) 0 = b0F f.hs ∧ bt (gH f ++ r) 1 = b1F f.ha ∧ bt (gH f ++ r) 2 = 136 ∧ bt (gH f ++ r) 3 = 11 ∧ get16 (gH f ++ r) 4 = f.dat.length ∧ get16 (gH f ++ r) 6 = f.call := by
  have hL : 8 ≤ (gH f ++ r).length := by rw [List.length_append, gH_len]; omega
  obtain ⟨⟨c0, c1⟩, -, -⟩ := hf
  have h0 := b0F_bd f.hs
  have h1 := b1F_bd f.ha
  have e : gH f ++ r = [ub (b0F f.hs), ub (b1F f.ha), ub 136, ub 11, ub ((f.dat.length : Int) % 65536 / 256), ub ((f.dat.length : Int) % 65536), ub (f.call / 256), ub f.call] ++ ((if f.hs then four f.seq else []) ++ (if f.ha then four f.ack else []) ++ r) := by
    unfold gH grB two; simp
  rw [e] at hL ⊢
  refine ⟨?_, ?_, ?_, ?_, ?_, ?_⟩
  · show ((ub _).toNat : Int) = _
    rw [ub_val]; omega
  · show ((ub _).toNat : Int) = _
    rw [ub_val]; omega
  · rfl
  · rfl
  · rw [get16_in (by omega) (by omega)]
    show ((ub _).toNat : Int) * 256 + ((ub _).toNat : Int) = _
    rw [ub_val, ub_val]; omega
  · rw [get16_in (by omega) (by omega)]
    show ((ub _).toNat : Int) * 256 + ((ub _).toNat : Int) = _
    rw [ub_val, ub_val]; omega
theorem b0F_eq (s : Bool) : (b0F s == 48) = s ∧ (b0F s == 32 || b0F s == 48) = true := by cases s <;> decide
theorem b1F_eq (s : Bool) : (b1F s == 129) = s ∧ (b1F s == 1 || b1F s == 129) = true := by cases s <;> decide
theorem g_flags {l : List UInt8} {s a : Bool} (h0 : bt l 0 = b0F s) (h1 : bt l 1 = b1F a) (h2 : bt l 2 = 136) (h3 : bt l 3 = 11) : sB l = s ∧ aB l = a ∧ begB l = true ∧ hdG l = 8 + (if s then 4 else 0) + (if a then 4 else 0) := by
  have e1 : sB l = s := by unfold sB; rw [h0, (b0F_eq s).1]
  have e2 : aB l = a := by unfold aB; rw [h1, (b1F_eq a).1]
  refine ⟨e1, e2, ?_, ?_⟩
  · unfold begB; rw [h0, h1, h2, h3, (b0F_eq s).2, (b1F_eq a).2]; rfl
  · unfold hdG; rw [e1, e2]
/-- What bytes with such a beginning say. -/
theorem g_said (p : Pkt) {l : List UInt8} {s a : Bool} {n : Nat} (h0 : bt l 0 = b0F s) (h1 : bt l 1 = b1F a) (h2 : bt l 2 = 136) (h3 : bt l 3 = 11) (h4 : get16 l 4 = n) (hl : 8 ≤ l.length) :
    geE { p with proto := 47, dat := l } = (if (l.length : Int) < 8 + (if s then 4 else 0) + (if a then 4 else 0) + n then 3 else if 8 + (if s then 4 else 0) + (if a then 4 else 0) + (n : Int) < (l.length : Int) then 4 else 0) := by
  obtain ⟨-, -, e3, e4⟩ := g_flags h0 h1 h2 h3
  unfold geE
  rw [if_neg (by simp), if_neg (by show ¬ ((l.length : Int) < 8); omega)]
  show (if begB l = false then (4 : Int) else if (l.length : Int) < hdG l + get16 l 4 then 3 else if hdG l + get16 l 4 < (l.length : Int) then 4 else 0) = _
  rw [if_neg (by rw [e3]; decide), e4, h4]
  cases s <;> cases a <;> simp
theorem ge_back (p : Pkt) (f : Frm) (hf : f.Ok) (hb : gBad f = false) (hl : f.dat.length ≤ 65535) : geE { p with proto := 47, dat := gL f } = 0 ∧ geF { p with proto := 47, dat := gL f } = f := by
  obtain ⟨h0, h1, h2, h3, h4, h6⟩ := gH_at f hf hl f.dat
  have hN := gL_len f
  have e : gL f = gH f ++ f.dat := rfl
  rw [← e] at h0 h1 h2 h3 h4 h6
  have hE : geE { p with proto := 47, dat := gL f } = 0 := by
    rw [g_said p h0 h1 h2 h3 h4 (by rw [hN]; unfold gN; omega), hN]
    unfold gN
    cases f.hs <;> cases f.ha <;> simp
  refine ⟨hE, ?_⟩
  obtain ⟨e1, e2, e3, e4⟩ := g_flags h0 h1 h2 h3
  unfold geF
  rw [if_pos hE]
  show rdF (gL f) = f
  unfold rdF
  rw [e1, e2, e4, h6]
  have e5 : (gL f).drop (8 + (if f.hs then 4 else 0) + (if f.ha then 4 else 0)) = f.dat := by rw [e, List.drop_left' (gH_len f)]
  rw [e5]
  obtain ⟨-, ⟨s0, s1⟩, ⟨a0, a1⟩⟩ := hf
  have hs : (if f.hs then get32 (gL f) 8 else 0) = f.seq := by
    by_cases q : f.hs = true
    · rw [if_pos q, get32_in (by omega) (by rw [hN]; unfold gN; rw [if_pos q]; omega), get16_in (by omega) (by rw [hN]; unfold gN; rw [if_pos q]; omega), get16_in (by omega) (by rw [hN]; unfold gN; rw [if_pos q]; omega)]
      have e6 : gL f = [ub (b0F f.hs), ub (b1F f.ha), ub 136, ub 11, ub ((f.dat.length : Int) % 65536 / 256), ub ((f.dat.length : Int) % 65536), ub (f.call / 256), ub f.call] ++ (four f.seq ++ ((if f.ha then four f.ack else []) ++ f.dat)) := by
        unfold gL gH grB two; rw [if_pos q]; simp
      rw [e6]
      show (((ub _).toNat : Int) * 256 + ((ub _).toNat : Int)) * 65536 + (((ub _).toNat : Int) * 256 + ((ub _).toNat : Int)) = _
      rw [ub_val, ub_val, ub_val, ub_val]; omega
    · rw [if_neg q]
      unfold gBad at hb
      have q' : f.hs = false := by simpa using q
      rw [q'] at hb
      simp at hb
      exact hb.1.symm
  have ha : (if f.ha then get32 (gL f) (if f.hs then 12 else 8) else 0) = f.ack := by
    by_cases q : f.ha = true
    · rw [if_pos q]
      by_cases q2 : f.hs = true
      · rw [if_pos q2, get32_in (by omega) (by rw [hN]; unfold gN; rw [if_pos q, if_pos q2]; omega), get16_in (by omega) (by rw [hN]; unfold gN; rw [if_pos q, if_pos q2]; omega), get16_in (by omega) (by rw [hN]; unfold gN; rw [if_pos q, if_pos q2]; omega)]
        have e6 : gL f = [ub (b0F f.hs), ub (b1F f.ha), ub 136, ub 11, ub ((f.dat.length : Int) % 65536 / 256), ub ((f.dat.length : Int) % 65536), ub (f.call / 256), ub f.call] ++ (four f.seq ++ (four f.ack ++ f.dat)) := by
          unfold gL gH grB two; rw [if_pos q, if_pos q2]; simp
        rw [e6]
        show (((ub _).toNat : Int) * 256 + ((ub _).toNat : Int)) * 65536 + (((ub _).toNat : Int) * 256 + ((ub _).toNat : Int)) = _
        rw [ub_val, ub_val, ub_val, ub_val]; omega
      · rw [if_neg q2, get32_in (by omega) (by rw [hN]; unfold gN; rw [if_pos q]; omega), get16_in (by omega) (by rw [hN]; unfold gN; rw [if_pos q]; omega), get16_in (by omega) (by rw [hN]; unfold gN; rw [if_pos q]; omega)]
        have e6 : gL f = [ub (b0F f.hs), ub (b1F f.ha), ub 136, ub 11, ub ((f.dat.length : Int) % 65536 / 256), ub ((f.dat.length : Int) % 65536), ub (f.call / 256), ub f.call] ++ (four f.ack ++ f.dat) := by
          unfold gL gH grB two; rw [if_pos q, if_neg q2]; simp
        rw [e6]
        show (((ub _).toNat : Int) * 256 + ((ub _).toNat : Int)) * 65536 + (((ub _).toNat : Int) * 256 + ((ub _).toNat : Int)) = _
        rw [ub_val, ub_val, ub_val, ub_val]; omega
    · rw [if_neg q]
      unfold gBad at hb
      have q' : f.ha = false := by simpa using q
      rw [q'] at hb
      simp at hb
      exact hb.2.symm
  rw [hs, ha]
theorem ge_cut (p : Pkt) (f : Frm) (hf : f.Ok) (hl : f.dat.length ≤ 65535) {k : Nat} (hk : k < gN f) : geE { p with proto := 47, dat := (gL f).take k } = 3 := by
  obtain ⟨h0, h1, h2, h3, h4, h6⟩ := gH_at f hf hl f.dat
  have hN := gL_len f
  have e : gL f = gH f ++ f.dat := rfl
  rw [← e] at h0 h1 h2 h3 h4 h6
  have hlen : ((gL f).take k).length = k := by rw [List.length_take]; omega
  by_cases k8 : k < 8
  · unfold geE
    rw [if_neg (by simp), if_pos (by show ((((gL f).take k).length : Nat) : Int) < 8; rw [hlen]; omega)]
  · rw [g_said p (l := (gL f).take k) (s := f.hs) (a := f.ha) (n := f.dat.length) (by rw [bt_take (by omega), h0]) (by rw [bt_take (by omega), h1]) (by rw [bt_take (by omega), h2]) (by rw [bt_take (by omega), h3])
      (by rw [← h4]; exact get16_take (i := 4) (by omega) (by omega)) (by rw [hlen]; omega), hlen, if_pos]
    unfold gN at hk
    revert hk
    cases f.hs <;> cases f.ha <;> simp <;> omega
theorem ge_more (p : Pkt) (f : Frm) (hf : f.Ok) (hl : f.dat.length ≤ 65535) {r : List UInt8} (hr : 0 < r.length) : geE { p with proto := 47, dat := gL f ++ r } = 4 := by
  obtain ⟨h0, h1, h2, h3, h4, h6⟩ := gH_at f hf hl (f.dat ++ r)
  have hN := gL_len f
  have e : gL f ++ r = gH f ++ (f.dat ++ r) := by unfold gL; rw [List.append_assoc]
  rw [← e] at h0 h1 h2 h3 h4 h6
  have hlen : (gL f ++ r).length = gN f + r.length := by rw [List.length_append, hN]
  rw [g_said p h0 h1 h2 h3 h4 (by rw [hlen]; unfold gN; omega), hlen]
  unfold gN
  cases f.hs <;> cases f.ha <;> simp <;> omega
theorem geF_bad {p : Pkt} (h : geE p ≠ 0) : geF p = zF := by unfold geF; rw [if_neg h]
end Go.Proofs.Ytogbncpchmnbdaa
