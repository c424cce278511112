/- Parts of the proofs of this seat, laid together: Os Gen OsO IpS Same4 SegS SegE SegK SegSk OptR Range Sum Spl Spl2 Scope With2 Seg1 Tcp1 GenIn Foreign Tcp2 Tcp3. -/
import Derived.RangeFuncNested
import Derived.RangeFuncCalls
import Derived.RangeFuncLeaves
import Derived.Shelf.Abstract
import Derived.Shelf.RegionOpen
import Derived.OwnWalkIn
import Derived.TacticsInMore
import Derived.LoopNIn
import Derived.LoopIn
import Derived.Sort.QuietTacIn
import Derived.ScopeJumps
import Derived.WalkMore
import Derived.BigRegionIn
import Derived.Test.YthgoffbfgdgkpaaK1
/- A slice of options in memory. -/
namespace Go.Proofs.Ythgoffbfgdgkpaa
open Go.RowKit
set_option linter.unusedVariables false
set_option linter.unusedSimpArgs false
set_option maxHeartbeats 4000000
set_option maxRecDepth 100000

structure Os (w : World) (A : Option Addr) (n c : Nat) (os : List Opt) : Prop where
  len : os.length = n
  cap : n ≤ c
  max : n ≤ 4398046511104
  nil : A = none → c = 0
  ok : ∀ o ∈ os, o.Ok
  rd : 0 < n → ∃ b off, A = some ⟨b, off, none⟩ ∧ ∀ j, j < n → w.cell? ⟨b, off + j * 2, none⟩ = some (.int .u8 (os.getD j zO).kind) ∧ ∃ B m d, w.cell? ⟨b, off + j * 2 + 1, none⟩ = some (.slice B m d) ∧ Bs w B m d (os.getD j zO).dat
section
variable {w w' : World} {A : Option Addr} {n c : Nat} {os : List Opt}
theorem Os.below (h : Os w A n c os) (hb : Below w.heap.size w w') : Os w' A n c os :=
  ⟨h.len, h.cap, h.max, h.nil, h.ok, fun hn => by
    obtain ⟨b, off, e, hc⟩ := h.rd hn
    refine ⟨b, off, e, fun j hj => ?_⟩
    obtain ⟨h1, B, m, d, h2, h3⟩ := hc j hj
    exact ⟨(hb.cell (World.block_lt_of_cell? w _ h1)).trans h1, B, m, d, (hb.cell (World.block_lt_of_cell? w _ h2)).trans h2, h3.below hb⟩⟩
theorem Os.alloc (h : Os w A n c os) (o : Obj) : Os (w.alloc o) A n c os := h.below ((Below.refl _ w).alloc (Nat.le_refl _) o)
theorem Os.none_ (w : World) : Os w none 0 0 [] := ⟨rfl, Nat.zero_le _, by omega, fun _ => rfl, (fun o h => by cases h), fun h => absurd h (by omega)⟩
theorem Os.at_ok (h : Os w A n c os) {j : Nat} (hj : j < n) : 0 ≤ (os.getD j zO).kind ∧ (os.getD j zO).kind ≤ 255 := by
  have hl := h.len
  rw [List.getD_eq_getElem?_getD, List.getElem?_eq_getElem (by omega)]
  exact (h.ok _ (List.getElem_mem (by omega))).kind
end
theorem optsB_take {os : List Opt} {j : Nat} (h : j < os.length) : optsB (os.take (j + 1)) = optsB (os.take j) ++ optB (os.getD j zO) := by
  unfold optsB
  rw [List.take_succ_eq_append_getElem h, List.flatMap_append]
  simp [List.getD_eq_getElem?_getD, List.getElem?_eq_getElem h]
theorem okOs_bad {os : List Opt} {j : Nat} (h : j < os.length) (hb : badO (os.getD j zO) = true) : okOs os = false := by
  unfold okOs
  have : os.all (fun o => !badO o) = false := by
    rw [List.all_eq_false]
    refine ⟨os[j], List.getElem_mem h, ?_⟩
    simp only [List.getD_eq_getElem?_getD, List.getElem?_eq_getElem h, Option.getD_some] at hb
    simp [hb]
  rw [this]; rfl
theorem optsB_len {os : List Opt} (j : Nat) : (optsB (os.take j)).length ≤ (optsB os).length := by
  conv => rhs; rw [← List.take_append_drop j os]
  unfold optsB
  rw [List.flatMap_append, List.length_append]
  omega
theorem okOs_long {os : List Opt} {j : Nat} (h : 40 < (optsB (os.take j)).length) : okOs os = false := by
  have := optsB_len (os := os) j
  unfold okOs
  rw [decide_eq_false (by omega), Bool.and_false]
theorem okOs_yes {os : List Opt} (h : ∀ j, j < os.length → badO (os.getD j zO) = false) (hl : (optsB os).length ≤ 40) : okOs os = true := by
  unfold okOs
  rw [decide_eq_true hl, Bool.and_true, List.all_eq_true]
  intro o ho
  obtain ⟨j, hj, e⟩ := List.mem_iff_getElem.1 ho
  have := h j hj
  simp only [List.getD_eq_getElem?_getD, List.getElem?_eq_getElem hj, Option.getD_some, e] at this
  simp [this]
/-- The ways of an option. -/
theorem badO_ways (o : Opt) (m : Nat) (hm : o.dat.length = m) : (badO o = true ∧ ((o.kind == 0) = true ∨ ((o.kind == 0) = false ∧ (o.kind == 1) = true ∧ 0 < (m : Int)) ∨ ((o.kind == 0) = false ∧ (o.kind == 1) = false ∧ 38 < (m : Int)))) ∨
    (badO o = false ∧ (((o.kind == 0) = false ∧ (o.kind == 1) = true ∧ m = 0 ∧ optB o = [ub 1]) ∨ ((o.kind == 0) = false ∧ (o.kind == 1) = false ∧ m ≤ 38 ∧ optB o = [ub o.kind] ++ [ub (2 + (m : Int))] ++ o.dat))) := by
  unfold badO optB
  rw [hm]
  by_cases h0 : o.kind = 0
  · simp [h0]
  · by_cases h1 : o.kind = 1
    · by_cases h2 : m = 0
      · subst h2; simp [h1]
      · left; simp [h1]; omega
    · by_cases h2 : m ≤ 38
      · right; simp [h0, h1]; omega
      · left; simp [h0, h1]; omega
theorem optB_len (o : Opt) : (optB o).length ≤ 2 + o.dat.length := by
  unfold optB; split <;> simp <;> omega
def slN : Value → Nat
  | .slice _ n _ => n
  | _ => 0
structure RoPost (w : World) (os : List Opt) (e : Ending) (w' : World) : Prop where
  out : ∃ A n c, e = .returned (.tuple #[.slice A n c, .bool (okOs os)]) ∧ (okOs os = true → Own w' w.heap.size 5 A n c (optL os)) ∧ Below w.heap.size w w'
theorem ropts_any (A : Option Addr) (n c : Nat) (os : List Opt) (w : World) (K : Os w A n c os) : Calls Try.prog 36 #[.slice A n c] w (RoPost w os) := by
  have hmax := K.max
  have HL := Lib.hid K.len
  go_enter Try.func36, Try.ntmps36
  go_wp2_with fail
  go_loopw [4, 5] (fun out i wr => ∃ (j : Nat) (A' : Option Addr) (n' c' : Nat), j ≤ n ∧ i = .int .i64 j ∧ out = .slice A' n' c' ∧ n' ≤ 80 ∧ Own wr w.heap.size 5 A' n' c' (optsB (os.take j)) ∧ Below w.heap.size w wr ∧ Hid (∀ i, i < j → badO (os.getD i zO) = false)) (fun _ i _ => n - (intOf i).toNat)
  case atStart => exact ⟨0, none, 0, 0, by omega, rfl, rfl, by omega, by simpa [optsB] using own_nil w w.heap.size 5, Below.refl _ _, fun i hi => by omega⟩
  case round =>
    obtain ⟨j, Aj, nj, cj, hj, rfl, rfl, hnj, Oj, Bj, Gj⟩ := hrel
    by_cases hlt : j < n
    · by_cases h40 : nj ≤ 40
      · obtain ⟨b, off, rfl, hc⟩ := K.rd (by omega)
        obtain ⟨cK0, B, m, d, cD0, bD⟩ := hc j hlt
        have cK := (Bj.cell (World.block_lt_of_cell? w _ cK0)).trans cK0
        have cD := (Bj.cell (World.block_lt_of_cell? w _ cD0)).trans cD0
        clear cD0
        obtain ⟨k0, k1⟩ := K.at_ok hlt
        have hw := badO_ways (os.getD j zO) m bD.len
        obtain ⟨o, ho⟩ : ∃ o, os.getD j zO = o := ⟨_, rfl⟩
        rw [ho] at cK bD k0 k1 hw
        have HO := Lib.hid ho
        clear hc ho cK0
        have bm := bD.max
        have hji : (j : Int) < n := by omega
        have h40i : (nj : Int) ≤ 40 := by omega
        obtain ⟨κ, hκ⟩ : ∃ κ, o.kind = κ := ⟨_, rfl⟩
        obtain ⟨D, hD⟩ : ∃ D, o.dat = D := ⟨_, rfl⟩
        rw [hκ] at cK k0 k1 hw
        rw [hD] at bD hw
        clear hκ hD
        have hl1 : ∀ (x : Int), 0 ≤ x → x ≤ 255 → ∀ W : World, Bs (W.alloc (.cells #[.int .u8 x] 5)) (some ⟨W.heap.size, 0, none⟩) 1 1 [ub x] := fun x x0 x1 W => by
          have h := bs_lit (W := W) (e := 5) [ub x] 1 rfl (by omega)
          have e : (cu [ub x]).toArray = #[.int .u8 x] := by simp [cu, ub_val]; omega
          rw [e] at h; exact h
        obtain ⟨v, hv⟩ : ∃ W, wr.alloc (.cells #[.int .u8 κ, .slice B m d] 97) = W := ⟨_, rfl⟩
        have Vv : Below wr.heap.size wr v := by rw [← hv]; (repeat (first | with_reducible exact Below.refl _ _ | with_reducible refine below_drew ?_ | with_reducible refine below_drewN ?_ _ | with_reducible refine below_alloc ?_ (Nat.le_refl _) _ | with_reducible refine Below.setCell ?_ (by first | exact Nat.le_refl _ | (simp only []; omega)) _ | with_reducible assumption))
        have Pv : Blk v wr.heap.size #[.int .u8 κ, .slice B m d] 97 := by rw [← hv]; exact blk_new _ _ _ _ rfl
        have pv := Pv.cell
        have Ov := Oj.below Vv
        have Bv := below_then Bj Vv
        rcases hw with ⟨hb, hw⟩ | ⟨hb, hw⟩
        · have HF : Hid (okOs os = false) := okOs_bad (j := j) (by rw [HL.out]; exact hlt) (by rw [HO.out]; exact hb)
          clear hb
          rcases hw with h1 | ⟨h1, h2, h3⟩ | ⟨h1, h2, h3⟩
          all_goals go_wp2_with fail
          all_goals (refine bodyPost_ret (v := .tuple #[.slice none 0 0, .bool false]) (by simp [results, Try.results36, go_sem]) rfl ?_)
          all_goals exact ⟨none, 0, 0, by rw [HF.out], fun h => absurd h (by rw [HF.out]; decide), Bv⟩
        · have HT := Lib.hid (optsB_take (os := os) (j := j) (by rw [HL.out]; exact hlt))
          have GJ : Hid (∀ i, i < j + 1 → badO (os.getD i zO) = false) := fun i hi => by
            by_cases e : i = j
            · subst e; rw [HO.out]; exact hb
            · exact Gj.out i (by omega)
          clear hb
          rcases hw with ⟨h1, h2, h3, h4⟩ | ⟨h1, h2, h3, h4⟩
          · have H4 := Lib.hid h4
            clear h4
            obtain rfl : κ = 1 := by simpa using h2
            subst h3
            go_wp2_with (at_builtin; refine wpList_append_bs (w0 := w) _ rfl _ _ _ rfl w.heap.size 5 Try.underlying24 info_u8 Aj nj cj _ rfl (Ov.alloc _) (some ⟨_, 0, none⟩) 1 1 _ rfl (hl1 1 (by omega) (by omega) _) (Bv.alloc Bv.size _) (by omega) (by have := Bv.size; simp; omega) ?_; intro A2 n2 c2 w2 O2 hB2 hgr hz2; have P2 := (Pv.alloc (.cells #[.int .u8 1] 5)).grown hgr ((Ov.alloc (.cells #[.int .u8 1] 5)).ne_blk (Pv.alloc _) (by decide)); have pc2 := P2.cell)
            have u2 : n2 = nj + 1 := by have := O2.len; have := Ov.len; simp at *; omega
            exact ⟨⟨j + 1, A2, n2, c2, by omega, by go_num, rfl, by omega, by rw [HT.out, HO.out, H4.out]; exact O2, hB2, GJ⟩, by simp [intOf]; omega⟩
          · have H4 := Lib.hid h4
            clear h4
            have k2 : 0 ≤ 2 + (m : Int) := by omega
            have k3 : 2 + (m : Int) ≤ 255 := by omega
            have hwr : IntKind.u8.wrap ((m : Int) + 2) = 2 + (m : Int) := by rw [IntKind.wrap_u8]; omega
            have hm38 : (m : Int) ≤ 38 := by omega
            obtain ⟨z, hz⟩ : ∃ z : Int, (m : Int) + 2 = z := ⟨_, rfl⟩
            rw [show 2 + (m : Int) = z from by omega] at k2 k3 hwr
            rw [hz] at hwr
            have HZ := Lib.hid hz
            go_wp2_with (first
              | (at_builtin; refine wpList_append_bs (w0 := w) _ rfl _ _ _ rfl w.heap.size 5 Try.underlying24 info_u8 Aj nj cj _ rfl (Ov.alloc _) (some ⟨_, 0, none⟩) 1 1 _ rfl (hl1 κ k0 k1 _) (Bv.alloc Bv.size _) (by omega) (by have := Bv.size; simp; omega) ?_; intro A2 n2 c2 w2 O2 hB2 hgr hz2; have P2 := (Pv.alloc (.cells #[.int .u8 κ] 5)).grown hgr ((Ov.alloc (.cells #[.int .u8 κ] 5)).ne_blk (Pv.alloc _) (by decide)); have pc2 := P2.cell; have u2 : nj + 1 = n2 := (by have := O2.len; have := Ov.len; simp at *; omega); subst u2)
              | (at_builtin; refine wpList_append_bs (w0 := w) _ rfl _ _ _ rfl w.heap.size 5 Try.underlying24 info_u8 A2 (nj + 1) c2 _ rfl (O2.alloc _) (some ⟨_, 0, none⟩) 1 1 _ rfl (hl1 z k2 k3 _) (hB2.alloc hB2.size _) (by omega) (by have := hB2.size; simp; omega) ?_; intro A3 n3 c3 w3 O3 hB3 hgr3 hz3; have P3 := (P2.alloc (.cells #[.int .u8 z] 5)).grown hgr3 ((O2.alloc (.cells #[.int .u8 z] 5)).ne_blk (P2.alloc _) (by decide)); have pc3 := P3.cell; have u3 : nj + 1 + 1 = n3 := (by have := O3.len; have := O2.len; simp at *; omega); subst u3; have b3 := bD.below hB3)
              | (at_builtin; refine wpList_append_bs (w0 := w) _ rfl _ _ _ rfl w.heap.size 5 Try.underlying24 info_u8 A3 (nj + 1 + 1) c3 _ rfl O3 B m d _ rfl b3 hB3 (by omega) hB3.size ?_; intro A4 n4 c4 w4 O4 hB4 hgr4 hz4))
            have u4 : n4 = nj + 2 + m := by have := O4.len; have := O3.len; have := bD.len; simp at *; omega
            exact ⟨⟨j + 1, A4, n4, c4, by omega, by go_num, rfl, by omega, by rw [HT.out, HO.out, H4.out, show (2 : Int) + m = z from by have := HZ.out; omega]; simpa using O4, hB4, GJ⟩, by simp [intOf]; omega⟩
      · have HF : Hid (okOs os = false) := okOs_long (j := j) (by rw [Oj.len]; omega)
        have h40i : ¬ (nj : Int) ≤ 40 := by omega
        have h40j : (40 : Int) < nj := by omega
        have hji : (j : Int) < n := by omega
        go_wp2_with fail
        (refine bodyPost_ret (v := .tuple #[.slice none 0 0, .bool false]) (by simp [results, Try.results36, go_sem]) rfl ?_)
        exact ⟨none, 0, 0, by rw [HF.out], fun h => absurd h (by rw [HF.out]; decide), Bj⟩
    · obtain rfl : j = n := by omega
      have htk : os.take j = os := List.take_of_length_le (by rw [HL.out]; exact Nat.le_refl _)
      by_cases h40 : nj ≤ 40
      · have hlen : (optsB os).length = nj := by rw [← htk]; exact Oj.len
        have HY : Hid (okOs os = true) := okOs_yes (fun i hi => Gj.out i (by rw [← HL.out]; exact hi)) (by omega)
        rw [htk] at Oj
        have HP : Hid (optsB os ++ zs (padN nj) = optL os) := by unfold Hid optL; rw [hlen]
        have hpn : padN nj ≤ 3 ∧ (nj + padN nj) % 4 = 0 := by unfold padN; omega
        clear htk hlen
        have h40i : (nj : Int) ≤ 40 := by omega
        obtain ⟨pn, hpn'⟩ : ∃ pn, padN nj = pn := ⟨_, rfl⟩
        rw [hpn'] at hpn HP
        have HPN := Lib.hid hpn'
        clear hpn'
        obtain ⟨hp3, hp4⟩ := hpn
        go_wp2_with fail
        go_loopw [4] (fun out wq => ∃ (N k : Nat) (A' : Option Addr) (c' : Nat), N = nj + k ∧ k ≤ pn ∧ out = .slice A' N c' ∧ Own wq w.heap.size 5 A' N c' (optsB os ++ zs k) ∧ Below w.heap.size w wq) (fun out _ => nj + pn - slN out)
        case atStart => exact ⟨nj, 0, Aj, cj, rfl, by omega, rfl, by simpa [zs] using Oj, Bj⟩
        case round =>
          obtain ⟨N, k, Ak, ck, hN, hk, rfl, Ok, Bk⟩ := hrel
          by_cases hkp : k < pn
          · have h4 := m4_yes (n := N) (by omega)
            have hl1 : ∀ W : World, Bs (W.alloc (.cells #[.int .u8 0] 5)) (some ⟨W.heap.size, 0, none⟩) 1 1 [0] := fun W => bs_litk [0] 1 rfl rfl (by omega)
            have HN := Lib.hid hN
            clear hN
            go_wp2_with (at_builtin; refine wpList_append_bs (w0 := w) _ rfl _ _ _ rfl w.heap.size 5 Try.underlying24 info_u8 Ak N ck _ rfl (Ok.alloc _) (some ⟨_, 0, none⟩) 1 1 _ rfl (hl1 _) (Bk.alloc Bk.size _) (by have := HN.out; omega) (by have := Bk.size; simp; omega) ?_; intro A2 n2 c2 w2 O2 hB2 hgr hz2)
            have u2 : n2 = N + 1 := by have := O2.len; have := Ok.len; simp at *; omega
            have hN := HN.out
            subst u2
            exact ⟨⟨N + 1, k + 1, A2, c2, by omega, by omega, rfl, by rw [show zs (k + 1) = zs k ++ [0] from by simp [zs, List.replicate_succ'], ← List.append_assoc]; exact O2, hB2⟩, by simp [slN]; omega⟩
          · obtain rfl : k = pn := by omega
            have h4 := m4_no (n := N) (by omega)
            have HN := Lib.hid hN
            clear hN
            go_wp2_with fail
            refine bodyPost_ret (v := .tuple #[.slice Ak N ck, .bool true]) (by simp [results, Try.results36, go_sem]) rfl ?_
            exact ⟨Ak, N, ck, by rw [HY.out], fun _ => by rw [← HP.out]; exact Ok, Bk⟩
      · have HF : Hid (okOs os = false) := okOs_long (j := j) (by rw [Oj.len]; omega)
        have h40j : (40 : Int) < nj := by omega
        go_wp2_with fail
        (refine bodyPost_ret (v := .tuple #[.slice none 0 0, .bool false]) (by simp [results, Try.results36, go_sem]) rfl ?_)
        exact ⟨none, 0, 0, by rw [HF.out], fun h => absurd h (by rw [HF.out]; decide), Bj⟩
end Go.Proofs.Ythgoffbfgdgkpaa

/- Rows of the call's own whose elements are no bytes: numbers of 32 bits, options. -/
namespace Go.Proofs.Ythgoffbfgdgkpaa
open Go.RowKit
set_option linter.unusedVariables false
set_option linter.unusedSimpArgs false
set_option maxHeartbeats 1000000

/-- A row of the call's own, from block base on, of elements of these cells. -/
structure OwnG (w : World) (base : Nat) (e : TypeId) (size : Nat) (A : Option Addr) (n c : Nat) (xs : List Value) : Prop where
  row : w.ownsRow base e size (.slice A n c) n xs
section
variable {w w' : World} {base : Nat} {e : TypeId} {size : Nat} {A : Option Addr} {n c : Nat} {xs : List Value}
theorem OwnG.len (h : OwnG w base e size A n c xs) : xs.length = n * size := h.row.1
theorem OwnG.kept {row : Option Nat} (h : OwnG w base e size A n c xs) (hg : w.grownBy w' row) (hne : (Value.slice A n c).ownBlock = none ∨ (Value.slice A n c).ownBlock ≠ row) : OwnG w' base e size A n c xs := ⟨h.row.kept hg hne⟩
theorem OwnG.alloc (h : OwnG w base e size A n c xs) (o : Obj) : OwnG (w.alloc o) base e size A n c xs := ⟨h.row.alloc o⟩
theorem ownG_nil (w : World) (base : Nat) (e : TypeId) (size : Nat) : OwnG w base e size none 0 0 [] := ⟨World.ownsRow_nil w base e size⟩
theorem OwnG.below (h : OwnG w base e size A n c xs) (hb : Below w.heap.size w w') : OwnG w' base e size A n c xs :=
  h.kept (row := none) ⟨hb.os, hb.tape, hb.output, hb.size, fun i hi _ => hb.block i hi⟩ (by cases (Value.slice A n c).ownBlock <;> simp)
theorem OwnG.mono {b' : Nat} (h : OwnG w base e size A n c xs) (hb : b' ≤ base) : OwnG w b' e size A n c xs := by
  obtain ⟨h1, h2⟩ := h.row
  refine ⟨h1, ?_⟩
  rcases h2 with h2 | ⟨g, cap, cur, hv, hg, r⟩
  · exact .inl h2
  · exact .inr ⟨g, cap, cur, hv, by omega, r⟩
theorem OwnG.base_le (h : OwnG w base e size A n c xs) : ∀ k, (Value.slice A n c).ownBlock = some k → base ≤ k := fun k hk => (h.row.lt k hk).1
end
theorem new1 (w : World) (x : Value) (t : TypeId) : ∀ (q : Nat) u, [x][q]? = some u → (w.alloc (.cells #[x] t)).cell? ((⟨w.heap.size, 0, none⟩ : Addr).add q) = some u := by
  intro q u h
  have h1 := (blk_new w #[x] t _ rfl).cell.1 q
  have h2 : (⟨w.heap.size, 0, none⟩ : Addr).add q = ⟨w.heap.size, q, none⟩ := by cases q <;> simp [Addr.add]
  rw [h2, h1]
  simpa using h
section
variable {P : Program} {ops : Array Oper} {rest : List Oper} {o : Oper} {a : Act} {Q : Exit → Act → World → Prop}
theorem wpList_appG {w0 : World} (w : World) (hgd : o.guard = none) (s x : Operand) (t : TypeId) (ho : o.op = .call { callee := .builtin .append, args := #[s, x], argTypes := #[t, t] })
    (base : Nat) (e : TypeId) (i : TypeInfo) (z : Value) (size bytes : Nat) (ht : P.underlying t = some (.slice e)) (hi : P.info? e = some i) (hz : i.zero = some z) (hsize : i.size = size) (hby : i.bytes = bytes) (hzs : z.cells.size = size) (hsz : 0 < size) (hbs : bytes ≤ 64)
    (A : Option Addr) (n c : Nat) (xs : List Value) (hs : a.eval s = .slice A n c) (hown : OwnG w base e size A n c xs) (ad : Addr) (m c2 : Nat) (news : List Value) (hx : a.eval x = .slice (some ad) m c2) (hl : news.length = m * size)
    (hnews : ∀ j u, news[j]? = some u → w.cell? (ad.add j) = some u) (h1 : ∀ u ∈ news, u.oneCell' = true)
    (HB : Below base w0 w) (hmax : n + m ≤ 3000000000000) (hbase : base ≤ w.heap.size)
    (h : ∀ A' c' w', OwnG w' base e size A' (n + m) c' (xs ++ news) → Below base w0 w' → w.grownBy w' (Value.slice A n c).ownBlock → base ≤ w'.heap.size → wpList P ops Q rest (a.put o.dst (.slice A' (n + m) c')) w') : wpList P ops Q (o :: rest) a w := by
  refine wpList_plain hgd fun K hK => ?_
  obtain ⟨v', w', hrun, hrow, hg, _⟩ := run_append_own_wide (P := P) w base t o.type e i z size bytes ht hi hz hsize hby hzs hsz (.slice A n c) n xs hown.row ad m c2 news hl hnews h1 (by simp only [maxLen]; omega) (by
      have : ((n + m) + (n + m) / 4 + 192) * bytes ≤ ((n + m) + (n + m) / 4 + 192) * 64 := Nat.mul_le_mul_left _ hbs
      omega) hbase
  have hv : ∃ A' c', v' = .slice A' (n + m) c' := by
    rcases hrow.2 with ⟨hv, h0⟩ | ⟨g, cap, cur, hv, _⟩
    · exact ⟨none, 0, by rw [hv, h0]⟩
    · exact ⟨_, cap, hv⟩
  obtain ⟨A', c', rfl⟩ := hv
  unfold Oper.wp execOp
  simp only [ho, resolve, invoke, builtin, Sem.run_bind, Sem.run_pure, Result.andThen_ok, List.map_toArray, List.map_cons, List.map_nil, hs, hx, hrun]
  exact hK _ _ (h A' c' w' ⟨hrow⟩ (HB.grown hg hbase hown.base_le) hg (Nat.le_trans hbase hg.size))
end
end Go.Proofs.Ythgoffbfgdgkpaa

/- A slice of options of the call's own, with data of the call's own. -/
namespace Go.Proofs.Ythgoffbfgdgkpaa
open Go.RowKit
set_option linter.unusedVariables false
set_option linter.unusedSimpArgs false
set_option maxHeartbeats 1000000

theorem OwnG.ne_own {w : World} {b1 b2 : Nat} {e1 e2 : TypeId} {s : Nat} {A B : Option Addr} {n c m d : Nat} {xs : List Value} {l : List UInt8} (h : OwnG w b1 e1 s A n c xs) (k : Own w b2 e2 B m d l) (hne : e1 ≠ e2) :
    (Value.slice B m d).ownBlock = none ∨ (Value.slice B m d).ownBlock ≠ (Value.slice A n c).ownBlock := by
  rcases h.row.2 with ⟨hv, _⟩ | ⟨g, cap, cur, hv, _, hg, _⟩
  · injection hv with h1 h2 h3
    subst h1
    cases B with
    | none => left; simp [Value.ownBlock]
    | some b => right; simp [Value.ownBlock]
  · injection hv with h1 h2 h3
    subst h1
    rcases k.row.2 with ⟨hv2, _⟩ | ⟨g2, cap2, cur2, hv2, _, hg2, _⟩
    · injection hv2 with h1 h2 h3
      subst h1
      left; simp [Value.ownBlock]
    · injection hv2 with h1 h2 h3
      subst h1
      right
      simp only [Value.ownBlock, ne_eq, Option.some.injEq]
      intro e
      subst e
      have := hg.symm.trans hg2
      simp only [Option.some.injEq, Obj.cells.injEq] at this
      exact hne this.2.1
structure OsO (w : World) (base : Nat) (A : Option Addr) (n c : Nat) (os : List Opt) : Prop where
  len : os.length = n
  own : ∃ xs, OwnG w base 97 2 A n c xs ∧ ∀ j, j < n → xs[j * 2]? = some (.int .u8 (os.getD j zO).kind) ∧ ∃ B m d, xs[j * 2 + 1]? = some (.slice B m d) ∧ Own w base 5 B m d (os.getD j zO).dat
theorem osO_nil (w : World) (base : Nat) : OsO w base none 0 0 [] := ⟨rfl, [], ownG_nil _ _ _ _, fun j hj => by omega⟩
theorem OsO.below {w w' : World} {base : Nat} {A : Option Addr} {n c : Nat} {os : List Opt} (h : OsO w base A n c os) (hb : Below w.heap.size w w') : OsO w' base A n c os := by
  obtain ⟨xs, hx, hj⟩ := h.own
  refine ⟨h.len, xs, hx.below hb, fun j hjn => ?_⟩
  obtain ⟨h1, B, m, d, h2, h3⟩ := hj j hjn
  exact ⟨h1, B, m, d, h2, h3.below hb⟩
theorem OsO.mono {w : World} {base b' : Nat} {A : Option Addr} {n c : Nat} {os : List Opt} (h : OsO w base A n c os) (hb : b' ≤ base) : OsO w b' A n c os := by
  obtain ⟨xs, hx, hj⟩ := h.own
  refine ⟨h.len, xs, hx.mono hb, fun j hjn => ?_⟩
  obtain ⟨h1, B, m, d, h2, h3⟩ := hj j hjn
  exact ⟨h1, B, m, d, h2, h3.mono hb⟩
/-- One more. -/
theorem OsO.snoc {w w' : World} {base : Nat} {A A' : Option Addr} {n c c' : Nat} {os : List Opt} {xs : List Value} (h : OsO w base A n c os) (hx : OwnG w base 97 2 A n c xs)
    (hj : ∀ j, j < n → xs[j * 2]? = some (.int .u8 (os.getD j zO).kind) ∧ ∃ B m d, xs[j * 2 + 1]? = some (.slice B m d) ∧ Own w base 5 B m d (os.getD j zO).dat)
    (hg : w.grownBy w' (Value.slice A n c).ownBlock) (o : Opt) {B : Option Addr} {m d : Nat} (hd : Own w base 5 B m d o.dat) (ho : OwnG w' base 97 2 A' (n + 1) c' (xs ++ [.int .u8 o.kind, .slice B m d])) :
    OsO w' base A' (n + 1) c' (os ++ [o]) := by
  have hT : 97 ≠ 5 := by decide
  have hl := hx.len
  have hos := h.len
  refine ⟨by simp [hos], _, ho, fun j hjn => ?_⟩
  by_cases hlt : j < n
  · obtain ⟨h1, B', m', d', h2, h3⟩ := hj j hlt
    have e : (os ++ [o]).getD j zO = os.getD j zO := by
      rw [List.getD_eq_getElem?_getD, List.getD_eq_getElem?_getD, List.getElem?_append_left (by omega)]
    rw [e, List.getElem?_append_left (by omega), List.getElem?_append_left (by omega)]
    exact ⟨h1, B', m', d', h2, h3.kept hg (hx.ne_own h3 hT)⟩
  · obtain rfl : j = n := by omega
    have e : (os ++ [o]).getD j zO = o := by
      rw [List.getD_eq_getElem?_getD, List.getElem?_append_right (by omega), hos, Nat.sub_self]; rfl
    rw [e, List.getElem?_append_right (by omega), List.getElem?_append_right (by omega), hl, Nat.sub_self, show j * 2 + 1 - j * 2 = 1 from by omega]
    exact ⟨rfl, B, m, d, rfl, hd.kept hg (hx.ne_own hd hT)⟩
/-- Read as any slice of options. -/
theorem OsO.os {w : World} {base : Nat} {A : Option Addr} {n c : Nat} {os : List Opt} (h : OsO w base A n c os) (hn : n ≤ 4398046511104) (hok : ∀ o ∈ os, o.Ok) : Os w A n c os := by
  obtain ⟨xs, hx, hj⟩ := h.own
  rcases hx.row.2 with ⟨hv, h0⟩ | ⟨g, cap, cur, hv, _, hg, hnc, hcm, hcs, htake⟩
  · injection hv with h1 h2 h3
    subst h1 h2 h3
    exact ⟨h.len, Nat.le_refl _, by omega, fun _ => rfl, hok, fun h => by omega⟩
  · injection hv with h1 h2 h3
    subst h1 h3
    refine ⟨h.len, hnc, hn, (fun h => by cases h), hok, fun _ => ⟨g, 0, rfl, fun j hjn => ?_⟩⟩
    have hc : ∀ q v, xs[q]? = some v → w.cell? ⟨g, q, none⟩ = some v := fun q v hq => by
      rw [cell_of_row w g q cur 97 (0, 0) hg]
      rw [← htake, List.getElem?_take] at hq
      split at hq
      · simpa using hq
      · cases hq
    obtain ⟨h1, B, m, d, h2, h3⟩ := hj j hjn
    rw [Nat.zero_add]
    exact ⟨hc _ _ h1, B, m, d, hc _ _ h2, h3.bs⟩
end Go.Proofs.Ythgoffbfgdgkpaa

namespace Go.Proofs.Ythgoffbfgdgkpaa
open Go.RowKit
set_option linter.unusedVariables false
set_option linter.unusedSimpArgs false
set_option maxHeartbeats 4000000
set_option maxRecDepth 100000
theorem str_toListS (l : List UInt8) : (str l).toList = l := by rw [ByteArray.toList_eq]; rfl
theorem str_beqS (l m : List UInt8) : ((str l).toList == (str m).toList) = (l == m) := by rw [str_toListS, str_toListS]
end Go.Proofs.Ythgoffbfgdgkpaa

/- Packets that are the same: contracts for laws. -/
namespace Go.Proofs.Ythgoffbfgdgkpaa
open Go.RowKit
set_option linter.unusedVariables false
set_option linter.unusedSimpArgs false
set_option maxHeartbeats 4000000
set_option maxRecDepth 100000

end Go.Proofs.Ythgoffbfgdgkpaa

/- Segments that are the same. -/
namespace Go.Proofs.Ythgoffbfgdgkpaa
open Go.RowKit
set_option linter.unusedVariables false
set_option linter.unusedSimpArgs false
set_option linter.unusedSimpArgs false
set_option maxHeartbeats 4000000
set_option maxRecDepth 100000

end Go.Proofs.Ythgoffbfgdgkpaa

/- Options that are the same, by the library's function and the program's own test. -/
namespace Go.Proofs.Ythgoffbfgdgkpaa
open Go.RowKit
set_option linter.unusedVariables false
set_option linter.unusedSimpArgs false
set_option maxHeartbeats 4000000
set_option maxRecDepth 100000

end Go.Proofs.Ythgoffbfgdgkpaa

/- Where the option stands that tells edges. -/
namespace Go.Proofs.Ythgoffbfgdgkpaa
open Go.RowKit
set_option linter.unusedVariables false
set_option linter.unusedSimpArgs false
set_option maxHeartbeats 4000000
set_option maxRecDepth 100000

def isSk (o : Opt) : Bool := o.kind == 5 && (decide (0 < o.dat.length) && (decide (o.dat.length ≤ 32) && o.dat.length % 8 == 0))
def skI (os : List Opt) : Int := match os.findIdx? isSk with
  | some j => j
  | none => -1
theorem skI_at {os : List Opt} {j : Nat} (h : j < os.length) (hs : isSk (os.getD j zO) = true) (hb : ∀ i, i < j → isSk (os.getD i zO) = false) : skI os = j := by
  have g : ∀ i (h : i < os.length), os.getD i zO = os[i] := fun i h => by simp [List.getD_eq_getElem?_getD, List.getElem?_eq_getElem h]
  have : os.findIdx? isSk = some j := by
    rw [List.findIdx?_eq_some_iff_getElem]
    refine ⟨h, by rw [← g j h]; exact hs, fun i hi => ?_⟩
    have := hb i hi
    rw [g i (by omega)] at this
    simp [this]
  unfold skI
  rw [this]
theorem skI_none {os : List Opt} (hb : ∀ i, i < os.length → isSk (os.getD i zO) = false) : skI os = -1 := by
  have : os.findIdx? isSk = none := by
    rw [List.findIdx?_eq_none_iff]
    intro x hx
    obtain ⟨i, hi, rfl⟩ := List.mem_iff_getElem.1 hx
    have := hb i hi
    simpa [List.getD_eq_getElem?_getD, List.getElem?_eq_getElem hi] using this
  unfold skI
  rw [this]
end Go.Proofs.Ythgoffbfgdgkpaa

/- The edges that a segment tells. -/
namespace Go.Proofs.Ythgoffbfgdgkpaa
open Go.RowKit
set_option linter.unusedVariables false
set_option linter.unusedSimpArgs false
set_option maxHeartbeats 4000000
set_option maxRecDepth 100000

def edg (l : List UInt8) (k : Nat) : List Int := (List.range k).map fun i => get32 l ((4 * i : Nat) : Int)
def sks (s : Seg) : List Int := if skI s.opts < 0 then [] else edg (s.opts.getD (skI s.opts).toNat zO).dat ((s.opts.getD (skI s.opts).toNat zO).dat.length / 4)
def u32L (l : List Int) : List Value := l.map (Value.int .u32)
theorem edg_succ (l : List UInt8) (k : Nat) : u32L (edg l (k + 1)) = u32L (edg l k) ++ [.int .u32 (get32 l ((4 * k : Nat) : Int))] := by
  unfold edg u32L
  rw [List.range_succ, List.map_append, List.map_append]
  rfl
theorem skI_cases (os : List Opt) : skI os = -1 ∨ ∃ j, j < os.length ∧ skI os = (j : Nat) ∧ isSk (os.getD j zO) = true := by
  unfold skI
  cases h : os.findIdx? isSk with
  | none => left; rfl
  | some j =>
    right
    obtain ⟨h1, h2, _⟩ := List.findIdx?_eq_some_iff_getElem.1 h
    exact ⟨j, h1, rfl, by simpa [List.getD_eq_getElem?_getD, List.getElem?_eq_getElem h1] using h2⟩
structure SkPost (w : World) (l : List Int) (e : Ending) (w' : World) : Prop where
  out : ∃ A n c, e = .returned (.slice A n c) ∧ OwnG w' w.heap.size 23 1 A n c (u32L l) ∧ Below w.heap.size w w'
theorem info_u32 : (Try.prog.info? 23).map (fun i => (i.zero, i.size, i.bytes)) = some (some (.int .u32 0), 1, 4) := by kernel_rfl
end Go.Proofs.Ythgoffbfgdgkpaa

/- The document's reader of options. -/
namespace Go.Proofs.Ythgoffbfgdgkpaa
open Go.RowKit
set_option linter.unusedVariables false
set_option linter.unusedSimpArgs false
set_option maxHeartbeats 4000000
set_option maxRecDepth 100000

def isSm {α : Type} : Option α → Bool
  | some _ => true
  | none => false
/-- The options that bytes hold, as a reader gives them. -/
structure OpPost (w : World) (l : List UInt8) (e : Ending) (w' : World) : Prop where
  out : ∃ A n c, e = .returned (.tuple #[.slice A n c, .bool (isSm (optsP l))]) ∧ (∀ os, optsP l = some os → OsO w' w.heap.size A n c os ∧ n ≤ l.length) ∧ Below w.heap.size w w'
/-- What is known between two rounds. -/
def optsAt (l : List UInt8) (t : Nat) (os : List Opt) : Prop := optsP l = (optsP (l.drop t)).map (os ++ ·)
theorem optsAt_0 (l : List UInt8) : optsAt l 0 [] := by
  unfold optsAt
  rw [List.drop_zero]
  cases optsP l <;> simp
theorem optsAt_none {l : List UInt8} {t : Nat} {os : List Opt} (h : optsAt l t os) (hn : nx (l.drop t) = none) : optsP l = none := by rw [h, optsP_none hn]; rfl
theorem optsAt_end {l : List UInt8} {t : Nat} {os : List Opt} (h : optsAt l t os) (hn : nx (l.drop t) = some none) : optsP l = some os := by rw [h, optsP_end hn]; simp
theorem optsAt_some {l : List UInt8} {t : Nat} {os : List Opt} {o : Opt} {n : Nat} (h : optsAt l t os) (hn : nx (l.drop t) = some (some (o, n))) : optsAt l (t + n) (os ++ [o]) := by
  unfold optsAt at *
  rw [h, optsP_some hn, List.drop_drop]
  cases optsP (l.drop (t + n)) <;> simp
/-- The ways at a place. -/
theorem nx_ways (l : List UInt8) (t : Nat) (ht : t < l.length) :
    ((bt l t == 0) = true ∧ nx (l.drop t) = if allZ (l.drop t) then some none else none) ∨
    ((bt l t == 0) = false ∧ (bt l t == 1) = true ∧ nx (l.drop t) = some (some (⟨1, []⟩, 1))) ∨
    ((bt l t == 0) = false ∧ (bt l t == 1) = false ∧ ((l.length : Int) ≤ (t : Int) + 1 ∨ ((t : Int) + 1 < l.length ∧ (bt l (t + 1) < 2 ∨ (2 ≤ bt l (t + 1) ∧ (l.length : Int) < t + bt l (t + 1))))) ∧ nx (l.drop t) = none) ∨
    ((bt l t == 0) = false ∧ (bt l t == 1) = false ∧ (t : Int) + 1 < l.length ∧ 2 ≤ bt l (t + 1) ∧ (t : Int) + bt l (t + 1) ≤ l.length ∧ nx (l.drop t) = some (some (⟨bt l t, ((l.drop t).take (bt l (t + 1)).toNat).drop 2⟩, (bt l (t + 1)).toNat))) := by
  have h0 : bt (l.drop t) 0 = bt l t := by simp [bt]
  have h1 : bt (l.drop t) 1 = bt l (t + 1) := by simp [bt]
  have hl : (l.drop t).length = l.length - t := List.length_drop
  unfold nx
  rw [h0, h1, hl, if_neg (by omega)]
  by_cases c0 : bt l t = 0
  · left; simp [c0]
  · by_cases c1 : bt l t = 1
    · right; left; simp [c1]
    · right; right
      by_cases c2 : l.length - t < 2 ∨ bt l (t + 1) < 2 ∨ ((l.length - t : Nat) : Int) < bt l (t + 1)
      · left
        refine ⟨by simpa using c0, by simpa using c1, by omega, ?_⟩
        rw [if_neg c0, if_neg c1, if_pos c2]
      · right
        refine ⟨by simpa using c0, by simpa using c1, by omega, by omega, by omega, ?_⟩
        rw [if_neg c0, if_neg c1, if_neg c2]
end Go.Proofs.Ythgoffbfgdgkpaa

/- A loop over an iterator that keeps its state in a captured variable: the statement's law, the iterator met at the caller's own invariant. -/
namespace Go.Proofs.Ythgoffbfgdgkpaa
open Go.RowKit Go.Shelf
set_option linter.unusedVariables false

/-- The loop's record and the block for its rounds' deferred calls, as they lie between two rounds (j: the jump that a round has left). -/
structure Loops (D : Nat) (r : Loop) (j : Option Code) (W : World) : Prop where
  loop : W.heap[D + 1]? = some (.loop { r with state := if j.isNone then .ready else .done, pending := j })
  defers : W.heap[D]? = some (.deferred (some []))
theorem Loops.keep {D : Nat} {r : Loop} {j : Option Code} {W W' : World} (h : Loops D r j W) (hk : KeepsFrom D W W') : Loops D r j W' :=
  ⟨hk.same _ _ (by omega) h.loop rfl, hk.same _ _ (Nat.le_refl _) h.defers rfl⟩

theorem keeps_setCell {B : Nat} (W : World) (p : Addr) (u : Value) : KeepsFrom B W (W.setCell p u) := (KeepsOthers.setCell W p u).from B
theorem keeps_alloc {B : Nat} (W : World) (o : Obj) : KeepsFrom B W (W.alloc o) := (KeepsOthers.alloc W o).from B
theorem keeps_below {B : Nat} {W W' : World} (h : Below W.heap.size W W') : KeepsFrom B W W' :=
  ⟨h.size, fun k o _ hk _ => (h.block k (Array.getElem?_eq_some_iff.1 hk).1).trans hk⟩

theorem below_putObj {B : Nat} {a W : World} (h : Below B a W) {l : Nat} (hl : B ≤ l) (o : Obj) : Below B a (W.putObj l o) :=
  h.trans ⟨rfl, rfl, rfl, by simp, fun k hk => World.putObj_heap_other (by omega)⟩
theorem cell_putObj {W : World} {l : Nat} {p : Addr} (h : p.block ≠ l) (o : Obj) : (W.putObj l o).cell? p = W.cell? p := World.cell?_of_block (World.putObj_heap_other h)
theorem frozen_putObj {W : World} {l : Nat} {p : Addr} (h : p.block ≠ l) (o : Obj) : (W.putObj l o).frozen? p = W.frozen? p := World.frozen?_of_block (World.putObj_heap_other h)

/-- How a round may be left. -/
def roundEnd {β : Type} (D : Nat) (I : β → World → Prop) (Ix : Code → β → World → Prop) (s : β) (W : World) : Exit → Act → World → Prop
  | .normal, _, W' => KeepsFrom D W W' ∧ I s W'
  | .ret, _, W' => KeepsFrom D W W' ∧ Ix .ret s W'
  | .exit id, _, W' => KeepsFrom D W W' ∧ Ix (.exit id) s W'
  | .goto t, _, W' => KeepsFrom D W W' ∧ Ix (.goto t) s W'
  | .panic _, _, _ => False
  | .outgrown, _, _ => False

/-- What the iterator's call is asked: R: the loop's record lies ready; Rx: it bears a jump. -/
def iterEnd {β : Type} (S : β → Prop) (I : β → World → Prop) (Ix : Code → β → World → Prop) (R : World → Prop) (Rx : Code → World → Prop) (e : Ending) (W' : World) : Prop :=
  (∃ v, e = .returned v) ∧ ((∃ s, S s ∧ I s W' ∧ R W') ∨ ∃ c s, Ix c s W' ∧ Rx c W')
def roundSaid {β : Type} (next : β) (I : β → World → Prop) (Ix : Code → β → World → Prop) (R : World → Prop) (Rx : Code → World → Prop) (e : Ending) (W' : World) : Prop :=
  (e = .returned (.bool true) ∧ I next W' ∧ R W') ∨ (e = .returned (.bool false) ∧ ∃ c, Ix c next W' ∧ Rx c W')

theorem range_law {α β : Type} {F : Fence} {n : Nat} {P : Program} {g : Operand} {ps : Array Tmp} {assign body : Code} {Q : Exit → Act → World → Prop} {a : Act} {w : World}
    (hro : F.round = none) (h1 : 1 ≤ n) {gf : Nat} {lb : Array Value} (hg : a.eval g = .func (.func gf) #[] lb) (hFg : F.fn gf) (eg : ∀ args w, (callFunc gf args).run P w = .ok (.enter gf args) w)
    (encs : α → Array Value) (hps : ∀ x, (encs x).size = ps.size) (step : β → α → β) (s0 : β) (S : β → Prop)
    (I : β → World → Prop) (Ix : Code → β → World → Prop)
    (hI : ∀ s W o, I s W → I s (W.putObj (w.heap.size + 1) o)) (hIx : ∀ c s W o, Ix c s W → Ix c s (W.putObj (w.heap.size + 1) o))
    (h0 : ∀ o o', I s0 ((w.alloc o).alloc o')) (a₁ : α → Act)
    (hassign : ∀ (x : α) (W : World) (K : Act → World → Prop), K (a₁ x) W →
      assign.wpIn (F.inRound (w.heap.size + 1)) (n - 1 - 1) P (Exit.then K (fun _ _ _ => False)) { tmps := (ps.zip (encs x)).foldl (fun t (p, v) => t.setIfInBounds p v) a.tmps, defers := [] } W)
    (ok : β → α → Prop)
    (hbody : ∀ (s : β) (x : α) (W : World), ok s x → I s W → w.heap.size + 2 ≤ W.heap.size → body.wpIn (F.inRound (w.heap.size + 1)) (n - 1 - 1) P (roundEnd w.heap.size I Ix (step s x) W) (a₁ x) W)
    (hiter : ∀ (R : World → Prop) (Rx : Code → World → Prop) (W1 : World), (∀ W W', R W → KeepsFrom w.heap.size W W' → R W') → (∀ W, R W → w.heap.size + 2 ≤ W.heap.size) →
      (∀ s x W, ok s x → I s W → R W → YieldAt F (n - 1 - 1) P (w.heap.size + 1) (encs x) W (roundSaid (step s x) I Ix R Rx)) →
      I s0 W1 → R W1 → w.heap.size + 2 = W1.heap.size → CallsIn F (n - 1) P gf (#[.func (.yield (w.heap.size + 1)) #[] #[]] ++ lb) W1 (iterEnd S I Ix R Rx))
    (hdone : ∀ (s : β) (W : World), S s → I s W → W.heap[w.heap.size]? = some (.deferred (some [])) → Q .normal { a with defers := { target := .collected w.heap.size, args := #[] } :: a.defers } W)
    (hstop : ∀ (c : Code) (s : β) (W : World), Ix c s W → W.heap[w.heap.size]? = some (.deferred (some [])) → c.wpIn F n P Q { a with defers := { target := .collected w.heap.size, args := #[] } :: a.defers } W) :
    (Code.rangeFunc g ps assign body).wpIn F n P Q a w := by
  refine wpIn_rangeFunc fun fn hfn => ?_
  rw [hro]
  obtain ⟨D, hD⟩ : ∃ D, w.heap.size = D := ⟨_, rfl⟩
  obtain ⟨r, hr⟩ : ∃ r : Loop, ({ state := .ready, pending := none, fn, tmps := a.tmps, params := ps, assign, body, defers := D } : Loop) = r := ⟨_, rfl⟩
  have hrun := run_enterLoop_outer (P := P) (w := w) fn a.tmps ps assign body
  rw [hD] at hrun hI hIx hbody hiter hdone hstop hassign
  rw [hr] at hrun
  have hready : ({ r with state := if (none : Option Code).isNone then .ready else .done, pending := none } : Loop) = r := by rw [← hr]; rfl
  obtain ⟨W1, hW1⟩ : ∃ W1, (w.alloc (.deferred (some []))).alloc (.loop r) = W1 := ⟨_, rfl⟩
  have hsz : D + 2 = W1.heap.size := by rw [← hW1, ← hD]; simp
  have hL1 : Loops D r none W1 := by
    refine ⟨?_, ?_⟩
    · rw [hready, ← hW1]
      have := World.alloc_heap_new (w.alloc (.deferred (some []))) (.loop r)
      rwa [World.size_alloc, hD] at this
    · rw [← hW1, ← hD]
      exact (Below.heap_alloc _ _ _ (by simp)).trans (World.alloc_heap_new w _)
  rw [hW1] at hrun
  refine ⟨D + 1, _, W1, { target := .fn (.func gf) lb, args := #[.func (.yield (D + 1)) #[] #[]] }, W1, gf, #[.func (.yield (D + 1)) #[] #[]] ++ lb, W1, hrun, ?_, ?_, ?_, fun _ => h1, ?_⟩
  · simp only [resolve, hg]
    simp [go_sem]
  · intro f' hf'
    simp [Target.leads] at hf'
    subst hf'
    exact hFg
  · simp [invoke, go_sem, eg]
  refine (hiter (Loops D r none) (fun c W => Loops D r (some c) W) W1 (fun W W' h hk => h.keep hk) (fun W h => (Array.getElem?_eq_some_iff.1 h.loop).1) ?_ (by rw [← hW1]; exact h0 _ _) hL1 hsz).mono ?_
  · intro s x W hok hi hl
    have hl0 := hl.loop
    rw [hready] at hl0
    have hlt : D + 1 < W.heap.size := (Array.getElem?_eq_some_iff.1 hl0).1
    have hpar : r.params = ps := by rw [← hr]
    have hy := run_yield (P := P) (args := encs x) hl0 (by rw [hpar]; exact hps x)
    obtain ⟨W2, hW2⟩ : ∃ W2, W.putObj (D + 1) (.loop { r with state := .busy }) = W2 := ⟨_, rfl⟩
    have hb2 : W2.heap[D + 1]? = some (.loop { r with state := .busy }) := by rw [← hW2]; exact World.putObj_heap_same hlt
    have hd2 : W2.heap[D]? = some (.deferred (some [])) := by rw [← hW2]; exact (World.putObj_heap_other (by omega)).trans hl.defers
    have hs2 : D + 2 ≤ W2.heap.size := (Array.getElem?_eq_some_iff.1 hb2).1
    have hi2 : I s W2 := by rw [← hW2]; exact hI _ _ _ hi
    have hend : ∀ (j : Option Code) (W3 : World), KeepsFrom D W2 W3 → (Instr.endRound (D + 1) j).run P W3 = .ok (.bool j.isNone) (W3.putObj (D + 1) (.loop { r with state := if j.isNone then .ready else .done, pending := j })) ∧ Loops D r j (W3.putObj (D + 1) (.loop { r with state := if j.isNone then .ready else .done, pending := j })) := by
      intro j W3 hk
      have hb3 := hk.same _ _ (by omega) hb2 rfl
      have hd3 := hk.same _ _ (Nat.le_refl _) hd2 rfl
      have he := run_endRound (P := P) j hb3
      exact ⟨he, World.putObj_heap_same (Array.getElem?_eq_some_iff.1 hb3).1, (World.putObj_heap_other (by omega)).trans hd3⟩
    refine ⟨r.fn, _, r.assign, r.body, hy, ?_⟩
    have e1 : r.fn = fn := by rw [← hr]
    have e2 : r.assign = assign := by rw [← hr]
    have e3 : r.body = body := by rw [← hr]
    have e4 : r.tmps = a.tmps := by rw [← hr]
    rw [e1, e2, e3, hpar, e4]
    refine roundIn_of_wpIn hfn (hassign x W _ ⟨W2, ?_, ?_⟩)
    · rw [← hW2]
      exact run_beginRound hl0 (by rw [← hr])
    refine wpIn_mono (hbody s x W2 hok hi2 hs2) ?_
    intro e a3 W3 hp
    cases e with
    | normal =>
      obtain ⟨hk, hi3⟩ := hp
      obtain ⟨hr3, hl3⟩ := hend none W3 hk
      exact ⟨_, _, hr3, .inl ⟨rfl, hI _ _ _ hi3, hl3⟩⟩
    | ret =>
      obtain ⟨hk, hi3⟩ := hp
      obtain ⟨hr3, hl3⟩ := hend (some .ret) W3 hk
      exact ⟨_, _, hr3, .inr ⟨rfl, .ret, hIx _ _ _ _ hi3, hl3⟩⟩
    | exit id =>
      obtain ⟨hk, hi3⟩ := hp
      obtain ⟨hr3, hl3⟩ := hend (some (.exit id)) W3 hk
      exact ⟨_, _, hr3, .inr ⟨rfl, .exit id, hIx _ _ _ _ hi3, hl3⟩⟩
    | goto t =>
      obtain ⟨hk, hi3⟩ := hp
      obtain ⟨hr3, hl3⟩ := hend (some (.goto t)) W3 hk
      exact ⟨_, _, hr3, .inr ⟨rfl, .goto t, hIx _ _ _ _ hi3, hl3⟩⟩
    | panic ch => exact hp.elim
    | outgrown => exact hp.elim
  · rintro e W2 ⟨⟨v, rfl⟩, ⟨s, hS, hi, hl⟩ | ⟨c, s, hi, hl⟩⟩
    · have h2 := run_endLoop (P := P) hl.loop (by simp)
      exact ⟨none, _, h2, hdone s _ hS (hI _ _ _ hi) ((World.putObj_heap_other (by omega)).trans hl.defers)⟩
    · have h2 := run_endLoop (P := P) hl.loop (by simp)
      exact ⟨some c, _, h2, hstop c s _ (hIx _ _ _ _ hi) ((World.putObj_heap_other (by omega)).trans hl.defers)⟩
end Go.Proofs.Ythgoffbfgdgkpaa

namespace Go.Proofs.Ythgoffbfgdgkpaa
open Go.RowKit Go.Shelf
attribute [local go_sem] Oper.semAt_some
set_option linter.unusedVariables false
set_option maxRecDepth 100000

/-- How many bytes are left in the iterator's variable. -/
def leftIn (B : Nat) (W : World) : Nat := match W.cell? ⟨B, 0, none⟩ with
  | some (.slice _ n _) => n
  | _ => 0
theorem leftIn_eq {B : Nat} {W : World} {A : Option Addr} {n c : Nat} (h : W.cell? ⟨B, 0, none⟩ = some (.slice A n c)) : leftIn B W = n := by simp [leftIn, h]

/-- Between two rounds: k words have come, the iterator's variable holds v. -/
def SumI (w : World) (B : Nat) (C : Nat → World → Prop) (s : Nat × Value) (W : World) : Prop :=
  C s.1 W ∧ W.cell? ⟨B, 0, none⟩ = some s.2 ∧ W.frozen? ⟨B, 0, none⟩ = false ∧ Below w.heap.size w W
def SumOk (w : World) (l : List UInt8) (n : Nat) (s : Nat × Value) (x : Int) : Prop :=
  x = wd l s.1 ∧ 2 * s.1 < n

theorem bt_drop (l : List UInt8) (k i : Nat) : bt (l.drop k) i = bt l (k + i) := by
  unfold bt
  simp [List.getD_eq_getElem?_getD, List.getElem?_drop]

set_option maxHeartbeats 1000000 in
theorem words1_in (D B : Nat) (w : World) (l : List UInt8) (n : Nat) (hl : l.length = n) (hB : w.heap.size ≤ B) (hBD : B < D) (hn : n ≤ 200000000000000) (C : Nat → World → Prop) (R : World → Prop) (Rx : Code → World → Prop)
    (hC : ∀ k W u, C k W → C k (W.setCell ⟨B, 0, none⟩ u)) (hR : ∀ W W', R W → KeepsFrom D W W' → R W')
    (hY : ∀ s x W, SumOk w l n s x → SumI w B C s W → R W → YieldAt Fence.wide 1 Try.prog (D + 1) #[.int .u32 x] W (roundSaid (s.1 + 1, s.2) (SumI w B C) (fun _ _ _ => False) R Rx)) (W1 : World) (A0 : Option Addr) (c0 : Nat)
    (hb0 : Bs w A0 n c0 l) (h0 : SumI w B C (0, .slice A0 n c0) W1) (hR0 : R W1) :
    CallsIn Fence.wide 2 Try.prog 98 (#[.func (.yield (D + 1)) #[] #[]] ++ #[.pointer (some ⟨B, 0, none⟩)]) W1 (iterEnd (fun s => n ≤ 2 * s.1 ∧ 2 * s.1 ≤ n + 1) (SumI w B C) (fun _ _ _ => False) R Rx) := by
  obtain ⟨i8, hi8, _, hs8, _⟩ := info_parts info_u8
  refine callsIn_of_wp Try.func98 rfl trivial ?_ rfl
  simp only [Try.ntmps98, List.size_toArray, List.length_cons, List.length_nil, Nat.reduceAdd, Nat.reduceSub, Array.replicate_succ, Array.replicate_zero, List.push_toArray, List.append_toArray, List.nil_append, List.cons_append]
  gi_wp2
  gi_loopw [3] (fun _ wr => ∃ k A m c, m + 2 * k = max n (2 * k) ∧ 2 * k ≤ n + 1 ∧ Bs w A m c (l.drop (2 * k)) ∧ SumI w B C (k, .slice A m c) wr ∧ R wr) (fun _ wr => leftIn B wr)
  case atStart => exact ⟨0, A0, n, c0, by omega, by omega, by simpa using hb0, h0, hR0⟩
  case round =>
    obtain ⟨k, A, m, c, hm, hk, hb, hi, hr⟩ := hrel
    have hi' := hi
    obtain ⟨hc, hcell, hfz, hbel⟩ := hi
    have hlf := leftIn_eq hcell
    dsimp only at hcell hc
    by_cases h2 : 2 * k < n
    · have hm0 : 0 < m := by omega
      have hbr := hb.below hbel
      obtain ⟨b, off, rfl, hcs⟩ := hbr.rd hm0
      have g0 := hcs 0 hm0
      rw [bt_drop, Nat.add_zero, Nat.add_zero] at g0
      have b0 := bt_lo l (2 * k)
      have b0' := bt_hi l (2 * k)
      have b1 := bt_lo l (2 * k + 1)
      have b1' := bt_hi l (2 * k + 1)
      have hcap := hb.cap
      by_cases h3 : 1 < m
      · have g1 := hcs 1 h3
        rw [bt_drop] at g1
        have hor := or_u32b b0 b0' b1 b1'
        obtain ⟨fn, tmps, assign, body, hy, hR2⟩ := hY (k, _) (bt l (2 * k) * 256 + bt l (2 * k + 1)) wr ⟨rfl, h2⟩ hi' hr
        have hcut : ∀ W, (Instr.slice 24 (.slice (some ⟨b, off, none⟩) m c) (some (.int .i64 2)) none none).run Try.prog W = _ := fun W => cut_l Try.underlying24 hi8 hs8 (some ⟨b, off, none⟩) m c .i64 2 (by omega) (by omega) W
        obtain ⟨A', n', c', eA, en, ec, hb2⟩ := hb.cutE (lo := 2) (hi := m) (by omega) (Nat.le_refl _)
        simp only [show (2 : Int).toNat = 2 from rfl, eA, en, ec] at hcut
        have hb3 : Bs w A' n' c' (l.drop (2 * (k + 1))) := by
          rw [List.take_of_length_le (by rw [hb.len]; exact Nat.le_refl _), List.drop_drop] at hb2
          exact hb2
        have en1 : n' + 2 = m := by omega
        have en2 : m ≤ n' + 2 := by omega
        have en3 : n' + 2 ≤ m := by omega
        clear eA en ec hb2 hcs en1 hm
        have HM : Hid (m + 2 * k = n) := by unfold Hid; have := hb.len; simp at this; omega
        clear hlf
        gi_wp2
        refine hR2.mono ?_
        rintro e W2 (⟨rfl, ⟨hc2, hcell2, hfz2, hbel2⟩, hr2⟩ | ⟨_, _, hx, _⟩)
        · dsimp only at hcell2 hc2
          gi_wp2
          go_roundw
          case rel => exact ⟨k + 1, A', n', c', by have := HM.out; omega, by omega, hb3, ⟨hC _ _ _ hc2, by rw [World.cell?_setCell_same' _ _ _ (by rw [hcell2]; rfl)], by rw [World.frozen?_setCell]; exact hfz2, hbel2.setCell (p := ⟨B, 0, none⟩) hB _⟩, hR _ _ hr2 (keeps_setCell _ _ _)⟩
          case measure => rw [leftIn_eq (World.cell?_setCell_same' W2 _ _ (by rw [hcell2]; rfl)), leftIn_eq hcell]; omega
        · exact hx.elim
      · have hm1 : m ≤ 1 := by omega
        have hwd : wd l k = bt l (2 * k) * 256 := wd_odd (by have := hb.len; simp at this; omega)
        obtain ⟨fn, tmps, assign, body, hy, hR2⟩ := hY (k, _) (bt l (2 * k) * 256) wr ⟨hwd.symm, h2⟩ hi' hr
        obtain rfl : m = 1 := by omega
        have hcut : ∀ W, (Instr.slice 24 (.slice (some ⟨b, off, none⟩) 1 c) (some (.int .i64 1)) none none).run Try.prog W = _ := fun W => cut_l Try.underlying24 hi8 hs8 (some ⟨b, off, none⟩) 1 c .i64 1 (by omega) (by omega) W
        obtain ⟨A', n', c', eA, en, ec, hb2⟩ := hb.cutE (lo := 1) (hi := 1) (by omega) (Nat.le_refl _)
        simp only [show (1 : Int).toNat = 1 from rfl, eA, en, ec] at hcut
        have hb3 : Bs w A' n' c' (l.drop (2 * (k + 1))) := by
          have e : (List.take 1 (l.drop (2 * k))).drop 1 = l.drop (2 * (k + 1)) := by
            have h4 := hb.len
            simp only [List.length_drop] at h4
            rw [List.drop_eq_nil_of_le (by simp; omega), List.drop_eq_nil_of_le (by omega)]
          rw [e] at hb2
          exact hb2
        have en1 : n' ≤ 0 := by omega
        have HM : Hid (1 + 2 * k = n) := by unfold Hid; have := hb.len; simp at this; omega
        clear eA en ec hb2 hcs hm hlf hwd
        gi_wp2
        refine hR2.mono ?_
        rintro e W2 (⟨rfl, ⟨hc2, hcell2, hfz2, hbel2⟩, hr2⟩ | ⟨_, _, hx, _⟩)
        · dsimp only at hcell2 hc2
          gi_wp2
          go_roundw
          case rel => exact ⟨k + 1, A', n', c', by have := HM.out; omega, by have := HM.out; omega, hb3, ⟨hC _ _ _ hc2, by rw [World.cell?_setCell_same' _ _ _ (by rw [hcell2]; rfl)], by rw [World.frozen?_setCell]; exact hfz2, hbel2.setCell (p := ⟨B, 0, none⟩) hB _⟩, hR _ _ hr2 (keeps_setCell _ _ _)⟩
          case measure => rw [leftIn_eq (World.cell?_setCell_same' W2 _ _ (by rw [hcell2]; rfl)), leftIn_eq hcell]; omega
        · exact hx.elim
    · have hm0 : m ≤ 0 := by omega
      have hm1 : ¬ (0 : Int) < m := by omega
      clear hlf hm
      gi_wp2
      go_end0
      exact ⟨⟨_, rfl⟩, .inl ⟨(k, _), ⟨by omega, hk⟩, hi', hr⟩⟩

set_option maxHeartbeats 1000000 in
theorem words_any (A : Option Addr) (n c : Nat) (w : World) :
    Calls Try.prog 87 #[.slice A n c] w fun e w' => e = .returned (.func (.func 98) #[] #[.pointer (some ⟨w.heap.size, 0, none⟩)]) ∧ w' = w.alloc (.cells #[.slice A n c] 24) := by
  have hmf : ∀ (fn : Fn) (first cap : Array Value) (w : World), (Instr.makeFunc fn first cap).run Try.prog w = .ok (.func fn first cap) w := fun _ _ _ _ => rfl
  go_enter Try.func87, Try.ntmps87
  go_wp2
  go_ret
  exact ⟨rfl, rfl⟩

set_option maxHeartbeats 1000000 in
theorem sum_any (A : Option Addr) (n c : Nat) (l : List UInt8) (w : World) (hb : Bs w A n c l) :
    Calls Try.prog 75 #[.slice A n c] w fun e w' => e = .returned (.int .u16 (csum l)) ∧ Below w.heap.size w w' := by
  refine (callsIn_wide (n := 3)).1 ?_
  refine callsIn_of_wp_marks Try.func75 rfl trivial ?_ rfl
  simp only [Try.ntmps75, List.size_toArray, List.length_cons, List.length_nil, Nat.reduceAdd, Nat.reduceSub, Array.replicate_succ, Array.replicate_zero, List.push_toArray, List.append_toArray, List.nil_append, List.cons_append]
  gi_wp2_with (refine ⟨trivial, ?_⟩; gi_at_call 87; refine (callsIn_wide.2 (words_any A n c _)).mono ?_; rintro e w' ⟨rfl, rfl⟩)
  obtain ⟨W0, hW0⟩ : ∃ W0, ((w.alloc (Obj.cells #[Value.int IntKind.u64 0] 77)).alloc (Obj.cells #[Value.slice A n c] 24)) = W0 := ⟨_, rfl⟩
  have hsz : W0.heap.size = w.heap.size + 2 := by rw [← hW0]; simp
  have hbel : Below w.heap.size w W0 := by rw [← hW0]; exact ((Below.refl _ w).alloc (Nat.le_refl _) _).alloc (by simp) _
  have hn1 : W0.cell? ⟨w.heap.size, 0, none⟩ = some (.int .u64 0) := by rw [← hW0]; simp [go_sem]
  have hn2 : W0.frozen? ⟨w.heap.size, 0, none⟩ = false := by rw [← hW0]; simp [go_sem]
  have hn3 : W0.cell? ⟨w.heap.size + 1, 0, none⟩ = some (.slice A n c) := by rw [← hW0]; simp [go_sem]
  have hn4 : W0.frozen? ⟨w.heap.size + 1, 0, none⟩ = false := by rw [← hW0]; simp [go_sem]
  rw [hW0]
  clear hW0
  have hmax := hb.max
  have hlen := Lib.hid hb.len
  have hC : ∀ (k : Nat) (W : World) (u : Value), (W.cell? ⟨w.heap.size, 0, none⟩ = some (.int .u64 (wsK l k)) ∧ W.frozen? ⟨w.heap.size, 0, none⟩ = false) → ((W.setCell ⟨w.heap.size + 1, 0, none⟩ u).cell? ⟨w.heap.size, 0, none⟩ = some (.int .u64 (wsK l k)) ∧ (W.setCell ⟨w.heap.size + 1, 0, none⟩ u).frozen? ⟨w.heap.size, 0, none⟩ = false) := by
    rintro k W u ⟨h1, h2⟩
    exact ⟨by rw [World.cell?_setCell_other _ _ _ _ (by simp)]; exact h1, by rw [World.frozen?_setCell]; exact h2⟩
  refine range_law rfl (by omega) (gf := 98) (lb := #[.pointer (some ⟨w.heap.size + 1, 0, none⟩)]) rfl trivial (enters_of Try.func98 (by kernel_rfl) rfl)
    (fun x : Int => #[.int .u32 x]) (fun _ => rfl) (fun s _ => (s.1 + 1, s.2)) (0, .slice A n c) (fun s => n ≤ 2 * s.1 ∧ 2 * s.1 ≤ n + 1)
    (SumI w (w.heap.size + 1) fun k W => W.cell? ⟨w.heap.size, 0, none⟩ = some (.int .u64 (wsK l k)) ∧ W.frozen? ⟨w.heap.size, 0, none⟩ = false) (fun _ _ _ => False)
    ?hI (fun _ _ _ _ h => h) ?h0
    (fun x => { tmps := #[.slice A n c, undef, .int .u16 0, .pointer (some ⟨w.heap.size, 0, none⟩), .int .u32 x, .slice A n c, .func (.func 98) #[] #[.pointer (some ⟨w.heap.size + 1, 0, none⟩)], .int .u32 x, undef, undef, undef, undef, undef, undef, undef], defers := [] })
    ?assign (SumOk w l n) ?body ?iter ?done (fun _ _ _ h => h.elim)
  case hI =>
    rintro s W o ⟨⟨h1, h2⟩, h3, h4, h5⟩
    rw [hsz]
    exact ⟨⟨by rw [cell_putObj (by show w.heap.size ≠ _; omega)]; exact h1, by rw [frozen_putObj (by show w.heap.size ≠ _; omega)]; exact h2⟩, by rw [cell_putObj (by show w.heap.size + 1 ≠ _; omega)]; exact h3, by rw [frozen_putObj (by show w.heap.size + 1 ≠ _; omega)]; exact h4, below_putObj h5 (by omega) _⟩
  case h0 =>
    intro o o'
    have hb' : Below W0.heap.size W0 ((W0.alloc o).alloc o') := ((Below.refl _ W0).alloc (Nat.le_refl _) _).alloc (by simp) _
    exact ⟨⟨(hb'.cell (p := ⟨w.heap.size, 0, none⟩) (by show w.heap.size < _; omega)).trans hn1, (hb'.frozen (p := ⟨w.heap.size, 0, none⟩) (by show w.heap.size < _; omega)).trans hn2⟩,
      (hb'.cell (p := ⟨w.heap.size + 1, 0, none⟩) (by show w.heap.size + 1 < _; omega)).trans hn3, (hb'.frozen (p := ⟨w.heap.size + 1, 0, none⟩) (by show w.heap.size + 1 < _; omega)).trans hn4, hbel.trans (hb'.mono (by omega))⟩
  case assign =>
    intro x W K hK
    gi_wp2
    exact hK
  case body =>
    rintro s x W ⟨rfl, hk⟩ ⟨⟨h1, h2⟩, h3, h4, h5⟩ hz
    have y0 := wd_lo l s.1
    have y1 := wd_hi l s.1
    have x0 := wsK_lo l s.1
    have x1 := wsK_hi l s.1
    gi_wp2
    exact ⟨keeps_setCell _ _ _, ⟨World.cell?_setCell_same' _ _ _ (by rw [h1]; rfl), by rw [World.frozen?_setCell]; exact h2⟩, by rw [World.cell?_setCell_other _ _ _ _ (by simp)]; exact h3, by rw [World.frozen?_setCell]; exact h4, h5.setCell (p := ⟨w.heap.size, 0, none⟩) (Nat.le_refl _) _⟩
  case iter =>
    intro R Rx W1 hRk hRs hY h0 hR0 hz
    exact words1_in W0.heap.size (w.heap.size + 1) w l n hlen.out (by omega) (by omega) hmax _ R Rx hC hRk (fun s x W => hY s x W) W1 A c hb h0 hR0
  case done =>
    rintro s W ⟨hs1, hs2⟩ ⟨⟨h1, h2⟩, h3, h4, h5⟩ hK
    obtain ⟨k, v⟩ := s
    dsimp only at hs1 hs2 h1 h3
    have HW : Hid (65535 - fd (wsK l k) = csum l) := by
      unfold Hid csum ws
      rw [hlen.out, show (n + 1) / 2 = k from by omega]
    have x0 := wsK_lo l k
    have x1 := wsK_hi l k
    have hsg : IntKind.u16.signed = false := rfl
    have x3 := not_u16 (fd_lo (wsK l k)) (fd_hi _)
    gi_wp2_with (refine ⟨trivial, ?_⟩; gi_at_call 88; refine (callsIn_wide.2 (fold_any _ x0 (by omega) _)).mono ?_; rintro e w' ⟨rfl, rfl⟩)
    rw [hsz] at hK
    refine ⟨by simp, .inl ⟨_, _, rfl, run_takeDeferred hK, ?_⟩⟩
    refine ⟨_, results_tmp rfl _ _ _, ?_, below_putObj h5 (by omega) _⟩
    exact congrArg (fun z => Ending.returned (.int .u16 z)) HW.out

theorem good_any (A : Option Addr) (n c : Nat) (l : List UInt8) (w : World) (hb : Bs w A n c l) :
    Calls Try.prog 62 #[.slice A n c] w fun e w' => e = .returned (.bool (csum l == 0)) ∧ Below w.heap.size w w' := by
  go_enter Try.func62, Try.ntmps62
  go_wp2_with (go_at_call 75; refine (sum_any _ _ _ l _ hb).mono ?_; rintro e w1 ⟨rfl, hB⟩)
  go_ret
  exact ⟨rfl, hB⟩
end Go.Proofs.Ythgoffbfgdgkpaa

/- The program's iterator over a header's options: what it asks of the loop's body. -/
namespace Go.Proofs.Ythgoffbfgdgkpaa
open Go.RowKit Go.Shelf
attribute [local go_sem] Oper.semAt_some
set_option linter.unusedVariables false
set_option linter.unusedSimpArgs false
set_option maxHeartbeats 4000000
set_option maxRecDepth 100000

theorem split2_any (x : Int) (w : World) : Calls Try.prog 95 #[.int .u8 x] w fun e w' => e = .returned (.bool (x != 0)) ∧ w' = w := by
  go_enter Try.func95, Try.ntmps95
  go_wp2
  go_ret
  exact ⟨rfl, rfl⟩
theorem allZ_at {l : List UInt8} {j : Nat} (h : j < l.length) (hx : bt l j ≠ 0) : allZ l = false := by
  unfold allZ
  rw [List.all_eq_false]
  refine ⟨l[j], List.getElem_mem h, ?_⟩
  intro e
  simp only [beq_iff_eq] at e
  apply hx
  unfold bt
  rw [List.getD_eq_getElem?_getD, List.getElem?_eq_getElem h, Option.getD_some, e]
  rfl
theorem allZ_all {l : List UInt8} (h : ∀ j, j < l.length → bt l j = 0) : allZ l = true := by
  unfold allZ
  rw [List.all_eq_true]
  intro x hx
  obtain ⟨j, hj, rfl⟩ := List.mem_iff_getElem.1 hx
  have := h j hj
  unfold bt at this
  rw [List.getD_eq_getElem?_getD, List.getElem?_eq_getElem hj, Option.getD_some] at this
  simp only [beq_iff_eq]
  exact UInt8.toNat_inj.1 (by simpa using this)
theorem idxZ_any (A : Option Addr) (n c : Nat) (l : List UInt8) (w : World) (hb : Bs w A n c l) :
    Calls Try.prog 100 #[.slice A n c, .func (.func 95) #[] #[]] w fun e w' => (∃ r : Int, e = .returned (.int .i64 r) ∧ decide (0 ≤ r) = !allZ l) ∧ Below w.heap.size w w' := by
  have HL := Lib.hid hb.len
  have mx := hb.max
  go_enter Try.func100, Try.ntmps100
  go_wp2_with fail
  go_loopw [8] (fun i wr => ∃ j, j ≤ n ∧ i = .int .i64 (j : Nat) ∧ Below w.heap.size w wr ∧ Hid (∀ i, i < j → bt l i = 0)) (fun i _ => n - (intOf i).toNat)
  case atStart => exact ⟨0, by omega, rfl, Below.refl _ _, fun i hi => by omega⟩
  case round =>
    obtain ⟨j, hj, rfl, W0, Gj⟩ := hrel
    by_cases hlt : j < n
    · have hji : (j : Int) < n := by omega
      obtain ⟨b, off, rfl, hc⟩ := (hb.below W0).rd (by omega)
      have g0 := hc j hlt
      obtain ⟨x, hx⟩ : ∃ x, bt l j = x := ⟨_, rfl⟩
      rw [hx] at g0
      have HX := Lib.hid hx
      clear hc hx
      have hs := fun W => split2_any x W
      by_cases hq : x = 0
      · subst hq
        go_wp2_with (go_at_call 95; ((with_reducible refine (hs _).mono ?_); rintro e w4 ⟨rfl, rfl⟩))
        exact ⟨⟨j + 1, by omega, by go_num, W0, fun i hi => by
          by_cases e : i = j
          · rw [e]; exact HX.out
          · exact Gj.out i (by omega)⟩, by simp [intOf]; omega⟩
      · have hq2 : (x != 0) = true := by simpa using hq
        have hee : Hid (allZ l = false) := allZ_at (by rw [HL.out]; exact hlt) (by rw [HX.out]; exact hq)
        rw [hq2] at hs
        clear hq hq2
        go_wp2_with (go_at_call 95; ((with_reducible refine (hs _).mono ?_); rintro e w4 ⟨rfl, rfl⟩))
        go_ret
        exact ⟨⟨_, rfl, by rw [hee.out]; simp⟩, W0⟩
    · obtain rfl : j = n := by omega
      go_wp2_with fail
      have he : allZ l = true := allZ_all (fun i hi => Gj.out i (by rw [← HL.out]; exact hi))
      go_ret
      exact ⟨⟨_, rfl, by rw [he]; rfl⟩, W0⟩
theorem cont_any (A : Option Addr) (n c : Nat) (l : List UInt8) (w : World) (hb : Bs w A n c l) :
    Calls Try.prog 94 #[.slice A n c, .func (.func 95) #[] #[]] w fun e w' => e = .returned (.bool (!allZ l)) ∧ Below w.heap.size w w' := by
  go_enter Try.func94, Try.ntmps94
  go_wp2_with (go_at_call 100; ((with_reducible refine (idxZ_any A n c l _ hb).mono ?_); rintro e w4 ⟨⟨r, rfl, hr⟩, hB4⟩))
  go_ret
  exact ⟨rfl, hB4⟩

/-- What is yielded. -/
structure SpX where
  o : Opt
  A : Option Addr
  n : Nat
  c : Nat
  ok : Bool
/-- Between two rounds: the options that have come, the iterator's variable, what is at hand. -/
structure SpS where
  os : List Opt
  v : Value
  pd : Option SpX
  bad : Bool
def spStep (s : SpS) (x : SpX) : SpS := ⟨if x.ok then s.os ++ [x.o] else s.os, s.v, none, !x.ok⟩
def encX (x : SpX) : Array Value := #[.agg #[.int .u8 x.o.kind, .slice x.A x.n x.c], .bool x.ok]
def SplI (w : World) (B : Nat) (C : List Opt → World → Prop) (s : SpS) (W : World) : Prop :=
  C s.os W ∧ W.cell? ⟨B, 0, none⟩ = some s.v ∧ W.frozen? ⟨B, 0, none⟩ = false ∧ Below w.heap.size w W ∧ s.bad = false ∧ ∀ x, s.pd = some x → x.ok = true → Own W w.heap.size 5 x.A x.n x.c x.o.dat
def SplOk (l : List UInt8) (s : SpS) (x : SpX) : Prop := s.pd = some x ∧ (x.ok = false → optsP l = none) ∧ (x.ok = true → s.os.length < l.length)
theorem SplI.below {w : World} {B : Nat} {C : List Opt → World → Prop} (hC : ∀ os W W', C os W → Below W.heap.size W W' → C os W') {s : SpS} {W W' : World} (h : SplI w B C s W) (hb : Below W.heap.size W W') : SplI w B C s W' := by
  obtain ⟨h1, h2, h3, h4, h5, h6⟩ := h
  have hlt := World.block_lt_of_cell? W _ h2
  exact ⟨hC _ _ _ h1 hb, (hb.cell hlt).trans h2, (hb.frozen hlt).trans h3, below_then h4 hb, h5, fun x hx ho => (h6 x hx ho).below hb⟩
theorem SplI.with_ {w : World} {B : Nat} {C : List Opt → World → Prop} {s : SpS} {W : World} (h : SplI w B C s W) (x : SpX) (hx : x.ok = true → Own W w.heap.size 5 x.A x.n x.c x.o.dat) : SplI w B C ⟨s.os, s.v, some x, s.bad⟩ W := by
  obtain ⟨h1, h2, h3, h4, h5, h6⟩ := h
  exact ⟨h1, h2, h3, h4, h5, fun y hy ho => by simp only [Option.some.injEq] at hy; subst hy; exact hx ho⟩
end Go.Proofs.Ythgoffbfgdgkpaa

/- The program's iterator over a header's options, walked. -/
namespace Go.Proofs.Ythgoffbfgdgkpaa
open Go.RowKit Go.Shelf
attribute [local go_sem] Oper.semAt_some
set_option linter.unusedVariables false
set_option linter.unusedSimpArgs false
set_option maxHeartbeats 8000000
set_option maxRecDepth 100000

theorem roundBad {w : World} {B : Nat} {C : List Opt → World → Prop} {Ix : Code → SpS → World → Prop} {R : World → Prop} {Rx : Code → World → Prop} {s : SpS} {x : SpX} (hx : x.ok = false) {S : SpS → Prop} {e : Ending} {W : World}
    (h : roundSaid (spStep s x) (SplI w B C) Ix R Rx e W) : (∃ b, e = .returned (.bool b)) ∧ ∃ c s, Ix c s W ∧ Rx c W := by
  rcases h with ⟨rfl, ⟨_, _, _, _, hb, _⟩, _⟩ | ⟨rfl, c, h1, h2⟩
  · simp [spStep, hx] at hb
  · exact ⟨⟨_, rfl⟩, c, _, h1, h2⟩
theorem roundGood {w : World} {B : Nat} {C : List Opt → World → Prop} {Ix : Code → SpS → World → Prop} {R : World → Prop} {Rx : Code → World → Prop} (hIx : ∀ c s W, Ix c s W → s.bad = true) {s : SpS} {x : SpX} (hx : x.ok = true) {e : Ending} {W : World}
    (h : roundSaid (spStep s x) (SplI w B C) Ix R Rx e W) : e = .returned (.bool true) ∧ SplI w B C (spStep s x) W ∧ R W := by
  rcases h with h | ⟨_, c, h1, h2⟩
  · exact h
  · have := hIx _ _ _ h1
    simp [spStep, hx] at this
theorem wrap_i64 {x : Int} (h0 : 0 ≤ x) (h1 : x ≤ 255) : IntKind.i64.wrap x = x := by
  simp [IntKind.wrap, IntKind.signed, IntKind.bits]
  split <;> omega
theorem split1_in (D B : Nat) (w : World) (l : List UInt8) (n : Nat) (hl : l.length = n) (hB : w.heap.size ≤ B) (hBD : B < D) (hn : n ≤ 200000000000000) (C : List Opt → World → Prop) (Ix : Code → SpS → World → Prop) (R : World → Prop) (Rx : Code → World → Prop)
    (hC : ∀ os W W', C os W → Below W.heap.size W W' → C os W') (hCs : ∀ os W u, C os W → C os (W.setCell ⟨B, 0, none⟩ u)) (hIx : ∀ c s W, Ix c s W → s.bad = true) (hR : ∀ W W', R W → KeepsFrom D W W' → R W')
    (hY : ∀ s x W, SplOk l s x → SplI w B C s W → R W → YieldAt Fence.wide 1 Try.prog (D + 1) (encX x) W (roundSaid (spStep s x) (SplI w B C) Ix R Rx)) (W1 : World) (A0 : Option Addr) (c0 : Nat)
    (hb0 : Bs w A0 n c0 l) (h0 : SplI w B C ⟨[], .slice A0 n c0, none, false⟩ W1) (hR0 : R W1) :
    CallsIn Fence.wide 2 Try.prog 93 (#[.func (.yield (D + 1)) #[] #[]] ++ #[.pointer (some ⟨B, 0, none⟩)]) W1 (iterEnd (fun s => optsP l = some s.os) (SplI w B C) Ix R Rx) := by
  obtain ⟨i8, hi8, _, hs8, _⟩ := info_parts info_u8
  refine callsIn_of_wp Try.func93 rfl trivial ?_ rfl
  simp only [Try.ntmps93, List.size_toArray, List.length_cons, List.length_nil, Nat.reduceAdd, Nat.reduceSub, Array.replicate_succ, Array.replicate_zero, List.push_toArray, List.append_toArray, List.nil_append, List.cons_append]
  gi_wp2
  gi_loopw [3, 4] (fun _ _ wr => ∃ t os A m c, Hid (m + t = n) ∧ Hid (os.length ≤ t) ∧ Hid (optsAt l t os) ∧ Bs w A m c (l.drop t) ∧ SplI w B C ⟨os, .slice A m c, none, false⟩ wr ∧ R wr) (fun _ _ wr => leftIn B wr)
  case atStart => exact ⟨0, [], A0, n, c0, by unfold Hid; omega, by unfold Hid; simp, optsAt_0 l, by simpa using hb0, h0, hR0⟩
  case round =>
    obtain ⟨t, os, A, m, c, hm, hk, hat, hb, hi, hr⟩ := hrel
    have hi' := hi
    obtain ⟨hc, hcell, hfz, hbel, -, -⟩ := hi
    have hlf := leftIn_eq hcell
    dsimp only at hcell hc
    have hBlt := World.block_lt_of_cell? wr _ hcell
    dsimp only at hBlt
    have hbad : ∀ W, optsP l = none → SplI w B C ⟨os, .slice A m c, none, false⟩ W → R W → YieldAt Fence.wide 1 Try.prog (D + 1) #[.agg #[.int .u8 0, .slice none 0 0], .bool false] W (roundSaid (spStep ⟨os, .slice A m c, some ⟨zO, none, 0, 0, false⟩, false⟩ ⟨zO, none, 0, 0, false⟩) (SplI w B C) Ix R Rx) := fun W hnone hi hr =>
      hY ⟨os, .slice A m c, some ⟨zO, none, 0, 0, false⟩, false⟩ ⟨zO, none, 0, 0, false⟩ W ⟨rfl, fun _ => hnone, fun h => by cases h⟩ (hi.with_ _ (fun h => by cases h)) hr
    by_cases h2 : 0 < m
    · have hbr := hb.below hbel
      obtain ⟨b, off, rfl, hcs⟩ := hbr.rd h2
      have g0 := hcs 0 h2
      rw [bt_drop, Nat.add_zero, Nat.add_zero] at g0
      have b0 := bt_lo l t
      have b0' := bt_hi l t
      have hcap := hb.cap
      have hblt := World.block_lt_of_cell? wr _ g0
      dsimp only at hblt
      rcases nx_ways l t (by have := hm.out; omega) with ⟨q0, hnx⟩ | ⟨q0, q1, hnx⟩ | ⟨q0, q1, q2, hnx⟩ | ⟨q0, q1, q2, q3, q4, hnx⟩
      · have hz0 : bt l t = 0 := by simpa using q0
        rw [hz0] at g0
        have HN := Lib.hid hnx
        clear q0 hnx b0 b0' hcs
        obtain ⟨z, hz⟩ : ∃ z, allZ (l.drop t) = z := ⟨_, rfl⟩
        have hcn := fun W k => cont_any (some ⟨b, off, none⟩) m c (l.drop t) W k
        rw [hz] at hcn
        have HZ := Lib.hid hz
        clear hz hz0
        cases z with
        | true =>
          have HO : Hid (optsP l = some os) := optsAt_end hat.out (by rw [HN.out, HZ.out]; rfl)
          clear HN HZ
          gi_wp2_with (refine ⟨trivial, ?_⟩; gi_at_call 94; refine (callsIn_wide.2 (hcn _ hbr)).mono ?_; rintro e w2 ⟨rfl, hB2⟩)
          go_end0
          exact ⟨⟨_, rfl⟩, .inl ⟨_, HO.out, hi'.below hC hB2, hR _ _ hr (keeps_below hB2)⟩⟩
        | false =>
          have HO : Hid (optsP l = none) := optsAt_none hat.out (by rw [HN.out, HZ.out]; rfl)
          clear HN HZ
          gi_wp2_with (refine ⟨trivial, ?_⟩; gi_at_call 94; refine (callsIn_wide.2 (hcn _ hbr)).mono ?_; rintro e w2 ⟨rfl, hB2⟩; obtain ⟨fn, tmps, assign, body, hy, hR2⟩ := hbad w2 HO.out (hi'.below hC hB2) (hR _ _ hr (keeps_below hB2)))
          refine hR2.mono ?_
          rintro e W2 hrs
          obtain ⟨⟨bb, rfl⟩, cc, ss, hx1, hx2⟩ := roundBad (S := fun _ => True) rfl hrs
          gi_wp2
          go_end0
          exact ⟨⟨_, rfl⟩, .inr ⟨cc, ss, hx1, hx2⟩⟩
      · have hz0 : bt l t = 1 := by simpa using q1
        rw [hz0] at g0
        have HS : Hid (optsAt l (t + 1) (os ++ [⟨1, []⟩])) := optsAt_some hat.out hnx
        clear q0 q1 hnx b0 b0' hcs hz0
        have hbA : Below wr.heap.size wr (wr.alloc (.cells #[.int .u8 1, .slice none 0 0] 97)) := (Below.refl _ _).alloc (Nat.le_refl _) _
        obtain ⟨fn, tmps, assign, body, hy, hR2⟩ := hY ⟨os, .slice (some ⟨b, off, none⟩) m c, some ⟨⟨1, []⟩, none, 0, 0, true⟩, false⟩ ⟨⟨1, []⟩, none, 0, 0, true⟩ _ ⟨rfl, (fun h => by cases h), fun _ => by have := hk.out; have := hm.out; simp only; omega⟩ ((hi'.below hC hbA).with_ ⟨⟨1, []⟩, none, 0, 0, true⟩ (fun _ => own_nil _ _ _)) (hR _ _ hr (keeps_below hbA))
        dsimp only [encX] at hy
        have hcut : ∀ W, (Instr.slice 24 (.slice (some ⟨b, off, none⟩) m c) (some (.int .i64 1)) none none).run Try.prog W = _ := fun W => cut_l Try.underlying24 hi8 hs8 (some ⟨b, off, none⟩) m c .i64 1 (by omega) (by omega) W
        obtain ⟨A', n', c', eA, en, ec, hb2⟩ := hb.cutE (lo := 1) (hi := m) (by omega) (Nat.le_refl _)
        simp only [show (1 : Int).toNat = 1 from rfl, eA, en, ec] at hcut
        have hb3 : Bs w A' n' c' (l.drop (t + 1)) := by
          rw [List.take_of_length_le (by rw [hb.len]; exact Nat.le_refl _), List.drop_drop] at hb2
          exact hb2
        have HM : Hid (n' + 1 = m) := by unfold Hid; omega
        clear eA en ec hb2 hlf
        gi_wp2
        refine hR2.mono ?_
        rintro e W3 hrs
        obtain ⟨rfl, hi3, hr3⟩ := roundGood hIx rfl hrs
        obtain ⟨hc3, hcell3, hfz3, hbel3, -, -⟩ := hi3
        dsimp only [spStep] at hcell3 hc3
        gi_wp2
        go_roundw
        case rel => exact ⟨t + 1, os ++ [⟨1, []⟩], A', n', c', by have := HM.out; have := hm.out; unfold Hid; omega, by have := hk.out; unfold Hid; simp; omega, HS, hb3, ⟨hCs _ _ _ hc3, by rw [World.cell?_setCell_same' _ _ _ (by rw [hcell3]; rfl)], by rw [World.frozen?_setCell]; exact hfz3, hbel3.setCell (p := ⟨B, 0, none⟩) hB _, rfl, fun x h => by cases h⟩, hR _ _ hr3 (keeps_setCell _ _ _)⟩
        case measure => rw [leftIn_eq (World.cell?_setCell_same' W3 _ _ (by rw [hcell3]; rfl)), leftIn_eq hcell]; have := HM.out; omega
      · have HO := Lib.hid (optsAt_none hat.out hnx)
        have h2i : 0 < (m : Int) := by omega
        obtain ⟨k0, hk0⟩ : ∃ k0, bt l t = k0 := ⟨_, rfl⟩
        rw [hk0] at g0 q0 q1
        have e0 : (k0 != 0) = true := by simpa using q0
        have e1 : (k0 != 1) = true := by simpa using q1
        have hml := hm.out
        clear hnx b0 b0' hk0 hlf
        by_cases h3 : (m : Int) < 2
        · clear q2 hcs hml
          gi_wp2_with (gi_quiet_th (fail); obtain ⟨fn, tmps, assign, body, hy, hR2⟩ := hbad (wr.drewN nq) HO.out (hi'.below hC (below_drewN (Below.refl _ wr) nq)) (hR _ _ hr (keeps_below (below_drewN (Below.refl _ wr) nq))))
          refine hR2.mono ?_
          rintro e W2 hrs
          obtain ⟨⟨bb, rfl⟩, cc, ss, hx1, hx2⟩ := roundBad (S := fun _ => True) rfl hrs
          gi_wp2
          go_end0
          exact ⟨⟨_, rfl⟩, .inr ⟨cc, ss, hx1, hx2⟩⟩
        · obtain ⟨k1, hk1⟩ : ∃ k1, bt l (t + 1) = k1 := ⟨_, rfl⟩
          have g1 := hcs 1 (by omega)
          rw [bt_drop, hk1] at g1
          rw [hk1] at q2
          have b1 := bt_lo l (t + 1)
          have b1' := bt_hi l (t + 1)
          rw [hk1] at b1 b1'
          have hq : k1 < 2 ∨ (¬ k1 < 2 ∧ (m : Int) < k1) := by omega
          have h31 : (1 : Int) < m := by omega
          have h34 : IntKind.i64.wrap k1 = k1 := wrap_i64 (by omega) (by omega)
          have h32 : decide ((m : Int) < 2) = false := by simpa using h3
          clear q2 hcs hml hk1
          rcases hq with h4 | ⟨h4, h5⟩
          · gi_wp2_with (gi_quiet_th (fail); obtain ⟨fn, tmps, assign, body, hy, hR2⟩ := hbad (wr.drewN nq) HO.out (hi'.below hC (below_drewN (Below.refl _ wr) nq)) (hR _ _ hr (keeps_below (below_drewN (Below.refl _ wr) nq))))
            refine hR2.mono ?_
            rintro e W2 hrs
            obtain ⟨⟨bb, rfl⟩, cc, ss, hx1, hx2⟩ := roundBad (S := fun _ => True) rfl hrs
            gi_wp2
            go_end0
            exact ⟨⟨_, rfl⟩, .inr ⟨cc, ss, hx1, hx2⟩⟩
          · gi_wp2_with (gi_quiet_th (fail); obtain ⟨fn, tmps, assign, body, hy, hR2⟩ := hbad (wr.drewN nq) HO.out (hi'.below hC (below_drewN (Below.refl _ wr) nq)) (hR _ _ hr (keeps_below (below_drewN (Below.refl _ wr) nq))))
            refine hR2.mono ?_
            rintro e W2 hrs
            obtain ⟨⟨bb, rfl⟩, cc, ss, hx1, hx2⟩ := roundBad (S := fun _ => True) rfl hrs
            gi_wp2
            go_end0
            exact ⟨⟨_, rfl⟩, .inr ⟨cc, ss, hx1, hx2⟩⟩
      · obtain ⟨k0, hk0⟩ : ∃ k0, bt l t = k0 := ⟨_, rfl⟩
        obtain ⟨n1, hk1⟩ : ∃ n1 : Nat, bt l (t + 1) = (n1 : Int) := ⟨(bt l (t + 1)).toNat, by have := bt_lo l (t + 1); omega⟩
        have g1 := hcs 1 (by have := hm.out; omega)
        have b1' := bt_hi l (t + 1)
        rw [bt_drop, hk1] at g1
        rw [hk0] at g0 q0 q1 hnx b0 b0'
        rw [hk1] at q3 q4 hnx b1'
        simp only [Int.toNat_natCast] at hnx
        have e0 : (k0 != 0) = true := by simpa using q0
        have e1 : (k0 != 1) = true := by simpa using q1
        have HS : Hid (optsAt l (t + n1) (os ++ [⟨k0, ((l.drop t).take n1).drop 2⟩])) := optsAt_some hat.out hnx
        have hml := hm.out
        have i1 : ¬ (m : Int) < 2 := by omega
        have i0 : (1 : Int) < m := by omega
        have i7 : IntKind.i64.wrap (n1 : Int) = n1 := wrap_i64 (by omega) (by omega)
        have i2 : ¬ (n1 : Int) < 2 := by omega
        have i3 : ¬ (m : Int) < (n1 : Int) := by omega
        have i4 : decide ((m : Int) < 2) = false := by simpa using i1
        have i5 : decide ((n1 : Int) < 2) = false := by simpa using i2
        have i6 : decide ((m : Int) < (n1 : Int)) = false := by simpa using i3
        have hcut : ∀ W, (Instr.slice 24 (.slice (some ⟨b, off, none⟩) m c) (some (.int .i64 (n1 : Int))) none none).run Try.prog W = _ := fun W => cut_l Try.underlying24 hi8 hs8 (some ⟨b, off, none⟩) m c .i64 (n1 : Int) (by omega) (by omega) W
        obtain ⟨A', n', c', eA, en, ec, hb2⟩ := hb.cutE (lo := n1) (hi := m) (by omega) (Nat.le_refl _)
        simp only [Int.toNat_natCast, eA, en, ec] at hcut
        have hb3 : Bs w A' n' c' (l.drop (t + n1)) := by
          rw [List.take_of_length_le (by rw [hb.len]; exact Nat.le_refl _), List.drop_drop] at hb2
          exact hb2
        have HM : Hid (n' + n1 = m) := by unfold Hid; omega
        have HN1 : Hid (2 ≤ n1 ∧ n1 ≤ m) := by unfold Hid; omega
        clear q0 q1 q3 q4 hnx hcs hk0 hk1 eA en ec hb2 hlf hml
        by_cases h6 : (n1 : Int) > 2
        · have hcut2 : ∀ W, (Instr.slice 24 (.slice (some ⟨b, off, none⟩) m c) (some (.int .i64 2)) (some (.int .i64 (n1 : Int))) none).run Try.prog W = _ := fun W => cut_lh Try.underlying24 hi8 hs8 (some ⟨b, off, none⟩) m c .i64 .i64 2 (n1 : Int) (by omega) (by omega) (by have := HN1.out; omega) W
          obtain ⟨A'', n'', c'', eA, en, ec, hb4⟩ := hb.cutE (lo := 2) (hi := n1) (by omega) HN1.out.2
          simp only [Int.toNat_natCast, show (2 : Int).toNat = 2 from rfl, eA, en, ec] at hcut2
          clear eA en ec
          obtain ⟨d, hd⟩ : ∃ d, ((l.drop t).take n1).drop 2 = d := ⟨_, rfl⟩
          rw [hd] at hb4 HS
          clear hd
          gi_wp2_with (first
            | (gi_quiet_th (fail); (obtain ⟨wq, hwq⟩ : ∃ W, wr.drewN nq = W := ⟨_, rfl⟩); rw [hwq]; have hbq : Below wr.heap.size wr wq := (by rw [← hwq]; exact below_drewN (Below.refl _ wr) nq); have hcellq := (hbq.cell hBlt).trans hcell; have hfzq := (hbq.frozen (p := ⟨B, 0, none⟩) hBlt).trans hfz; have g0q := (hbq.cell hblt).trans g0; have g1q := (hbq.cell (p := ⟨b, off + 1, none⟩) hblt).trans g1; have hBltq := Nat.lt_of_lt_of_le hBlt hbq.size; have hbltq := Nat.lt_of_lt_of_le hblt hbq.size; clear hwq)
            | (refine ⟨trivial, ?_⟩; gi_at_call 64; refine (callsIn_wide.2 (clone_any A'' n'' c'' d _ ((hb4.below (below_then hbel hbq)).alloc _))).mono ?_; rintro e w3 ⟨A4, c4, rfl, ho4, hB3⟩; (obtain ⟨kP, hkP⟩ : ∃ k, wq.heap.size = k := ⟨_, rfl⟩); have P3 := (blk_new wq #[.int .u8 k0, .slice none 0 0] 97 kP hkP).below hB3; have pc3 := P3.cell; (obtain ⟨w5, hw5, S5⟩ := store1 P3 1 (.slice A4 n'' c4)); have pc5 := S5.blk.cell; have hb5 : Below wr.heap.size wr w5 := S5.bel (below_then hbq (below_then ((Below.refl _ _).alloc (Nat.le_refl _) _) hB3)) (by rw [← hkP]; exact hbq.size); obtain ⟨fn, tmps, assign, body, hy, hR2⟩ := hY ⟨os, .slice (some ⟨b, off, none⟩) m c, some ⟨⟨k0, d⟩, A4, n'', c4, true⟩, false⟩ ⟨⟨k0, d⟩, A4, n'', c4, true⟩ w5 ⟨rfl, (fun h => by cases h), fun _ => by have := hk.out; have := hm.out; simp only; omega⟩ ((hi'.below hC hb5).with_ ⟨⟨k0, d⟩, A4, n'', c4, true⟩ (fun _ => (S5.own ho4 (fun a e => by have := ho4.ge a e; simp only [World.size_alloc] at this; omega)).mono (by have := hbel.size; have := hbq.size; simp only [World.size_alloc]; omega))) (hR _ _ hr (keeps_below hb5)); dsimp only [encX] at hy))
          refine hR2.mono ?_
          rintro e W3 hrs
          obtain ⟨rfl, hi3, hr3⟩ := roundGood hIx rfl hrs
          obtain ⟨hc3, hcell3, hfz3, hbel3, -, -⟩ := hi3
          dsimp only [spStep] at hcell3 hc3
          gi_wp2
          go_roundw
          case rel => exact ⟨t + n1, os ++ [⟨k0, d⟩], A', n', c', by have := HM.out; have := hm.out; unfold Hid; omega, by have := hk.out; have := HN1.out; unfold Hid; simp; omega, HS, hb3, ⟨hCs _ _ _ hc3, by rw [World.cell?_setCell_same' _ _ _ (by rw [hcell3]; rfl)], by rw [World.frozen?_setCell]; exact hfz3, hbel3.setCell (p := ⟨B, 0, none⟩) hB _, rfl, fun x h => by cases h⟩, hR _ _ hr3 (keeps_setCell _ _ _)⟩
          case measure => rw [leftIn_eq (World.cell?_setCell_same' W3 _ _ (by rw [hcell3]; rfl)), leftIn_eq hcell]; have := HM.out; have := HN1.out; omega
        · obtain rfl : n1 = 2 := by have := HN1.out; omega
          rw [show ((l.drop t).take 2).drop 2 = [] from List.drop_eq_nil_of_le (by rw [List.length_take]; omega)] at HS
          have hcut3 : ∀ W, (Instr.slice 24 (.slice (some ⟨b, off, none⟩) m c) (some (.int .i64 2)) none none).run Try.prog W = .ok (.slice A' n' c') W := hcut
          clear hcut
          gi_wp2_with (gi_quiet_th (fail); (obtain ⟨wq, hwq⟩ : ∃ W, wr.drewN nq = W := ⟨_, rfl⟩); rw [hwq]; have hbq : Below wr.heap.size wr wq := (by rw [← hwq]; exact below_drewN (Below.refl _ wr) nq); have hcellq := (hbq.cell hBlt).trans hcell; have hfzq := (hbq.frozen (p := ⟨B, 0, none⟩) hBlt).trans hfz; have g0q := (hbq.cell hblt).trans g0; have g1q := (hbq.cell (p := ⟨b, off + 1, none⟩) hblt).trans g1; have hBltq := Nat.lt_of_lt_of_le hBlt hbq.size; have hbltq := Nat.lt_of_lt_of_le hblt hbq.size; clear hwq; have hbA : Below wr.heap.size wr (wq.alloc (.cells #[.int .u8 k0, .slice none 0 0] 97)) := below_then hbq ((Below.refl _ _).alloc (Nat.le_refl _) _); obtain ⟨fn, tmps, assign, body, hy, hR2⟩ := hY ⟨os, .slice (some ⟨b, off, none⟩) m c, some ⟨⟨k0, []⟩, none, 0, 0, true⟩, false⟩ ⟨⟨k0, []⟩, none, 0, 0, true⟩ _ ⟨rfl, (fun h => by cases h), fun _ => by have := hk.out; have := hm.out; simp only; omega⟩ ((hi'.below hC hbA).with_ ⟨⟨k0, []⟩, none, 0, 0, true⟩ (fun _ => own_nil _ _ _)) (hR _ _ hr (keeps_below hbA)); dsimp only [encX] at hy)
          refine hR2.mono ?_
          rintro e W3 hrs
          obtain ⟨rfl, hi3, hr3⟩ := roundGood hIx rfl hrs
          obtain ⟨hc3, hcell3, hfz3, hbel3, -, -⟩ := hi3
          dsimp only [spStep] at hcell3 hc3
          gi_wp2
          go_roundw
          case rel => exact ⟨t + 2, os ++ [⟨k0, []⟩], A', n', c', by have := HM.out; have := hm.out; unfold Hid; omega, by have := hk.out; have := HN1.out; unfold Hid; simp; omega, HS, hb3, ⟨hCs _ _ _ hc3, by rw [World.cell?_setCell_same' _ _ _ (by rw [hcell3]; rfl)], by rw [World.frozen?_setCell]; exact hfz3, hbel3.setCell (p := ⟨B, 0, none⟩) hB _, rfl, fun x h => by cases h⟩, hR _ _ hr3 (keeps_setCell _ _ _)⟩
          case measure => rw [leftIn_eq (World.cell?_setCell_same' W3 _ _ (by rw [hcell3]; rfl)), leftIn_eq hcell]; have := HM.out; have := HN1.out; omega
    · have hm0 : m ≤ 0 := by omega
      obtain rfl : m = 0 := by omega
      have HO : Hid (optsP l = some os) := optsAt_end hat.out (by rw [List.drop_of_length_le (by have := hm.out; omega)]; rfl)
      have hcn := fun W k => cont_any A 0 c (l.drop t) W k
      rw [show allZ (l.drop t) = true from by rw [List.drop_of_length_le (by have := hm.out; omega)]; rfl] at hcn
      clear hlf
      gi_wp2_with (refine ⟨trivial, ?_⟩; gi_at_call 94; refine (callsIn_wide.2 (hcn _ (hb.below hbel))).mono ?_; rintro e w2 ⟨rfl, hB2⟩)
      go_end0
      exact ⟨⟨_, rfl⟩, .inl ⟨_, HO.out, hi'.below hC hB2, hR _ _ hr (keeps_below hB2)⟩⟩
end Go.Proofs.Ythgoffbfgdgkpaa

/- A scope with one label that is jumped to forward only. -/
namespace Go.Proofs.Ythgoffbfgdgkpaa
open Go.RowKit Go.Shelf
set_option linter.unusedVariables false

theorem wp_scope_fwd {P : Program} {a : Act} {w : World} {Q : Exit → Act → World → Prop} {c rest : Code} (l : Nat) (J : Act → World → Prop) (hf : findLabel c l = some rest)
    (first : c.wp P (Exit.jump l J Q) a w) (pass : ∀ a w, J a w → rest.wp P (Exit.noGoto Q) a w) : (Code.scope c).wp P Q a w := by
  refine wp_scope_jumps l J (fun _ _ => 0) hf first fun a w h => ?_
  refine wp_mono (pass a w h) ?_
  intro e a w hq
  cases e <;> first | exact hq | exact hq.elim
theorem wpIn_scope_fwd {P : Program} {a : Act} {w : World} {Q : Exit → Act → World → Prop} {n : Nat} {c rest : Code} (l : Nat) (J : Act → World → Prop) (hf : findLabel c l = some rest)
    (first : c.wpIn Fence.wide n P (Exit.jump l J Q) a w) (pass : ∀ a w, J a w → rest.wpIn Fence.wide n P (Exit.noGoto Q) a w) : (Code.scope c).wpIn Fence.wide n P Q a w :=
  wpIn_wide.2 (wp_scope_fwd l J hf (wpIn_wide.1 first) fun a w h => wpIn_wide.1 (pass a w h))
section
variable {Q : Exit → Act → World → Prop} {a : Act} {w : World} {J : Act → World → Prop} {l : Nat}
theorem jump_normal : Exit.jump l J Q .normal a w = Q .normal a w := rfl
theorem jump_exit (id : Nat) : Exit.jump l J Q (.exit id) a w = Q (.exit id) a w := rfl
theorem jump_ret : Exit.jump l J Q .ret a w = Q .ret a w := rfl
theorem jump_panic (ch : List PanicEntry) : Exit.jump l J Q (.panic ch) a w = Q (.panic ch) a w := rfl
theorem jump_goto : Exit.jump l J Q (.goto l) a w = J a w := by simp [Exit.jump]
end
/-- The slots of an act, one by one. -/
theorem slots {a : Act} {n : Nat} (h : a.tmps.size = n) : ∃ f : Nat → Value, a.tmps = ((List.range n).map f).toArray ∧ ∀ i v, i < n → a.tmps[i]? = some v → f i = v := by
  refine ⟨fun i => a.tmps.getD i undef, ?_, fun i v hi hv => by simp [hv]⟩
  apply Array.ext_getElem?
  intro i
  by_cases hi : i < n
  · have : i < a.tmps.size := by omega
    simp [hi, this, Array.getD_eq_getD_getElem?]
  · rw [Array.getElem?_eq_none (by omega)]
    simp [hi]
end Go.Proofs.Ythgoffbfgdgkpaa

/- ctrl.with: a packet with other data. -/
namespace Go.Proofs.Ythgoffbfgdgkpaa
open Go.RowKit
set_option linter.unusedVariables false
set_option linter.unusedSimpArgs false
set_option maxHeartbeats 4000000
set_option maxRecDepth 100000

theorem store478 {W : World} {r : Nat} {c0 c1 c2 c3 c4 c5 c6 c7 c8 : Value} {t : TypeId} (R : Blk W r #[c0, c1, c2, c3, c4, c5, c6, c7, c8] t) (v4 v7 v8 : Value) :
    ∃ wf, (((W.setCell ⟨r, 4, none⟩ v4).setCell ⟨r, 7, none⟩ v7).setCell ⟨r, 8, none⟩ v8) = wf ∧ Sto W r wf #[c0, c1, c2, c3, v4, c5, c6, v7, v8] t := by
  have h := (((Sto.nil R).set 4 v4).set 7 v7).set 8 v8
  simp only [List.setIfInBounds_toArray, List.set_cons_zero, List.set_cons_succ] at h
  exact ⟨_, rfl, h⟩
def isCat (lv : Value) (d : List UInt8) (w : World) : Prop := ∀ W, Below w.heap.size w W → Calls Try.prog 91 #[lv] W fun e w' => ∃ A n c, e = .returned (.slice A n c) ∧ Own w' W.heap.size 5 A n c d ∧ Below W.heap.size W w'
theorem with_no (fn : List UInt8) (p : Pkt) (A1 : Option Addr) (n1 c1 : Nat) (A2 : Option Addr) (n2 c2 : Nat) (pr : Int) (lv : Value) (d : List UInt8) (nd : Nat) (hd : d.length = nd) (w : World) (k1 : Bs w A1 n1 c1 p.opt) (hcc : isCat lv d w) (b3 : nd ≤ 200000000000000) (E : Int)
    (h : (E = 4 ∧ 40 < (n1 : Int)) ∨ (E = 4 ∧ (n1 : Int) ≤ 40 ∧ ((n1 : Int) % 4 != 0) = true) ∨ (E = 8 ∧ (n1 : Int) ≤ 40 ∧ ((n1 : Int) % 4 != 0) = false ∧ rightP { p with proto := pr, dat := d } = false)) :
    Calls Try.prog 86 #[(.agg #[.int .u8 (p).tos, .int .u16 (p).id, .bool (p).keep, .int .u8 (p).ttl, .int .u8 (p).proto, .int .u32 (p).src, .int .u32 (p).dst, .slice A1 n1 c1, .slice A2 n2 c2]), .int .u8 pr, lv] w (WiPost w zP E) := by
  have b1 := k1.max
  have HD := Lib.hid hd
  have hc2 : ∀ W, Below w.heap.size w W → Calls Try.prog 91 #[lv] W fun e w' => ∃ A n c, e = .returned (.slice A n c) ∧ Own w' W.heap.size 5 A n c d ∧ Below W.heap.size W w' := hcc
  clear hd hcc
  obtain ⟨k, hk⟩ : ∃ k : Nat, w.heap.size = k := ⟨_, rfl⟩
  obtain ⟨w1, hw1⟩ : ∃ w1, (w.alloc (.cells #[.int .u8 (p).tos, .int .u16 (p).id, .bool (p).keep, .int .u8 (p).ttl, .int .u8 (p).proto, .int .u32 (p).src, .int .u32 (p).dst, .slice A1 n1 c1, .slice A2 n2 c2] 26)).alloc (.cells #[.int .u8 0, .int .u16 0, .bool false, .int .u8 0, .int .u8 0, .int .u32 0, .int .u32 0, .slice none 0 0, .slice none 0 0] 26) = w1 := ⟨_, rfl⟩
  have P1 : Blk w1 k #[.int .u8 (p).tos, .int .u16 (p).id, .bool (p).keep, .int .u8 (p).ttl, .int .u8 (p).proto, .int .u32 (p).src, .int .u32 (p).dst, .slice A1 n1 c1, .slice A2 n2 c2] 26 := by rw [← hw1]; exact (blk_new w _ _ k hk).alloc _
  have Z1 : Blk w1 (k + 1) #[.int .u8 0, .int .u16 0, .bool false, .int .u8 0, .int .u8 0, .int .u32 0, .int .u32 0, .slice none 0 0, .slice none 0 0] 26 := by rw [← hw1]; exact blk_new _ _ _ (k + 1) (by simp [hk])
  have R1 : Below w.heap.size w w1 := by rw [← hw1]; (repeat (first | with_reducible exact Below.refl _ _ | with_reducible refine below_drew ?_ | with_reducible refine below_drewN ?_ _ | with_reducible refine below_alloc ?_ (Nat.le_refl _) _ | with_reducible refine Below.setCell ?_ (by first | exact Nat.le_refl _ | (simp only []; omega)) _ | with_reducible assumption))
  have x1 := k1.below R1
  have pc := P1.cell
  rcases h with ⟨rfl, h1⟩ | ⟨rfl, h1, h2⟩ | ⟨rfl, h1, h2, h3⟩
  · go_enter Try.func86, Try.ntmps86
    have HR : Hid (rightP { p with proto := pr, dat := d } = rightP { p with proto := pr, dat := d }) := rfl
    go_wp2_with (first
    | (go_at_call 64; ((with_reducible refine (clone_any A1 n1 c1 p.opt _ x1).mono ?_); rintro e w2 ⟨A4, c4, rfl, ho4, hB2⟩); have s2 := hB2.size; have T2 := below_then R1 hB2)
    | (go_at_call 91; ((with_reducible refine (hc2 _ T2).mono ?_); rintro e w3 ⟨A6, n6, c6, rfl, ho6, hB3⟩); have u6 : n6 = nd := (by rw [← ho6.len]; exact HD.out); subst u6; have P3 := (P1.below hB2).below hB3; have pc3 := P3.cell; have Z3 := (Z1.below hB2).below hB3; have O4 := ho4.below hB3; (obtain ⟨w5, hw5, S5⟩ := store478 P3 (.int .u8 pr) (.slice A4 n1 c4) (.slice A6 n6 c6)); have pc5 := S5.blk.cell; have T5 := S5.bel (below_then T2 hB3) (by omega); have Z5 := S5.other (by omega) Z3; have zc5 := Z5.cell; have O5 := S5.own O4 (fun a e => by have := O4.ge a e; have := P1.lt; omega); have D5 := S5.own ho6 (fun a e => by have := ho6.ge a e; have := P1.lt; omega))
    | (go_at_call 97; ((with_reducible refine (right_any { p with proto := pr, dat := d } A4 n1 c4 A6 n6 c6 w5 O5.bs D5.bs).mono ?_); rintro e w6 ⟨he6, hB6⟩); rw [HR.out] at he6; subst he6; have pc6 := (S5.blk.below hB6).cell; have Z6 := Z5.below hB6; have zc6 := Z6.cell; have T6 := below_then T5 hB6))
    obtain ⟨wf, hwf, Sf⟩ := store9 Z5 (.int .u8 0) (.int .u16 0) (.bool false) (.int .u8 0) (.int .u8 0) (.int .u32 0) (.int .u32 0) (.slice none 0 0) (.slice none 0 0)
    rw [hwf]
    have pf := Sf.blk.cell
    exact bodyPost_ret (by simp [results, Try.results86, go_sem, pf]) rfl (wiPost_no (Sf.bel T5 (by omega)))
  · go_enter Try.func86, Try.ntmps86
    have HR : Hid (rightP { p with proto := pr, dat := d } = rightP { p with proto := pr, dat := d }) := rfl
    go_wp2_with (first
    | (go_at_call 64; ((with_reducible refine (clone_any A1 n1 c1 p.opt _ x1).mono ?_); rintro e w2 ⟨A4, c4, rfl, ho4, hB2⟩); have s2 := hB2.size; have T2 := below_then R1 hB2)
    | (go_at_call 91; ((with_reducible refine (hc2 _ T2).mono ?_); rintro e w3 ⟨A6, n6, c6, rfl, ho6, hB3⟩); have u6 : n6 = nd := (by rw [← ho6.len]; exact HD.out); subst u6; have P3 := (P1.below hB2).below hB3; have pc3 := P3.cell; have Z3 := (Z1.below hB2).below hB3; have O4 := ho4.below hB3; (obtain ⟨w5, hw5, S5⟩ := store478 P3 (.int .u8 pr) (.slice A4 n1 c4) (.slice A6 n6 c6)); have pc5 := S5.blk.cell; have T5 := S5.bel (below_then T2 hB3) (by omega); have Z5 := S5.other (by omega) Z3; have zc5 := Z5.cell; have O5 := S5.own O4 (fun a e => by have := O4.ge a e; have := P1.lt; omega); have D5 := S5.own ho6 (fun a e => by have := ho6.ge a e; have := P1.lt; omega))
    | (go_at_call 97; ((with_reducible refine (right_any { p with proto := pr, dat := d } A4 n1 c4 A6 n6 c6 w5 O5.bs D5.bs).mono ?_); rintro e w6 ⟨he6, hB6⟩); rw [HR.out] at he6; subst he6; have pc6 := (S5.blk.below hB6).cell; have Z6 := Z5.below hB6; have zc6 := Z6.cell; have T6 := below_then T5 hB6))
    obtain ⟨wf, hwf, Sf⟩ := store9 Z5 (.int .u8 0) (.int .u16 0) (.bool false) (.int .u8 0) (.int .u8 0) (.int .u32 0) (.int .u32 0) (.slice none 0 0) (.slice none 0 0)
    rw [hwf]
    have pf := Sf.blk.cell
    exact bodyPost_ret (by simp [results, Try.results86, go_sem, pf]) rfl (wiPost_no (Sf.bel T5 (by omega)))
  · go_enter Try.func86, Try.ntmps86
    have HR := Lib.hid h3
    clear h3
    go_wp2_with (first
    | (go_at_call 64; ((with_reducible refine (clone_any A1 n1 c1 p.opt _ x1).mono ?_); rintro e w2 ⟨A4, c4, rfl, ho4, hB2⟩); have s2 := hB2.size; have T2 := below_then R1 hB2)
    | (go_at_call 91; ((with_reducible refine (hc2 _ T2).mono ?_); rintro e w3 ⟨A6, n6, c6, rfl, ho6, hB3⟩); have u6 : n6 = nd := (by rw [← ho6.len]; exact HD.out); subst u6; have P3 := (P1.below hB2).below hB3; have pc3 := P3.cell; have Z3 := (Z1.below hB2).below hB3; have O4 := ho4.below hB3; (obtain ⟨w5, hw5, S5⟩ := store478 P3 (.int .u8 pr) (.slice A4 n1 c4) (.slice A6 n6 c6)); have pc5 := S5.blk.cell; have T5 := S5.bel (below_then T2 hB3) (by omega); have Z5 := S5.other (by omega) Z3; have zc5 := Z5.cell; have O5 := S5.own O4 (fun a e => by have := O4.ge a e; have := P1.lt; omega); have D5 := S5.own ho6 (fun a e => by have := ho6.ge a e; have := P1.lt; omega))
    | (go_at_call 97; ((with_reducible refine (right_any { p with proto := pr, dat := d } A4 n1 c4 A6 n6 c6 w5 O5.bs D5.bs).mono ?_); rintro e w6 ⟨he6, hB6⟩); rw [HR.out] at he6; subst he6; have pc6 := (S5.blk.below hB6).cell; have Z6 := Z5.below hB6; have zc6 := Z6.cell; have T6 := below_then T5 hB6))
    obtain ⟨wf, hwf, Sf⟩ := store9 Z6 (.int .u8 0) (.int .u16 0) (.bool false) (.int .u8 0) (.int .u8 0) (.int .u32 0) (.int .u32 0) (.slice none 0 0) (.slice none 0 0)
    rw [hwf]
    have pf := Sf.blk.cell
    exact bodyPost_ret (by simp [results, Try.results86, go_sem, pf]) rfl (wiPost_no (Sf.bel T6 (by omega)))
theorem with_ok (p : Pkt) (A1 : Option Addr) (n1 c1 : Nat) (A2 : Option Addr) (n2 c2 : Nat) (pr : Int) (lv : Value) (d : List UInt8) (nd : Nat) (hd : d.length = nd) (w : World) (k1 : Bs w A1 n1 c1 p.opt) (hcc : isCat lv d w) (b3 : nd ≤ 200000000000000)
    (h1 : (n1 : Int) ≤ 40) (h2 : ((n1 : Int) % 4 != 0) = false) (h3 : rightP { p with proto := pr, dat := d } = true) :
    Calls Try.prog 86 #[(.agg #[.int .u8 (p).tos, .int .u16 (p).id, .bool (p).keep, .int .u8 (p).ttl, .int .u8 (p).proto, .int .u32 (p).src, .int .u32 (p).dst, .slice A1 n1 c1, .slice A2 n2 c2]), .int .u8 pr, lv] w (WiPost w { p with proto := pr, dat := d } 0) := by
  have b1 := k1.max
  have HD := Lib.hid hd
  have hc2 : ∀ W, Below w.heap.size w W → Calls Try.prog 91 #[lv] W fun e w' => ∃ A n c, e = .returned (.slice A n c) ∧ Own w' W.heap.size 5 A n c d ∧ Below W.heap.size W w' := hcc
  clear hd hcc
  obtain ⟨k, hk⟩ : ∃ k : Nat, w.heap.size = k := ⟨_, rfl⟩
  obtain ⟨w1, hw1⟩ : ∃ w1, (w.alloc (.cells #[.int .u8 (p).tos, .int .u16 (p).id, .bool (p).keep, .int .u8 (p).ttl, .int .u8 (p).proto, .int .u32 (p).src, .int .u32 (p).dst, .slice A1 n1 c1, .slice A2 n2 c2] 26)).alloc (.cells #[.int .u8 0, .int .u16 0, .bool false, .int .u8 0, .int .u8 0, .int .u32 0, .int .u32 0, .slice none 0 0, .slice none 0 0] 26) = w1 := ⟨_, rfl⟩
  have P1 : Blk w1 k #[.int .u8 (p).tos, .int .u16 (p).id, .bool (p).keep, .int .u8 (p).ttl, .int .u8 (p).proto, .int .u32 (p).src, .int .u32 (p).dst, .slice A1 n1 c1, .slice A2 n2 c2] 26 := by rw [← hw1]; exact (blk_new w _ _ k hk).alloc _
  have Z1 : Blk w1 (k + 1) #[.int .u8 0, .int .u16 0, .bool false, .int .u8 0, .int .u8 0, .int .u32 0, .int .u32 0, .slice none 0 0, .slice none 0 0] 26 := by rw [← hw1]; exact blk_new _ _ _ (k + 1) (by simp [hk])
  have R1 : Below w.heap.size w w1 := by rw [← hw1]; (repeat (first | with_reducible exact Below.refl _ _ | with_reducible refine below_drew ?_ | with_reducible refine below_drewN ?_ _ | with_reducible refine below_alloc ?_ (Nat.le_refl _) _ | with_reducible refine Below.setCell ?_ (by first | exact Nat.le_refl _ | (simp only []; omega)) _ | with_reducible assumption))
  have x1 := k1.below R1
  have pc := P1.cell
  go_enter Try.func86, Try.ntmps86
  have HR := Lib.hid h3
  clear h3
  go_wp2_with (first
    | (go_at_call 64; ((with_reducible refine (clone_any A1 n1 c1 p.opt _ x1).mono ?_); rintro e w2 ⟨A4, c4, rfl, ho4, hB2⟩); have s2 := hB2.size; have T2 := below_then R1 hB2)
    | (go_at_call 91; ((with_reducible refine (hc2 _ T2).mono ?_); rintro e w3 ⟨A6, n6, c6, rfl, ho6, hB3⟩); have u6 : n6 = nd := (by rw [← ho6.len]; exact HD.out); subst u6; have P3 := (P1.below hB2).below hB3; have pc3 := P3.cell; have Z3 := (Z1.below hB2).below hB3; have O4 := ho4.below hB3; (obtain ⟨w5, hw5, S5⟩ := store478 P3 (.int .u8 pr) (.slice A4 n1 c4) (.slice A6 n6 c6)); have pc5 := S5.blk.cell; have T5 := S5.bel (below_then T2 hB3) (by omega); have Z5 := S5.other (by omega) Z3; have zc5 := Z5.cell; have O5 := S5.own O4 (fun a e => by have := O4.ge a e; have := P1.lt; omega); have D5 := S5.own ho6 (fun a e => by have := ho6.ge a e; have := P1.lt; omega))
    | (go_at_call 97; ((with_reducible refine (right_any { p with proto := pr, dat := d } A4 n1 c4 A6 n6 c6 w5 O5.bs D5.bs).mono ?_); rintro e w6 ⟨he6, hB6⟩); rw [HR.out] at he6; subst he6; have pc6 := (S5.blk.below hB6).cell; have Z6 := Z5.below hB6; have zc6 := Z6.cell; have T6 := below_then T5 hB6))
  obtain ⟨wf, hwf, Sf⟩ := store9 Z6 (.int .u8 p.tos) (.int .u16 p.id) (.bool p.keep) (.int .u8 p.ttl) (.int .u8 pr) (.int .u32 p.src) (.int .u32 p.dst) (.slice A4 n1 c4) (.slice A6 n6 c6)
  rw [hwf]
  have pf := Sf.blk.cell
  have zl := Z1.lt
  have O6 := O5.below hB6
  have D6 := D5.below hB6
  have Of := Sf.own O6 (fun a e => by have := O6.ge a e; omega)
  have Df := Sf.own D6 (fun a e => by have := D6.ge a e; omega)
  have r1 := R1.size
  refine bodyPost_ret (v := .tuple #[.agg #[.int .u8 p.tos, .int .u16 p.id, .bool p.keep, .int .u8 p.ttl, .int .u8 pr, .int .u32 p.src, .int .u32 p.dst, .slice A4 n1 c4, .slice A6 n6 c6], .int .i64 0]) (by simp [results, Try.results86, go_sem, pf]) rfl ⟨A4, n1, c4, A6, n6, c6, rfl, Of.mono (by omega), Df.mono (by omega), Sf.bel T6 (by omega)⟩
theorem with_any (p : Pkt) (A1 : Option Addr) (n1 c1 : Nat) (A2 : Option Addr) (n2 c2 : Nat) (pr : Int) (lv : Value) (d : List UInt8) (w : World) (k1 : Bs w A1 n1 c1 p.opt) (hcc : isCat lv d w) (b3 : d.length ≤ 200000000000000) :
    Calls Try.prog 86 #[(.agg #[.int .u8 (p).tos, .int .u16 (p).id, .bool (p).keep, .int .u8 (p).ttl, .int .u8 (p).proto, .int .u32 (p).src, .int .u32 (p).dst, .slice A1 n1 c1, .slice A2 n2 c2]), .int .u8 pr, lv] w (WiPost w (withP p pr d) (wiE p d.length)) := by
  have l1 := k1.len
  unfold withP
  by_cases h1 : (n1 : Int) ≤ 40
  · by_cases h2 : n1 % 4 = 0
    · by_cases h3 : 20 + (n1 : Int) + (d.length : Int) ≤ 65535
      · rw [wiE_0 l1 h1 h2 h3, if_pos rfl]
        exact with_ok p A1 n1 c1 A2 n2 c2 pr lv d d.length rfl w k1 hcc b3 h1 (m4_no h2) (by unfold rightP; simp [l1]; omega)
      · rw [wiE_8 l1 h1 h2 (by omega), if_neg (by decide)]
        exact with_no [] p A1 n1 c1 A2 n2 c2 pr lv d d.length rfl w k1 hcc b3 8 (.inr (.inr ⟨rfl, h1, m4_no h2, by unfold rightP; simp [l1]; omega⟩))
    · rw [wiE_4 l1 (.inr h2), if_neg (by decide)]
      exact with_no [] p A1 n1 c1 A2 n2 c2 pr lv d d.length rfl w k1 hcc b3 4 (.inr (.inl ⟨rfl, h1, m4_yes h2⟩))
  · rw [wiE_4 l1 (.inl (by omega)), if_neg (by decide)]
    exact with_no [] p A1 n1 c1 A2 n2 c2 pr lv d d.length rfl w k1 hcc b3 4 (.inl ⟨rfl, by omega⟩)
/-- A packet and an error; a packet: with rows of the call's own. -/
def isTup (B : Nat) (P : Pkt) (E : Int) : World → Value → Prop := fun W v => ∃ C1 e1 f1 C2 e2 f2, v = .tuple #[(.agg #[.int .u8 (P).tos, .int .u16 (P).id, .bool (P).keep, .int .u8 (P).ttl, .int .u8 (P).proto, .int .u32 (P).src, .int .u32 (P).dst, .slice C1 e1 f1, .slice C2 e2 f2]), .int .i64 E] ∧ Own W B 5 C1 e1 f1 P.opt ∧ Own W B 5 C2 e2 f2 P.dat
theorem st_isTup {B : Nat} {P : Pkt} {E : Int} : ∀ w w' v, isTup B P E w v → Below w.heap.size w w' → isTup B P E w' v := fun _ _ _ ⟨A, b, c, d, e, f, h, k, l⟩ hb => ⟨A, b, c, d, e, f, h, k.below hb, l.below hb⟩
def isPk (B : Nat) (P : Pkt) : World → Value → Prop := fun W v => ∃ C1 e1 f1 C2 e2 f2, v = (.agg #[.int .u8 (P).tos, .int .u16 (P).id, .bool (P).keep, .int .u8 (P).ttl, .int .u8 (P).proto, .int .u32 (P).src, .int .u32 (P).dst, .slice C1 e1 f1, .slice C2 e2 f2]) ∧ Own W B 5 C1 e1 f1 P.opt ∧ Own W B 5 C2 e2 f2 P.dat
theorem st_isPk {B : Nat} {P : Pkt} : ∀ w w' v, isPk B P w v → Below w.heap.size w w' → isPk B P w' v := fun _ _ _ ⟨A, b, c, d, e, f, h, k, l⟩ hb => ⟨A, b, c, d, e, f, h, k.below hb, l.below hb⟩
theorem goes_pk {B : Nat} {P : Pkt} {C1 C2 : Option Addr} {e1 f1 e2 f2 : Nat} {w : World} (h1 : Own w B 5 C1 e1 f1 P.opt) (h2 : Own w B 5 C2 e2 f2 P.dat) :
    OpGoes Try.prog (fun v w' => (Kd.p (isPk B P)).holds w' v ∧ Below w.heap.size w w') (.ok (.value (.agg #[.int .u8 (P).tos, .int .u16 (P).id, .bool (P).keep, .int .u8 (P).ttl, .int .u8 (P).proto, .int .u32 (P).src, .int .u32 (P).dst, .slice C1 e1 f1, .slice C2 e2 f2])) w) := ⟨⟨_, _, _, _, _, _, rfl, h1, h2⟩, Below.refl _ _⟩
theorem ret_tup {B : Nat} {P : Pkt} {E : Int} {C1 C2 : Option Addr} {e1 f1 e2 f2 : Nat} {w w' : World} (h1 : Own w' B 5 C1 e1 f1 P.opt) (h2 : Own w' B 5 C2 e2 f2 P.dat) (hB : Below w.heap.size w w') :
    ∃ v, Ending.returned (.tuple #[(.agg #[.int .u8 (P).tos, .int .u16 (P).id, .bool (P).keep, .int .u8 (P).ttl, .int .u8 (P).proto, .int .u32 (P).src, .int .u32 (P).dst, .slice C1 e1 f1, .slice C2 e2 f2]), .int .i64 E]) = .returned v ∧ (Kd.p (isTup B P E)).holds w' v ∧ Below w.heap.size w w' := ⟨_, rfl, ⟨_, _, _, _, _, _, rfl, h1, h2⟩, hB⟩
end Go.Proofs.Ythgoffbfgdgkpaa

/- Sums of packets' data, the packet with other data. -/
namespace Go.Proofs.Ythgoffbfgdgkpaa
open Go.RowKit
set_option linter.unusedVariables false
set_option linter.unusedSimpArgs false
set_option linter.unusedSimpArgs false
set_option maxHeartbeats 4000000
set_option maxRecDepth 100000

structure isC (L : List UInt8) (W : World) (v : Value) : Prop where
  out : ∀ W', Below W.heap.size W W' → Calls Try.prog 91 #[v] W' fun e w' => ∃ A n c, e = .returned (.slice A n c) ∧ Own w' W'.heap.size 5 A n c L ∧ Below W'.heap.size W' w'
theorem st_isC {L : List UInt8} : ∀ w w' v, isC L w v → Below w.heap.size w w' → isC L w' v := fun w w' v h hb => ⟨fun W hB => h.out W (below_then hb hB)⟩
theorem isCat3 {W0 : World} {g n1 c1 n2 c2 n3 c3 cc : Nat} {A1 A2 A3 : Option Addr} {l1 l2 l3 : List UInt8} {T : TypeId} (G : Blk W0 g #[.slice A1 n1 c1, .slice A2 n2 c2, .slice A3 n3 c3] T) (k1 : Bs W0 A1 n1 c1 l1) (k2 : Bs W0 A2 n2 c2 l2) (k3 : Bs W0 A3 n3 c3 l3) (h : n1 + n2 + n3 ≤ 200000000000000) :
    isCat (.slice (some ⟨g, 0, none⟩) 3 cc) (l1 ++ l2 ++ l3) W0 := by
  intro W hB
  have G' := G.below hB
  have gc := G'.cell.1
  have := concat_any g 3 cc (fun j => if j = 0 then A1 else if j = 1 then A2 else A3) (fun j => if j = 0 then n1 else if j = 1 then n2 else n3) (fun j => if j = 0 then c1 else if j = 1 then c2 else c3) (fun j => if j = 0 then l1 else if j = 1 then l2 else l3) (by omega) W G'.lt (fun j hj => by
      rw [gc]
      have : j = 0 ∨ j = 1 ∨ j = 2 := by omega
      rcases this with rfl | rfl | rfl <;> rfl) (fun j hj => by
      have : j = 0 ∨ j = 1 ∨ j = 2 := by omega
      rcases this with rfl | rfl | rfl
      · exact k1.below hB
      · exact k2.below hB
      · exact k3.below hB) (by simp [catN]; omega)
  exact this
theorem isCat2' {W0 : World} {g n1 c1 n2 c2 cc : Nat} {A1 A2 : Option Addr} {l1 l2 : List UInt8} {T : TypeId} (G : Blk W0 g #[.slice A1 n1 c1, .slice A2 n2 c2] T) (k1 : Bs W0 A1 n1 c1 l1) (k2 : Bs W0 A2 n2 c2 l2) (h : n1 + n2 ≤ 200000000000000) :
    isCat (.slice (some ⟨g, 0, none⟩) 2 cc) (l1 ++ l2) W0 := by
  intro W hB
  have G' := G.below hB
  have gc := G'.cell.1
  have := concat_any g 2 cc (fun j => if j = 0 then A1 else A2) (fun j => if j = 0 then n1 else n2) (fun j => if j = 0 then c1 else c2) (fun j => if j = 0 then l1 else l2) (by omega) W G'.lt (fun j hj => by
      rw [gc]
      have : j = 0 ∨ j = 1 := by omega
      rcases this with rfl | rfl <;> rfl) (fun j hj => by
      have : j = 0 ∨ j = 1 := by omega
      rcases this with rfl | rfl
      · exact k1.below hB
      · exact k2.below hB) (by simp [catN]; omega)
  exact this
theorem goes_cat3 {W : World} {n1 c1 n2 c2 n3 c3 : Nat} {A1 A2 A3 : Option Addr} {l1 l2 l3 : List UInt8} {T : TypeId} (k1 : Bs W A1 n1 c1 l1) (k2 : Bs W A2 n2 c2 l2) (k3 : Bs W A3 n3 c3 l3) (h : n1 + n2 + n3 ≤ 200000000000000) :
    OpGoes Try.prog (fun v w' => (Kd.p (isC (l1 ++ (l2 ++ l3)))).holds w' v ∧ Below W.heap.size W w') (.ok (.value (.slice (some ⟨W.heap.size, 0, none⟩) 3 3)) (W.alloc (.cells #[.slice A1 n1 c1, .slice A2 n2 c2, .slice A3 n3 c3] T))) :=
  ⟨⟨by rw [← List.append_assoc]; exact isCat3 (blk_new W _ T _ rfl) (k1.alloc _) (k2.alloc _) (k3.alloc _) h⟩, (Below.refl _ W).alloc (Nat.le_refl _) _⟩
theorem goes_mkb {W : World} {z : Nat} (hz : z ≤ 200000000000000) :
    OpGoes Try.prog (fun v w' => (Kd.b z (zs z)).holds w' v ∧ Below W.heap.size W w') (.ok (.value (.slice (some ⟨W.heap.size, 0, none⟩) z z)) (W.alloc (.cells (cu (zs z)).toArray 5))) :=
  ⟨⟨_, _, rfl, bs_lit (zs z) z (zs_length z) hz⟩, (Below.refl _ W).alloc (Nat.le_refl _) _⟩
theorem psum_more (p : Pkt) (pr : Int) (b : List UInt8) (k : Nat) : csum (pseudo p.src p.dst pr b.length ++ b ++ zs k) = psum p pr b := by rw [csum_behind]; rfl
theorem fits_any (p : Pkt) (hp : p.Ok) (A1 : Option Addr) (n1 c1 : Nat) (A2 : Option Addr) (n2 c2 : Nat) (pr : Int) (p0 : 0 ≤ pr) (p1 : pr ≤ 255) (w : World) (k2 : Bs w A2 n2 c2 p.dat) (hn2 : n2 ≤ 140737488400000) :
    Calls Try.prog 80 #[(.agg #[.int .u8 (p).tos, .int .u16 (p).id, .bool (p).keep, .int .u8 (p).ttl, .int .u8 (p).proto, .int .u32 (p).src, .int .u32 (p).dst, .slice A1 n1 c1, .slice A2 n2 c2]), .int .u8 pr] w fun e w' => e = .returned (.bool (psum p pr p.dat == 0)) ∧ Below w.heap.size w w' := by
  have l2 := k2.len
  have HS : Hid (csum (pseudo p.src p.dst pr n2 ++ (p.dat ++ zs (n2 % 2))) = psum p pr p.dat) := by unfold Hid; rw [← l2, ← List.append_assoc]; exact psum_more p pr p.dat _
  obtain ⟨-, -, -, -, ⟨o5, o5'⟩, ⟨o6, o6'⟩⟩ := hp
  have hrem : ((n2 : Int)).tmod 2 = ((n2 % 2 : Nat) : Int) := by rw [Int.tmod_eq_emod_of_nonneg (by omega)]; omega
  obtain ⟨z, hz⟩ : ∃ z : Nat, n2 % 2 = z := ⟨_, rfl⟩
  rw [hz] at hrem HS
  have hz1 : z ≤ 1 := by omega
  have hmk : ∀ W, (Instr.makeSlice 24 (.int .i64 (z : Int)) (.int .i64 (z : Int))).run Try.prog W = .ok (.slice (some ⟨W.heap.size, 0, none⟩) z z) (W.alloc (.cells (cu (zs z)).toArray 5)) := fun W => by
    obtain ⟨i, hi, hz', hs, hb⟩ := info_parts info_u8
    have hr := run_make (P := Try.prog) W 24 5 i (.int .u8 0) Try.underlying24 hi hz' .i64 .i64 z z (by omega) (by omega) (by rw [hb]; omega) (by omega)
    simp only [hs, Nat.mul_one] at hr
    rw [hr, cu_zs]
    rfl
  clear l2 hz
  obtain ⟨k, hk⟩ : ∃ k : Nat, w.heap.size = k := ⟨_, rfl⟩
  obtain ⟨w1, hw1⟩ : ∃ W, (w.alloc (.cells #[.int .u8 (p).tos, .int .u16 (p).id, .bool (p).keep, .int .u8 (p).ttl, .int .u8 (p).proto, .int .u32 (p).src, .int .u32 (p).dst, .slice A1 n1 c1, .slice A2 n2 c2] 26)) = W := ⟨_, rfl⟩
  have P1 : Blk w1 k #[.int .u8 (p).tos, .int .u16 (p).id, .bool (p).keep, .int .u8 (p).ttl, .int .u8 (p).proto, .int .u32 (p).src, .int .u32 (p).dst, .slice A1 n1 c1, .slice A2 n2 c2] 26 := by rw [← hw1]; exact (blk_new _ _ _ k (by simp [hk]))
  have R1 : Below w.heap.size w w1 := by rw [← hw1]; (repeat (first | with_reducible exact Below.refl _ _ | with_reducible refine below_drew ?_ | with_reducible refine below_drewN ?_ _ | with_reducible refine below_alloc ?_ (Nat.le_refl _) _ | with_reducible refine Below.setCell ?_ (by first | exact Nat.le_refl _ | (simp only []; omega)) _ | with_reducible assumption))
  have Pc1 := P1.cell
  have Pl1 := P1.lt
  have x1 := (k2).below R1
  clear k2
  go_enter Try.func80, Try.ntmps80
  go_wp2_with fail
  refine region_txt 19 (by kernel_rfl) (by kernel_rfl) ?_; (iterate 19 (first | (apply ObsK.skip (by rfl)) | (apply ObsK.v (by rfl); (intro wo hT; (repeat (first | (intro v hv; ((first | (obtain ⟨A7, n7, c7, rfl, o7⟩ := hv; have ob7 := o7.bs) | (have hcat := hv.out)))) | (intro _ _ k; try have hcv := cv k))); (have pc := (P1.below hT).cell; have xo := x1.below hT; have hsz : w1.heap.size ≤ wo.heap.size := hT.size); refine Goes.mk ?_; go_simp; first | exact goes_v | exact goes_b (by assumption) | (first | exact goes_mkb (by omega) | exact goes_cat3 (by assumption) (by assumption) (by assumption) (by omega)) | (refine goes_enter ?_; first | (go_at_call 92; ((with_reducible refine (pseudo_any p.src p.dst pr n2 o5 o5' o6 o6' p0 p1 (by omega) (by omega) wo).mono ?_); rintro e w9 ⟨A9, c9, rfl, ho9, hB9⟩); exact ret_b ho9.bs hB9) | (go_at_call 91; ((with_reducible refine (hcat wo (Below.refl _ _)).mono ?_); rintro e w9 ⟨A9, n9, c9, rfl, ho9, hB9⟩); exact ret_p (own_isW ho9 hsz) hB9) | (go_at_call 62; ((with_reducible refine (good_any A7 n7 c7 _ wo ob7).mono ?_); rintro e w9 ⟨rfl, hB9⟩); exact ret_v hB9)))) | (apply ObsK.b (by rfl); (intro wo hT; (repeat (first | (intro v hv; ((first | (obtain ⟨A7, n7, c7, rfl, o7⟩ := hv; have ob7 := o7.bs) | (have hcat := hv.out)))) | (intro _ _ k; try have hcv := cv k))); (have pc := (P1.below hT).cell; have xo := x1.below hT; have hsz : w1.heap.size ≤ wo.heap.size := hT.size); refine Goes.mk ?_; go_simp; first | exact goes_v | exact goes_b (by assumption) | (first | exact goes_mkb (by omega) | exact goes_cat3 (by assumption) (by assumption) (by assumption) (by omega)) | (refine goes_enter ?_; first | (go_at_call 92; ((with_reducible refine (pseudo_any p.src p.dst pr n2 o5 o5' o6 o6' p0 p1 (by omega) (by omega) wo).mono ?_); rintro e w9 ⟨A9, c9, rfl, ho9, hB9⟩); exact ret_b ho9.bs hB9) | (go_at_call 91; ((with_reducible refine (hcat wo (Below.refl _ _)).mono ?_); rintro e w9 ⟨A9, n9, c9, rfl, ho9, hB9⟩); exact ret_p (own_isW ho9 hsz) hB9) | (go_at_call 62; ((with_reducible refine (good_any A7 n7 c7 _ wo ob7).mono ?_); rintro e w9 ⟨rfl, hB9⟩); exact ret_v hB9)))) | (apply ObsK.p (q := isC (pseudo p.src p.dst pr n2 ++ (p.dat ++ zs z))) (by rfl) st_isC; (intro wo hT; (repeat (first | (intro v hv; ((first | (obtain ⟨A7, n7, c7, rfl, o7⟩ := hv; have ob7 := o7.bs) | (have hcat := hv.out)))) | (intro _ _ k; try have hcv := cv k))); (have pc := (P1.below hT).cell; have xo := x1.below hT; have hsz : w1.heap.size ≤ wo.heap.size := hT.size); refine Goes.mk ?_; go_simp; first | exact goes_v | exact goes_b (by assumption) | (first | exact goes_mkb (by omega) | exact goes_cat3 (by assumption) (by assumption) (by assumption) (by omega)) | (refine goes_enter ?_; first | (go_at_call 92; ((with_reducible refine (pseudo_any p.src p.dst pr n2 o5 o5' o6 o6' p0 p1 (by omega) (by omega) wo).mono ?_); rintro e w9 ⟨A9, c9, rfl, ho9, hB9⟩); exact ret_b ho9.bs hB9) | (go_at_call 91; ((with_reducible refine (hcat wo (Below.refl _ _)).mono ?_); rintro e w9 ⟨A9, n9, c9, rfl, ho9, hB9⟩); exact ret_p (own_isW ho9 hsz) hB9) | (go_at_call 62; ((with_reducible refine (good_any A7 n7 c7 _ wo ob7).mono ?_); rintro e w9 ⟨rfl, hB9⟩); exact ret_v hB9)))) | (apply ObsK.p (q := isW w1.heap.size (pseudo p.src p.dst pr n2 ++ (p.dat ++ zs z))) (by rfl) st_isW; (intro wo hT; (repeat (first | (intro v hv; ((first | (obtain ⟨A7, n7, c7, rfl, o7⟩ := hv; have ob7 := o7.bs) | (have hcat := hv.out)))) | (intro _ _ k; try have hcv := cv k))); (have pc := (P1.below hT).cell; have xo := x1.below hT; have hsz : w1.heap.size ≤ wo.heap.size := hT.size); refine Goes.mk ?_; go_simp; first | exact goes_v | exact goes_b (by assumption) | (first | exact goes_mkb (by omega) | exact goes_cat3 (by assumption) (by assumption) (by assumption) (by omega)) | (refine goes_enter ?_; first | (go_at_call 92; ((with_reducible refine (pseudo_any p.src p.dst pr n2 o5 o5' o6 o6' p0 p1 (by omega) (by omega) wo).mono ?_); rintro e w9 ⟨A9, c9, rfl, ho9, hB9⟩); exact ret_b ho9.bs hB9) | (go_at_call 91; ((with_reducible refine (hcat wo (Below.refl _ _)).mono ?_); rintro e w9 ⟨A9, n9, c9, rfl, ho9, hB9⟩); exact ret_p (own_isW ho9 hsz) hB9) | (go_at_call 62; ((with_reducible refine (good_any A7 n7 c7 _ wo ob7).mono ?_); rintro e w9 ⟨rfl, hB9⟩); exact ret_v hB9)))))); refine ObsK.nil ?_; intro wz hBz; simp only [finOn, List.drop_succ_cons, List.drop_zero, List.drop_nil]
  rintro v7 ⟨A7, n7, c7, rfl, o7⟩ v8 hv8 A5 c5 k5 A6 c6 k6
  go_simp
  go_wp2_with fail
  go_ret
  exact ⟨congrArg (fun z => Ending.returned (.bool (z == 0))) HS.out, below_then R1 hBz⟩
theorem rssum_any (p : Pkt) (hp : p.Ok) (A1 : Option Addr) (n1 c1 : Nat) (A2 : Option Addr) (n2 c2 : Nat) (pr : Int) (p0 : 0 ≤ pr) (p1 : pr ≤ 255) (A3 : Option Addr) (n3 c3 : Nat) (b : List UInt8) (w : World) (k3 : Bs w A3 n3 c3 b) (hn3 : n3 ≤ 17592186044400) :
    Calls Try.prog 39 #[(.agg #[.int .u8 (p).tos, .int .u16 (p).id, .bool (p).keep, .int .u8 (p).ttl, .int .u8 (p).proto, .int .u32 (p).src, .int .u32 (p).dst, .slice A1 n1 c1, .slice A2 n2 c2]), .int .u8 pr, .slice A3 n3 c3] w fun e w' => e = .returned (.int .u16 (psum p pr b)) ∧ Below w.heap.size w w' := by
  have l3 := k3.len
  have HS : Hid (csum (pseudo p.src p.dst pr n3 ++ b) = psum p pr b) := by unfold Hid psum; rw [l3]
  obtain ⟨-, -, -, -, ⟨o5, o5'⟩, ⟨o6, o6'⟩⟩ := hp
  clear l3
  obtain ⟨k, hk⟩ : ∃ k : Nat, w.heap.size = k := ⟨_, rfl⟩
  obtain ⟨w1, hw1⟩ : ∃ W, (w.alloc (.cells #[.int .u8 (p).tos, .int .u16 (p).id, .bool (p).keep, .int .u8 (p).ttl, .int .u8 (p).proto, .int .u32 (p).src, .int .u32 (p).dst, .slice A1 n1 c1, .slice A2 n2 c2] 26)) = W := ⟨_, rfl⟩
  have P1 : Blk w1 k #[.int .u8 (p).tos, .int .u16 (p).id, .bool (p).keep, .int .u8 (p).ttl, .int .u8 (p).proto, .int .u32 (p).src, .int .u32 (p).dst, .slice A1 n1 c1, .slice A2 n2 c2] 26 := by rw [← hw1]; exact (blk_new _ _ _ k (by simp [hk]))
  have R1 : Below w.heap.size w w1 := by rw [← hw1]; (repeat (first | with_reducible exact Below.refl _ _ | with_reducible refine below_drew ?_ | with_reducible refine below_drewN ?_ _ | with_reducible refine below_alloc ?_ (Nat.le_refl _) _ | with_reducible refine Below.setCell ?_ (by first | exact Nat.le_refl _ | (simp only []; omega)) _ | with_reducible assumption))
  have Pc1 := P1.cell
  have Pl1 := P1.lt
  have x1 := (k3).below R1
  clear k3
  go_enter Try.func39, Try.ntmps39
  go_wp2_with (first
    | (go_at_call 59; ((with_reducible refine (rpseudo_any p.src p.dst pr n3 o5 o5' o6 o6' p0 p1 (by omega) (by omega) _).mono ?_); rintro e w2 ⟨A2, c2, rfl, o2, hB2⟩); have y2 := o2; have P2 := P1.below hB2; have Pc2 := P2.cell; clear Pc1; have x2 := x1.below hB2; have R2 := below_then R1 hB2)
    | (at_builtin; refine wpList_append_bs (w0 := w1) _ rfl _ _ _ rfl w1.heap.size 5 Try.underlying24 info_u8 A2 12 c2 _ rfl y2 A3 n3 c3 b rfl x2 hB2 (by omega) (by first | exact Nat.le_refl _ | exact Below.size hB2 | omega | (simp <;> omega)) ?_; intro A9 n9 c9 w9 ho9 hB9 _ hz9; have u9 : n9 = 12 + n3 := (by have := ho9.len; have := x2.len; simp [pseudo, four, two] at *; omega); subst u9)
    | (go_at_call 40; ((with_reducible refine (rsum_any A9 (12 + n3) c9 _ (by omega) _ ho9.bs).mono ?_); rintro e w4 ⟨rfl, hB4⟩)))
  go_ret
  exact ⟨congrArg (fun z => Ending.returned (.int .u16 z)) HS.out, below_then (below_then R1 hB9) hB4⟩
/-- The packet with these bytes, not copied. -/
structure SwPost (w : World) (p : Pkt) (pr : Int) (A3 : Option Addr) (n3 c3 : Nat) (e : Ending) (w' : World) : Prop where
  out : ∃ A4 n4 c4, e = .returned (.tuple #[.agg #[.int .u8 p.tos, .int .u16 p.id, .bool p.keep, .int .u8 p.ttl, .int .u8 pr, .int .u32 p.src, .int .u32 p.dst, .slice A4 n4 c4, .slice A3 n3 c3], .int .i64 0]) ∧ Own w' w.heap.size 5 A4 n4 c4 p.opt ∧ Below w.heap.size w w'
end Go.Proofs.Ythgoffbfgdgkpaa

/- A packet's segment, parsed by the program. -/
namespace Go.Proofs.Ythgoffbfgdgkpaa
open Go.RowKit Go.Shelf
attribute [local go_sem] Oper.semAt_some jump_normal jump_exit jump_ret jump_panic jump_goto
set_option linter.unusedVariables false
set_option linter.unusedSimpArgs false
set_option maxHeartbeats 8000000
set_option maxRecDepth 100000

structure TcPost (w : World) (s : Seg) (E : Int) (e : Ending) (w' : World) : Prop where
  out : ∃ OA on oc DA dn dc, e = .returned (.tuple #[(.agg #[.int .u16 (s).src, .int .u16 (s).dst, .int .u32 (s).seq, .int .u32 (s).ack, .int .u8 (s).flags, .int .u16 (s).win, .int .u16 (s).urg, .slice OA on oc, .slice DA dn dc]), .int .i64 E]) ∧ OsO w' w.heap.size OA on oc s.opts ∧ on ≤ 40 ∧ Own w' w.heap.size 5 DA dn dc s.dat ∧ Below w.heap.size w w'
theorem tcPost_no {w w' : World} {E : Int} (hB : Below w.heap.size w w') : TcPost w zS E (.returned (.tuple #[.agg #[.int .u16 0, .int .u16 0, .int .u32 0, .int .u32 0, .int .u8 0, .int .u16 0, .int .u16 0, .slice none 0 0, .slice none 0 0], .int .i64 E])) w' :=
  ⟨none, 0, 0, none, 0, 0, rfl, osO_nil _ _, by omega, own_nil _ _ _, hB⟩
/-- What holds where the run jumps to 'none'. -/
structure TcJ (w : World) (k : Nat) (E : Int) (a : Act) (W : World) : Prop where
  size : a.tmps.size = 87
  t2 : a.tmps[2]? = some (.pointer (some ⟨k + 1, 0, none⟩))
  t3 : a.tmps[3]? = some (.pointer (some ⟨k + 1 + 1, 0, none⟩))
  s : ∃ c0 c1 c2 c3 c4 c5 c6 c7 c8, Blk W (k + 1) #[c0, c1, c2, c3, c4, c5, c6, c7, c8] 42
  e : Blk W (k + 1 + 1) #[.int .i64 E] 29
  bel : Below w.heap.size w W
  de : a.defers = [] ∨ ∃ D, a.defers = [{ target := .collected D, args := #[] }] ∧ W.heap[D]? = some (.deferred (some [])) ∧ w.heap.size ≤ D
theorem heap_setCell_ne (W : World) (b o : Nat) (v : Value) (D : Nat) (h : b ≠ D) : (W.setCell ⟨b, o, none⟩ v).heap[D]? = W.heap[D]? := by
  simp [World.setCell, Array.getElem?_modify, h]
theorem tcp_no (p : Pkt) (hp : p.Ok) (A1 : Option Addr) (n1 c1 : Nat) (A2 : Option Addr) (n2 c2 : Nat) (w : World) (k2 : Bs w A2 n2 c2 p.dat) (E x q : Int) (hd : Nat) (hx : bt p.dat 12 = x) (hq : x / 16 = q) (hh : q * 4 = (hd : Int))
    (h : (E = 12 ∧ (p.proto != 6) = true) ∨ (E = 3 ∧ (p.proto != 6) = false ∧ (n2 : Int) < 20) ∨ (E = 4 ∧ (p.proto != 6) = false ∧ 20 ≤ (n2 : Int) ∧ (hd : Int) < 20) ∨ (E = 4 ∧ (p.proto != 6) = false ∧ 20 ≤ (n2 : Int) ∧ 20 ≤ (hd : Int) ∧ (x % 16 != 0) = true) ∨
      (E = 3 ∧ (p.proto != 6) = false ∧ 20 ≤ (n2 : Int) ∧ 20 ≤ (hd : Int) ∧ (x % 16 != 0) = false ∧ (n2 : Int) < (hd : Int)) ∨ (E = 5 ∧ (p.proto != 6) = false ∧ 20 ≤ (n2 : Int) ∧ 20 ≤ (hd : Int) ∧ (x % 16 != 0) = false ∧ (hd : Int) ≤ (n2 : Int) ∧ (psum p 6 p.dat == 0) = false ∧ n2 ≤ 140737488400000)) :
    Calls Try.prog 70 #[(.agg #[.int .u8 (p).tos, .int .u16 (p).id, .bool (p).keep, .int .u8 (p).ttl, .int .u8 (p).proto, .int .u32 (p).src, .int .u32 (p).dst, .slice A1 n1 c1, .slice A2 n2 c2])] w (TcPost w zS E) := by
  have b2 := k2.max
  obtain ⟨k, hk⟩ : ∃ k : Nat, w.heap.size = k := ⟨_, rfl⟩
  obtain ⟨w1, hw1⟩ : ∃ W, (((w.alloc (.cells #[.int .u8 (p).tos, .int .u16 (p).id, .bool (p).keep, .int .u8 (p).ttl, .int .u8 (p).proto, .int .u32 (p).src, .int .u32 (p).dst, .slice A1 n1 c1, .slice A2 n2 c2] 26)).alloc (.cells #[.int .u16 0, .int .u16 0, .int .u32 0, .int .u32 0, .int .u8 0, .int .u16 0, .int .u16 0, .slice none 0 0, .slice none 0 0] 42)).alloc (.cells #[.int .i64 0] 29)) = W := ⟨_, rfl⟩
  have P1 : Blk w1 k #[.int .u8 (p).tos, .int .u16 (p).id, .bool (p).keep, .int .u8 (p).ttl, .int .u8 (p).proto, .int .u32 (p).src, .int .u32 (p).dst, .slice A1 n1 c1, .slice A2 n2 c2] 26 := by rw [← hw1]; exact (((blk_new _ _ _ k (by simp [hk])).alloc _).alloc _)
  have S1 : Blk w1 (k + 1) #[.int .u16 0, .int .u16 0, .int .u32 0, .int .u32 0, .int .u8 0, .int .u16 0, .int .u16 0, .slice none 0 0, .slice none 0 0] 42 := by rw [← hw1]; exact ((blk_new _ _ _ (k + 1) (by simp [hk])).alloc _)
  have E1 : Blk w1 (k + 1 + 1) #[.int .i64 0] 29 := by rw [← hw1]; exact (blk_new _ _ _ (k + 1 + 1) (by simp [hk]))
  have R1 : Below w.heap.size w w1 := by rw [← hw1]; (repeat (first | with_reducible exact Below.refl _ _ | with_reducible refine below_drew ?_ | with_reducible refine below_drewN ?_ _ | with_reducible refine below_alloc ?_ (Nat.le_refl _) _ | with_reducible refine Below.setCell ?_ (by first | exact Nat.le_refl _ | (simp only []; omega)) _ | with_reducible assumption))
  have Pc1 := P1.cell
  have Sc1 := S1.cell
  have Ec1 := E1.cell
  have Pl1 := P1.lt
  have Sl1 := S1.lt
  have El1 := E1.lt
  have x1 := (k2).below R1
  refine (callsIn_wide (n := 3)).1 ?_
  refine callsIn_of_wp_marks Try.func70 rfl trivial ?_ rfl
  simp only [Try.ntmps70, List.size_toArray, List.length_cons, List.length_nil, Nat.reduceAdd, Nat.reduceSub, Array.replicate_succ, Array.replicate_zero, List.push_toArray, List.append_toArray, List.nil_append, List.cons_append]
  gi_wp2
  refine wpIn_scope_fwd 0 (TcJ w k E) rfl ?first ?pass
  case pass =>
    rintro a W ⟨hs, h2, h3, ⟨d0, d1, d2, d3, d4, d5, d6, d7, d8, S⟩, Eb, hB, hde⟩
    obtain ⟨f, hf, hfv⟩ := slots hs
    have f2 := hfv 2 _ (by omega) h2
    have f3 := hfv 3 _ (by omega) h3
    obtain ⟨tm, df⟩ := a
    simp only at hf hde
    subst hf
    have sc := S.cell
    have ec := Eb.cell
    simp only [List.range, List.range.loop, List.map_cons, List.map_nil, f2, f3]
    have sl := S.lt
    have el := Eb.lt
    gi_wp2_with gi_region
    obtain ⟨wf, hwf, Sf⟩ := store9 S (.int .u16 0) (.int .u16 0) (.int .u32 0) (.int .u32 0) (.int .u8 0) (.int .u16 0) (.int .u16 0) (.slice none 0 0) (.slice none 0 0)
    rw [hwf]
    have Ef := Sf.other (k := k + 1 + 1) (by omega) Eb
    obtain ⟨wg, hwg, Sg⟩ := store1 Ef 0 (.int .i64 E)
    rw [hwg, Exit.noGoto_ret]
    have Sz := Sg.other (k := k + 1) (by omega) Sf.blk
    have pf := (Sz.drew).cell
    have pg := (Sg.blk.drew).cell
    have Tg := Sg.bel (Sf.bel hB (by omega)) (by omega)
    have hdn : ∀ D : Nat, W.heap[D]? = some (Obj.deferred (some [])) → wg.drew.heap[D]? = some (Obj.deferred (some [])) := fun D h => by
      have e1 : k + 1 ≠ D := fun e => by subst e; have := S.rd; rw [h] at this; cases this
      have e2 : k + 1 + 1 ≠ D := fun e => by subst e; have := Eb.rd; rw [h] at this; cases this
      show wg.heap[D]? = _
      rw [← hwg, ← hwf]
      simp only [heap_setCell_ne _ _ _ _ _ e1, heap_setCell_ne _ _ _ _ _ e2]
      exact h
    rcases hde with rfl | ⟨D, rfl, hD, hge⟩
    · show LeavesInM _ _ _ _ _ _ [] .returning _
      exact ⟨(.tuple #[.agg #[.int .u16 0, .int .u16 0, .int .u32 0, .int .u32 0, .int .u8 0, .int .u16 0, .int .u16 0, .slice none 0 0, .slice none 0 0], .int .i64 E]), by simp [results, Try.results70, go_sem, pf, pg], tcPost_no (below_drew Tg)⟩
    · show LeavesInM _ _ _ _ _ _ _ .returning _
      refine ⟨by simp, .inl ⟨_, _, rfl, run_takeDeferred (hdn D hD), ?_⟩⟩
      have d1 : k + 1 ≠ D := fun e => by subst e; have := S.rd; rw [hD] at this; cases this
      have d2 : k + 1 + 1 ≠ D := fun e => by subst e; have := Eb.rd; rw [hD] at this; cases this
      have pf2 : ∀ j, (wg.drew.putObj D (Obj.deferred none)).cell? ⟨k + 1, j, none⟩ = _ := fun j => (cell_putObj d1 _).trans (pf.1 j)
      have pg2 : ∀ j, (wg.drew.putObj D (Obj.deferred none)).cell? ⟨k + 1 + 1, j, none⟩ = _ := fun j => (cell_putObj d2 _).trans (pg.1 j)
      exact ⟨(.tuple #[.agg #[.int .u16 0, .int .u16 0, .int .u32 0, .int .u32 0, .int .u8 0, .int .u16 0, .int .u16 0, .slice none 0 0, .slice none 0 0], .int .i64 E]), by simp [results, Try.results70, go_sem, pf2, pg2], tcPost_no (below_putObj (below_drew Tg) hge _)⟩
  case first =>
    rcases h with ⟨rfl, h1⟩ | ⟨rfl, h1, h2⟩ | ⟨rfl, h1, h2, h3⟩ | ⟨rfl, h1, h2, h3, h4⟩ | ⟨rfl, h1, h2, h3, h4, h5⟩ | ⟨rfl, h1, h2, h3, h4, h5, h6, h7⟩
    · gi_wp2
      apply wpIn_goto
      have Eg := (E1.set_ 0 (.int .i64 3)).set_ 0 (.int .i64 12)
      exact ⟨rfl, rfl, rfl, rfl, ⟨_, _, _, _, _, _, _, _, _, (S1.far _ (by simp) _).far _ (by simp) _⟩, Eg, (R1.setCell (p := ⟨k + 1 + 1, 0, none⟩) (by simp only []; omega) _).setCell (p := ⟨k + 1 + 1, 0, none⟩) (by simp only []; omega) _, .inl rfl⟩
    · gi_wp2
      apply wpIn_goto
      have Eg := E1.set_ 0 (.int .i64 3)
      exact ⟨rfl, rfl, rfl, rfl, ⟨_, _, _, _, _, _, _, _, _, S1.far _ (by simp) _⟩, Eg, R1.setCell (p := ⟨k + 1 + 1, 0, none⟩) (by simp only []; omega) _, .inl rfl⟩
    · obtain ⟨b, off, rfl, hcs⟩ := x1.rd (by omega)
      have g12 := hcs 12 (by omega)
      have i12 : (12 : Int) < n2 := by omega
      have x0 := bt_lo p.dat 12
      have x255 := bt_hi p.dat 12
      rw [hx] at g12 x0 x255
      have hw1' : IntKind.i64.wrap q = q := by rw [IntKind.wrap_i64]; omega
      have hw2' : IntKind.i64.wrap (hd : Int) = hd := by rw [IntKind.wrap_i64]; omega
      have hand := and_u8_15 x0 x255
      clear hcs hx
      gi_wp2
      apply wpIn_goto
      have Eg := (E1.set_ 0 (.int .i64 3)).set_ 0 (.int .i64 4)
      exact ⟨rfl, rfl, rfl, rfl, ⟨_, _, _, _, _, _, _, _, _, (S1.far _ (by simp) _).far _ (by simp) _⟩, Eg, (R1.setCell (p := ⟨k + 1 + 1, 0, none⟩) (by simp only []; omega) _).setCell (p := ⟨k + 1 + 1, 0, none⟩) (by simp only []; omega) _, .inl rfl⟩
    · obtain ⟨b, off, rfl, hcs⟩ := x1.rd (by omega)
      have g12 := hcs 12 (by omega)
      have i12 : (12 : Int) < n2 := by omega
      have x0 := bt_lo p.dat 12
      have x255 := bt_hi p.dat 12
      rw [hx] at g12 x0 x255
      have hw1' : IntKind.i64.wrap q = q := by rw [IntKind.wrap_i64]; omega
      have hw2' : IntKind.i64.wrap (hd : Int) = hd := by rw [IntKind.wrap_i64]; omega
      have hand := and_u8_15 x0 x255
      clear hcs hx
      gi_wp2
      apply wpIn_goto
      have Eg := (E1.set_ 0 (.int .i64 3)).set_ 0 (.int .i64 4)
      exact ⟨rfl, rfl, rfl, rfl, ⟨_, _, _, _, _, _, _, _, _, (S1.far _ (by simp) _).far _ (by simp) _⟩, Eg, (R1.setCell (p := ⟨k + 1 + 1, 0, none⟩) (by simp only []; omega) _).setCell (p := ⟨k + 1 + 1, 0, none⟩) (by simp only []; omega) _, .inl rfl⟩
    · obtain ⟨b, off, rfl, hcs⟩ := x1.rd (by omega)
      have g12 := hcs 12 (by omega)
      have i12 : (12 : Int) < n2 := by omega
      have x0 := bt_lo p.dat 12
      have x255 := bt_hi p.dat 12
      rw [hx] at g12 x0 x255
      have hw1' : IntKind.i64.wrap q = q := by rw [IntKind.wrap_i64]; omega
      have hw2' : IntKind.i64.wrap (hd : Int) = hd := by rw [IntKind.wrap_i64]; omega
      have hand := and_u8_15 x0 x255
      clear hcs hx
      gi_wp2
      apply wpIn_goto
      have Eg := E1.set_ 0 (.int .i64 3)
      exact ⟨rfl, rfl, rfl, rfl, ⟨_, _, _, _, _, _, _, _, _, S1.far _ (by simp) _⟩, Eg, R1.setCell (p := ⟨k + 1 + 1, 0, none⟩) (by simp only []; omega) _, .inl rfl⟩
    · obtain ⟨b, off, rfl, hcs⟩ := x1.rd (by omega)
      have g12 := hcs 12 (by omega)
      have i12 : (12 : Int) < n2 := by omega
      have x0 := bt_lo p.dat 12
      have x255 := bt_hi p.dat 12
      rw [hx] at g12 x0 x255
      have hw1' : IntKind.i64.wrap q = q := by rw [IntKind.wrap_i64]; omega
      have hw2' : IntKind.i64.wrap (hd : Int) = hd := by rw [IntKind.wrap_i64]; omega
      have hand := and_u8_15 x0 x255
      clear hcs
      obtain ⟨w2, hw2, S2⟩ := store1 E1 0 (.int .i64 3)
      have P2 := S2.other (by omega) P1
      have pc2 := P2.cell
      have SS2 := S2.other (by omega) S1
      have R2 := S2.bel R1 (by omega)
      have x2 := k2.below R2
      have el2 := S2.blk.lt
      have g12b := x2.at_ (j := 12) (by omega)
      rw [hx] at g12b
      clear hx g12
      gi_wp2_with (refine ⟨trivial, ?_⟩; gi_at_call 80; refine (callsIn_wide.2 (fits_any p hp A1 n1 c1 _ n2 c2 6 (by omega) (by omega) w2 x2 h7)).mono ?_; rintro e w3 ⟨he, hB3⟩; (try rw [h6] at he); subst he; have E3 := (S2.blk).below hB3; have ec3 := E3.cell; have el3 := E3.lt)
      apply wpIn_goto
      exact ⟨rfl, rfl, rfl, rfl, ⟨_, _, _, _, _, _, _, _, _, (SS2.below hB3).far _ (by simp) _⟩, E3.set_ 0 (.int .i64 5), (below_then R2 hB3).setCell (p := ⟨k + 1 + 1, 0, none⟩) (by simp only []; omega) _, .inl rfl⟩
end Go.Proofs.Ythgoffbfgdgkpaa

/- An append of a literal inside a fence; the range's law where the round's first step allocates. -/
namespace Go.Proofs.Ythgoffbfgdgkpaa
open Go.RowKit Go.Shelf
set_option linter.unusedVariables false
set_option linter.unusedSimpArgs false

theorem wpListIn_appG {F : Fence} {n₀ : Nat} {P : Program} {ops : Array Oper} {rest : List Oper} {o : Oper} {a : Act} {Q : Exit → Act → World → Prop} {w0 : World} (w : World) (hgd : o.guard = none) (s x : Operand) (t : TypeId) (ho : o.op = .call { callee := .builtin .append, args := #[s, x], argTypes := #[t, t] })
    (base : Nat) (e : TypeId) (i : TypeInfo) (z : Value) (size bytes : Nat) (ht : P.underlying t = some (.slice e)) (hi : P.info? e = some i) (hz : i.zero = some z) (hsize : i.size = size) (hby : i.bytes = bytes) (hzs : z.cells.size = size) (hsz : 0 < size) (hbs : bytes ≤ 64)
    (A : Option Addr) (n c : Nat) (xs : List Value) (hs : a.eval s = .slice A n c) (hown : OwnG w base e size A n c xs) (ad : Addr) (m c2 : Nat) (news : List Value) (hx : a.eval x = .slice (some ad) m c2) (hl : news.length = m * size)
    (hnews : ∀ j u, news[j]? = some u → w.cell? (ad.add j) = some u) (h1 : ∀ u ∈ news, u.oneCell' = true)
    (HB : Below base w0 w) (hmax : n + m ≤ 3000000000000) (hbase : base ≤ w.heap.size)
    (h : ∀ A' c' w', OwnG w' base e size A' (n + m) c' (xs ++ news) → Below base w0 w' → w.grownBy w' (Value.slice A n c).ownBlock → base ≤ w'.heap.size → wpListIn F n₀ P ops Q rest (a.put o.dst (.slice A' (n + m) c')) w') : wpListIn F n₀ P ops Q (o :: rest) a w := by
  refine wpListIn_plain hgd fun K hK' => ?_
  obtain ⟨v', w', hrun, hrow, hg, _⟩ := run_append_own_wide (P := P) w base t o.type e i z size bytes ht hi hz hsize hby hzs hsz (.slice A n c) n xs hown.row ad m c2 news hl hnews h1 (by simp only [maxLen]; omega) (by
      have : ((n + m) + (n + m) / 4 + 192) * bytes ≤ ((n + m) + (n + m) / 4 + 192) * 64 := Nat.mul_le_mul_left _ hbs
      omega) hbase
  have hv : ∃ A' c', v' = .slice A' (n + m) c' := by
    rcases hrow.2 with ⟨hv, h0⟩ | ⟨g, cap, cur, hv, _⟩
    · exact ⟨none, 0, by rw [hv, h0]⟩
    · exact ⟨_, cap, hv⟩
  obtain ⟨A', c', rfl⟩ := hv
  unfold Oper.wpIn
  refine ⟨?_, ?_⟩
  · simp [Oper.about, ho, resolve, Target.leads, Sem.run_pure]
  · rw [Oper.semAt_plain F _ _ (by rw [ho]; intro c hc'; cases hc')]
    simp [execOp, ho, resolve, invoke, builtin, hs, hx, hrun, Result.andThen]
    exact hK' _ _ (h A' c' w' ⟨hrow⟩ (HB.grown hg hbase hown.base_le) hg (Nat.le_trans hbase hg.size))

/-- As range_law; the round's first step may allocate, and what it has done is known (J). -/
theorem range_law2 {α β : Type} {F : Fence} {n : Nat} {P : Program} {g : Operand} {ps : Array Tmp} {assign body : Code} {Q : Exit → Act → World → Prop} {a : Act} {w : World}
    (hro : F.round = none) (h1 : 1 ≤ n) {gf : Nat} {lb : Array Value} (hg : a.eval g = .func (.func gf) #[] lb) (hFg : F.fn gf) (eg : ∀ args w, (callFunc gf args).run P w = .ok (.enter gf args) w)
    (encs : α → Array Value) (hps : ∀ x, (encs x).size = ps.size) (step : β → α → β) (s0 : β) (S : β → Prop)
    (I : β → World → Prop) (Ix : Code → β → World → Prop) (ok : β → α → Prop) (J : β → α → Act → World → Prop)
    (hI : ∀ s W o, o.isCells = false → I s W → I s (W.putObj (w.heap.size + 1) o)) (hIx : ∀ c s W o, o.isCells = false → Ix c s W → Ix c s (W.putObj (w.heap.size + 1) o)) (hJ : ∀ s x a W o, o.isCells = false → J s x a W → J s x a (W.putObj (w.heap.size + 1) o))
    (h0 : ∀ o o', o.isCells = false → o'.isCells = false → I s0 ((w.alloc o).alloc o'))
    (hassign : ∀ (s : β) (x : α) (W : World) (K : Act → World → Prop), ok s x → I s W → w.heap.size + 2 ≤ W.heap.size → (∀ b W', KeepsFrom w.heap.size W W' → J s x b W' → K b W') →
      assign.wpIn (F.inRound (w.heap.size + 1)) (n - 1 - 1) P (Exit.then K (fun _ _ _ => False)) { tmps := (ps.zip (encs x)).foldl (fun t (p, v) => t.setIfInBounds p v) a.tmps, defers := [] } W)
    (hbody : ∀ (s : β) (x : α) (b : Act) (W : World), ok s x → J s x b W → w.heap.size + 2 ≤ W.heap.size → body.wpIn (F.inRound (w.heap.size + 1)) (n - 1 - 1) P (roundEnd w.heap.size I Ix (step s x) W) b W)
    (hiter : ∀ (R : World → Prop) (Rx : Code → World → Prop) (W1 : World), (∀ W W', R W → KeepsFrom w.heap.size W W' → R W') → (∀ W, R W → w.heap.size + 2 ≤ W.heap.size) →
      (∀ s x W, ok s x → I s W → R W → YieldAt F (n - 1 - 1) P (w.heap.size + 1) (encs x) W (roundSaid (step s x) I Ix R Rx)) →
      I s0 W1 → R W1 → w.heap.size + 2 = W1.heap.size → CallsIn F (n - 1) P gf (#[.func (.yield (w.heap.size + 1)) #[] #[]] ++ lb) W1 (iterEnd S I Ix R Rx))
    (hdone : ∀ (s : β) (W : World), S s → I s W → W.heap[w.heap.size]? = some (.deferred (some [])) → Q .normal { a with defers := { target := .collected w.heap.size, args := #[] } :: a.defers } W)
    (hstop : ∀ (c : Code) (s : β) (W : World), Ix c s W → W.heap[w.heap.size]? = some (.deferred (some [])) → c.wpIn F n P Q { a with defers := { target := .collected w.heap.size, args := #[] } :: a.defers } W) :
    (Code.rangeFunc g ps assign body).wpIn F n P Q a w := by
  refine wpIn_rangeFunc fun fn hfn => ?_
  rw [hro]
  obtain ⟨D, hD⟩ : ∃ D, w.heap.size = D := ⟨_, rfl⟩
  obtain ⟨r, hr⟩ : ∃ r : Loop, ({ state := .ready, pending := none, fn, tmps := a.tmps, params := ps, assign, body, defers := D } : Loop) = r := ⟨_, rfl⟩
  have hrun := run_enterLoop_outer (P := P) (w := w) fn a.tmps ps assign body
  rw [hD] at hrun hI hIx hJ hbody hiter hdone hstop hassign
  rw [hr] at hrun
  have hready : ({ r with state := if (none : Option Code).isNone then .ready else .done, pending := none } : Loop) = r := by rw [← hr]; rfl
  obtain ⟨W1, hW1⟩ : ∃ W1, (w.alloc (.deferred (some []))).alloc (.loop r) = W1 := ⟨_, rfl⟩
  have hsz : D + 2 = W1.heap.size := by rw [← hW1, ← hD]; simp
  have hL1 : Loops D r none W1 := by
    refine ⟨?_, ?_⟩
    · rw [hready, ← hW1]
      have := World.alloc_heap_new (w.alloc (.deferred (some []))) (.loop r)
      rwa [World.size_alloc, hD] at this
    · rw [← hW1, ← hD]
      exact (Below.heap_alloc _ _ _ (by simp)).trans (World.alloc_heap_new w _)
  rw [hW1] at hrun
  refine ⟨D + 1, _, W1, { target := .fn (.func gf) lb, args := #[.func (.yield (D + 1)) #[] #[]] }, W1, gf, #[.func (.yield (D + 1)) #[] #[]] ++ lb, W1, hrun, ?_, ?_, ?_, fun _ => h1, ?_⟩
  · simp only [resolve, hg]
    simp [go_sem]
  · intro f' hf'
    simp [Target.leads] at hf'
    subst hf'
    exact hFg
  · simp [invoke, go_sem, eg]
  refine (hiter (Loops D r none) (fun c W => Loops D r (some c) W) W1 (fun W W' h hk => h.keep hk) (fun W h => (Array.getElem?_eq_some_iff.1 h.loop).1) ?_ (by rw [← hW1]; exact h0 _ _ rfl rfl) hL1 hsz).mono ?_
  · intro s x W hok hi hl
    have hl0 := hl.loop
    rw [hready] at hl0
    have hlt : D + 1 < W.heap.size := (Array.getElem?_eq_some_iff.1 hl0).1
    have hpar : r.params = ps := by rw [← hr]
    have hy := run_yield (P := P) (args := encs x) hl0 (by rw [hpar]; exact hps x)
    refine ⟨r.fn, _, r.assign, r.body, hy, ?_⟩
    have e1 : r.fn = fn := by rw [← hr]
    have e2 : r.assign = assign := by rw [← hr]
    have e3 : r.body = body := by rw [← hr]
    have e4 : r.tmps = a.tmps := by rw [← hr]
    rw [e1, e2, e3, hpar, e4]
    refine roundIn_of_wpIn hfn (hassign s x W _ hok hi hlt ?_)
    intro b Wa hka hja
    have hla := hl.keep hka
    have hl0a := hla.loop
    rw [hready] at hl0a
    have hlta : D + 1 < Wa.heap.size := (Array.getElem?_eq_some_iff.1 hl0a).1
    obtain ⟨W2, hW2⟩ : ∃ W2, Wa.putObj (D + 1) (.loop { r with state := .busy }) = W2 := ⟨_, rfl⟩
    have hb2 : W2.heap[D + 1]? = some (.loop { r with state := .busy }) := by rw [← hW2]; exact World.putObj_heap_same hlta
    have hd2 : W2.heap[D]? = some (.deferred (some [])) := by rw [← hW2]; exact (World.putObj_heap_other (by omega)).trans hla.defers
    have hs2 : D + 2 ≤ W2.heap.size := (Array.getElem?_eq_some_iff.1 hb2).1
    have hj2 : J s x b W2 := by rw [← hW2]; exact hJ _ _ _ _ _ rfl hja
    have hend : ∀ (j : Option Code) (W3 : World), KeepsFrom D W2 W3 → (Instr.endRound (D + 1) j).run P W3 = .ok (.bool j.isNone) (W3.putObj (D + 1) (.loop { r with state := if j.isNone then .ready else .done, pending := j })) ∧ Loops D r j (W3.putObj (D + 1) (.loop { r with state := if j.isNone then .ready else .done, pending := j })) := by
      intro j W3 hk
      have hb3 := hk.same _ _ (by omega) hb2 rfl
      have hd3 := hk.same _ _ (Nat.le_refl _) hd2 rfl
      have he := run_endRound (P := P) j hb3
      exact ⟨he, World.putObj_heap_same (Array.getElem?_eq_some_iff.1 hb3).1, (World.putObj_heap_other (by omega)).trans hd3⟩
    refine ⟨W2, by rw [← hW2]; exact run_beginRound hl0a (by rw [← hr]), ?_⟩
    refine wpIn_mono (hbody s x b W2 hok hj2 hs2) ?_
    intro e a3 W3 hp
    cases e with
    | normal =>
      obtain ⟨hk, hi3⟩ := hp
      obtain ⟨hr3, hl3⟩ := hend none W3 hk
      exact ⟨_, _, hr3, .inl ⟨rfl, hI _ _ _ rfl hi3, hl3⟩⟩
    | ret =>
      obtain ⟨hk, hi3⟩ := hp
      obtain ⟨hr3, hl3⟩ := hend (some .ret) W3 hk
      exact ⟨_, _, hr3, .inr ⟨rfl, .ret, hIx _ _ _ _ rfl hi3, hl3⟩⟩
    | exit id =>
      obtain ⟨hk, hi3⟩ := hp
      obtain ⟨hr3, hl3⟩ := hend (some (.exit id)) W3 hk
      exact ⟨_, _, hr3, .inr ⟨rfl, .exit id, hIx _ _ _ _ rfl hi3, hl3⟩⟩
    | goto t =>
      obtain ⟨hk, hi3⟩ := hp
      obtain ⟨hr3, hl3⟩ := hend (some (.goto t)) W3 hk
      exact ⟨_, _, hr3, .inr ⟨rfl, .goto t, hIx _ _ _ _ rfl hi3, hl3⟩⟩
    | panic ch => exact hp.elim
    | outgrown => exact hp.elim
  · rintro e W2 ⟨⟨v, rfl⟩, ⟨s, hS, hi, hl⟩ | ⟨c, s, hi, hl⟩⟩
    · have h2 := run_endLoop (P := P) hl.loop (by simp)
      exact ⟨none, _, h2, hdone s _ hS (hI _ _ _ rfl hi) ((World.putObj_heap_other (by omega)).trans hl.defers)⟩
    · have h2 := run_endLoop (P := P) hl.loop (by simp)
      exact ⟨some c, _, h2, hstop c s _ (hIx _ _ _ _ rfl hi) ((World.putObj_heap_other (by omega)).trans hl.defers)⟩
end Go.Proofs.Ythgoffbfgdgkpaa

/- Blocks in which no row of bytes and none of options lies: writes there change no row. -/
namespace Go.Proofs.Ythgoffbfgdgkpaa
open Go.RowKit Go.Shelf
set_option linter.unusedVariables false
set_option linter.unusedSimpArgs false
set_option maxHeartbeats 1000000

/-- Block j is none of cells of type e. -/
def NotOf (e : TypeId) (W : World) (j : Nat) : Prop := ∀ o, W.heap[j]? = some o → ∀ cur f, o ≠ .cells cur e f
theorem Own.apart {w w' : World} {base : Nat} {e : TypeId} {A : Option Addr} {n c : Nat} {l : List UInt8} {row : Option Nat} (h : Own w base e A n c l) (hg : w.grownBy w' row) (hr : ∀ j, row = some j → NotOf e w j) : Own w' base e A n c l :=
  h.kept hg (by
    rcases h.row.2 with ⟨hv, _⟩ | ⟨g, cap, cur, hv, _, hg2, _⟩
    · rw [hv]; exact .inl rfl
    · injection hv with h1 h2 h3
      subst h1 h3
      refine .inr fun he => ?_
      simp only [Value.ownBlock] at he
      exact hr g he.symm _ hg2 _ _ rfl)
theorem OwnG.apart {w w' : World} {base : Nat} {e : TypeId} {s : Nat} {A : Option Addr} {n c : Nat} {xs : List Value} {row : Option Nat} (h : OwnG w base e s A n c xs) (hg : w.grownBy w' row) (hr : ∀ j, row = some j → NotOf e w j) : OwnG w' base e s A n c xs :=
  h.kept hg (by
    rcases h.row.2 with ⟨hv, _⟩ | ⟨g, cap, cur, hv, _, hg2, _⟩
    · rw [hv]; exact .inl rfl
    · injection hv with h1 h2 h3
      subst h1 h3
      refine .inr fun he => ?_
      simp only [Value.ownBlock] at he
      exact hr g he.symm _ hg2 _ _ rfl)
theorem OsO.apart {w w' : World} {base : Nat} {A : Option Addr} {n c : Nat} {os : List Opt} {row : Option Nat} (h : OsO w base A n c os) (hg : w.grownBy w' row) (hr : ∀ j, row = some j → NotOf 5 w j ∧ NotOf 97 w j) : OsO w' base A n c os := by
  obtain ⟨xs, hx, hj⟩ := h.own
  refine ⟨h.len, xs, hx.apart hg (fun j e => (hr j e).2), fun j hjn => ?_⟩
  obtain ⟨h1, B, m, d, h2, h3⟩ := hj j hjn
  exact ⟨h1, B, m, d, h2, h3.apart hg (fun j e => (hr j e).1)⟩
theorem Blk.notOf {w : World} {k : Nat} {cs : Array Value} {t : TypeId} (h : Blk w k cs t) {e : TypeId} (he : t ≠ e) : NotOf e w k := by
  intro o ho cur f e2
  rw [h.rd] at ho
  subst e2
  simp only [Option.some.injEq, Obj.cells.injEq] at ho
  exact he ho.2.1
theorem Blk.kept {w w' : World} {k : Nat} {cs : Array Value} {t : TypeId} {row : Option Nat} (h : Blk w k cs t) (hg : w.grownBy w' row) (hr : row ≠ some k) : Blk w' k cs t :=
  ⟨(hg.block k h.lt (Ne.symm hr)).trans h.rd⟩
theorem OwnG.ne_blk {w : World} {base : Nat} {e : TypeId} {s : Nat} {A : Option Addr} {n c : Nat} {xs : List Value} (h : OwnG w base e s A n c xs) {k : Nat} {cs : Array Value} {t : TypeId} (b : Blk w k cs t) (he : t ≠ e) : (Value.slice A n c).ownBlock ≠ some k := by
  rcases h.row.2 with ⟨hv, _⟩ | ⟨g, cap, cur, hv, _, hg, _⟩
  · rw [hv]; simp [Value.ownBlock]
  · injection hv with h1 h2 h3
    subst h1 h3
    simp only [Value.ownBlock, ne_eq, Option.some.injEq]
    intro e2
    subst e2
    exact b.notOf he _ hg _ _ rfl
theorem OwnG.cells {w : World} {base : Nat} {e : TypeId} {s : Nat} {A : Option Addr} {n c : Nat} {xs : List Value} (h : OwnG w base e s A n c xs) : ∀ (j : Nat) (o : Obj), (Value.slice A n c).ownBlock = some j → w.heap[j]? = some o → o.isCells = true := by
  intro j o hj ho
  rcases h.row.2 with ⟨hv, _⟩ | ⟨g, cap, cur, hv, _, hg, _⟩
  · rw [hv] at hj; simp [Value.ownBlock] at hj
  · injection hv with h1 h2 h3
    subst h1 h3
    simp only [Value.ownBlock, Option.some.injEq] at hj
    subst hj
    rw [hg] at ho
    simp only [Option.some.injEq] at ho
    subst ho
    rfl
/-- An object that is none of cells. -/
def NoCells (W : World) (j : Nat) : Prop := ∃ o, W.heap[j]? = some o ∧ o.isCells = false
theorem NoCells.notOf {W : World} {j : Nat} (h : NoCells W j) (e : TypeId) : NotOf e W j := by
  obtain ⟨o, ho, hc⟩ := h
  intro o' ho' cur f e2
  rw [ho] at ho'
  simp only [Option.some.injEq] at ho'
  subst ho' e2
  simp [Obj.isCells] at hc
theorem NoCells.lt {W : World} {j : Nat} (h : NoCells W j) : j < W.heap.size := by
  obtain ⟨o, ho, _⟩ := h
  exact (Array.getElem?_eq_some_iff.1 ho).1
theorem NoCells.below {W W' : World} {j : Nat} (h : NoCells W j) (hb : Below W.heap.size W W') : NoCells W' j := by
  have hl := h.lt
  obtain ⟨o, ho, hc⟩ := h
  exact ⟨o, (hb.block j hl).trans ho, hc⟩
theorem NoCells.set {W : World} {j : Nat} (h : NoCells W j) (p : Addr) (v : Value) : NoCells (W.setCell p v) j := by
  obtain ⟨o, ho, hc⟩ := h
  refine ⟨o, ?_, hc⟩
  simp only [World.setCell, Array.getElem?_modify, ho, Option.map_some]
  split
  · cases o <;> simp_all [Obj.isCells]
  · rfl
theorem NoCells.put {W : World} {j : Nat} (h : NoCells W j) (l : Nat) (o' : Obj) (ho' : o'.isCells = false) : NoCells (W.putObj l o') j := by
  have hl := h.lt
  by_cases e : j = l
  · subst e
    exact ⟨o', World.putObj_heap_same hl, ho'⟩
  · obtain ⟨o, ho, hc⟩ := h
    exact ⟨o, (World.putObj_heap_other e).trans ho, hc⟩
theorem NoCells.kept {W W' : World} {j : Nat} {row : Option Nat} (h : NoCells W j) (hg : W.grownBy W' row) (hr : ∀ (j : Nat) (o : Obj), row = some j → W.heap[j]? = some o → o.isCells = true) : NoCells W' j := by
  have hl := h.lt
  obtain ⟨o, ho, hc⟩ := h
  refine ⟨o, (hg.block j hl (fun e => ?_)).trans ho, hc⟩
  rw [hr j o e.symm ho] at hc
  cases hc
theorem Blk.put {W : World} {k : Nat} {cs : Array Value} {t : TypeId} (h : Blk W k cs t) {l : Nat} (hn : NoCells W l) (o' : Obj) : Blk (W.putObj l o') k cs t := by
  refine ⟨(World.putObj_heap_other fun e => ?_).trans h.rd⟩
  subst e
  obtain ⟨o, ho, hc⟩ := hn
  rw [h.rd] at ho
  simp only [Option.some.injEq] at ho
  subst ho
  simp [Obj.isCells] at hc
theorem new2 (w : World) (x y : Value) (t : TypeId) : ∀ (q : Nat) u, [x, y][q]? = some u → (w.alloc (.cells #[x, y] t)).cell? ((⟨w.heap.size, 0, none⟩ : Addr).add q) = some u := by
  intro q u h
  have h1 := (blk_new w #[x, y] t _ rfl).cell.1 q
  have h2 : (⟨w.heap.size, 0, none⟩ : Addr).add q = ⟨w.heap.size, q, none⟩ := by cases q <;> simp [Addr.add]
  rw [h2, h1]
  simpa using h
theorem info_opt : (Try.prog.info? 97).map (fun i => (i.zero, i.size, i.bytes)) = some (some (.agg #[.int .u8 0, .slice none 0 0]), 2, 32) := by kernel_rfl
end Go.Proofs.Ythgoffbfgdgkpaa

/- A packet's segment, parsed by the program: its options, and what stands behind them. -/
namespace Go.Proofs.Ythgoffbfgdgkpaa
open Go.RowKit Go.Shelf
attribute [local go_sem] Oper.semAt_some jump_normal jump_exit jump_ret jump_panic jump_goto
set_option linter.unusedVariables false
set_option linter.unusedSimpArgs false
set_option linter.unusedSimpArgs false
set_option maxHeartbeats 8000000
set_option maxRecDepth 100000

theorem store0123 {W : World} {r : Nat} {c0 c1 c2 c3 c4 c5 c6 c7 c8 : Value} {t : TypeId} (R : Blk W r #[c0, c1, c2, c3, c4, c5, c6, c7, c8] t) (v0 v1 v2 v3 : Value) :
    ∃ wf, ((((W.setCell ⟨r, 0, none⟩ v0).setCell ⟨r, 1, none⟩ v1).setCell ⟨r, 2, none⟩ v2).setCell ⟨r, 3, none⟩ v3) = wf ∧ Sto W r wf #[v0, v1, v2, v3, c4, c5, c6, c7, c8] t := by
  have h := ((((Sto.nil R).set 0 v0).set 1 v1).set 2 v2).set 3 v3
  simp only [List.setIfInBounds_toArray, List.set_cons_zero, List.set_cons_succ] at h
  exact ⟨_, rfl, h⟩
theorem store4568 {W : World} {r : Nat} {c0 c1 c2 c3 c4 c5 c6 c7 c8 : Value} {t : TypeId} (R : Blk W r #[c0, c1, c2, c3, c4, c5, c6, c7, c8] t) (v4 v5 v6 v8 : Value) :
    ∃ wf, ((((W.setCell ⟨r, 4, none⟩ v4).setCell ⟨r, 5, none⟩ v5).setCell ⟨r, 6, none⟩ v6).setCell ⟨r, 8, none⟩ v8) = wf ∧ Sto W r wf #[c0, c1, c2, c3, v4, v5, v6, c7, v8] t := by
  have h := ((((Sto.nil R).set 4 v4).set 5 v5).set 6 v6).set 8 v8
  simp only [List.setIfInBounds_toArray, List.set_cons_zero, List.set_cons_succ] at h
  exact ⟨_, rfl, h⟩
theorem optsK_len : ∀ (k : Nat) (l : List UInt8) (os : List Opt), optsK k l = some os → os.length ≤ l.length
  | 0, l, os, h => by cases h
  | k + 1, l, os, h => by
    unfold optsK at h
    cases hx : nx l with
    | none => rw [hx] at h; cases h
    | some x =>
      cases x with
      | none =>
        rw [hx] at h
        simp only [Option.some.injEq] at h
        subst h
        simp
      | some y =>
        obtain ⟨o, n⟩ := y
        rw [hx] at h
        simp only [Option.map_eq_some_iff] at h
        obtain ⟨r, hr, rfl⟩ := h
        have := optsK_len k _ r hr
        have := nx_some hx
        simp only [List.length_drop, List.length_cons] at *
        omega
theorem optsP_len {l : List UInt8} {os : List Opt} (h : optsP l = some os) : os.length ≤ l.length := optsK_len _ l os h
theorem split_any (A : Option Addr) (n c : Nat) (w : World) :
    Calls Try.prog 81 #[.slice A n c] w fun e w' => e = .returned (.func (.func 93) #[] #[.pointer (some ⟨w.heap.size, 0, none⟩)]) ∧ w' = w.alloc (.cells #[.slice A n c] 24) := by
  have hmf : ∀ (fn : Fn) (first cap : Array Value) (w : World), (Instr.makeFunc fn first cap).run Try.prog w = .ok (.func fn first cap) w := fun _ _ _ _ => rfl
  go_enter Try.func81, Try.ntmps81
  go_wp2
  go_ret
  exact ⟨rfl, rfl⟩
/-- Options of the call's own, and a block that is none of their rows. -/
structure SO (W : World) (base r : Nat) (t : TypeId) (A : Option Addr) (n c : Nat) (os : List Opt) : Prop where
  o : OsO W base A n c os
  b : ∃ cs, Blk W r cs t
theorem SO.set {W : World} {base r : Nat} {t : TypeId} {A : Option Addr} {n c : Nat} {os : List Opt} (h : SO W base r t A n c os) (h1 : t ≠ 5) (h2 : t ≠ 97) (j : Nat) (v : Value) : SO (W.setCell ⟨r, j, none⟩ v) base r t A n c os := by
  obtain ⟨h3, cs, h4⟩ := h
  exact ⟨h3.apart (grownBy_setCell _ _ _) (fun j e => by cases e; exact ⟨h4.notOf h1, h4.notOf h2⟩), _, h4.set_ j v⟩
theorem SO.below {W W' : World} {base r : Nat} {t : TypeId} {A : Option Addr} {n c : Nat} {os : List Opt} (h : SO W base r t A n c os) (hb : Below W.heap.size W W') : SO W' base r t A n c os := by
  obtain ⟨h3, cs, h4⟩ := h
  exact ⟨h3.below hb, cs, h4.below hb⟩
structure TcC (w : World) (k kB D : Nat) (os : List Opt) (W : World) : Prop where
  s : ∃ OA oc, Blk W (k + 1) #[.int .u16 0, .int .u16 0, .int .u32 0, .int .u32 0, .int .u8 0, .int .u16 0, .int .u16 0, .slice OA os.length oc, .slice none 0 0] 42 ∧ OsO W w.heap.size OA os.length oc os
  e : Blk W (k + 1 + 1) #[.int .i64 3] 29
  b : ∃ v, Blk W kB #[v] 24
  d : NoCells W (D + 1)
theorem TcC.below {w : World} {k kB D : Nat} {os : List Opt} {W W' : World} (h : TcC w k kB D os W) (hb : Below W.heap.size W W') : TcC w k kB D os W' := by
  obtain ⟨⟨OA, oc, h1, h2⟩, h3, ⟨v, h4⟩, h5⟩ := h
  exact ⟨⟨OA, oc, h1.below hb, h2.below hb⟩, h3.below hb, ⟨v, h4.below hb⟩, h5.below hb⟩
theorem TcC.setB {w : World} {k kB D : Nat} {os : List Opt} {W : World} (h : TcC w k kB D os W) (h1 : kB ≠ k + 1) (h2 : kB ≠ k + 1 + 1) (u : Value) : TcC w k kB D os (W.setCell ⟨kB, 0, none⟩ u) := by
  have hT : 24 ≠ 5 ∧ 24 ≠ 97 := by decide
  obtain ⟨⟨OA, oc, k1, k2⟩, k3, ⟨v, k4⟩, k5⟩ := h
  exact ⟨⟨OA, oc, k1.far _ h1 _, k2.apart (grownBy_setCell _ _ _) (fun j e => by cases e; exact ⟨k4.notOf hT.1, k4.notOf hT.2⟩)⟩, k3.far _ h2 _, ⟨_, k4.set_ 0 u⟩, k5.set _ _⟩
theorem TcC.put {w : World} {k kB D : Nat} {os : List Opt} {W : World} (h : TcC w k kB D os W) (o : Obj) (ho : o.isCells = false) : TcC w k kB D os (W.putObj (D + 1) o) := by
  obtain ⟨⟨OA, oc, k1, k2⟩, k3, ⟨v, k4⟩, k5⟩ := h
  exact ⟨⟨OA, oc, k1.put k5 o, k2.apart (grownBy_putObj' _ _ _) (fun j e => by cases e; exact ⟨k5.notOf _, k5.notOf _⟩)⟩, k3.put k5 o, ⟨v, k4.put k5 o⟩, k5.put _ _ ho⟩
structure TcIx (w : World) (k : Nat) (l : List UInt8) (c : Code) (s : SpS) (W : World) : Prop where
  c : c = .goto 0
  bad : s.bad = true
  no : optsP l = none
  s : ∃ c0 c1 c2 c3 c4 c5 c6 c7 c8, Blk W (k + 1) #[c0, c1, c2, c3, c4, c5, c6, c7, c8] 42
  e : Blk W (k + 1 + 1) #[.int .i64 4] 29
  bel : Below w.heap.size w W
/-- Behind the round's first step. -/
structure TcR (w : World) (k kB D : Nat) (s : SpS) (x : SpX) (b : Act) (W : World) : Prop where
  size : b.tmps.size = 87
  t2 : b.tmps[2]? = some (.pointer (some ⟨k + 1, 0, none⟩))
  t3 : b.tmps[3]? = some (.pointer (some ⟨k + 1 + 1, 0, none⟩))
  q : ∃ q, b.tmps[6]? = some (.pointer (some ⟨q, 0, none⟩)) ∧ Blk W q #[.int .u8 x.o.kind, .slice x.A x.n x.c] 97 ∧ q ≠ k + 1 ∧ q ≠ k + 1 + 1
  t7 : b.tmps[7]? = some (.bool x.ok)
  de : b.defers = []
  i : SplI w kB (TcC w k kB D) s W
theorem splI_put {w : World} {k kB D : Nat} {s : SpS} {W : World} (h : SplI w kB (TcC w k kB D) s W) (o : Obj) (ho : o.isCells = false) (hD : w.heap.size ≤ D + 1) (hB : kB ≠ D + 1) : SplI w kB (TcC w k kB D) s (W.putObj (D + 1) o) := by
  obtain ⟨h1, h2, h3, h4, h5, h6⟩ := h
  exact ⟨h1.put o ho, by rw [cell_putObj (by simpa using hB)]; exact h2, by rw [frozen_putObj (by simpa using hB)]; exact h3, below_putObj h4 hD _, h5, fun x hx hok => (h6 x hx hok).apart (grownBy_putObj' _ _ _) (fun j e => by cases e; exact h1.d.notOf _)⟩
theorem tcp_go (p : Pkt) (hp : p.Ok) (A1 : Option Addr) (n1 c1 : Nat) (A2 : Option Addr) (n2 c2 : Nat) (w : World) (k2 : Bs w A2 n2 c2 p.dat) (x q : Int) (hd : Nat) (hx : bt p.dat 12 = x) (hq : x / 16 = q) (hh : q * 4 = (hd : Int))
    (h1 : (p.proto != 6) = false) (h2 : 20 ≤ (n2 : Int)) (h3 : 20 ≤ (hd : Int)) (h4 : (x % 16 != 0) = false) (h5 : (hd : Int) ≤ (n2 : Int)) (h6 : (psum p 6 p.dat == 0) = true) (h7 : n2 ≤ 140737488400000)
    (T : Ending → World → Prop) (HN : Hid (optsP ((p.dat.take hd).drop 20) = none → ∀ e w', TcPost w zS 4 e w' → T e w'))
    (HY : Hid (∀ os, optsP ((p.dat.take hd).drop 20) = some os → ∀ e w', TcPost w ⟨get16 p.dat 0, get16 p.dat 2, get32 p.dat 4, get32 p.dat 8, bt p.dat 13, get16 p.dat 14, get16 p.dat 18, os, p.dat.drop hd⟩ 0 e w' → T e w')) :
    Calls Try.prog 70 #[(.agg #[.int .u8 (p).tos, .int .u16 (p).id, .bool (p).keep, .int .u8 (p).ttl, .int .u8 (p).proto, .int .u32 (p).src, .int .u32 (p).dst, .slice A1 n1 c1, .slice A2 n2 c2])] w T := by
  obtain ⟨i8, hi8, -, hs8, -⟩ := info_parts info_u8
  have b2 := k2.max
  have hcap := k2.cap
  obtain ⟨k, hk⟩ : ∃ k : Nat, w.heap.size = k := ⟨_, rfl⟩
  obtain ⟨w1, hw1⟩ : ∃ W, (((w.alloc (.cells #[.int .u8 (p).tos, .int .u16 (p).id, .bool (p).keep, .int .u8 (p).ttl, .int .u8 (p).proto, .int .u32 (p).src, .int .u32 (p).dst, .slice A1 n1 c1, .slice A2 n2 c2] 26)).alloc (.cells #[.int .u16 0, .int .u16 0, .int .u32 0, .int .u32 0, .int .u8 0, .int .u16 0, .int .u16 0, .slice none 0 0, .slice none 0 0] 42)).alloc (.cells #[.int .i64 0] 29)) = W := ⟨_, rfl⟩
  have P1 : Blk w1 k #[.int .u8 (p).tos, .int .u16 (p).id, .bool (p).keep, .int .u8 (p).ttl, .int .u8 (p).proto, .int .u32 (p).src, .int .u32 (p).dst, .slice A1 n1 c1, .slice A2 n2 c2] 26 := by rw [← hw1]; exact (((blk_new _ _ _ k (by simp [hk])).alloc _).alloc _)
  have S1 : Blk w1 (k + 1) #[.int .u16 0, .int .u16 0, .int .u32 0, .int .u32 0, .int .u8 0, .int .u16 0, .int .u16 0, .slice none 0 0, .slice none 0 0] 42 := by rw [← hw1]; exact ((blk_new _ _ _ (k + 1) (by simp [hk])).alloc _)
  have E1 : Blk w1 (k + 1 + 1) #[.int .i64 0] 29 := by rw [← hw1]; exact (blk_new _ _ _ (k + 1 + 1) (by simp [hk]))
  have R1 : Below w.heap.size w w1 := by rw [← hw1]; (repeat (first | with_reducible exact Below.refl _ _ | with_reducible refine below_drew ?_ | with_reducible refine below_drewN ?_ _ | with_reducible refine below_alloc ?_ (Nat.le_refl _) _ | with_reducible refine Below.setCell ?_ (by first | exact Nat.le_refl _ | (simp only []; omega)) _ | with_reducible assumption))
  have Pc1 := P1.cell
  have Sc1 := S1.cell
  have Ec1 := E1.cell
  have Pl1 := P1.lt
  have Sl1 := S1.lt
  have El1 := E1.lt
  have x1 := (k2).below R1
  obtain ⟨b, off, rfl, hcs⟩ := x1.rd (by omega)
  have g12 := hcs 12 (by omega)
  have i12 : (12 : Int) < n2 := by omega
  have x0 := bt_lo p.dat 12
  have x255 := bt_hi p.dat 12
  rw [hx] at g12 x0 x255
  have hw1' : IntKind.i64.wrap q = q := by rw [IntKind.wrap_i64]; omega
  have hw2' : IntKind.i64.wrap (hd : Int) = hd := by rw [IntKind.wrap_i64]; omega
  have hand := and_u8_15 x0 x255
  clear hcs
  have hcut : ∀ W, (Instr.slice 24 (.slice (some ⟨b, off, none⟩) n2 c2) (some (.int .i64 20)) (some (.int .i64 (hd : Int))) none).run Try.prog W = _ := fun W => cut_lh Try.underlying24 hi8 hs8 (some ⟨b, off, none⟩) n2 c2 .i64 .i64 20 (hd : Int) (by omega) (by omega) (by omega) W
  obtain ⟨A', n', c', eA, en, ec, hbO⟩ := k2.cutE (lo := 20) (hi := hd) (by omega) (by omega)
  simp only [show (20 : Int).toNat = 20 from rfl, Int.toNat_natCast, eA, en, ec] at hcut
  have hn' : n' ≤ 40 := by omega
  obtain ⟨l, hl⟩ : ∃ l, (p.dat.take hd).drop 20 = l := ⟨_, rfl⟩
  rw [hl] at hbO HN HY
  clear eA en ec hl
  obtain ⟨v0, hv0⟩ : ∃ v, get16 p.dat 0 = v := ⟨_, rfl⟩
  have g0 : ∀ W, Bs W (some ⟨b, off, none⟩) n2 c2 p.dat → Calls Try.prog 47 #[.slice (some ⟨b, off, none⟩) n2 c2, .int .i64 0] W fun e w' => e = .returned (.int .u16 v0) ∧ Drawn W w' := fun W k => by have := get16_any (some ⟨b, off, none⟩) n2 c2 p.dat 0 W k; rw [hv0] at this; exact this
  rw [hv0] at HY
  clear hv0
  obtain ⟨v2, hv2⟩ : ∃ v, get16 p.dat 2 = v := ⟨_, rfl⟩
  have g2 : ∀ W, Bs W (some ⟨b, off, none⟩) n2 c2 p.dat → Calls Try.prog 47 #[.slice (some ⟨b, off, none⟩) n2 c2, .int .i64 2] W fun e w' => e = .returned (.int .u16 v2) ∧ Drawn W w' := fun W k => by have := get16_any (some ⟨b, off, none⟩) n2 c2 p.dat 2 W k; rw [hv2] at this; exact this
  rw [hv2] at HY
  clear hv2
  obtain ⟨v4, hv4⟩ : ∃ v, get32 p.dat 4 = v := ⟨_, rfl⟩
  have g4 : ∀ W, Bs W (some ⟨b, off, none⟩) n2 c2 p.dat → Calls Try.prog 63 #[.slice (some ⟨b, off, none⟩) n2 c2, .int .i64 4] W fun e w' => e = .returned (.int .u32 v4) ∧ Drawn W w' := fun W k => by have := get32_any (some ⟨b, off, none⟩) n2 c2 p.dat 4 W k; rw [hv4] at this; exact this
  rw [hv4] at HY
  clear hv4
  obtain ⟨v8, hv8⟩ : ∃ v, get32 p.dat 8 = v := ⟨_, rfl⟩
  have g8 : ∀ W, Bs W (some ⟨b, off, none⟩) n2 c2 p.dat → Calls Try.prog 63 #[.slice (some ⟨b, off, none⟩) n2 c2, .int .i64 8] W fun e w' => e = .returned (.int .u32 v8) ∧ Drawn W w' := fun W k => by have := get32_any (some ⟨b, off, none⟩) n2 c2 p.dat 8 W k; rw [hv8] at this; exact this
  rw [hv8] at HY
  clear hv8
  obtain ⟨v14, hv14⟩ : ∃ v, get16 p.dat 14 = v := ⟨_, rfl⟩
  have g14 : ∀ W, Bs W (some ⟨b, off, none⟩) n2 c2 p.dat → Calls Try.prog 47 #[.slice (some ⟨b, off, none⟩) n2 c2, .int .i64 14] W fun e w' => e = .returned (.int .u16 v14) ∧ Drawn W w' := fun W k => by have := get16_any (some ⟨b, off, none⟩) n2 c2 p.dat 14 W k; rw [hv14] at this; exact this
  rw [hv14] at HY
  clear hv14
  obtain ⟨v18, hv18⟩ : ∃ v, get16 p.dat 18 = v := ⟨_, rfl⟩
  have g18 : ∀ W, Bs W (some ⟨b, off, none⟩) n2 c2 p.dat → Calls Try.prog 47 #[.slice (some ⟨b, off, none⟩) n2 c2, .int .i64 18] W fun e w' => e = .returned (.int .u16 v18) ∧ Drawn W w' := fun W k => by have := get16_any (some ⟨b, off, none⟩) n2 c2 p.dat 18 W k; rw [hv18] at this; exact this
  rw [hv18] at HY
  clear hv18
  obtain ⟨v13, hv13⟩ : ∃ v, bt p.dat 13 = v := ⟨_, rfl⟩
  have g13 := fun W (k : Bs W (some ⟨b, off, none⟩) n2 c2 p.dat) => k.at_ (j := 13) (by omega)
  rw [hv13] at g13 HY
  clear hv13
  have hcutD : ∀ W, (Instr.slice 24 (.slice (some ⟨b, off, none⟩) n2 c2) (some (.int .i64 (hd : Int))) none none).run Try.prog W = _ := fun W => cut_l Try.underlying24 hi8 hs8 (some ⟨b, off, none⟩) n2 c2 .i64 (hd : Int) (by omega) (by omega) W
  obtain ⟨AD, nD, cD, eA, en, ec, hbD⟩ := k2.cutE (lo := hd) (hi := n2) (by omega) (Nat.le_refl _)
  simp only [Int.toNat_natCast, eA, en, ec] at hcutD
  rw [List.take_of_length_le (by rw [k2.len]; exact Nat.le_refl _)] at hbD
  clear eA en ec
  refine (callsIn_wide (n := 3)).1 ?_
  refine callsIn_of_wp_marks Try.func70 rfl trivial ?_ rfl
  simp only [Try.ntmps70, List.size_toArray, List.length_cons, List.length_nil, Nat.reduceAdd, Nat.reduceSub, Array.replicate_succ, Array.replicate_zero, List.push_toArray, List.append_toArray, List.nil_append, List.cons_append]
  gi_wp2
  refine wpIn_scope_fwd 0 (fun a W => TcJ w k 4 a W ∧ optsP l = none) rfl ?first ?pass
  case pass =>
    rintro a W ⟨⟨hs, h2, h3, ⟨d0, d1, d2, d3, d4, d5, d6, d7, d8, S⟩, Eb, hB, hde⟩, hno⟩
    have HNO := Lib.hid hno
    clear hno
    obtain ⟨f, hf, hfv⟩ := slots hs
    have f2 := hfv 2 _ (by omega) h2
    have f3 := hfv 3 _ (by omega) h3
    obtain ⟨tm, df⟩ := a
    simp only at hf hde
    subst hf
    have sc := S.cell
    have ec := Eb.cell
    simp only [List.range, List.range.loop, List.map_cons, List.map_nil, f2, f3]
    have sl := S.lt
    have el := Eb.lt
    gi_wp2_with gi_region
    obtain ⟨wf, hwf, Sf⟩ := store9 S (.int .u16 0) (.int .u16 0) (.int .u32 0) (.int .u32 0) (.int .u8 0) (.int .u16 0) (.int .u16 0) (.slice none 0 0) (.slice none 0 0)
    rw [hwf]
    have Ef := Sf.other (k := k + 1 + 1) (by omega) Eb
    obtain ⟨wg, hwg, Sg⟩ := store1 Ef 0 (.int .i64 4)
    rw [hwg, Exit.noGoto_ret]
    have Sz := Sg.other (k := k + 1) (by omega) Sf.blk
    have pf := (Sz.drew).cell
    have pg := (Sg.blk.drew).cell
    have Tg := Sg.bel (Sf.bel hB (by omega)) (by omega)
    have hdn : ∀ D : Nat, W.heap[D]? = some (Obj.deferred (some [])) → wg.drew.heap[D]? = some (Obj.deferred (some [])) := fun D h => by
      have e1 : k + 1 ≠ D := fun e => by subst e; have := S.rd; rw [h] at this; cases this
      have e2 : k + 1 + 1 ≠ D := fun e => by subst e; have := Eb.rd; rw [h] at this; cases this
      show wg.heap[D]? = _
      rw [← hwg, ← hwf]
      simp only [heap_setCell_ne _ _ _ _ _ e1, heap_setCell_ne _ _ _ _ _ e2]
      exact h
    rcases hde with rfl | ⟨D, rfl, hD, hge⟩
    · show LeavesInM _ _ _ _ _ _ [] .returning _
      exact ⟨(.tuple #[.agg #[.int .u16 0, .int .u16 0, .int .u32 0, .int .u32 0, .int .u8 0, .int .u16 0, .int .u16 0, .slice none 0 0, .slice none 0 0], .int .i64 4]), by simp [results, Try.results70, go_sem, pf, pg], HN.out HNO.out _ _ (tcPost_no (below_drew Tg))⟩
    · show LeavesInM _ _ _ _ _ _ _ .returning _
      refine ⟨by simp, .inl ⟨_, _, rfl, run_takeDeferred (hdn D hD), ?_⟩⟩
      have d1 : k + 1 ≠ D := fun e => by subst e; have := S.rd; rw [hD] at this; cases this
      have d2 : k + 1 + 1 ≠ D := fun e => by subst e; have := Eb.rd; rw [hD] at this; cases this
      have pf2 : ∀ j, (wg.drew.putObj D (Obj.deferred none)).cell? ⟨k + 1, j, none⟩ = _ := fun j => (cell_putObj d1 _).trans (pf.1 j)
      have pg2 : ∀ j, (wg.drew.putObj D (Obj.deferred none)).cell? ⟨k + 1 + 1, j, none⟩ = _ := fun j => (cell_putObj d2 _).trans (pg.1 j)
      exact ⟨(.tuple #[.agg #[.int .u16 0, .int .u16 0, .int .u32 0, .int .u32 0, .int .u8 0, .int .u16 0, .int .u16 0, .slice none 0 0, .slice none 0 0], .int .i64 4]), by simp [results, Try.results70, go_sem, pf2, pg2], HN.out HNO.out _ _ (tcPost_no (below_putObj (below_drew Tg) hge _))⟩
  case first =>
    obtain ⟨w2, hw2, S2⟩ := store1 E1 0 (.int .i64 3)
    have P2 := S2.other (by omega) P1
    have pc2 := P2.cell
    have SS2 := S2.other (by omega) S1
    have R2 := S2.bel R1 (by omega)
    have x2 := k2.below R2
    have el2 := S2.blk.lt
    have g12b := x2.at_ (j := 12) (by omega)
    rw [hx] at g12b
    clear hx g12
    gi_wp2_with (first
      | (refine ⟨trivial, ?_⟩; gi_at_call 80; refine (callsIn_wide.2 (fits_any p hp A1 n1 c1 _ n2 c2 6 (by omega) (by omega) w2 x2 h7)).mono ?_; rintro e w3 ⟨he, hB3⟩; (try rw [h6] at he); subst he; have P3 := P2.below hB3; have E3 := (S2.blk).below hB3; have SS3 := SS2.below hB3; have ec3 := E3.cell; have sc3 := SS3.cell; have el3 := E3.lt; have R3 := below_then R2 hB3; have x3 := x2.below hB3)
      | (refine ⟨trivial, ?_⟩; gi_at_call 81; refine (callsIn_wide.2 (split_any A' n' c' w3)).mono ?_; rintro e w4 ⟨rfl, hw4⟩; (obtain ⟨kB, hkB⟩ : ∃ kB : Nat, w3.heap.size = kB := ⟨_, rfl⟩); rw [hkB]))
    clear hw4
    obtain ⟨w4, hw4⟩ : ∃ w4, w3.alloc (.cells #[.slice A' n' c'] 24) = w4 := ⟨_, rfl⟩
    rw [hw4]
    have hB4 : Below w3.heap.size w3 w4 := by rw [← hw4]; exact (Below.refl _ _).alloc (Nat.le_refl _) _
    have B4 : Blk w4 kB #[.slice A' n' c'] 24 := by rw [← hw4]; exact blk_new _ _ _ _ hkB
    have E4 := E3.below hB4
    have SS4 := SS3.below hB4
    have R4 := below_then R3 hB4
    have x4 := x3.below hB4
    have hk4 : k + 1 + 1 < kB := by rw [← hkB]; exact el3
    have hD4 : w4.heap.size = kB + 1 := by rw [← hw4, ← hkB]; simp
    clear hw4 P3 E3 SS3 ec3 sc3 el3 P2 SS2 pc2 hB3 hkB x2 g12b P1 S1 E1 Pc1 Sc1 Ec1 el2
    refine range_law2 rfl (by omega) (gf := 93) (lb := #[.pointer (some ⟨kB, 0, none⟩)]) rfl trivial (enters_of Try.func93 (by kernel_rfl) rfl)
      encX (fun _ => rfl) spStep ⟨[], .slice A' n' c', none, false⟩ (fun s => optsP l = some s.os) (SplI w kB (TcC w k kB w4.heap.size)) (TcIx w k l) (SplOk l) (TcR w k kB w4.heap.size) ?hI ?hIx ?hJ ?h0 ?hassign ?hbody ?hiter ?hdone ?hstop
    case hI => exact fun s W o ho h => splI_put h o ho (by have := R4.size; omega) (by omega)
    case hIx =>
      rintro c s W o ho ⟨i1, i2, i3, ⟨d0, d1, d2, d3, d4, d5, d6, d7, d8, S⟩, i5, i6⟩
      exact ⟨i1, i2, i3, ⟨d0, d1, d2, d3, d4, d5, d6, d7, d8, ⟨(World.putObj_heap_other (by omega)).trans S.rd⟩⟩, ⟨(World.putObj_heap_other (by omega)).trans i5.rd⟩, below_putObj i6 (by have := R4.size; omega) _⟩
    case hJ =>
      rintro s x a W o ho ⟨j1, j2, j3, ⟨q, j4, j5, j6, j7⟩, j8, j9, j10⟩
      exact ⟨j1, j2, j3, ⟨q, j4, j5.put j10.1.d o, j6, j7⟩, j8, j9, splI_put j10 o ho (by have := R4.size; omega) (by omega)⟩
    case h0 =>
      intro o o' ho ho'
      have hb' : Below w4.heap.size w4 ((w4.alloc o).alloc o') := ((Below.refl _ w4).alloc (Nat.le_refl _) _).alloc (by simp) _
      refine ⟨⟨⟨none, 0, SS4.below hb', osO_nil _ _⟩, E4.below hb', ⟨_, B4.below hb'⟩, ⟨o', ?_, ho'⟩⟩, ?_, ?_, below_then R4 hb', rfl, fun x h => by cases h⟩
      · have := World.alloc_heap_new (w4.alloc o) o'
        rwa [World.size_alloc] at this
      · exact (B4.below hb').cell.1 0
      · exact (B4.below hb').cell.2 0
    case hassign =>
      intro s x W K hok hi hs hK
      dsimp only [encX]
      gi_wp2
      have hb' : Below W.heap.size W (W.alloc (.cells #[.int .u8 x.o.kind, .slice x.A x.n x.c] 97)) := (Below.refl _ W).alloc (Nat.le_refl _) _
      refine hK _ _ (keeps_alloc _ _) ?_
      exact ⟨rfl, rfl, rfl, ⟨W.heap.size, rfl, blk_new _ _ _ _ rfl, by omega, by omega⟩, rfl, rfl, hi.below (fun os W W' h hb => h.below hb) hb'⟩
    case hbody =>
      rintro s y bb W ⟨hpd, hok1, hok2⟩ ⟨js, j2, j3, ⟨qq, j6, Qb, qn1, qn2⟩, j7, jd, ji⟩ hz
      obtain ⟨f, hf, hfv⟩ := slots js
      have f2 := hfv 2 _ (by omega) j2
      have f3 := hfv 3 _ (by omega) j3
      have f6 := hfv 6 _ (by omega) j6
      have f7 := hfv 7 _ (by omega) j7
      obtain ⟨tm, df⟩ := bb
      simp only at hf jd
      subst hf jd
      simp only [List.range, List.range.loop, List.map_cons, List.map_nil, f2, f3, f6, f7]
      obtain ⟨⟨⟨OA, oc, Sb, Ob⟩, Eb, ⟨vB, Bb⟩, Nc⟩, iB, iF, iL, ibad, iD⟩ := ji
      have sc := Sb.cell
      have ec := Eb.cell
      have qc := Qb.cell
      have sl := Sb.lt
      have el := Eb.lt
      have ql := Qb.lt
      clear hfv j2 j3 j6 j7 js
      cases hy : y.ok with
      | false =>
        have HO : Hid (optsP l = none) := hok1 hy
        clear hok1 hok2 hpd iD
        gi_wp2
        apply wpIn_goto
        exact ⟨keeps_setCell _ _ _, rfl, by simp [spStep, hy], HO.out, ⟨_, _, _, _, _, _, _, _, _, Sb.far _ (by simp) _⟩, Eb.set_ 0 (.int .i64 4), iL.setCell (p := ⟨k + 1 + 1, 0, none⟩) (by simp only []; have := R4.size; omega) _⟩
      | true =>
        obtain ⟨xs, hxs, hj⟩ := Ob.own
        have hown := iD y hpd hy
        have HLs := Lib.hid (hok2 hy)
        have Hj := Lib.hid hj
        have HL := Lib.hid hbO.len
        clear hok1 hok2 hpd iD hj
        obtain ⟨m, hm⟩ : ∃ m, s.os.length = m := ⟨_, rfl⟩
        rw [hm] at Sb Ob hxs Hj HLs sc
        have hm40 : m ≤ 40 := by have := HLs.out; have := HL.out; omega
        have HM := Lib.hid hm
        clear hm
        obtain ⟨ii, hi, hz', hs', hb'⟩ := info_parts info_opt
        have hT1 : (42 : TypeId) ≠ 97 := by decide
        have hT2 : (29 : TypeId) ≠ 97 := by decide
        have hT3 : (24 : TypeId) ≠ 97 := by decide
        have hT4 : (42 : TypeId) ≠ 5 := by decide
        gi_wp2_with (gi_at_builtin; refine wpListIn_appG (w0 := w) _ rfl _ _ _ rfl w.heap.size 97 ii (.agg #[.int .u8 0, .slice none 0 0]) 2 32 Try.underlying40 hi hz' hs' hb' rfl (by omega) (by omega) OA m oc xs rfl (hxs.alloc _) ⟨W.heap.size, 0, none⟩ 1 1 [.int .u8 y.o.kind, .slice y.A y.n y.c] rfl rfl (new2 _ _ _ _) (by intro u h; simp at h; rcases h with rfl | rfl <;> rfl) (below_alloc iL (by omega) _) (by omega) (by have := iL.size; simp; omega) ?_; intro A5 c5 w5 O5 hB5 hG5 hz5; have hx2 := hxs.alloc (.cells #[.int .u8 y.o.kind, .slice y.A y.n y.c] 97); have S5 := (Sb.alloc (.cells #[.int .u8 y.o.kind, .slice y.A y.n y.c] 97)).kept hG5 (hx2.ne_blk (Sb.alloc (.cells #[.int .u8 y.o.kind, .slice y.A y.n y.c] 97)) hT1); have sc5 := S5.cell)
        have vv : vB = s.v := by have e1 := Bb.cell.1 0; rw [iB] at e1; simpa using e1.symm
        have E5 := (Eb.alloc (.cells #[.int .u8 y.o.kind, .slice y.A y.n y.c] 97)).kept hG5 (hx2.ne_blk (Eb.alloc _) hT2)
        have B5 := ((Bb.alloc (.cells #[.int .u8 y.o.kind, .slice y.A y.n y.c] 97)).kept hG5 (hx2.ne_blk (Bb.alloc _) hT3)).far ⟨k + 1, 7, none⟩ (by simp only []; omega) (.slice A5 (m + 1) c5)
        have N5 := ((Nc.below ((Below.refl _ W).alloc (Nat.le_refl _) (.cells #[.int .u8 y.o.kind, .slice y.A y.n y.c] 97))).kept hG5 hx2.cells).set ⟨k + 1, 7, none⟩ (.slice A5 (m + 1) c5)
        have OO := (Ob.below ((Below.refl _ W).alloc (Nat.le_refl _) (.cells #[.int .u8 y.o.kind, .slice y.A y.n y.c] 97))).snoc hx2 (fun j hj => by obtain ⟨a1, B', m', d', a2, a3⟩ := Hj.out j hj; exact ⟨a1, B', m', d', a2, a3.alloc _⟩) hG5 y.o (hown.alloc _) O5
        have OO2 := OO.apart (grownBy_setCell w5 ⟨k + 1, 7, none⟩ (.slice A5 (m + 1) c5)) (fun j e => by cases e; exact ⟨S5.notOf hT4, S5.notOf hT1⟩)
        refine ⟨?_, ⟨⟨A5, c5, ?_, ?_⟩, E5.far _ (by simp) _, ⟨_, B5⟩, N5⟩, ?_, B5.cell.2 0, hB5.setCell (p := ⟨k + 1, 7, none⟩) (by simp only []; omega) _, by simp [spStep, hy], fun x h => by cases h⟩
        · exact (keeps_alloc _ _).trans (((KeepsOthers.of_grownBy hG5 hx2.cells).from _).trans (keeps_setCell _ _ _))
        · have := S5.set_ 7 (.slice A5 (m + 1) c5)
          simp only [spStep, hy, if_true, List.length_append, List.length_cons, List.length_nil, HM.out]
          exact this
        · simp only [spStep, hy, if_true, List.length_append, List.length_cons, List.length_nil, HM.out]
          exact OO2
        · rw [B5.cell.1 0, vv]; rfl
    case hiter =>
      intro R Rx W1 hRk hRs hY h0 hR0 hz
      exact split1_in w4.heap.size kB w l n' hbO.len (by omega) (by omega) hbO.max (TcC w k kB w4.heap.size) (TcIx w k l) R Rx (fun os W W' h hb => h.below hb) (fun os W u h => h.setB (by omega) (by omega) u) (fun c s W h => h.bad) hRk hY W1 A' c' hbO h0 hR0
    case hstop =>
      rintro c s W ⟨rfl, i2, i3, ⟨d0, d1, d2, d3, d4, d5, d6, d7, d8, S⟩, i5, i6⟩ hK
      apply wpIn_goto
      exact ⟨rfl, ⟨rfl, rfl, rfl, ⟨_, _, _, _, _, _, _, _, _, S⟩, i5, i6, .inr ⟨_, rfl, hK, by have := R4.size; omega⟩⟩, i3⟩
    case hdone =>
      rintro s u10 hS ⟨⟨⟨OA, oc, S10, O10⟩, E10, -, -⟩, -, -, L10, -, -⟩ hK
      have z10 := k2.below L10
      have HOS : Hid (optsP l = some s.os) := hS
      obtain ⟨m, hm⟩ : ∃ m, s.os.length = m := ⟨_, rfl⟩
      rw [hm] at S10 O10
      have kl := R4.size
      have HM := Lib.hid hm
      have HL := Lib.hid hbO.len
      clear hS hm
      rw [hD4] at hK
      have lt10 := (Array.getElem?_eq_some_iff.1 hK).1
      have hne1 : k + 1 ≠ kB + 1 := by omega
      have hne2 : k + 1 + 1 ≠ kB + 1 := by omega
      dsimp only
      gi_wp2
      with_reducible refine And.intro ?_ ?_
      exact trivial
      gi_at_call 47
      refine (callsIn_wide.2 (g0 u10 z10)).mono ?_
      rintro e u11 ⟨rfl, hD11⟩
      have hB11 := hD11.bel
      have S11 := S10.below hB11
      have E11 := E10.below hB11
      have z11 := z10.below hB11
      have L11 := below_then L10 hB11
      have O11 := O10.below hB11
      gi_wp2
      with_reducible refine And.intro ?_ ?_
      exact trivial
      gi_at_call 47
      refine (callsIn_wide.2 (g2 u11 z11)).mono ?_
      rintro e u12 ⟨rfl, hD12⟩
      have hB12 := hD12.bel
      have S12 := S11.below hB12
      have E12 := E11.below hB12
      have z12 := z11.below hB12
      have L12 := below_then L11 hB12
      have O12 := O11.below hB12
      gi_wp2
      with_reducible refine And.intro ?_ ?_
      exact trivial
      gi_at_call 63
      refine (callsIn_wide.2 (g4 u12 z12)).mono ?_
      rintro e u13 ⟨rfl, hD13⟩
      have hB13 := hD13.bel
      have S13 := S12.below hB13
      have E13 := E12.below hB13
      have z13 := z12.below hB13
      have L13 := below_then L12 hB13
      have O13 := O12.below hB13
      gi_wp2
      with_reducible refine And.intro ?_ ?_
      exact trivial
      gi_at_call 63
      refine (callsIn_wide.2 (g8 u13 z13)).mono ?_
      rintro e u14 ⟨rfl, hD14⟩
      have hB14 := hD14.bel
      have S14 := S13.below hB14
      have E14 := E13.below hB14
      have z14 := z13.below hB14
      have L14 := below_then L13 hB14
      have O14 := O13.below hB14
      have sc14 := S14.cell
      have sl14 := S14.lt
      obtain ⟨w6, hw6, S6⟩ := store0123 S14 (.int .u16 v0) (.int .u16 v2) (.int .u32 v4) (.int .u32 v8)
      gi_wp2
      have HK6 : w6.heap[kB + 1]? = some (Obj.deferred (some [])) := by
        rw [← hw6]; simp only [heap_setCell_ne _ _ _ _ _ hne1]; exact ((below_then (below_then (below_then hB11 hB12) hB13) hB14).block _ lt10).trans hK
      have lt6 := (Array.getElem?_eq_some_iff.1 HK6).1
      have L6 := S6.bel L14 (by omega)
      have z6 := k2.below L6
      have D6 := hbD.below L6
      have hT4 : (42 : TypeId) ≠ 5 := by decide
      have hT1 : (42 : TypeId) ≠ 97 := by decide
      have hT5 : (29 : TypeId) ≠ 5 := by decide
      have hT6 : (29 : TypeId) ≠ 97 := by decide
      have Q6 : SO w6 w.heap.size (k + 1) 42 OA m oc s.os := by rw [← hw6]; exact ((((SO.mk O14 ⟨_, S14⟩).set hT4 hT1 _ _).set hT4 hT1 _ _).set hT4 hT1 _ _).set hT4 hT1 _ _
      have E6 := S6.other (k := k + 1 + 1) (by omega) E14
      have l6 := L6.size
      have r6s : w.heap.size ≤ w6.heap.size := L6.size
      have i13 : (13 : Int) < n2 := by omega
      clear hw6 sc14 S10 S11 S12 S13 E10 E11 E12 E13 O10 O11 O12 O13 sl14
      refine wpIn_wide.2 ?_
      refine region_txt 12 (by kernel_rfl) (by kernel_rfl) ?_; (iterate 12 (first | (apply ObsK.skip (by rfl)) | (apply ObsK.v (by rfl); (intro wo hT; (repeat (first | (intro v hv; (skip)) | (intro _ _ k; try have hcv := cv k))); (have bo := z6.below hT; have hsz : w6.heap.size ≤ wo.heap.size := hT.size; have g13o := g13 wo bo); refine Goes.mk ?_; go_simp; first | exact goes_v | exact goes_b (by assumption) | (refine goes_enter ?_; first | (go_at_call 47; ((with_reducible refine (g14 wo bo).mono ?_); rintro e w9 ⟨rfl, hD9⟩); exact ret_v hD9.bel) | (go_at_call 47; ((with_reducible refine (g18 wo bo).mono ?_); rintro e w9 ⟨rfl, hD9⟩); exact ret_v hD9.bel) | (go_at_call 64; ((with_reducible refine (clone_any AD nD cD _ wo (D6.below hT)).mono ?_); rintro e w9 ⟨A9, c9, rfl, ho9, hB9⟩); exact ret_p (own_isW ho9 hsz) hB9)))) | (apply ObsK.b (by rfl); (intro wo hT; (repeat (first | (intro v hv; (skip)) | (intro _ _ k; try have hcv := cv k))); (have bo := z6.below hT; have hsz : w6.heap.size ≤ wo.heap.size := hT.size; have g13o := g13 wo bo); refine Goes.mk ?_; go_simp; first | exact goes_v | exact goes_b (by assumption) | (refine goes_enter ?_; first | (go_at_call 47; ((with_reducible refine (g14 wo bo).mono ?_); rintro e w9 ⟨rfl, hD9⟩); exact ret_v hD9.bel) | (go_at_call 47; ((with_reducible refine (g18 wo bo).mono ?_); rintro e w9 ⟨rfl, hD9⟩); exact ret_v hD9.bel) | (go_at_call 64; ((with_reducible refine (clone_any AD nD cD _ wo (D6.below hT)).mono ?_); rintro e w9 ⟨A9, c9, rfl, ho9, hB9⟩); exact ret_p (own_isW ho9 hsz) hB9)))) | (apply ObsK.p (q := isW w6.heap.size (p.dat.drop hd)) (by rfl) st_isW; (intro wo hT; (repeat (first | (intro v hv; (skip)) | (intro _ _ k; try have hcv := cv k))); (have bo := z6.below hT; have hsz : w6.heap.size ≤ wo.heap.size := hT.size; have g13o := g13 wo bo); refine Goes.mk ?_; go_simp; first | exact goes_v | exact goes_b (by assumption) | (refine goes_enter ?_; first | (go_at_call 47; ((with_reducible refine (g14 wo bo).mono ?_); rintro e w9 ⟨rfl, hD9⟩); exact ret_v hD9.bel) | (go_at_call 47; ((with_reducible refine (g18 wo bo).mono ?_); rintro e w9 ⟨rfl, hD9⟩); exact ret_v hD9.bel) | (go_at_call 64; ((with_reducible refine (clone_any AD nD cD _ wo (D6.below hT)).mono ?_); rintro e w9 ⟨A9, c9, rfl, ho9, hB9⟩); exact ret_p (own_isW ho9 hsz) hB9)))))); refine ObsK.nil ?_; intro wz hBz; simp only [finOn, List.drop_succ_cons, List.drop_zero, List.drop_nil]
      rintro v9 ⟨A9, n9, c9, rfl, O9⟩
      go_simp
      have Sz := S6.blk.below hBz
      have Ez := E6.below hBz
      have Qz := Q6.below hBz
      have Lz := below_then L6 hBz
      have szc := Sz.cell
      have szl := Sz.lt
      obtain ⟨wf, hwf, Sf⟩ := store4568 Sz (.int .u8 v13) (.int .u16 v14) (.int .u16 v18) (.slice A9 n9 c9)
      have sfc := Sf.blk.cell
      have Ef := Sf.other (k := k + 1 + 1) (by omega) Ez
      have efc := Ef.cell
      have sfl := Sf.blk.lt
      have efl := Ef.lt
      go_wp2_with fail
      obtain ⟨wg, hwg, Sg⟩ := store9 Sf.blk (.int .u16 v0) (.int .u16 v2) (.int .u32 v4) (.int .u32 v8) (.int .u8 v13) (.int .u16 v14) (.int .u16 v18) (.slice OA m oc) (.slice A9 n9 c9)
      have Eg := Sg.other (k := k + 1 + 1) (by omega) Ef
      have egc := Eg.cell
      have egl := Eg.lt
      obtain ⟨wh, hwh, Eh⟩ := store1 Eg 0 (.int .i64 0)
      have Sh := Eh.other (k := k + 1) (by omega) Sg.blk
      have shc := Sh.cell
      have ehc := Eh.blk.cell
      gi_wp2
      show LeavesInM _ _ _ _ _ _ _ .returning _
      have HKf : wf.heap[kB + 1]? = some (Obj.deferred (some [])) := by
        rw [← hwf]; simp only [heap_setCell_ne _ _ _ _ _ hne1]; exact (hBz.block _ lt6).trans HK6
      have HKg : wg.heap[kB + 1]? = some (Obj.deferred (some [])) := by
        rw [← hwg]; simp only [heap_setCell_ne _ _ _ _ _ hne1]; exact HKf
      have HKh : wh.heap[kB + 1]? = some (Obj.deferred (some [])) := by
        rw [← hwh]; simp only [heap_setCell_ne _ _ _ _ _ hne2]; exact HKg
      have Qf : SO wf w.heap.size (k + 1) 42 OA m oc s.os := by rw [← hwf]; exact (((Qz.set hT4 hT1 _ _).set hT4 hT1 _ _).set hT4 hT1 _ _).set hT4 hT1 _ _
      have Qg : SO wg w.heap.size (k + 1) 42 OA m oc s.os := by
        rw [← hwg]; exact ((((((((Qf.set hT4 hT1 _ _).set hT4 hT1 _ _).set hT4 hT1 _ _).set hT4 hT1 _ _).set hT4 hT1 _ _).set hT4 hT1 _ _).set hT4 hT1 _ _).set hT4 hT1 _ _).set hT4 hT1 _ _
      have Qh : OsO wh w.heap.size OA m oc s.os := by
        rw [← hwh]; exact Qg.o.apart (grownBy_setCell _ _ _) (fun j e => by cases e; exact ⟨Eg.notOf hT5, Eg.notOf hT6⟩)
      have NC : NoCells wh (kB + 1) := ⟨_, HKh, rfl⟩
      have Qe := Qh.apart (grownBy_putObj' wh (kB + 1) (Obj.deferred none)) (fun j e => by cases e; exact ⟨NC.notOf _, NC.notOf _⟩)
      have el6 := E6.lt
      have Of := Sf.own O9 (fun a e => by have := O9.ge a e; omega)
      have Og := Sg.own Of (fun a e => by have := O9.ge a e; omega)
      have Oh := Eh.own Og (fun a e => by have := O9.ge a e; omega)
      have Oe := Oh.apart (grownBy_putObj' wh (kB + 1) (Obj.deferred none)) (fun j e => by cases e; exact NC.notOf _)
      have Lh := Eh.bel (Sg.bel (Sf.bel Lz (by omega)) (by omega)) (by omega)
      refine ⟨by simp, .inl ⟨_, _, rfl, run_takeDeferred HKh, ?_⟩⟩
      have pf2 : ∀ j, (wh.putObj (kB + 1) (Obj.deferred none)).cell? ⟨k + 1, j, none⟩ = _ := fun j => (cell_putObj (by simpa using hne1) _).trans (shc.1 j)
      have pg2 : ∀ j, (wh.putObj (kB + 1) (Obj.deferred none)).cell? ⟨k + 1 + 1, j, none⟩ = _ := fun j => (cell_putObj (by simpa using hne2) _).trans (ehc.1 j)
      exact ⟨.tuple #[.agg #[.int .u16 v0, .int .u16 v2, .int .u32 v4, .int .u32 v8, .int .u8 v13, .int .u16 v14, .int .u16 v18, .slice OA m oc, .slice A9 n9 c9], .int .i64 0], by simp [results, Try.results70, go_sem, pf2, pg2],
        HY.out s.os HOS.out _ _ ⟨OA, m, oc, A9, n9, c9, rfl, Qe, by have := optsP_len HOS.out; have := HM.out; have := HL.out; omega, Oe.mono r6s, below_putObj Lh (by omega) _⟩⟩
end Go.Proofs.Ythgoffbfgdgkpaa

/- A packet's segment, parsed by the program: in one. -/
namespace Go.Proofs.Ythgoffbfgdgkpaa
open Go.RowKit
set_option linter.unusedVariables false
set_option linter.unusedSimpArgs false
set_option maxHeartbeats 4000000

theorem tc_ways (p : Pkt) (n2 : Nat) (l2 : p.dat.length = n2) (x : Int) (hx : bt p.dat 12 = x) (hd : Nat) (hh : hdS p.dat = hd) :
    (tcE p ≠ 0 ∧ ((tcE p = 12 ∧ (p.proto != 6) = true) ∨ (tcE p = 3 ∧ (p.proto != 6) = false ∧ (n2 : Int) < 20) ∨ (tcE p = 4 ∧ (p.proto != 6) = false ∧ 20 ≤ (n2 : Int) ∧ (hd : Int) < 20) ∨ (tcE p = 4 ∧ (p.proto != 6) = false ∧ 20 ≤ (n2 : Int) ∧ 20 ≤ (hd : Int) ∧ (x % 16 != 0) = true) ∨
      (tcE p = 3 ∧ (p.proto != 6) = false ∧ 20 ≤ (n2 : Int) ∧ 20 ≤ (hd : Int) ∧ (x % 16 != 0) = false ∧ (n2 : Int) < (hd : Int)) ∨ (tcE p = 5 ∧ (p.proto != 6) = false ∧ 20 ≤ (n2 : Int) ∧ 20 ≤ (hd : Int) ∧ (x % 16 != 0) = false ∧ (hd : Int) ≤ (n2 : Int) ∧ (psum p 6 p.dat == 0) = false))) ∨
    ((p.proto != 6) = false ∧ 20 ≤ (n2 : Int) ∧ 20 ≤ (hd : Int) ∧ (x % 16 != 0) = false ∧ (hd : Int) ≤ (n2 : Int) ∧ (psum p 6 p.dat == 0) = true ∧ (optsP ((p.dat.take hd).drop 20) = none → tcE p = 4) ∧ (∀ os, optsP ((p.dat.take hd).drop 20) = some os → tcE p = 0)) := by
  unfold tcE
  rw [l2, hh, hx]
  by_cases h1 : p.proto = 6
  · by_cases h2 : n2 < 20
    · have h2' : (n2 : Int) < 20 := by omega
      simp [h1, h2, h2']
    · have h2' : 20 ≤ (n2 : Int) := by omega
      by_cases h3 : hd < 20
      · have h3' : (hd : Int) < 20 := by omega
        simp [h1, h2, h2', h3, h3']
      · have h3' : 20 ≤ (hd : Int) := by omega
        by_cases h4 : x % 16 = 0
        · by_cases h5 : n2 < hd
          · have h5' : (n2 : Int) < hd := by omega
            simp [h1, h2, h2', h3, h3', h4, h5, h5']
          · have h5' : (hd : Int) ≤ n2 := by omega
            by_cases h6 : psum p 6 p.dat = 0
            · right
              refine ⟨by simp [h1], h2', h3', by simp [h4], h5', by simp [h6], fun h => ?_, fun os h => ?_⟩
              · simp [h1, h2, h3, h4, h5, h6, h]
              · simp [h1, h2, h3, h4, h5, h6, h]
            · left
              have h6' : (psum p 6 p.dat == 0) = false := by simp [h6]
              rw [if_neg (by simp [h1]), if_neg h2, if_neg (by simp [h3, h4]), if_neg h5, if_pos h6]
              exact ⟨by decide, .inr (.inr (.inr (.inr (.inr ⟨rfl, by simp [h1], h2', h3', by simp [h4], h5', h6'⟩))))⟩
        · left
          rw [if_neg (by simp [h1]), if_neg h2, if_pos (.inr h4)]
          exact ⟨by decide, .inr (.inr (.inr (.inl ⟨rfl, by simp [h1], h2', h3', by simp [h4]⟩)))⟩
  · left
    rw [if_pos h1]
    exact ⟨by decide, .inl ⟨rfl, by simp [h1]⟩⟩
theorem tcp_any (p : Pkt) (hp : p.Ok) (A1 : Option Addr) (n1 c1 : Nat) (A2 : Option Addr) (n2 c2 : Nat) (w : World) (k2 : Bs w A2 n2 c2 p.dat) (h7 : n2 ≤ 140737488400000) :
    Calls Try.prog 70 #[(.agg #[.int .u8 (p).tos, .int .u16 (p).id, .bool (p).keep, .int .u8 (p).ttl, .int .u8 (p).proto, .int .u32 (p).src, .int .u32 (p).dst, .slice A1 n1 c1, .slice A2 n2 c2])] w (TcPost w (tcS p) (tcE p)) := by
  have b0 := bt_lo p.dat 12
  have hq : bt p.dat 12 / 16 * 4 = ((hdS p.dat : Nat) : Int) := by unfold hdS; omega
  rcases tc_ways p n2 k2.len _ rfl _ rfl with ⟨h0, h⟩ | ⟨h1, h2, h3, h4, h5, h6, hN, hY⟩
  · have hs : tcS p = zS := by unfold tcS; rw [if_neg h0]
    rw [hs]
    refine tcp_no p hp A1 n1 c1 A2 n2 c2 w k2 _ _ _ _ rfl rfl hq ?_
    rcases h with h | h | h | h | h | h
    · exact .inl h
    · exact .inr (.inl h)
    · exact .inr (.inr (.inl h))
    · exact .inr (.inr (.inr (.inl h)))
    · exact .inr (.inr (.inr (.inr (.inl h))))
    · exact .inr (.inr (.inr (.inr (.inr ⟨h.1, h.2.1, h.2.2.1, h.2.2.2.1, h.2.2.2.2.1, h.2.2.2.2.2.1, h.2.2.2.2.2.2, h7⟩))))
  · refine tcp_go p hp A1 n1 c1 A2 n2 c2 w k2 _ _ _ rfl rfl hq h1 h2 h3 h4 h5 h6 h7 _ (fun hn e w' k => ?_) (fun os hs e w' k => ?_)
    · have he := hN hn
      have hz : tcS p = zS := by unfold tcS; rw [if_neg (by omega)]
      rw [hz, he]
      exact k
    · have he := hY os hs
      have hz : tcS p = ⟨get16 p.dat 0, get16 p.dat 2, get32 p.dat 4, get32 p.dat 8, bt p.dat 13, get16 p.dat 14, get16 p.dat 18, os, p.dat.drop (hdS p.dat)⟩ := by
        unfold tcS; rw [if_pos he]; unfold rdS; rw [hs]; rfl
      rw [hz, he]
      exact k
end Go.Proofs.Ythgoffbfgdgkpaa
