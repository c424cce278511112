/- A packet that came in, opened. -/
import Derived.Test.YtogbncpchmnbdaaOpen
import Derived.Test.YtogbncpchmnbdaaPkt
import Derived.Deep.Fields
namespace Go.Proofs.Ytogbncpchmnbdaa
open Go.ChangeShapes Go.WideShapes Go.ChangeAt Go.RowKit Go.Deep
set_option linter.unusedVariables false
set_option maxRecDepth 100000

section
variable {H : Type} {enc : TypeId × Value → H} {P : Program} {w : World} {base : Nat} {held : Bool} {spare : Nat → Bool}
/-- A struct of one-cell fields that came in, opened. -/
theorem open_struct {r : Reach} {b0 : Nat} {t : TypeId} {fs : Array Field} {v : Value} {d : DataW H} {ps : List MemPlace} (hs : P.underlying t = some (.struct fs)) (hone : oneCellFields P fs = true)
    (hv : Value.okWide P w r b0 t v) (h : DataW.Trod enc P w base spare held t v d ps) :
    ∃ (cs : List Value) (xs : List (DataW H × List MemPlace)) (n : Nat), v = .agg cs.toArray ∧ cs.length = P.cellsOf t ∧ d = .agg (xs.map (·.1)) ∧ xs.length = fs.size ∧
      ∀ i f, fs[i]? = some f → DataW.trod enc P w base spare held n f.type ((cs.drop i).take 1) = xs[i]? := by
  obtain ⟨cs, rfl, hsz⟩ := okWide_struct hs hv
  obtain ⟨fuel, hf⟩ := h
  obtain ⟨xs, n, _, hx, hl, hxl, hi⟩ := DataW.trod_struct hs hf
  simp only [Prod.mk.injEq] at hx
  refine ⟨cs.toList, xs, n, by simp, by simpa using hsz, hx.1, hxl, fun i f hfi => ?_⟩
  have h1 := hi i f hfi
  obtain ⟨o, k⟩ := hone_of hone i f hfi
  simpa [Value.cells, o, k] using h1
theorem list9 {α : Type} {l : List α} (h : l.length = 9) : ∃ a b c d e f g i j, l = [a, b, c, d, e, f, g, i, j] := by
  match l, h with
  | [a, b, c, d, e, f, g, i, j], _ => exact ⟨a, b, c, d, e, f, g, i, j, rfl⟩
theorem slice_small {t e : TypeId} {n : Nat} {y : DataW H} (ht : P.underlying t = some (.slice e)) (hb : P.bytesOf e = 1) (hw : ∀ m ∈ y.weights P t, m ≤ reachBytes) (hd : (y = .nil ∧ n = 0) ∨ ∃ es sp, y = .slice es sp ∧ es.length = n) : n ≤ 200000000000000 := by
  rcases hd with ⟨_, h⟩ | ⟨es, sp, rfl, hn⟩
  · omega
  · have h1 := hw ((es.length + sp.length) * P.bytesOf e) (by simp [DataW.weights, ht])
    rw [hb] at h1
    simp only [reachBytes] at h1
    omega
theorem trod_byte {t : TypeId} {n : Nat} {v : Value} {y : DataW H × List MemPlace} (ht : P.underlying t = some (.int .u8)) (h : DataW.trod enc P w base spare held n t [v] = some y) : ∃ a, v = .int .u8 a ∧ 0 ≤ a ∧ a ≤ 255 := by
  obtain ⟨a, e, -, hw⟩ := DataW.trod_int ht h
  injection e with e
  exact ⟨a, e, by simpa [Lit.wf, IntKind.min, IntKind.max, IntKind.signed, IntKind.bits] using hw⟩
theorem trod_u16 {t : TypeId} {n : Nat} {v : Value} {y : DataW H × List MemPlace} (ht : P.underlying t = some (.int .u16)) (h : DataW.trod enc P w base spare held n t [v] = some y) : ∃ a, v = .int .u16 a ∧ 0 ≤ a ∧ a ≤ 65535 := by
  obtain ⟨a, e, -, hw⟩ := DataW.trod_int ht h
  injection e with e
  exact ⟨a, e, by simpa [Lit.wf, IntKind.min, IntKind.max, IntKind.signed, IntKind.bits] using hw⟩
theorem trod_u32 {t : TypeId} {n : Nat} {v : Value} {y : DataW H × List MemPlace} (ht : P.underlying t = some (.int .u32)) (h : DataW.trod enc P w base spare held n t [v] = some y) : ∃ a, v = .int .u32 a ∧ 0 ≤ a ∧ a ≤ 4294967295 := by
  obtain ⟨a, e, -, hw⟩ := DataW.trod_int ht h
  injection e with e
  exact ⟨a, e, by simpa [Lit.wf, IntKind.min, IntKind.max, IntKind.signed, IntKind.bits] using hw⟩
theorem trod_yes {t : TypeId} {n : Nat} {v : Value} {y : DataW H × List MemPlace} (ht : P.underlying t = some .bool) (h : DataW.trod enc P w base spare held n t [v] = some y) : ∃ b, v = .bool b := by
  obtain ⟨b, e, -⟩ := DataW.trod_bool ht h
  injection e with e
  exact ⟨b, e⟩
/-- A field of bytes. -/
theorem trod_bytes {t e : TypeId} {n : Nat} {v : Value} {y : DataW H × List MemPlace} (ht : P.underlying t = some (.slice e)) (he : P.underlying e = some (.int .u8)) (hc : P.cellsOf e = 1) (hb : P.bytesOf e = 1)
    (hw : ∀ m ∈ y.1.weights P t, m ≤ reachBytes) (h : DataW.trod enc P w base spare held n t [v] = some y) : ∃ A n c l, v = .slice A n c ∧ Bs w A n c l := by
  obtain ⟨A, n, c, l, hv, hbs, hd⟩ := open_bs ht he hc h
  exact ⟨A, n, c, l, hv, hbs (slice_small ht hb hw hd)⟩
theorem weights_field {t : TypeId} {fs : Array Field} {parts : List (DataW H)} {j : Nat} {f : Field} {y : DataW H} (hs : P.underlying t = some (.struct fs)) (hsz : ∀ m ∈ (DataW.agg parts).weights P t, m ≤ reachBytes) (hf : fs[j]? = some f) (hy : parts[j]? = some y) :
    ∀ m ∈ y.weights P f.type, m ≤ reachBytes := by
  intro m hm
  refine hsz m ?_
  rw [DataW.weights, hs]
  exact DataW.weights_mem_each (j := j) (by simp [hf]) hy m hm
end
section
variable {H : Type} {enc : TypeId × Value → H} {w : World} {base : Nat} {held : Bool} {spare : Nat → Bool}
theorem open_pkt {r : Reach} {b0 : Nat} {v : Value} {d : DataW H} {ps : List MemPlace} (hval : Value.okWide Try.prog w r b0 26 v) (hd : DataW.Trod enc Try.prog w base spare held 26 v d ps)
    (hsz : ∀ m ∈ d.weights Try.prog 26, m ≤ reachBytes) :
    ∃ (p : Pkt) (A1 : Option Addr) (n1 c1 : Nat) (A2 : Option Addr) (n2 c2 : Nat), v = (.agg #[.int .u8 (p).tos, .int .u16 (p).id, .bool (p).keep, .int .u8 (p).ttl, .int .u8 (p).proto, .int .u32 (p).src, .int .u32 (p).dst, .slice A1 n1 c1, .slice A2 n2 c2]) ∧ p.Ok ∧ Bs w A1 n1 c1 p.opt ∧ Bs w A2 n2 c2 p.dat := by
  have hu := Try.underlying26
  obtain ⟨cs, xs, n, rfl, hcl, rfl, hxl, hi⟩ := open_struct hu (by kernel_rfl) hval hd
  rw [show (Try.prog.cellsOf 26) = 9 from by kernel_rfl] at hcl
  obtain ⟨v0, v1, v2, v3, v4, v5, v6, v7, v8, rfl⟩ := list9 hcl
  obtain ⟨y0, y1, y2, y3, y4, y5, y6, y7, y8, rfl⟩ := list9 (by simpa using hxl)
  obtain ⟨a0, rfl, b0l, b0h⟩ := trod_byte (t := 5) Try.underlying5 (by simpa using hi 0 _ rfl)
  obtain ⟨a1, rfl, b1l, b1h⟩ := trod_u16 (t := 22) Try.underlying22 (by simpa using hi 1 _ rfl)
  obtain ⟨a2, rfl⟩ := trod_yes (t := 4) Try.underlying4 (by simpa using hi 2 _ rfl)
  obtain ⟨a3, rfl, b3l, b3h⟩ := trod_byte (t := 5) Try.underlying5 (by simpa using hi 3 _ rfl)
  obtain ⟨a4, rfl, b4l, b4h⟩ := trod_byte (t := 5) Try.underlying5 (by simpa using hi 4 _ rfl)
  obtain ⟨a5, rfl, b5l, b5h⟩ := trod_u32 (t := 23) Try.underlying23 (by simpa using hi 5 _ rfl)
  obtain ⟨a6, rfl, b6l, b6h⟩ := trod_u32 (t := 23) Try.underlying23 (by simpa using hi 6 _ rfl)
  obtain ⟨A1, n1, c1, l1, rfl, k1⟩ := trod_bytes (t := 24) Try.underlying24 Try.underlying5 (by kernel_rfl) (by kernel_rfl) (weights_field (j := 7) (y := y7.1) hu hsz rfl (by simp)) (by simpa using hi 7 _ rfl)
  obtain ⟨A2, n2, c2, l2, rfl, k2⟩ := trod_bytes (t := 24) Try.underlying24 Try.underlying5 (by kernel_rfl) (by kernel_rfl) (weights_field (j := 8) (y := y8.1) hu hsz rfl (by simp)) (by simpa using hi 8 _ rfl)
  exact ⟨⟨a0, a1, a2, a3, a4, a5, a6, l1, l2⟩, A1, n1, c1, A2, n2, c2, rfl, ⟨⟨b0l, b0h⟩, ⟨b1l, b1h⟩, ⟨b3l, b3h⟩, ⟨b4l, b4h⟩, ⟨b5l, b5h⟩, ⟨b6l, b6h⟩⟩, k1, k2⟩
end
end Go.Proofs.Ytogbncpchmnbdaa
