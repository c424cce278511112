/- A message, a frame that came in, opened. -/
import Derived.Test.YtogbncpchmnbdaaOpenPkt
import Derived.Test.YtogbncpchmnbdaaMsg
import Derived.Test.YtogbncpchmnbdaaGre1
namespace Go.Proofs.Ytogbncpchmnbdaa
open Go.ChangeShapes Go.WideShapes Go.ChangeAt Go.RowKit Go.Deep
set_option linter.unusedVariables false

section
variable {H : Type} {enc : TypeId × Value → H} {P : Program} {w : World} {base : Nat} {held : Bool} {spare : Nat → Bool}
theorem list4 {α : Type} {l : List α} (h : l.length = 4) : ∃ a b c d, l = [a, b, c, d] := by
  match l, h with
  | [a, b, c, d], _ => exact ⟨a, b, c, d, rfl⟩
theorem list6 {α : Type} {l : List α} (h : l.length = 6) : ∃ a b c d e f, l = [a, b, c, d, e, f] := by
  match l, h with
  | [a, b, c, d, e, f], _ => exact ⟨a, b, c, d, e, f, rfl⟩
theorem slice_smallT {t e : TypeId} {n : Nat} {y : DataW H} (ht : P.underlying t = some (.slice e)) (hb : P.bytesOf e = 1) (hw : ∀ m ∈ y.weights P t, m ≤ reachBytes) (hd : (y = .nil ∧ n = 0) ∨ ∃ es sp, y = .slice es sp ∧ es.length = n) : n ≤ 140737488351232 := by
  rcases hd with ⟨_, h⟩ | ⟨es, sp, rfl, hn⟩
  · omega
  · have h1 := hw ((es.length + sp.length) * P.bytesOf e) (by simp [DataW.weights, ht])
    rw [hb] at h1
    simp only [reachBytes] at h1
    omega
theorem trod_bytesT {t e : TypeId} {n : Nat} {v : Value} {y : DataW H × List MemPlace} (ht : P.underlying t = some (.slice e)) (he : P.underlying e = some (.int .u8)) (hc : P.cellsOf e = 1) (hb : P.bytesOf e = 1)
    (hw : ∀ m ∈ y.1.weights P t, m ≤ reachBytes) (h : DataW.trod enc P w base spare held n t [v] = some y) : ∃ A n c l, v = .slice A n c ∧ Bs w A n c l ∧ n ≤ 140737488351232 := by
  obtain ⟨A, n, c, l, hv, hbs, hd⟩ := open_bs ht he hc h
  have hs := slice_smallT ht hb hw hd
  exact ⟨A, n, c, l, hv, hbs (by omega), hs⟩
/-- A struct of one-cell fields, by its cells. -/
theorem open_structT {t : TypeId} {fs : Array Field} {cs : List Value} {n0 : Nat} {x : DataW H × List MemPlace} (hs : P.underlying t = some (.struct fs)) (hone : oneCellFields P fs = true)
    (h : DataW.trod enc P w base spare held n0 t cs = some x) :
    ∃ (xs : List (DataW H × List MemPlace)) (n : Nat), cs.length = P.cellsOf t ∧ x.1 = .agg (xs.map (·.1)) ∧ xs.length = fs.size ∧
      ∀ i f, fs[i]? = some f → DataW.trod enc P w base spare held n f.type ((cs.drop i).take 1) = xs[i]? := by
  obtain ⟨xs, n, _, hx, hl, hxl, hi⟩ := DataW.trod_struct hs h
  refine ⟨xs, n, hl, by rw [hx], hxl, fun i f hfi => ?_⟩
  have h1 := hi i f hfi
  obtain ⟨o, k⟩ := hone_of hone i f hfi
  simpa [o, k] using h1
theorem mem_weightsAll {e : TypeId} : ∀ {ds : List (DataW H)} {j : Nat} {d : DataW H}, ds[j]? = some d → ∀ n ∈ d.weights P e, n ∈ DataW.weightsAll P e ds
  | [], j, d, h, _, _ => by simp at h
  | x :: r, 0, d, h, n, hn => by
    simp only [List.getElem?_cons_zero, Option.some.injEq] at h
    subst h
    simp only [DataW.weightsAll, List.mem_append]
    exact .inl hn
  | x :: r, j + 1, d, h, n, hn => by
    simp only [List.getElem?_cons_succ] at h
    simp only [DataW.weightsAll, List.mem_append]
    exact .inr (mem_weightsAll h n hn)
theorem weights_arr {t e : TypeId} {n : Nat} {parts : List (DataW H)} {j : Nat} {y : DataW H} (ht : P.underlying t = some (.array n e)) (hsz : ∀ m ∈ (DataW.agg parts).weights P t, m ≤ reachBytes) (hy : parts[j]? = some y) :
    ∀ m ∈ y.weights P e, m ≤ reachBytes := fun m hm => hsz m (by rw [DataW.weights, ht]; exact mem_weightsAll hy m hm)
end
section
variable {H : Type} {enc : TypeId × Value → H} {w : World} {base : Nat} {held : Bool} {spare : Nat → Bool}
theorem open_msg {r : Reach} {b0 : Nat} {v : Value} {d : DataW H} {ps : List MemPlace} (hval : Value.okWide Try.prog w r b0 28 v) (hd : DataW.Trod enc Try.prog w base spare held 28 v d ps)
    (hsz : ∀ m ∈ d.weights Try.prog 28, m ≤ reachBytes) :
    ∃ (m : Msg) (A1 : Option Addr) (n1 c1 : Nat), v = (.agg #[.int .u8 (m).ty, .int .u8 (m).code, .int .u32 (m).rest, .slice A1 n1 c1]) ∧ m.Ok ∧ Bs w A1 n1 c1 m.dat ∧ n1 ≤ 140737488351232 := by
  have hu := Try.underlying28
  obtain ⟨cs, xs, n, rfl, hcl, rfl, hxl, hi⟩ := open_struct hu (by kernel_rfl) hval hd
  rw [show (Try.prog.cellsOf 28) = 4 from by kernel_rfl] at hcl
  obtain ⟨v0, v1, v2, v3, rfl⟩ := list4 hcl
  obtain ⟨y0, y1, y2, y3, rfl⟩ := list4 (by simpa using hxl)
  obtain ⟨a0, rfl, b0l, b0h⟩ := trod_byte (t := 5) Try.underlying5 (by simpa using hi 0 _ rfl)
  obtain ⟨a1, rfl, b1l, b1h⟩ := trod_byte (t := 5) Try.underlying5 (by simpa using hi 1 _ rfl)
  obtain ⟨a2, rfl, b2l, b2h⟩ := trod_u32 (t := 23) Try.underlying23 (by simpa using hi 2 _ rfl)
  obtain ⟨A1, n1, c1, l1, rfl, k1, z1⟩ := trod_bytesT (t := 24) Try.underlying24 Try.underlying5 (by kernel_rfl) (by kernel_rfl) (weights_field (j := 3) (y := y3.1) hu hsz rfl (by simp)) (by simpa using hi 3 _ rfl)
  exact ⟨⟨a0, a1, a2, l1⟩, A1, n1, c1, rfl, ⟨⟨b0l, b0h⟩, ⟨b1l, b1h⟩, ⟨b2l, b2h⟩⟩, k1, z1⟩
theorem open_frmT {cs : List Value} {n0 : Nat} {x : DataW H × List MemPlace} (h : DataW.trod enc Try.prog w base spare held n0 30 cs = some x) (hsz : ∀ m ∈ x.1.weights Try.prog 30, m ≤ reachBytes) :
    ∃ (f : Frm) (A1 : Option Addr) (n1 c1 : Nat), cs = [.int .u16 (f).call, .bool (f).hs, .bool (f).ha, .int .u32 (f).seq, .int .u32 (f).ack, .slice A1 n1 c1] ∧ f.Ok ∧ Bs w A1 n1 c1 f.dat ∧ n1 ≤ 140737488351232 := by
  have hu := Try.underlying30
  obtain ⟨xs, n, hcl, hx, hxl, hi⟩ := open_structT hu (by kernel_rfl) h
  rw [hx] at hsz
  rw [show (Try.prog.cellsOf 30) = 6 from by kernel_rfl] at hcl
  obtain ⟨v0, v1, v2, v3, v4, v5, rfl⟩ := list6 hcl
  obtain ⟨y0, y1, y2, y3, y4, y5, rfl⟩ := list6 (by simpa using hxl)
  obtain ⟨a0, rfl, b0l, b0h⟩ := trod_u16 (t := 22) Try.underlying22 (by simpa using hi 0 _ rfl)
  obtain ⟨a1, rfl⟩ := trod_yes (t := 4) Try.underlying4 (by simpa using hi 1 _ rfl)
  obtain ⟨a2, rfl⟩ := trod_yes (t := 4) Try.underlying4 (by simpa using hi 2 _ rfl)
  obtain ⟨a3, rfl, b3l, b3h⟩ := trod_u32 (t := 23) Try.underlying23 (by simpa using hi 3 _ rfl)
  obtain ⟨a4, rfl, b4l, b4h⟩ := trod_u32 (t := 23) Try.underlying23 (by simpa using hi 4 _ rfl)
  obtain ⟨A1, n1, c1, l1, rfl, k1, z1⟩ := trod_bytesT (t := 24) Try.underlying24 Try.underlying5 (by kernel_rfl) (by kernel_rfl) (weights_field (j := 5) (y := y5.1) hu hsz rfl (by simp)) (by simpa using hi 5 _ rfl)
  exact ⟨⟨a0, a1, a2, a3, a4, l1⟩, A1, n1, c1, rfl, ⟨⟨b0l, b0h⟩, ⟨b3l, b3h⟩, ⟨b4l, b4h⟩⟩, k1, z1⟩
theorem open_frm {r : Reach} {b0 : Nat} {v : Value} {d : DataW H} {ps : List MemPlace} (hval : Value.okWide Try.prog w r b0 30 v) (hd : DataW.Trod enc Try.prog w base spare held 30 v d ps)
    (hsz : ∀ m ∈ d.weights Try.prog 30, m ≤ reachBytes) :
    ∃ (f : Frm) (A1 : Option Addr) (n1 c1 : Nat), v = (.agg #[.int .u16 (f).call, .bool (f).hs, .bool (f).ha, .int .u32 (f).seq, .int .u32 (f).ack, .slice A1 n1 c1]) ∧ f.Ok ∧ Bs w A1 n1 c1 f.dat ∧ n1 ≤ 140737488351232 := by
  obtain ⟨cs, rfl, -⟩ := okWide_struct Try.underlying30 hval
  obtain ⟨fuel, hf⟩ := hd
  obtain ⟨f, A1, n1, c1, he, h1, h2, h3⟩ := open_frmT hf hsz
  refine ⟨f, A1, n1, c1, ?_, h1, h2, h3⟩
  congr 1
  apply Array.ext'
  simpa [Value.cells] using he
/-- Two frames in an array. -/
theorem open_frm2 {r : Reach} {b0 : Nat} {v : Value} {d : DataW H} {ps : List MemPlace} (hval : Value.okWide Try.prog w r b0 39 v) (hd : DataW.Trod enc Try.prog w base spare held 39 v d ps)
    (hsz : ∀ m ∈ d.weights Try.prog 39, m ≤ reachBytes) :
    ∃ (f : Frm) (A1 : Option Addr) (n1 c1 : Nat) (g : Frm) (A2 : Option Addr) (n2 c2 : Nat), v = .agg ([.int .u16 (f).call, .bool (f).hs, .bool (f).ha, .int .u32 (f).seq, .int .u32 (f).ack, .slice A1 n1 c1] ++ [.int .u16 (g).call, .bool (g).hs, .bool (g).ha, .int .u32 (g).seq, .int .u32 (g).ack, .slice A2 n2 c2] : List Value).toArray ∧ f.Ok ∧ Bs w A1 n1 c1 f.dat ∧ n1 ≤ 140737488351232 ∧ g.Ok ∧ Bs w A2 n2 c2 g.dat ∧ n2 ≤ 140737488351232 := by
  have hu := Try.underlying39
  unfold Value.okWide at hval
  rw [hu] at hval
  obtain ⟨cs, rfl, -, -⟩ := hval
  obtain ⟨fuel, hf⟩ := hd
  obtain ⟨xs, m, -, hx, hl, hxl, hi⟩ := DataW.trod_array hu hf
  injection hx with hx1 hx2
  subst hx1
  have c6 : (Try.prog.cellsOf 30) = 6 := by kernel_rfl
  have c12 : (Try.prog.cellsOf 39) = 12 := by kernel_rfl
  rw [c6] at hi
  have e0 := hi 0 (by omega)
  have e1 := hi 1 (by omega)
  have x0 : xs[0]? = some xs[0] := List.getElem?_eq_getElem (by omega)
  have x1 : xs[1]? = some xs[1] := List.getElem?_eq_getElem (by omega)
  rw [x0] at e0
  rw [x1] at e1
  obtain ⟨f, A1, n1, c1, h1, h2, h3, h4⟩ := open_frmT e0 (weights_arr (j := 0) hu hsz (by simp [x0]))
  obtain ⟨g, A2, n2, c2, g1, g2, g3, g4⟩ := open_frmT e1 (weights_arr (j := 1) hu hsz (by simp [x1]))
  refine ⟨f, A1, n1, c1, g, A2, n2, c2, ?_, h2, h3, h4, g2, g3, g4⟩
  congr 1
  apply Array.ext'
  simp only [Value.cells] at h1 g1 hl
  rw [c12] at hl
  have : cs.toList = cs.toList.take 6 ++ (cs.toList.drop 6).take 6 := by
    conv => lhs; rw [← List.take_append_drop 6 cs.toList]
    congr 1
    exact (List.take_of_length_le (by simp only [List.length_drop]; omega)).symm
  rw [this]
  simp only [Nat.zero_mul, List.drop_zero, Nat.one_mul] at h1 g1
  rw [h1, g1]
end
end Go.Proofs.Ytogbncpchmnbdaa
