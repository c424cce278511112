import Derived.Test.YtkiiaaadcfaojaaReg
import Derived.Test.YtkiiaaadcfaojaaWire
import Derived.Test.YtkiiaaadcfaojaaEq
import Derived.MapKept
namespace Go.Proofs.Ytkiiaaadcfaojaa
open Go.RowKit Go.MapKept
set_option linter.unusedVariables false
set_option linter.unusedSimpArgs false

def lay (a b c d : Int) : Value := .agg #[.int .i64 a, .int .i64 b, .int .i64 c, .int .i64 d]
def lays : Nat → Array MapEntry
  | 0 => #[]
  | 1 => #[⟨.int .i64 7, .agg #[.int .i64 168, .int .i64 12, .int .i64 0, .int .i64 0], 0⟩]
  | 2 => #[⟨.int .i64 7, .agg #[.int .i64 168, .int .i64 12, .int .i64 0, .int .i64 0], 0⟩, ⟨.int .i64 8, .agg #[.int .i64 32, .int .i64 12, .int .i64 14, .int .i64 16], 1⟩]
  | 3 => #[⟨.int .i64 7, .agg #[.int .i64 168, .int .i64 12, .int .i64 0, .int .i64 0], 0⟩, ⟨.int .i64 8, .agg #[.int .i64 32, .int .i64 12, .int .i64 14, .int .i64 16], 1⟩, ⟨.int .i64 12, .agg #[.int .i64 16, .int .i64 12, .int .i64 0, .int .i64 0], 2⟩]
  | 4 => #[⟨.int .i64 7, .agg #[.int .i64 168, .int .i64 12, .int .i64 0, .int .i64 0], 0⟩, ⟨.int .i64 8, .agg #[.int .i64 32, .int .i64 12, .int .i64 14, .int .i64 16], 1⟩, ⟨.int .i64 12, .agg #[.int .i64 16, .int .i64 12, .int .i64 0, .int .i64 0], 2⟩, ⟨.int .i64 13, .agg #[.int .i64 148, .int .i64 12, .int .i64 0, .int .i64 0], 3⟩]
  | _ => #[⟨.int .i64 7, .agg #[.int .i64 168, .int .i64 12, .int .i64 0, .int .i64 0], 0⟩, ⟨.int .i64 8, .agg #[.int .i64 32, .int .i64 12, .int .i64 14, .int .i64 16], 1⟩, ⟨.int .i64 12, .agg #[.int .i64 16, .int .i64 12, .int .i64 0, .int .i64 0], 2⟩, ⟨.int .i64 13, .agg #[.int .i64 148, .int .i64 12, .int .i64 0, .int .i64 0], 3⟩, ⟨.int .i64 15, .agg #[.int .i64 24, .int .i64 0, .int .i64 12, .int .i64 0], 4⟩]
theorem push_set {α : Type} (h : Array α) (x y : α) : (h.push x).setIfInBounds h.size y = h.push y := by
  apply Array.ext_getElem?
  intro i
  simp only [Array.getElem?_setIfInBounds, Array.getElem?_push, Array.size_push]
  by_cases e : i = h.size
  · simp [e]
  · simp [e, Ne.symm e]
theorem run_insert {w : World} {es es' : Array MapEntry} {c : Nat} (k : Int) (v : Value) (h : Instr.findNow (.int .i64) (.int .i64 k) es.toList 0 = some none) (he : es.push ⟨.int .i64 k, v, c⟩ = es') :
    (Instr.mapUpdate 47 (.map (some w.heap.size)) (.int .i64 k) v).run Try.prog (w.alloc (.map es c)) = .ok () (w.alloc (.map es' (c + 1))) := by
  have hb : (w.alloc (.map es c)).heap[w.heap.size]? = some (.map es c) := (heap_alloc w _).1
  have ht := Try.underlying47
  have hk := Try.underlying3
  have hkey : IsKey (.int .i64) (.int .i64 k) := rfl
  subst he
  simp [Instr.mapUpdate, run_underlying ht, MapKept.run_getObj_map hb, run_checkKey hk hkey, run_findKey hk h, run_setObj_map _ hb, Result.andThen]
  show ({ w with heap := (w.heap.push _).setIfInBounds w.heap.size _ } : World) = _
  rw [push_set]
  rfl
theorem layouts_any (w : World) :
    Calls Try.prog 22 #[] w fun e w' => e = .returned (.map (some w.heap.size)) ∧ w' = w.alloc (.map (lays 5) 5) := by
  have h0 : (Instr.makeMap 47 none).run Try.prog w = .ok (.map (some w.heap.size)) (w.alloc (.map (lays 0) 0)) := rfl
  have h1 := run_insert (w := w) (es := lays 0) (es' := lays 1) (c := 0) 7 _ rfl rfl
  have h2 := run_insert (w := w) (es := lays 1) (es' := lays 2) (c := 1) 8 _ rfl rfl
  have h3 := run_insert (w := w) (es := lays 2) (es' := lays 3) (c := 2) 12 _ rfl rfl
  have h4 := run_insert (w := w) (es := lays 3) (es' := lays 4) (c := 3) 13 _ rfl rfl
  have h5 := run_insert (w := w) (es := lays 4) (es' := lays 5) (c := 4) 15 _ rfl rfl
  go_enter Try.func22, Try.ntmps22
  go_wp2_with fail
  go_ret
  exact ⟨rfl, rfl⟩

def szT (t : Int) : Int := if t = 7 then 168 else if t = 8 then 32 else if t = 12 then 16 else if t = 13 then 148 else if t = 15 then 24 else 0
def caT (t : Int) : Int := if t = 7 ∨ t = 8 ∨ t = 12 ∨ t = 13 then 12 else 0
def peT (t : Int) : Int := if t = 8 then 14 else if t = 15 then 12 else 0
def reT (t : Int) : Int := if t = 8 then 16 else 0
theorem run_lay {W : World} {r : Nat} (h : W.heap[r]? = some (.map (lays 5) 5)) (t : Int) (ok : Bool) :
    (Instr.lookup 47 (.map (some r)) (.int .i64 t) ok).run Try.prog W =
      .ok (if ok then .tuple #[.agg #[.int .i64 (szT t), .int .i64 (caT t), .int .i64 (peT t), .int .i64 (reT t)], .bool (szT t != 0)] else .agg #[.int .i64 (szT t), .int .i64 (caT t), .int .i64 (peT t), .int .i64 (reT t)]) W := by
  have ht := Try.underlying47
  have hk := Try.underlying3
  have hkey : IsKey (.int .i64) (.int .i64 t) := rfl
  have hz : (zeroValue 45).run Try.prog W = .ok (.agg #[.int .i64 0, .int .i64 0, .int .i64 0, .int .i64 0]) W := by rfl
  have hemp : (lays 5).isEmpty = false := rfl
  by_cases h7 : t = 7
  · subst h7
    have hf : Instr.findNow (.int .i64) (.int .i64 7) (lays 5).toList 0 = some (some (0, .agg #[.int .i64 168, .int .i64 12, .int .i64 0, .int .i64 0])) := rfl
    cases ok <;> simp [Instr.lookup, run_underlying ht, MapKept.run_getObj_map h, run_checkKey hk hkey, run_findKey hk hf, Result.andThen, szT, caT, peT, reT]
  by_cases h8 : t = 8
  · subst h8
    have hf : Instr.findNow (.int .i64) (.int .i64 8) (lays 5).toList 0 = some (some (1, .agg #[.int .i64 32, .int .i64 12, .int .i64 14, .int .i64 16])) := rfl
    cases ok <;> simp [Instr.lookup, run_underlying ht, MapKept.run_getObj_map h, run_checkKey hk hkey, run_findKey hk hf, Result.andThen, szT, caT, peT, reT]
  by_cases h12 : t = 12
  · subst h12
    have hf : Instr.findNow (.int .i64) (.int .i64 12) (lays 5).toList 0 = some (some (2, .agg #[.int .i64 16, .int .i64 12, .int .i64 0, .int .i64 0])) := rfl
    cases ok <;> simp [Instr.lookup, run_underlying ht, MapKept.run_getObj_map h, run_checkKey hk hkey, run_findKey hk hf, Result.andThen, szT, caT, peT, reT]
  by_cases h13 : t = 13
  · subst h13
    have hf : Instr.findNow (.int .i64) (.int .i64 13) (lays 5).toList 0 = some (some (3, .agg #[.int .i64 148, .int .i64 12, .int .i64 0, .int .i64 0])) := rfl
    cases ok <;> simp [Instr.lookup, run_underlying ht, MapKept.run_getObj_map h, run_checkKey hk hkey, run_findKey hk hf, Result.andThen, szT, caT, peT, reT]
  by_cases h15 : t = 15
  · subst h15
    have hf : Instr.findNow (.int .i64) (.int .i64 15) (lays 5).toList 0 = some (some (4, .agg #[.int .i64 24, .int .i64 0, .int .i64 12, .int .i64 0])) := rfl
    cases ok <;> simp [Instr.lookup, run_underlying ht, MapKept.run_getObj_map h, run_checkKey hk hkey, run_findKey hk hf, Result.andThen, szT, caT, peT, reT]
  have hf : Instr.findNow (.int .i64) (.int .i64 t) (lays 5).toList 0 = some none := by
    simp [lays, Instr.findNow, Instr.sameNow, beq_eq_false_iff_ne.2 h7, beq_eq_false_iff_ne.2 h8, beq_eq_false_iff_ne.2 h12, beq_eq_false_iff_ne.2 h13, beq_eq_false_iff_ne.2 h15]
  cases ok <;> simp [Instr.lookup, run_underlying ht, MapKept.run_getObj_map h, run_checkKey hk hkey, run_findKey hk hf, Result.andThen, szT, caT, peT, reT, hz, h7, h8, h12, h13, h15]

/-- What the head must be. -/
def headB (l : List UInt8) (n : Int) : Bool := decide (bt l 0 = n / 256 % 256 ∧ bt l 1 = n % 256 ∧ bt l 2 = 0 ∧ bt l 3 = 1 ∧ bt l 4 = 26 ∧ bt l 5 = 43 ∧ bt l 6 = 60 ∧ bt l 7 = 77 ∧ bt l 10 = 0 ∧ bt l 11 = 0)
theorem eq_head (l : List UInt8) (n : Int) (W : World) : (Op.equalIn 10000 42
    (.agg #[.int .u8 (bt l 0), .int .u8 (bt l 1), .int .u8 (bt l 2), .int .u8 (bt l 3), .int .u8 (bt l 4), .int .u8 (bt l 5), .int .u8 (bt l 6), .int .u8 (bt l 7), .int .u8 0, .int .u8 0, .int .u8 (bt l 10), .int .u8 (bt l 11)])
    (.agg #[.int .u8 (n / 256 % 256), .int .u8 (n % 256), .int .u8 0, .int .u8 1, .int .u8 26, .int .u8 43, .int .u8 60, .int .u8 77, .int .u8 0, .int .u8 0, .int .u8 0, .int .u8 0])).run Try.prog W = .ok (headB l n) W := by
  obtain ⟨i8, hi8, _, hs8, _⟩ := info_parts info_u8
  have := run_eq_ints (P := Try.prog) W 9998 42 5 .u8 12
    #[.int .u8 (bt l 0), .int .u8 (bt l 1), .int .u8 (bt l 2), .int .u8 (bt l 3), .int .u8 (bt l 4), .int .u8 (bt l 5), .int .u8 (bt l 6), .int .u8 (bt l 7), .int .u8 0, .int .u8 0, .int .u8 (bt l 10), .int .u8 (bt l 11)]
    #[.int .u8 (n / 256 % 256), .int .u8 (n % 256), .int .u8 0, .int .u8 1, .int .u8 26, .int .u8 43, .int .u8 60, .int .u8 77, .int .u8 0, .int .u8 0, .int .u8 0, .int .u8 0]
    (fun i => [bt l 0, bt l 1, bt l 2, bt l 3, bt l 4, bt l 5, bt l 6, bt l 7, 0, 0, bt l 10, bt l 11].getD i 0) (fun i => [n / 256 % 256, n % 256, 0, 1, 26, 43, 60, 77, 0, 0, 0, 0].getD i 0)
    Try.underlying42 Try.underlying5 hi8 hs8 (fun i hi => by
      match i, hi with
      | 0, _ | 1, _ | 2, _ | 3, _ | 4, _ | 5, _ | 6, _ | 7, _ | 8, _ | 9, _ | 10, _ | 11, _ => rfl) (fun i hi => by
      match i, hi with
      | 0, _ | 1, _ | 2, _ | 3, _ | 4, _ | 5, _ | 6, _ | 7, _ | 8, _ | 9, _ | 10, _ | 11, _ => rfl)
  refine this.trans ?_
  congr 1
  rw [Bool.eq_iff_iff]
  simp [headB, List.range, List.range.loop]
end Go.Proofs.Ytkiiaaadcfaojaa
