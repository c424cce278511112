/- A loop over an iterator that keeps its state in a captured variable: the statement's law, the iterator met at the caller's own invariant. -/
import Derived.RangeFuncNested
import Derived.RangeFuncCalls
import Derived.RangeFuncLeaves
import Derived.Shelf.Abstract
import Derived.Test.YtogbncpchmnbdaaBase
namespace Go.Proofs.Ytogbncpchmnbdaa
open Go.RowKit Go.Shelf
set_option linter.unusedVariables false

/-- The loop's record and the block for its rounds' deferred calls, as they lie between two rounds (j: the jump that a round has left). -/
structure Loops (D : Nat) (r : Loop) (j : Option Code) (W : World) : Prop where
  loop : W.heap[D + 1]? = some (.loop { r with state := if j.isNone then .ready else .done, pending := j })
  defers : W.heap[D]? = some (.deferred (some []))
theorem Loops.keep {D : Nat} {r : Loop} {j : Option Code} {W W' : World} (h : Loops D r j W) (hk : KeepsFrom D W W') : Loops D r j W' :=
  ⟨hk.same _ _ (by omega) h.loop rfl, hk.same _ _ (Nat.le_refl _) h.defers rfl⟩

theorem keeps_setCell {B : Nat} (W : World) (p : Addr) (u : Value) : KeepsFrom B W (W.setCell p u) := (KeepsOthers.setCell W p u).from B
theorem keeps_alloc {B : Nat} (W : World) (o : Obj) : KeepsFrom B W (W.alloc o) := (KeepsOthers.alloc W o).from B
theorem keeps_below {B : Nat} {W W' : World} (h : Below W.heap.size W W') : KeepsFrom B W W' :=
  ⟨h.size, fun k o _ hk _ => (h.block k (Array.getElem?_eq_some_iff.1 hk).1).trans hk⟩

theorem below_putObj {B : Nat} {a W : World} (h : Below B a W) {l : Nat} (hl : B ≤ l) (o : Obj) : Below B a (W.putObj l o) :=
  h.trans ⟨rfl, rfl, rfl, by simp, fun k hk => World.putObj_heap_other (by omega)⟩
theorem cell_putObj {W : World} {l : Nat} {p : Addr} (h : p.block ≠ l) (o : Obj) : (W.putObj l o).cell? p = W.cell? p := World.cell?_of_block (World.putObj_heap_other h)
theorem frozen_putObj {W : World} {l : Nat} {p : Addr} (h : p.block ≠ l) (o : Obj) : (W.putObj l o).frozen? p = W.frozen? p := World.frozen?_of_block (World.putObj_heap_other h)

/-- How a round may be left. -/
def roundEnd {β : Type} (D : Nat) (I : β → World → Prop) (Ix : Code → β → World → Prop) (s : β) (W : World) : Exit → Act → World → Prop
  | .normal, _, W' => KeepsFrom D W W' ∧ I s W'
  | .ret, _, W' => KeepsFrom D W W' ∧ Ix .ret s W'
  | .exit id, _, W' => KeepsFrom D W W' ∧ Ix (.exit id) s W'
  | .goto t, _, W' => KeepsFrom D W W' ∧ Ix (.goto t) s W'
  | .panic _, _, _ => False
  | .outgrown, _, _ => False

/-- What the iterator's call is asked: R: the loop's record lies ready; Rx: it bears a jump. -/
def iterEnd {β : Type} (S : β → Prop) (I : β → World → Prop) (Ix : Code → β → World → Prop) (R : World → Prop) (Rx : Code → World → Prop) (e : Ending) (W' : World) : Prop :=
  (∃ v, e = .returned v) ∧ ((∃ s, S s ∧ I s W' ∧ R W') ∨ ∃ c s, Ix c s W' ∧ Rx c W')
def roundSaid {β : Type} (next : β) (I : β → World → Prop) (Ix : Code → β → World → Prop) (R : World → Prop) (Rx : Code → World → Prop) (e : Ending) (W' : World) : Prop :=
  (e = .returned (.bool true) ∧ I next W' ∧ R W') ∨ (e = .returned (.bool false) ∧ ∃ c, Ix c next W' ∧ Rx c W')

theorem range_law {α β : Type} {F : Fence} {n : Nat} {P : Program} {g : Operand} {ps : Array Tmp} {assign body : Code} {Q : Exit → Act → World → Prop} {a : Act} {w : World}
    (hro : F.round = none) (h1 : 1 ≤ n) {gf : Nat} {lb : Array Value} (hg : a.eval g = .func (.func gf) #[] lb) (hFg : F.fn gf) (eg : ∀ args w, (callFunc gf args).run P w = .ok (.enter gf args) w)
    (encs : α → Array Value) (hps : ∀ x, (encs x).size = ps.size) (step : β → α → β) (s0 : β) (S : β → Prop)
    (I : β → World → Prop) (Ix : Code → β → World → Prop)
    (hI : ∀ s W o, I s W → I s (W.putObj (w.heap.size + 1) o)) (hIx : ∀ c s W o, Ix c s W → Ix c s (W.putObj (w.heap.size + 1) o))
    (h0 : ∀ o o', I s0 ((w.alloc o).alloc o')) (a₁ : α → Act)
    (hassign : ∀ (x : α) (W : World) (K : Act → World → Prop), K (a₁ x) W →
      assign.wpIn (F.inRound (w.heap.size + 1)) (n - 1 - 1) P (Exit.then K (fun _ _ _ => False)) { tmps := (ps.zip (encs x)).foldl (fun t (p, v) => t.setIfInBounds p v) a.tmps, defers := [] } W)
    (ok : β → α → Prop)
    (hbody : ∀ (s : β) (x : α) (W : World), ok s x → I s W → w.heap.size + 2 ≤ W.heap.size → body.wpIn (F.inRound (w.heap.size + 1)) (n - 1 - 1) P (roundEnd w.heap.size I Ix (step s x) W) (a₁ x) W)
    (hiter : ∀ (R : World → Prop) (Rx : Code → World → Prop) (W1 : World), (∀ W W', R W → KeepsFrom w.heap.size W W' → R W') → (∀ W, R W → w.heap.size + 2 ≤ W.heap.size) →
      (∀ s x W, ok s x → I s W → R W → YieldAt F (n - 1 - 1) P (w.heap.size + 1) (encs x) W (roundSaid (step s x) I Ix R Rx)) →
      I s0 W1 → R W1 → w.heap.size + 2 = W1.heap.size → CallsIn F (n - 1) P gf (#[.func (.yield (w.heap.size + 1)) #[] #[]] ++ lb) W1 (iterEnd S I Ix R Rx))
    (hdone : ∀ (s : β) (W : World), S s → I s W → W.heap[w.heap.size]? = some (.deferred (some [])) → Q .normal { a with defers := { target := .collected w.heap.size, args := #[] } :: a.defers } W)
    (hstop : ∀ (c : Code) (s : β) (W : World), Ix c s W → W.heap[w.heap.size]? = some (.deferred (some [])) → c.wpIn F n P Q { a with defers := { target := .collected w.heap.size, args := #[] } :: a.defers } W) :
    (Code.rangeFunc g ps assign body).wpIn F n P Q a w := by
  refine wpIn_rangeFunc fun fn hfn => ?_
  rw [hro]
  obtain ⟨D, hD⟩ : ∃ D, w.heap.size = D := ⟨_, rfl⟩
  obtain ⟨r, hr⟩ : ∃ r : Loop, ({ state := .ready, pending := none, fn, tmps := a.tmps, params := ps, assign, body, defers := D } : Loop) = r := ⟨_, rfl⟩
  have hrun := run_enterLoop_outer (P := P) (w := w) fn a.tmps ps assign body
  rw [hD] at hrun hI hIx hbody hiter hdone hstop hassign
  rw [hr] at hrun
  have hready : ({ r with state := if (none : Option Code).isNone then .ready else .done, pending := none } : Loop) = r := by rw [← hr]; rfl
  obtain ⟨W1, hW1⟩ : ∃ W1, (w.alloc (.deferred (some []))).alloc (.loop r) = W1 := ⟨_, rfl⟩
  have hsz : D + 2 = W1.heap.size := by rw [← hW1, ← hD]; simp
  have hL1 : Loops D r none W1 := by
    refine ⟨?_, ?_⟩
    · rw [hready, ← hW1]
      have := World.alloc_heap_new (w.alloc (.deferred (some []))) (.loop r)
      rwa [World.size_alloc, hD] at this
    · rw [← hW1, ← hD]
      exact (Below.heap_alloc _ _ _ (by simp)).trans (World.alloc_heap_new w _)
  rw [hW1] at hrun
  refine ⟨D + 1, _, W1, { target := .fn (.func gf) lb, args := #[.func (.yield (D + 1)) #[] #[]] }, W1, gf, #[.func (.yield (D + 1)) #[] #[]] ++ lb, W1, hrun, ?_, ?_, ?_, fun _ => h1, ?_⟩
  · simp only [resolve, hg]
    simp [go_sem]
  · intro f' hf'
    simp [Target.leads] at hf'
    subst hf'
    exact hFg
  · simp [invoke, go_sem, eg]
  refine (hiter (Loops D r none) (fun c W => Loops D r (some c) W) W1 (fun W W' h hk => h.keep hk) (fun W h => (Array.getElem?_eq_some_iff.1 h.loop).1) ?_ (by rw [← hW1]; exact h0 _ _) hL1 hsz).mono ?_
  · intro s x W hok hi hl
    have hl0 := hl.loop
    rw [hready] at hl0
    have hlt : D + 1 < W.heap.size := (Array.getElem?_eq_some_iff.1 hl0).1
    have hpar : r.params = ps := by rw [← hr]
    have hy := run_yield (P := P) (args := encs x) hl0 (by rw [hpar]; exact hps x)
    obtain ⟨W2, hW2⟩ : ∃ W2, W.putObj (D + 1) (.loop { r with state := .busy }) = W2 := ⟨_, rfl⟩
    have hb2 : W2.heap[D + 1]? = some (.loop { r with state := .busy }) := by rw [← hW2]; exact World.putObj_heap_same hlt
    have hd2 : W2.heap[D]? = some (.deferred (some [])) := by rw [← hW2]; exact (World.putObj_heap_other (by omega)).trans hl.defers
    have hs2 : D + 2 ≤ W2.heap.size := (Array.getElem?_eq_some_iff.1 hb2).1
    have hi2 : I s W2 := by rw [← hW2]; exact hI _ _ _ hi
    have hend : ∀ (j : Option Code) (W3 : World), KeepsFrom D W2 W3 → (Instr.endRound (D + 1) j).run P W3 = .ok (.bool j.isNone) (W3.putObj (D + 1) (.loop { r with state := if j.isNone then .ready else .done, pending := j })) ∧ Loops D r j (W3.putObj (D + 1) (.loop { r with state := if j.isNone then .ready else .done, pending := j })) := by
      intro j W3 hk
      have hb3 := hk.same _ _ (by omega) hb2 rfl
      have hd3 := hk.same _ _ (Nat.le_refl _) hd2 rfl
      have he := run_endRound (P := P) j hb3
      exact ⟨he, World.putObj_heap_same (Array.getElem?_eq_some_iff.1 hb3).1, (World.putObj_heap_other (by omega)).trans hd3⟩
    refine ⟨r.fn, _, r.assign, r.body, hy, ?_⟩
    have e1 : r.fn = fn := by rw [← hr]
    have e2 : r.assign = assign := by rw [← hr]
    have e3 : r.body = body := by rw [← hr]
    have e4 : r.tmps = a.tmps := by rw [← hr]
    rw [e1, e2, e3, hpar, e4]
    refine roundIn_of_wpIn hfn (hassign x W _ ⟨W2, ?_, ?_⟩)
    · rw [← hW2]
      exact run_beginRound hl0 (by rw [← hr])
    refine wpIn_mono (hbody s x W2 hok hi2 hs2) ?_
    intro e a3 W3 hp
    cases e with
    | normal =>
      obtain ⟨hk, hi3⟩ := hp
      obtain ⟨hr3, hl3⟩ := hend none W3 hk
      exact ⟨_, _, hr3, .inl ⟨rfl, hI _ _ _ hi3, hl3⟩⟩
    | ret =>
      obtain ⟨hk, hi3⟩ := hp
      obtain ⟨hr3, hl3⟩ := hend (some .ret) W3 hk
      exact ⟨_, _, hr3, .inr ⟨rfl, .ret, hIx _ _ _ _ hi3, hl3⟩⟩
    | exit id =>
      obtain ⟨hk, hi3⟩ := hp
      obtain ⟨hr3, hl3⟩ := hend (some (.exit id)) W3 hk
      exact ⟨_, _, hr3, .inr ⟨rfl, .exit id, hIx _ _ _ _ hi3, hl3⟩⟩
    | goto t =>
      obtain ⟨hk, hi3⟩ := hp
      obtain ⟨hr3, hl3⟩ := hend (some (.goto t)) W3 hk
      exact ⟨_, _, hr3, .inr ⟨rfl, .goto t, hIx _ _ _ _ hi3, hl3⟩⟩
    | panic ch => exact hp.elim
    | outgrown => exact hp.elim
  · rintro e W2 ⟨⟨v, rfl⟩, ⟨s, hS, hi, hl⟩ | ⟨c, s, hi, hl⟩⟩
    · have h2 := run_endLoop (P := P) hl.loop (by simp)
      exact ⟨none, _, h2, hdone s _ hS (hI _ _ _ hi) ((World.putObj_heap_other (by omega)).trans hl.defers)⟩
    · have h2 := run_endLoop (P := P) hl.loop (by simp)
      exact ⟨some c, _, h2, hstop c s _ (hIx _ _ _ _ hi) ((World.putObj_heap_other (by omega)).trans hl.defers)⟩
end Go.Proofs.Ytogbncpchmnbdaa
