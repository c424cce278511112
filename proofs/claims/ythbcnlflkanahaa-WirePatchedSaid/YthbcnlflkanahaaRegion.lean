/- A statement whose order Go leaves open, met once: each operation is shown by itself, in whatever world that has grown out of the first one; what it yields is told by a relation that abides growth. -/
import Derived.Orders
import Derived.RegionTactic
import Derived.Below
import Derived.Deep.Draws
import Derived.Tactics
import Derived.Test.YthbcnlflkanahaaBase
namespace Go.Proofs.Ythbcnlflkanahaa
open Go.RowKit
set_option linter.unusedVariables false

def dstOf (ops : Array Oper) (j : Nat) : Option Tmp := (ops[j]?).bind (·.dst)
/-- How an operation must go: it yields a value, or calls a function that does. -/
def OpGoes (P : Program) (R : Value → World → Prop) : Result Next → Prop
  | .ok (.value v) w' => R v w'
  | .ok (.enter f args) w' => Calls P f args w' fun e w'' => ∃ v, e = .returned v ∧ R v w''
  | _ => False
/-- What is told of operation i when its turn comes. -/
structure Told (ops : Array Oper) (a0 : Act) (w0 : World) (V : Nat → World → Value → Prop) (o : Oper) (a : Act) (w : World) : Prop where
  below : Below w0.heap.size w0 w
  other : ∀ t, (∀ j, dstOf ops j ≠ some t) → a.tmps.getD t undef = a0.tmps.getD t undef
  val : ∀ j t, (∃ e ∈ o.after, e.on = j ∧ Region.binds .any e = true) → dstOf ops j = some t → V j w (a.tmps.getD t undef)
  size : a.tmps.size = a0.tmps.size
def Ob (P : Program) (ops : Array Oper) (a0 : Act) (w0 : World) (V : Nat → World → Value → Prop) (i : Nat) (o : Oper) : Prop :=
  ∀ a w, Told ops a0 w0 V o a w → (Region.wanted o (yielded ops a.tmps) = true ∧ OpGoes P (fun v w' => V i w' v ∧ Below w.heap.size w w') ((execOp a.eval o).run P w)) ∨
    (Region.wanted o (yielded ops a.tmps) = false ∧ V i w undef)
def Obs (P : Program) (ops : Array Oper) (a0 : Act) (w0 : World) (V : Nat → World → Value → Prop) : List Oper → Nat → Prop
  | [], _ => True
  | o :: rest, i => Ob P ops a0 w0 V i o ∧ Obs P ops a0 w0 V rest (i + 1)
def putAll (vals : Nat → Value) : List Oper → Nat → Act → Act
  | [], _, a => a
  | o :: rest, i, a => putAll vals rest (i + 1) (a.put o.dst (vals i))
/-- Each operation waits for earlier ones alone; no slot is written twice; each writes one. -/
def orderedB (ops : Array Oper) : Bool :=
  (List.range ops.size).all fun i => match ops[i]? with
    | some o => o.after.all (fun e => decide (e.on < i)) && o.dst.isSome && (List.range i).all (fun j => (ops[j]?).bind (·.dst) != o.dst)
    | none => true

section
variable {P : Program} {ops : Array Oper} {Q : Exit → Act → World → Prop} {a0 : Act} {w0 : World} {V : Nat → World → Value → Prop}

theorem Obs.at_ : ∀ {l : List Oper} {k : Nat}, Obs P ops a0 w0 V l k → ∀ i o, l[i]? = some o → Ob P ops a0 w0 V (k + i) o
  | [], _, _, i, o, h => by simp at h
  | o :: rest, k, h, 0, o', ho => by
    simp only [List.getElem?_cons_zero, Option.some.injEq] at ho
    subst ho
    exact h.1
  | o :: rest, k, h, i + 1, o', ho => by
    have := Obs.at_ h.2 i o' (by simpa using ho)
    rwa [show k + 1 + i = k + (i + 1) from by omega] at this

structure RInv (ops : Array Oper) (a0 : Act) (w0 : World) (V : Nat → World → Value → Prop) (listed : Array Bool) (a : Act) (w : World) : Prop where
  lsize : listed.size = ops.size
  defers : a.defers = a0.defers
  size : a.tmps.size = a0.tmps.size
  below : Below w0.heap.size w0 w
  other : ∀ t, (∀ j, listed.getD j true = true → dstOf ops j ≠ some t) → a.tmps.getD t undef = a0.tmps.getD t undef
  val : ∀ j t, listed.getD j false = true → dstOf ops j = some t → V j w (a.tmps.getD t undef)

theorem ordered_at (h : orderedB ops = true) {i : Nat} {o : Oper} (ho : ops[i]? = some o) :
    (∀ e ∈ o.after, e.on < i) ∧ (∃ t, o.dst = some t) ∧ ∀ j, j < i → dstOf ops j ≠ o.dst := by
  have hi : i < ops.size := (Array.getElem?_eq_some_iff.1 ho).1
  have := List.all_eq_true.1 h i (List.mem_range.2 hi)
  rw [ho] at this
  simp only [Bool.and_eq_true, List.all_eq_true, List.mem_range, bne_iff_ne, ne_eq] at this
  obtain ⟨⟨h1, h2⟩, h3⟩ := this
  refine ⟨fun e he => ?_, Option.isSome_iff_exists.1 h2, h3⟩
  rw [Array.all_eq_true] at h1
  obtain ⟨k, hk, rfl⟩ := Array.mem_iff_getElem.1 he
  simpa using h1 k hk
theorem dst_inj (h : orderedB ops = true) {i j : Nat} {t : Tmp} (hi : dstOf ops i = some t) (hj : dstOf ops j = some t) : i = j := by
  have key : ∀ i j, dstOf ops i = some t → dstOf ops j = some t → i < j → False := by
    intro i j hi hj hlt
    unfold dstOf at hj
    cases hoj : ops[j]? with
    | none => rw [hoj] at hj; cases hj
    | some o =>
      rw [hoj] at hj
      exact (ordered_at h hoj).2.2 i hlt (by rw [hi]; exact hj.symm)
  rcases Nat.lt_trichotomy i j with hlt | heq | hlt
  · exact (key i j hi hj hlt).elim
  · exact heq
  · exact (key j i hj hi hlt).elim

/-- What is asked of each slot's room. -/
def fitsB (ops : Array Oper) (n : Nat) : Bool := ops.all fun o => match o.dst with
  | some t => decide (t < n)
  | none => true

theorem putAll_size (vals : Nat → Value) : ∀ (l : List Oper) (k : Nat) (a : Act), (putAll vals l k a).tmps.size = a.tmps.size ∧ (putAll vals l k a).defers = a.defers
  | [], _, _ => ⟨rfl, rfl⟩
  | o :: l, k, a => by
    obtain ⟨h1, h2⟩ := putAll_size vals l (k + 1) (a.put o.dst (vals k))
    simp only [putAll]
    rw [h1, h2]
    cases o.dst <;> simp [Act.put]
theorem putAll_other (vals : Nat → Value) : ∀ (l : List Oper) (k : Nat) (a : Act) (t : Tmp), (∀ (j : Nat) (o : Oper), l[j]? = some o → o.dst ≠ some t) → (putAll vals l k a).tmps.getD t undef = a.tmps.getD t undef
  | [], _, _, _, _ => rfl
  | o :: l, k, a, t, h => by
    simp only [putAll]
    rw [putAll_other vals l (k + 1) _ t (fun (j : Nat) (o' : Oper) (ho' : l[j]? = some o') => h (j + 1) o' (by simpa using ho'))]
    have h0 := h 0 o rfl
    cases hd : o.dst with
    | none => rfl
    | some d =>
      rw [hd] at h0
      have hne : d ≠ t := fun e => h0 (by rw [e])
      simp [Act.put, Array.getD_eq_getD_getElem?, Array.getElem?_setIfInBounds_ne hne]
theorem putAll_at (vals : Nat → Value) : ∀ (l : List Oper) (k : Nat) (a : Act) (i : Nat) (o : Oper) (t : Tmp), l[i]? = some o → o.dst = some t → t < a.tmps.size →
    (∀ (j : Nat) (o' : Oper), i < j → l[j]? = some o' → o'.dst ≠ some t) → (putAll vals l k a).tmps.getD t undef = vals (k + i)
  | [], _, _, _, _, _, h, _, _, _ => by simp at h
  | o :: l, k, a, 0, o', t, h, hd, ht, hl => by
    simp only [List.getElem?_cons_zero, Option.some.injEq] at h
    subst h
    simp only [putAll]
    rw [putAll_other vals l (k + 1) _ t (fun (j : Nat) (o' : Oper) (ho' : l[j]? = some o') => hl (j + 1) o' (by omega) (by simpa using ho'))]
    simp [Act.put, hd, Array.getD_eq_getD_getElem?, ht]
  | o :: l, k, a, i + 1, o', t, h, hd, ht, hl => by
    simp only [putAll]
    have hs : (a.put o.dst (vals k)).tmps.size = a.tmps.size := by cases o.dst <;> simp [Act.put]
    rw [putAll_at vals l (k + 1) _ i o' t (by simpa using h) hd (by rw [hs]; exact ht) (fun (j : Nat) (o'' : Oper) (hj : i < j) (ho'' : l[j]? = some o'') => hl (j + 1) o'' (by omega) (by simpa using ho''))]
    congr 1
    omega

/-- THE LAW. -/
theorem region_any {id : Nat} {a : Act} {w : World} (hm : P.follows .mixedOrders = true) (V : Nat → World → Value → Prop)
    (hord : orderedB ops = true) (hfit : fitsB ops a.tmps.size = true)
    (hst : ∀ i w w' v, V i w v → Below w.heap.size w w' → V i w' v)
    (hobs : Obs P ops a w V ops.toList 0)
    (hend : ∀ (vals : Nat → Value) (w' : World), Below w.heap.size w w' → (∀ j, j < ops.size → V j w' (vals j)) → Q .normal (putAll vals ops.toList 0 a) w') :
    (Code.region id ops true).wp P Q a w := by
  refine wp_region_any hm ?_
  have hd : ∀ i o, ops[i]? = some o → dstOf ops i = o.dst := fun i o ho => by unfold dstOf; rw [ho]; rfl
  have key : ∀ (fuel : Nat) (listed : Array Bool) (a' : Act) (w' : World), RInv ops a w V listed a' w' → ((List.range ops.size).filter fun i => !listed.getD i true).length ≤ fuel →
      wpAny P .any ops Q fuel listed a' w' := by
    intro fuel
    have hfin : ∀ (listed : Array Bool) (a' : Act) (w' : World), RInv ops a w V listed a' w' → Region.ready .any ops listed = [] → Q .normal a' w' := by
      intro listed a' w' hI hr
      have hall : ∀ n i, i < n → i < ops.size → listed.getD i true = true := by
        intro n
        induction n with
        | zero => intro i h; omega
        | succ n ih =>
          intro i hi his
          by_cases hlt : i < n
          · exact ih i hlt his
          · cases hl : listed.getD i true with
            | true => rfl
            | false =>
              exfalso
              have ho : ops[i]? = some ops[i] := Array.getElem?_eq_getElem his
              have hmem : i ∈ Region.ready .any ops listed := by
                unfold Region.ready
                refine List.mem_filter.2 ⟨List.mem_range.2 his, ?_⟩
                rw [hl, ho]
                simp only [Bool.not_false, Bool.true_and, Option.map_some, Option.getD_some]
                rw [Array.all_eq_true]
                intro k hk
                have hlt' := (ordered_at hord ho).1 _ (Array.getElem_mem hk)
                have := ih (ops[i].after[k]).on (by omega) (by omega)
                have hs : (ops[i].after[k]).on < listed.size := by rw [hI.lsize]; omega
                simp only [Array.getD_eq_getD_getElem?, Array.getElem?_eq_getElem hs, Option.getD_some] at this ⊢
                simp [this]
              rw [hr] at hmem
              cases hmem
      have hl' : ∀ i, i < ops.size → listed.getD i false = true := by
        intro i hi
        have := hall (i + 1) i (by omega) hi
        have hs : i < listed.size := by rw [hI.lsize]; exact hi
        simpa only [Array.getD_eq_getD_getElem?, Array.getElem?_eq_getElem hs, Option.getD_some] using this
      obtain ⟨vals, hvals⟩ : ∃ vals : Nat → Value, vals = fun j => match dstOf ops j with
        | some t => a'.tmps.getD t undef
        | none => undef := ⟨_, rfl⟩
      have hV : ∀ j, j < ops.size → V j w' (vals j) := by
        intro j hj
        have ho : ops[j]? = some ops[j] := Array.getElem?_eq_getElem hj
        obtain ⟨t, ht⟩ := (ordered_at hord ho).2.1
        have hdj : dstOf ops j = some t := by rw [hd j _ ho, ht]
        rw [hvals]
        simp only [hdj]
        exact hI.val j t (hl' j hj) hdj
      have ha : a' = putAll vals ops.toList 0 a := by
        obtain ⟨hs, hdef⟩ := putAll_size vals ops.toList 0 a
        have htm : a'.tmps = (putAll vals ops.toList 0 a).tmps := by
          apply Array.ext
          · rw [hs, hI.size]
          · intro t ht1 ht2
            have e1 : a'.tmps.getD t undef = (putAll vals ops.toList 0 a).tmps.getD t undef := by
              by_cases hw : ∃ j, dstOf ops j = some t
              · obtain ⟨j, hj⟩ := hw
                have hjs : j < ops.size := by
                  rcases Nat.lt_or_ge j ops.size with h | h
                  · exact h
                  · unfold dstOf at hj; rw [Array.getElem?_eq_none h] at hj; cases hj
                have ho : ops[j]? = some ops[j] := Array.getElem?_eq_getElem hjs
                rw [putAll_at vals ops.toList 0 a j ops[j] t (by simp) (by rw [← hd j _ ho]; exact hj) (by rw [← hI.size]; exact ht1)
                  (fun k o' hk ho' he => by
                    have ho2 : ops[k]? = some o' := by simpa using ho'
                    have := dst_inj hord hj (by rw [hd k _ ho2]; exact he)
                    omega)]
                rw [Nat.zero_add, hvals]
                simp only [hj]
              · have hw' : ∀ j, dstOf ops j ≠ some t := fun j hj => hw ⟨j, hj⟩
                rw [putAll_other vals ops.toList 0 a t (fun j o ho he => hw' j (by rw [hd j o (by simpa using ho)]; exact he))]
                exact hI.other t (fun j _ => hw' j)
            simpa only [Array.getD_eq_getD_getElem?, Array.getElem?_eq_getElem ht1, Array.getElem?_eq_getElem ht2, Option.getD_some] using e1
        cases a' with
        | mk t d =>
          cases hp : putAll vals ops.toList 0 a with
          | mk t2 d2 =>
            rw [hp] at htm hdef
            simp only at htm hdef
            subst htm
            have := hI.defers
            simp only at this
            rw [this, hdef]
      rw [ha]
      exact hend vals w' hI.below hV
    induction fuel with
    | zero =>
      intro listed a' w' hI hc
      have hr : Region.ready .any ops listed = [] := by
        have h0 : ((List.range ops.size).filter fun i => !listed.getD i true) = [] := List.eq_nil_of_length_eq_zero (by omega)
        unfold Region.ready
        rw [List.filter_eq_nil_iff] at h0 ⊢
        intro i hi
        have := h0 i hi
        simp only [Bool.not_eq_true] at this ⊢
        rw [this]
        rfl
      exact ⟨hr, hfin listed a' w' hI hr⟩
    | succ fuel ih =>
      intro listed a' w' hI hc
      refine ⟨hfin listed a' w' hI, fun i hi => ?_⟩
      unfold Region.ready at hi
      obtain ⟨hi1, hi2⟩ := List.mem_filter.1 hi
      have his : i < ops.size := List.mem_range.1 hi1
      have ho : ops[i]? = some ops[i] := Array.getElem?_eq_getElem his
      rw [ho] at hi2
      simp only [Bool.and_eq_true, Option.map_some, Option.getD_some] at hi2
      obtain ⟨hnl, haf⟩ := hi2
      have hnl' : listed.getD i true = false := by simpa using hnl
      have hsi : i < listed.size := by rw [hI.lsize]; exact his
      have hob := hobs.at_ i ops[i] (by simp)
      rw [Nat.zero_add] at hob
      have htold : Told ops a w V ops[i] a' w' := by
        refine ⟨hI.below, fun t ht => hI.other t (fun j _ => ht j), fun j t hj hdj => ?_, hI.size⟩
        obtain ⟨e, he, hej, hbe⟩ := hj
        subst hej
        rw [Array.all_eq_true] at haf
        obtain ⟨k, hk, rfl⟩ := Array.mem_iff_getElem.1 he
        have := haf k hk
        rw [hbe] at this
        exact hI.val _ t (by simpa using this) hdj
      have hob' := hob a' w' htold
      obtain ⟨t, ht⟩ := (ordered_at hord ho).2.1
      have htn : t < a.tmps.size := by
        unfold fitsB at hfit
        rw [Array.all_eq_true] at hfit
        have := hfit i his
        rw [ht] at this
        simpa using this
      have hnext : ∀ v w'', V i w'' v → Below w'.heap.size w' w'' → wpAny P .any ops Q fuel (listed.setIfInBounds i true) (a'.put ops[i].dst v) w'' := by
        intro v w'' hv hb
        have hget : ∀ j b, (listed.setIfInBounds i true).getD j b = if j = i then true else listed.getD j b := by
          intro j b
          by_cases e : j = i
          · subst e; simp [Array.getD_eq_getD_getElem?, hsi]
          · simp [Array.getD_eq_getD_getElem?, Array.getElem?_setIfInBounds_ne (Ne.symm e), e]
        refine ih _ _ _ ⟨by simpa using hI.lsize, ?_, ?_, below_then hI.below hb, ?_, ?_⟩ ?_
        · rw [ht]; exact hI.defers
        · rw [ht]; simpa [Act.put] using hI.size
        · intro t' ht'
          have hne : t' ≠ t := by
            intro e
            exact ht' i (by rw [hget, if_pos rfl]) (by rw [hd i _ ho, ht, e])
          rw [ht]
          simp only [Act.put, Array.getD_eq_getD_getElem?, Array.getElem?_setIfInBounds_ne (Ne.symm hne)]
          have := hI.other t' (fun j hj => by
            refine ht' j ?_
            rw [hget]
            split
            · rfl
            · exact hj)
          simpa only [Array.getD_eq_getD_getElem?] using this
        · intro j t' hj hdj
          by_cases e : j = i
          · subst e
            have e2 : t' = t := by rw [hd j _ ho, ht] at hdj; injection hdj with hdj; exact hdj.symm
            subst e2
            rw [ht]
            have : t' < a'.tmps.size := by rw [hI.size]; exact htn
            simpa [Act.put, Array.getD_eq_getD_getElem?, this] using hv
          · rw [hget, if_neg e] at hj
            have hne : t' ≠ t := by
              intro e2
              exact e (dst_inj hord hdj (by rw [hd i _ ho, ht, e2]))
            rw [ht]
            simp only [Act.put, Array.getD_eq_getD_getElem?, Array.getElem?_setIfInBounds_ne (Ne.symm hne)]
            have := hst j _ _ _ (hI.val j t' hj hdj) hb
            simpa only [Array.getD_eq_getD_getElem?] using this
        · have hlt : ((List.range ops.size).filter fun k => !(listed.setIfInBounds i true).getD k true).length < ((List.range ops.size).filter fun k => !listed.getD k true).length := by
            have hsub : ((List.range ops.size).filter fun k => !(listed.setIfInBounds i true).getD k true) = (((List.range ops.size).filter fun k => !listed.getD k true).filter fun k => k != i) := by
              rw [List.filter_filter]
              apply List.filter_congr
              intro k _
              rw [hget]
              by_cases e : k = i
              · subst e; simp
              · simp [e]
            rw [hsub]
            refine List.length_filter_lt_length_iff_exists.2 ⟨i, List.mem_filter.2 ⟨hi1, hnl⟩, by simp⟩
          omega
      unfold wpOp
      rw [ho]
      rcases hob' with ⟨hwant, hgoes⟩ | ⟨hwant, hskip⟩
      rotate_left
      · simp only [hwant]
        exact hnext _ _ hskip (Below.refl _ _)
      simp only [hwant, if_true]
      refine .inl ?_
      unfold Oper.wp
      generalize (execOp a'.eval ops[i]).run P w' = r at hgoes
      cases r with
      | ok n w'' =>
        cases n <;> simp only [OpGoes] at hgoes <;> try exact hgoes.elim
        case value v => exact hnext v w'' hgoes.1 hgoes.2
        case enter f args =>
          refine Calls.mono hgoes ?_
          rintro e w3 ⟨v, rfl, hv, hb⟩
          exact hnext v w3 hv hb
      | halt x w'' => exact hgoes.elim
  refine key ops.size _ a _ ⟨by simp, rfl, rfl, Below.drew (Below.refl _ _), fun _ _ => rfl, fun j t hj => ?_⟩ ?_
  · exfalso
    revert hj
    simp only [Array.getD_eq_getD_getElem?, Array.getElem?_replicate]
    split <;> simp
  · exact Nat.le_trans (List.length_filter_le _ _) (by simp)

/-- What a slot holds: this very value; a slice that reads so. -/
def isV (x : Value) : World → Value → Prop := fun _ v => v = x
def isB (n : Nat) (l : List UInt8) : World → Value → Prop := fun w v => ∃ A c, v = .slice A n c ∧ Bs w A n c l
theorem isV_out {x v : Value} {w : World} (h : isV x w v) : v = x := h
theorem isB_out {n : Nat} {l : List UInt8} {v : Value} {w : World} (h : isB n l w v) : ∃ A c, v = .slice A n c ∧ Bs w A n c l := h
structure Stab (p : World → Value → Prop) : Prop where out : ∀ w w' v, p w v → Below w.heap.size w w' → p w' v
theorem st_isV (x : Value) : Stab (isV x) := ⟨fun _ _ _ h _ => h⟩
theorem st_isB (n : Nat) (l : List UInt8) : Stab (isB n l) := ⟨fun _ _ _ ⟨A, c, h, k⟩ hb => ⟨A, c, h, k.below hb⟩⟩
def Stabs : List (World → Value → Prop) → Prop
  | [] => True
  | p :: ps => Stab p ∧ Stabs ps
def atV (vs : List (World → Value → Prop)) (i : Nat) : World → Value → Prop := vs.getD i fun _ _ => True
theorem Stabs.at_ : ∀ {vs : List (World → Value → Prop)}, Stabs vs → ∀ i, Stab (atV vs i)
  | [], _, _ => ⟨fun _ _ _ _ _ => trivial⟩
  | p :: ps, h, 0 => h.1
  | p :: ps, h, i + 1 => Stabs.at_ h.2 i
def Ends (w : World) (K : Act → Prop) : List (World → Value → Prop) → List Oper → Act → Prop
  | p :: ps, o :: os, a => ∀ v, p w v → Ends w K ps os (a.put o.dst v)
  | _, [], a => K a
  | [], _, _ => False
theorem Ends.isV {w : World} {K : Act → Prop} {x : Value} {ps : List (World → Value → Prop)} {o : Oper} {os : List Oper} {a : Act} (h : Ends w K ps os (a.put o.dst x)) :
    Ends w K (isV x :: ps) (o :: os) a := fun v hv => by rw [isV_out hv]; exact h
theorem Ends.isB {w : World} {K : Act → Prop} {n : Nat} {l : List UInt8} {ps : List (World → Value → Prop)} {o : Oper} {os : List Oper} {a : Act} (h : ∀ A c, Bs w A n c l → Ends w K ps os (a.put o.dst (.slice A n c))) :
    Ends w K (isB n l :: ps) (o :: os) a := fun v ⟨A, c, hv, k⟩ => by rw [hv]; exact h A c k
theorem Ends.done {w : World} {K : Act → Prop} {ps : List (World → Value → Prop)} {a : Act} (h : K a) : Ends w K ps [] a := by
  cases ps <;> simp only [Ends] <;> exact h
theorem Ends.out {w : World} {K : Act → Prop} : ∀ {vs : List (World → Value → Prop)} {os : List Oper} {a : Act} {k : Nat} (vals : Nat → Value), Ends w K vs os a →
    (∀ j, j < os.length → atV vs j w (vals (k + j))) → K (putAll vals os k a)
  | _, [], _, _, _, h, _ => by
    simp only [Ends] at h
    exact h
  | p :: ps, o :: os, a, k, vals, h, hv => by
    refine Ends.out (k := k + 1) vals (h (vals k) (hv 0 (by simp))) fun j hj => ?_
    have := hv (j + 1) (by simpa using hj)
    rwa [show k + 1 + j = k + (j + 1) from by omega]
  | [], o :: os, _, _, _, h, _ => by
    simp only [Ends] at h
theorem region_list {id : Nat} {l : List Oper} {a : Act} {w : World} (hm : P.follows .mixedOrders = true) (vs : List (World → Value → Prop))
    (hord : orderedB l.toArray = true) (hfit : fitsB l.toArray a.tmps.size = true)
    (hobs : Obs P l.toArray a w (atV vs) l 0) (hst : Stabs vs)
    (hend : ∀ w', Below w.heap.size w w' → Ends w' (fun a' => Q .normal a' w') vs l a) :
    (Code.region id l.toArray true).wp P Q a w :=
  region_any hm (atV vs) hord hfit (fun i w w' v h hb => (hst.at_ i).out w w' v h hb) hobs fun vals w' hb hv =>
    (hend w' hb).out (k := 0) vals fun j hj => by rw [Nat.zero_add]; exact hv j (by simpa using hj)

def hasEdge (o : Oper) (j : Nat) : Bool := o.after.any fun e => e.on == j && Region.binds .any e
theorem Told.got {o : Oper} {a : Act} {w : World} {vs : List (World → Value → Prop)} (h : Told ops a0 w0 (atV vs) o a w) (j t : Nat) (he : hasEdge o j = true) (hd : dstOf ops j = some t) : atV vs j w (a.tmps.getD t undef) := by
  refine h.val j t ?_ hd
  unfold hasEdge at he
  rw [Array.any_eq_true] at he
  obtain ⟨i, hi, hh⟩ := he
  simp only [Bool.and_eq_true, beq_iff_eq] at hh
  exact ⟨_, Array.getElem_mem hi, hh.1, hh.2⟩
def noDst (ops : Array Oper) (t : Nat) : Bool := ops.all fun o => o.dst != some t
theorem Told.old {o : Oper} {a : Act} {w : World} (h : Told ops a0 w0 V o a w) (t : Nat) (hn : noDst ops t = true) : a.tmps.getD t undef = a0.tmps.getD t undef := by
  refine h.other t fun j => ?_
  unfold noDst at hn
  rw [Array.all_eq_true] at hn
  unfold dstOf
  cases ho : ops[j]? with
  | none => simp
  | some o' =>
    obtain ⟨hj, rfl⟩ := Array.getElem?_eq_some_iff.1 ho
    simpa using hn j hj
theorem yield_at {j t : Nat} {b : Bool} {tmps : Array Value} (hd : dstOf ops j = some t) (h : tmps.getD t undef = .bool b) : yielded ops tmps j = some b := by
  unfold yielded
  unfold dstOf at hd
  rw [hd]
  rw [Array.getD_eq_getD_getElem?] at h
  cases hx : tmps[t]? with
  | none => rw [hx] at h; exact absurd h (by simp [undef])
  | some v =>
    rw [hx] at h
    simp only [Option.getD_some] at h
    subst h
    simp [hx]
theorem want_none {o : Oper} {y : Nat → Option Bool} (h : o.guard = none) : Region.wanted o y = true := by unfold Region.wanted; rw [h]
theorem want_yes {o : Oper} {j : Nat} {b c : Bool} {y : Nat → Option Bool} (h : o.guard = some (j, b)) (hy : y j = some c) : Region.wanted o y = (c == b) := by unfold Region.wanted; rw [h]; simp [hy]
theorem ret_isV {x : Value} {w w' : World} (h : Below w.heap.size w w') : ∃ v, Ending.returned x = .returned v ∧ isV x w' v ∧ Below w.heap.size w w' := ⟨_, rfl, rfl, h⟩
theorem ret_isB {A : Option Addr} {n c : Nat} {l : List UInt8} {w w' : World} (k : Bs w' A n c l) (h : Below w.heap.size w w') : ∃ v, Ending.returned (.slice A n c) = .returned v ∧ isB n l w' v ∧ Below w.heap.size w w' := ⟨_, rfl, ⟨_, _, rfl, k⟩, h⟩
theorem goes_enter {R : Value → World → Prop} {f : FuncId} {args : Array Value} {w : World} (h : Calls P f args w fun e w'' => ∃ v, e = .returned v ∧ R v w'') : OpGoes P R (.ok (.enter f args) w) := h
theorem goes_isV {x : Value} {w : World} : OpGoes P (fun v w' => isV x w' v ∧ Below w.heap.size w w') (.ok (.value x) w) := ⟨rfl, Below.refl _ _⟩
theorem goes_isB {A : Option Addr} {n c : Nat} {l : List UInt8} {w : World} (k : Bs w A n c l) : OpGoes P (fun v w' => isB n l w' v ∧ Below w.heap.size w w') (.ok (.value (.slice A n c)) w) := ⟨⟨A, c, rfl, k⟩, Below.refl _ _⟩
end

open Lean Elab Tactic Meta

syntax "ob_open " ident : tactic
syntax "ob_end" : tactic
macro_rules | `(tactic| ob_open $h:ident) => `(tactic| fail)
macro_rules | `(tactic| ob_open $h:ident) => `(tactic| first | (have hh := isB_out $h; obtain ⟨A, c, $h:ident, k⟩ := hh) | fail)
macro_rules | `(tactic| ob_open $h:ident) => `(tactic| first | (have $h:ident := isV_out $h) | fail)
macro_rules | `(tactic| ob_end) => `(tactic| fail)
macro_rules | `(tactic| ob_end) => `(tactic| first | (refine Ends.isB fun A c k => ?_) | fail)
macro_rules | `(tactic| ob_end) => `(tactic| first | refine Ends.isV ?_ | fail)
syntax "ob_goes" : tactic
macro_rules | `(tactic| ob_goes) => `(tactic| fail)
macro_rules | `(tactic| ob_goes) => `(tactic| first | exact goes_isB (by assumption) | fail)
macro_rules | `(tactic| ob_goes) => `(tactic| first | exact goes_isV | fail)
syntax "ob_stab" : tactic
macro_rules | `(tactic| ob_stab) => `(tactic| first | exact st_isB _ _ | fail)
macro_rules | `(tactic| ob_stab) => `(tactic| first | exact st_isV _ | fail)

partial def tmpsOf (e : Lean.Expr) (acc : Array Nat) : Array Nat :=
  if e.isAppOfArity ``Operand.tmp 1 then
    match e.appArg!.nat? <|> e.appArg!.rawNatLit? with
    | some n => if acc.contains n then acc else acc.push n
    | none => acc
  else match e with
    | .app f x => tmpsOf x (tmpsOf f acc)
    | .mdata _ x => tmpsOf x acc
    | _ => acc

/-- One operation: its facts are laid, it is run; then 'arms' go. -/
def obOne (ps : Array Lean.Expr) (dsts : Array (Option Nat)) (carry arms : TSyntax ``Lean.Parser.Tactic.tacticSeq) (i : Nat) : TacticM Unit := withMainContext do
  let t := (← instantiateMVars (← getMainTarget)).consumeMData
  unless t.isAppOfArity ``Ob 7 do throwError "ob: {t}"
  let args := t.getAppArgs
  let ops := args[1]!
  let a0 := args[2]!
  let o := args[6]!
  let guard := o.getArg! 5
  let aI := mkIdent `ao
  let wI := mkIdent `wo
  let hI := mkIdent `hT
  evalTactic (← `(tactic| intro $aI $wI $hI))
  evalTactic (← `(tactic| try ($carry)))
  let mut ts := tmpsOf (o.getArg! 1) #[]
  let mut gj : Option Nat := none
  if guard.isAppOf ``Option.some then
    let g := guard.appArg!
    let some j := (g.getArg! 2).nat? <|> (g.getArg! 2).rawNatLit? | throwError "guard: {guard}"
    gj := some j
    match dsts[j]! with
    | some t => ts := if ts.contains t then ts else ts.push t
    | none => throwError "guard op"
  for t in ts do
    withMainContext do
    let hT := (← getLCtx).findFromUserName? `hT |>.get! |>.toExpr
    let aE := (← getLCtx).findFromUserName? `ao |>.get! |>.toExpr
    let wE := (← getLCtx).findFromUserName? `wo |>.get! |>.toExpr
    let slot ← mkAppM ``Array.getD #[← mkAppM ``Act.tmps #[aE], mkNatLit t, mkConst ``undef]
    let nm := Name.mkSimple s!"e{t}"
    match dsts.findIdx? (· == some t) with
    | some j =>
      let tr := mkConst ``Bool.true
      let rt ← mkEqRefl tr
      let st ← mkAppM ``Option.some #[mkNatLit t]
      let pf ← mkAppM ``Told.got #[hT, mkNatLit j, mkNatLit t, ← mkExpectedTypeHint rt (← mkEq (mkApp2 (mkConst ``hasEdge) o (mkNatLit j)) tr), ← mkExpectedTypeHint (← mkEqRefl st) (← mkEq (mkApp2 (mkConst ``dstOf) ops (mkNatLit j)) st)]
      let p ← instantiateMVars ps[j]!
      let ty := mkApp2 p wE slot
      let (_, g) ← (← getMainGoal).note nm pf (some ty)
      replaceMainGoal [g]
      evalTactic (← `(tactic| ob_open $(mkIdent nm)))
    | none =>
      let tr := mkConst ``Bool.true
      let pf ← mkAppM ``Told.old #[hT, mkNatLit t, ← mkExpectedTypeHint (← mkEqRefl tr) (← mkEq (mkApp2 (mkConst ``noDst) ops (mkNatLit t)) tr)]
      let v0 ← whnf (← mkAppM ``Array.getD #[← mkAppM ``Act.tmps #[a0], mkNatLit t, mkConst ``undef])
      let (_, g) ← (← getMainGoal).note nm pf (some (← mkEq slot v0))
      replaceMainGoal [g]
  match gj with
  | none => evalTactic (← `(tactic| refine Or.inl ⟨want_none rfl, ?_⟩))
  | some j =>
    let some t := dsts[j]! | throwError "guard op"
    let e := mkIdent (Name.mkSimple s!"e{t}")
    evalTactic (← `(tactic| first
      | refine Or.inl ⟨(want_yes rfl (yield_at rfl $e)).trans rfl, ?_⟩
      | refine Or.inr ⟨(want_yes rfl (yield_at rfl $e)).trans rfl, rfl⟩))
  unless (← getGoals).isEmpty do
    let g ← getMainGoal
    let ty := (← instantiateMVars (← g.getType)).consumeMData
    let p ← instantiateMVars ps[i]!
    let ty' := ty.replace fun e => if e.isAppOfArity ``atV 2 then some p else none
    replaceMainGoal [← g.change ty']
    evalTactic (← `(tactic| clear $hI))
    evalTactic (← `(tactic| try go_simp))
    evalTactic (← `(tactic| first | ob_goes | ((try (refine goes_enter ?_)); ($arms))))

/-- A statement whose order Go leaves open: 'carry' carries facts to the world of an operation ('hT.below'); 'arms' close what 'go_simp' leaves of an operation. -/
elab "go_ops " "(" carry:tacticSeq ")" " (" arms:tacticSeq ")" : tactic => withMainContext do
  let t := (← instantiateMVars (← getMainTarget)).consumeMData
  unless t.isAppOf ``Code.wp && (t.getAppArgs[1]!).isAppOf ``Code.region do throwError "go_ops: the goal is no region"
  let ops := (t.getAppArgs[1]!).getAppArgs[1]!
  let some elems := listElems (ops.getArg! 1) | throwError "go_ops: not written out"
  let dsts ← elems.toArray.mapM fun o => do
    let d := o.getArg! 0
    if d.isAppOf ``Option.some then pure (d.appArg!.nat? <|> d.appArg!.rawNatLit?) else pure none
  let pty ← Term.elabType (← `(World → Value → Prop))
  let ps ← elems.toArray.mapM fun _ => mkFreshExprMVar pty
  let vs ← mkListLit pty ps.toList
  let g ← getMainGoal
  let vsS ← Term.exprToSyntax vs
  evalTactic (← `(tactic| refine region_list (by kernel_rfl) $vsS (by kernel_rfl) (by kernel_rfl) ?_ ?_ ?_))
  let [obs, st, hend] ← getGoals | throwError "go_ops: three goals"
  setGoals [obs]
  for i in [0:ps.size] do
    evalTactic (← `(tactic| refine And.intro ?_ ?_))
    let [one, more] ← getGoals | throwError "go_ops: two goals"
    setGoals [one]
    obOne ps dsts carry arms i
    unless (← getGoals).isEmpty do throwError "go_ops: operation {i} is not closed: {← getMainGoal}"
    setGoals [more]
  evalTactic (← `(tactic| exact trivial))
  setGoals [st]
  for _ in [0:ps.size] do
    evalTactic (← `(tactic| refine And.intro (by ob_stab) ?_))
  evalTactic (← `(tactic| exact trivial))
  setGoals [hend]
  evalTactic (← `(tactic| intro $(mkIdent `wz) $(mkIdent `hBz)))
  for _ in [0:ps.size] do
    evalTactic (← `(tactic| ob_end))
  evalTactic (← `(tactic| refine Ends.done ?_))
  evalTactic (← `(tactic| go_simp))
end Go.Proofs.Ythbcnlflkanahaa
