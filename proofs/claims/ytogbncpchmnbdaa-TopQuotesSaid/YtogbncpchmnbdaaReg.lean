/- A statement whose order Go leaves open: each operation is shown by itself, in the text's order, in whatever world has grown out of the first one; operations that all others lead up to (stores, a call that ends it) are then gone through one by one. -/
import Derived.Orders
import Derived.RegionTactic
import Derived.Below
import Derived.Deep.Draws
import Derived.Tactics
import Derived.Test.YtogbncpchmnbdaaBase
namespace Go.Proofs.Ytogbncpchmnbdaa
open Go.RowKit
set_option linter.unusedVariables false
set_option linter.unusedSimpArgs false

theorem Drawn.bel {w w' : World} (h : Drawn w w') : Below w.heap.size w w' := by
  obtain ⟨n, rfl⟩ := h
  exact below_drewN (Below.refl _ w) n

def dstOf (ops : Array Oper) (j : Nat) : Option Tmp := (ops[j]?).bind (·.dst)
/-- What a slot holds: this very value; a slice that reads so; a value of which this is known. -/
inductive Kd where
  | v (x : Value)
  | b (n : Nat) (l : List UInt8)
  | p (q : World → Value → Prop)
def Kd.holds : Kd → World → Value → Prop
  | .v x, _, u => u = x
  | .b n l, w, u => ∃ A c, u = .slice A n c ∧ Bs w A n c l
  | .p q, w, u => q w u
def Kd.Ok : Kd → Prop
  | .p q => ∀ w w' u, q w u → Below w.heap.size w w' → q w' u
  | _ => True
theorem Kd.keep {K : Kd} (hk : K.Ok) {w w' : World} {v : Value} (h : K.holds w v) (hb : Below w.heap.size w w') : K.holds w' v := by
  cases K with
  | v x => exact h
  | b n l => obtain ⟨A, c, e, k⟩ := h; exact ⟨A, c, e, k.below hb⟩
  | p q => exact hk _ _ _ h hb
def lookK : List (Tmp × Kd) → Tmp → Option Kd
  | [], _ => none
  | (s, K) :: r, t => match Nat.beq s t with
    | true => some K
    | false => lookK r t
def leanOn (ks : List (Tmp × Kd)) (W : World) : List Operand → (Act → Prop) → Act → Prop
  | [], k, a => k a
  | .tmp t :: xs, k, a => match lookK ks t with
    | some (.v x) => leanOn ks W xs k (a.put (some t) x)
    | some (.b n l) => ∀ A c, Bs W A n c l → leanOn ks W xs k (a.put (some t) (.slice A n c))
    | some (.p q) => ∀ v, q W v → leanOn ks W xs k (a.put (some t) v)
    | none => leanOn ks W xs k a
  | .const _ :: xs, k, a => leanOn ks W xs k a
  | .global _ :: xs, k, a => leanOn ks W xs k a
  | .func _ :: xs, k, a => leanOn ks W xs k a
def finOn (W : World) : List (Tmp × Kd) → (Act → Prop) → Act → Prop
  | [], k, a => k a
  | (t, .v x) :: r, k, a => finOn W r k (a.put (some t) x)
  | (t, .b n l) :: r, k, a => ∀ A c, Bs W A n c l → finOn W r k (a.put (some t) (.slice A n c))
  | (t, .p q) :: r, k, a => ∀ v, q W v → finOn W r k (a.put (some t) v)
/-- How an operation must go: it yields a value, or calls a function that does. -/
def OpGoes (P : Program) (R : Value → World → Prop) : Result Next → Prop
  | .ok (.value v) w' => R v w'
  | .ok (.enter f args) w' => Calls P f args w' fun e w'' => ∃ v, e = .returned v ∧ R v w''
  | _ => False
structure Goes (P : Program) (K : Kd) (o : Oper) (W : World) (a : Act) : Prop where
  out : OpGoes P (fun v w' => K.holds w' v ∧ Below W.heap.size W w') ((execOp a.eval o).run P W)
def isSel : Op → Bool
  | .select .. => true
  | _ => false
def wantK (ops : Array Oper) (ks : List (Tmp × Kd)) (g : Option (Nat × Bool)) : Option Bool :=
  match g with
  | none => some true
  | some (g, b) => match dstOf ops g with
    | some t => match lookK ks t with
      | some (.v (.bool c)) => some (c == b)
      | _ => none
    | none => none
def Ob1 (P : Program) (ops : Array Oper) (a0 : Act) (w0 : World) (ks : List (Tmp × Kd)) (o : Oper) (K : Kd) : Prop :=
  (wantK ops ks o.guard = some true ∧ ∀ W, Below w0.heap.size w0 W → leanOn ks W o.op.operands.toList (Goes P K o W) a0) ∨ (wantK ops ks o.guard = some false ∧ K = .v undef)
def ObsK (P : Program) (ops : Array Oper) (a0 : Act) (w0 : World) (fin : List (Tmp × Kd) → Prop) : List (Tmp × Kd) → List Oper → Prop
  | ks, [] => fin ks
  | ks, o :: rest => ∃ K t, o.dst = some t ∧ K.Ok ∧ Ob1 P ops a0 w0 ks o K ∧ ObsK P ops a0 w0 fin ((t, K) :: ks) rest
section
variable {P : Program} {ops : Array Oper} {a0 : Act} {w0 : World} {fin : List (Tmp × Kd) → Prop} {ks : List (Tmp × Kd)} {rest : List Oper}
  {t : Tmp} {op : Op} {ty : TypeId} {pos : String} {after : Array Edge} {g : Option (Nat × Bool)}
theorem ObsK.v {x : Value} (hg : wantK ops ks g = some true) (ho : ∀ W, Below w0.heap.size w0 W → leanOn ks W op.operands.toList (Goes P (.v x) ⟨some t, op, ty, pos, after, g⟩ W) a0)
    (hr : ObsK P ops a0 w0 fin ((t, .v x) :: ks) rest) : ObsK P ops a0 w0 fin ks (⟨some t, op, ty, pos, after, g⟩ :: rest) :=
  ⟨.v x, t, rfl, trivial, .inl ⟨hg, ho⟩, hr⟩
theorem ObsK.b {n : Nat} {l : List UInt8} (hg : wantK ops ks g = some true) (ho : ∀ W, Below w0.heap.size w0 W → leanOn ks W op.operands.toList (Goes P (.b n l) ⟨some t, op, ty, pos, after, g⟩ W) a0)
    (hr : ObsK P ops a0 w0 fin ((t, .b n l) :: ks) rest) : ObsK P ops a0 w0 fin ks (⟨some t, op, ty, pos, after, g⟩ :: rest) :=
  ⟨.b n l, t, rfl, trivial, .inl ⟨hg, ho⟩, hr⟩
theorem ObsK.p {q : World → Value → Prop} (hg : wantK ops ks g = some true) (hk : ∀ w w' v, q w v → Below w.heap.size w w' → q w' v) (ho : ∀ W, Below w0.heap.size w0 W → leanOn ks W op.operands.toList (Goes P (.p q) ⟨some t, op, ty, pos, after, g⟩ W) a0)
    (hr : ObsK P ops a0 w0 fin ((t, .p q) :: ks) rest) : ObsK P ops a0 w0 fin ks (⟨some t, op, ty, pos, after, g⟩ :: rest) :=
  ⟨.p q, t, rfl, hk, .inl ⟨hg, ho⟩, hr⟩
theorem ObsK.skip (hg : wantK ops ks g = some false) (hr : ObsK P ops a0 w0 fin ((t, .v undef) :: ks) rest) : ObsK P ops a0 w0 fin ks (⟨some t, op, ty, pos, after, g⟩ :: rest) :=
  ⟨.v undef, t, rfl, trivial, .inr ⟨hg, rfl⟩, hr⟩
theorem ObsK.nil (h : fin ks) : ObsK P ops a0 w0 fin ks [] := h
theorem goes_v {x : Value} {w : World} : OpGoes P (fun v w' => (Kd.v x).holds w' v ∧ Below w.heap.size w w') (.ok (.value x) w) := ⟨rfl, Below.refl _ _⟩
theorem goes_b {A : Option Addr} {n c : Nat} {l : List UInt8} {w : World} (k : Bs w A n c l) : OpGoes P (fun v w' => (Kd.b n l).holds w' v ∧ Below w.heap.size w w') (.ok (.value (.slice A n c)) w) := ⟨⟨A, c, rfl, k⟩, Below.refl _ _⟩
theorem goes_enter {R : Value → World → Prop} {f : FuncId} {args : Array Value} {w : World} (h : Calls P f args w fun e w'' => ∃ v, e = .returned v ∧ R v w'') : OpGoes P R (.ok (.enter f args) w) := h
theorem ret_v {x : Value} {w w' : World} (h : Below w.heap.size w w') : ∃ v, Ending.returned x = .returned v ∧ (Kd.v x).holds w' v ∧ Below w.heap.size w w' := ⟨_, rfl, rfl, h⟩
theorem ret_b {A : Option Addr} {n c : Nat} {l : List UInt8} {w w' : World} (k : Bs w' A n c l) (h : Below w.heap.size w w') : ∃ v, Ending.returned (.slice A n c) = .returned v ∧ (Kd.b n l).holds w' v ∧ Below w.heap.size w w' := ⟨_, rfl, ⟨_, _, rfl, k⟩, h⟩
theorem ret_p {q : World → Value → Prop} {x : Value} {w w' : World} (k : q w' x) (h : Below w.heap.size w w') : ∃ v, Ending.returned x = .returned v ∧ (Kd.p q).holds w' v ∧ Below w.heap.size w w' := ⟨_, rfl, k, h⟩

/-- What the operations must be like: the first m have a slot each, of their own; they wait for earlier ones alone, and for those that they read; each other one waits for all before it. -/
def hasOn (o : Oper) (j : Nat) : Bool := o.after.any fun e => e.on == j && Region.binds .any e
def mainB (ops : Array Oper) (m n i : Nat) : Bool := match ops[i]? with
  | some o => (match o.dst with
      | some t => decide (t < n) && (List.range i).all (fun j => dstOf ops j != some t)
      | none => false) && !isSel o.op && o.op.operands.all (fun x => match x with
      | .tmp t => (List.range m).all (fun j => dstOf ops j != some t || (hasOn o j && decide (j < i)))
      | _ => true) && (match o.guard with
      | some (g, _) => hasOn o g && decide (g < i)
      | none => true)
  | none => false
def downB (ops : Array Oper) (i : Nat) : Bool := match ops[i]? with
  | some o => o.after.all fun e => !Region.binds .any e || decide (e.on < i)
  | none => true
def upB (ops : Array Oper) (lo hi : Nat) (j : Nat) : Bool := (List.range (hi + 1 - lo)).any fun k => match ops[lo + k]? with
  | some o => hasOn o j
  | none => false
def regB (ops : Array Oper) (m n : Nat) : Bool :=
  decide (m ≤ ops.size) && (List.range m).all (mainB ops m n) && (List.range ops.size).all (downB ops) &&
    (m == ops.size || (List.range m).all fun j => upB ops (j + 1) m j) && (List.range (ops.size - 1 - m)).all fun k => upB ops (m + k + 1) (m + k + 1) (m + k)
end

theorem lookK_some {t : Tmp} {K : Kd} : ∀ {ks : List (Tmp × Kd)}, lookK ks t = some K → (t, K) ∈ ks
  | (s, K') :: r, h => by
    unfold lookK at h
    cases hb : Nat.beq s t with
    | true =>
      rw [hb] at h
      injection h with h
      subst h
      rw [Nat.eq_of_beq_eq_true hb]
      exact List.mem_cons_self
    | false =>
      rw [hb] at h
      exact List.mem_cons_of_mem _ (lookK_some h)
theorem lookK_none {t : Tmp} : ∀ {ks : List (Tmp × Kd)}, lookK ks t = none → ∀ K, (t, K) ∉ ks
  | [], _, _, hm => by cases hm
  | (s, K') :: r, h, K, hm => by
    unfold lookK at h
    cases hb : Nat.beq s t with
    | true => rw [hb] at h; cases h
    | false =>
      rw [hb] at h
      rcases List.mem_cons.1 hm with e | hm
      · injection e with e1 e2
        subst e1
        rw [Nat.beq_refl] at hb; cases hb
      · exact lookK_none h K hm
theorem put_getD {a : Act} {t s : Tmp} {v : Value} (ht : t < a.tmps.size) : (a.put (some t) v).tmps.getD s undef = if s = t then v else a.tmps.getD s undef := by
  by_cases e : s = t
  · subst e
    simp [Act.put, Array.getD_eq_getD_getElem?, ht]
  · rw [if_neg e]
    simp [Act.put, Array.getD_eq_getD_getElem?, Array.getElem?_setIfInBounds_ne (Ne.symm e)]
/-- Leaning on what is there in fact. -/
theorem leanOn.out {ks : List (Tmp × Kd)} {W : World} {k : Act → Prop} {a' : Act} : ∀ {xs : List Operand} {a : Act}, leanOn ks W xs k a → a.tmps.size = a'.tmps.size →
    (∀ t K, .tmp t ∈ xs → lookK ks t = some K → t < a'.tmps.size ∧ K.holds W (a'.tmps.getD t undef)) →
    ∃ b : Act, k b ∧ b.tmps.size = a.tmps.size ∧ b.defers = a.defers ∧ (∀ t, b.tmps.getD t undef = a.tmps.getD t undef ∨ b.tmps.getD t undef = a'.tmps.getD t undef) ∧
      (∀ t, (∃ K, lookK ks t = some K ∧ .tmp t ∈ xs) → b.tmps.getD t undef = a'.tmps.getD t undef)
  | [], a, h, hs, hv => ⟨a, h, rfl, rfl, fun _ => .inl rfl, fun t ⟨K, _, hm⟩ => by cases hm⟩
  | .tmp t :: xs, a, h, hs, hv => by
    have step : ∀ {K : Kd}, lookK ks t = some K → leanOn ks W xs k (a.put (some t) (a'.tmps.getD t undef)) → ∃ b : Act, k b ∧ b.tmps.size = a.tmps.size ∧ b.defers = a.defers ∧ (∀ t, b.tmps.getD t undef = a.tmps.getD t undef ∨ b.tmps.getD t undef = a'.tmps.getD t undef) ∧
      (∀ s, (∃ K, lookK ks s = some K ∧ .tmp s ∈ .tmp t :: xs) → b.tmps.getD s undef = a'.tmps.getD s undef) := by
      intro K hK h
      have ht : t < a.tmps.size := by rw [hs]; exact (hv t K (List.mem_cons_self) hK).1
      have hs1 : (a.put (some t) (a'.tmps.getD t undef)).tmps.size = a'.tmps.size := by simpa [Act.put] using hs
      obtain ⟨b, hb, e1, e2, e3, e4⟩ := leanOn.out (a' := a') h hs1 (fun s K hm => hv s K (List.mem_cons_of_mem _ hm))
      refine ⟨b, hb, by rw [e1, hs1, hs], e2, fun s => ?_, fun s ⟨K', hK', hm⟩ => ?_⟩
      · rcases e3 s with e | e
        · rw [put_getD ht] at e
          by_cases es : s = t
          · rw [if_pos es] at e; subst es; exact .inr e
          · rw [if_neg es] at e; exact .inl e
        · exact .inr e
      · by_cases hx : Operand.tmp s ∈ xs
        · exact e4 s ⟨K', hK', hx⟩
        · rcases List.mem_cons.1 hm with e | hm
          · injection e with e
            subst e
            rcases e3 s with e | e
            · rw [put_getD ht, if_pos rfl] at e; exact e
            · exact e
          · exact absurd hm hx
    unfold leanOn at h
    cases hl : lookK ks t with
    | none =>
      rw [hl] at h
      obtain ⟨b, hb, e1, e2, e3, e4⟩ := leanOn.out (a' := a') h hs (fun s K hm => hv s K (List.mem_cons_of_mem _ hm))
      refine ⟨b, hb, e1, e2, e3, fun s ⟨K', hK', hm⟩ => ?_⟩
      rcases List.mem_cons.1 hm with e | hm
      · injection e with e
        subst e
        rw [hl] at hK'; cases hK'
      · exact e4 s ⟨K', hK', hm⟩
    | some K =>
      have hh := (hv t K (List.mem_cons_self) hl).2
      rw [hl] at h
      cases K with
      | v x =>
        refine step hl ?_
        have hx : a'.tmps.getD t undef = x := hh
        rw [hx]
        exact h
      | b n l =>
        obtain ⟨A, c, e, hb⟩ := hh
        refine step hl ?_
        rw [e]
        exact h A c hb
      | p q => exact step hl (h _ hh)
  | .const _ :: xs, a, h, hs, hv => by
    obtain ⟨b, hb, e1, e2, e3, e4⟩ := leanOn.out (xs := xs) (a' := a') h hs (fun s K hm => hv s K (List.mem_cons_of_mem _ hm))
    exact ⟨b, hb, e1, e2, e3, fun s ⟨K', hK', hm⟩ => e4 s ⟨K', hK', by rcases List.mem_cons.1 hm with e | hm; cases e; exact hm⟩⟩
  | .global _ :: xs, a, h, hs, hv => by
    obtain ⟨b, hb, e1, e2, e3, e4⟩ := leanOn.out (xs := xs) (a' := a') h hs (fun s K hm => hv s K (List.mem_cons_of_mem _ hm))
    exact ⟨b, hb, e1, e2, e3, fun s ⟨K', hK', hm⟩ => e4 s ⟨K', hK', by rcases List.mem_cons.1 hm with e | hm; cases e; exact hm⟩⟩
  | .func _ :: xs, a, h, hs, hv => by
    obtain ⟨b, hb, e1, e2, e3, e4⟩ := leanOn.out (xs := xs) (a' := a') h hs (fun s K hm => hv s K (List.mem_cons_of_mem _ hm))
    exact ⟨b, hb, e1, e2, e3, fun s ⟨K', hK', hm⟩ => e4 s ⟨K', hK', by rcases List.mem_cons.1 hm with e | hm; cases e; exact hm⟩⟩
theorem finOn.out {W : World} {k : Act → Prop} {a' : Act} : ∀ {ks : List (Tmp × Kd)} {a : Act}, finOn W ks k a → a.tmps.size = a'.tmps.size →
    (∀ t K, (t, K) ∈ ks → t < a'.tmps.size ∧ K.holds W (a'.tmps.getD t undef)) →
    ∃ b : Act, k b ∧ b.tmps.size = a.tmps.size ∧ b.defers = a.defers ∧ (∀ t, (∀ K, (t, K) ∉ ks) → b.tmps.getD t undef = a.tmps.getD t undef) ∧
      (∀ t, (∃ K, (t, K) ∈ ks) → b.tmps.getD t undef = a'.tmps.getD t undef)
  | [], a, h, hs, hv => ⟨a, h, rfl, rfl, fun _ _ => rfl, fun t ⟨K, hm⟩ => by cases hm⟩
  | (t, K) :: r, a, h, hs, hv => by
    have hh := hv t K (List.mem_cons_self)
    have h' : finOn W r k (a.put (some t) (a'.tmps.getD t undef)) := by
      cases K with
      | v x => have hx : a'.tmps.getD t undef = x := hh.2; rw [hx]; exact h
      | b n l => obtain ⟨A, c, e, hb⟩ := hh.2; rw [e]; exact h A c hb
      | p q => exact h _ hh.2
    have ht : t < a.tmps.size := by rw [hs]; exact hh.1
    have hs1 : (a.put (some t) (a'.tmps.getD t undef)).tmps.size = a'.tmps.size := by simpa [Act.put] using hs
    obtain ⟨b, hb, e1, e2, e3, e4⟩ := finOn.out (a' := a') h' hs1 (fun s K hm => hv s K (List.mem_cons_of_mem _ hm))
    refine ⟨b, hb, by rw [e1, hs1, hs], e2, fun s hn => ?_, fun s ⟨K', hm⟩ => ?_⟩
    · rw [e3 s (fun K hm => hn K (List.mem_cons_of_mem _ hm)), put_getD ht, if_neg]
      intro e
      subst e
      exact hn K (List.mem_cons_self)
    · by_cases hx : ∃ K, (s, K) ∈ r
      · exact e4 s hx
      · rcases List.mem_cons.1 hm with e | hm
        · injection e with e1 e2
          subst e1
          rw [e3 s (fun K hm => hx ⟨K, hm⟩), put_getD ht, if_pos rfl]
        · exact absurd ⟨K', hm⟩ hx

theorem ObsK.out {P : Program} {ops : Array Oper} {a0 : Act} {w0 : World} {fin : List (Tmp × Kd) → Prop} : ∀ {l : List Oper} {ks : List (Tmp × Kd)}, ObsK P ops a0 w0 fin ks l →
    ∃ Ks : Nat → Kd, ∃ kz : Nat → List (Tmp × Kd), kz 0 = ks ∧ fin (kz l.length) ∧ ∀ i o, l[i]? = some o → ∃ t, o.dst = some t ∧ (Ks i).Ok ∧ Ob1 P ops a0 w0 (kz i) o (Ks i) ∧ kz (i + 1) = (t, Ks i) :: kz i
  | [], ks, h => ⟨fun _ => .v undef, fun _ => ks, rfl, h, fun i o ho => by simp at ho⟩
  | o :: rest, ks, ⟨K, t, hd, hk, hob, hr⟩ => by
    obtain ⟨Ks, kz, h0, hf, hall⟩ := ObsK.out hr
    refine ⟨fun i => match i with | 0 => K | i + 1 => Ks i, fun i => match i with | 0 => ks | i + 1 => kz i, rfl, hf, fun i o' ho' => ?_⟩
    cases i with
    | zero =>
      simp only [List.getElem?_cons_zero, Option.some.injEq] at ho'
      subst ho'
      exact ⟨t, hd, hk, hob, h0⟩
    | succ i => exact hall i o' (by simpa using ho')
theorem kz_mem {l : List Oper} {Ks : Nat → Kd} {kz : Nat → List (Tmp × Kd)} (h0 : kz 0 = []) (hall : ∀ i o, l[i]? = some o → ∃ t, o.dst = some t ∧ kz (i + 1) = (t, Ks i) :: kz i) :
    ∀ i, i ≤ l.length → ∀ t K, (t, K) ∈ kz i → ∃ j o, j < i ∧ l[j]? = some o ∧ o.dst = some t ∧ K = Ks j
  | 0, _, t, K, hm => by rw [h0] at hm; cases hm
  | i + 1, hi, t, K, hm => by
    have ho : l[i]? = some l[i] := List.getElem?_eq_getElem (by omega)
    obtain ⟨s, hs, he⟩ := hall i _ ho
    rw [he] at hm
    rcases List.mem_cons.1 hm with e | hm
    · injection e with e1 e2
      subst e1 e2
      exact ⟨i, _, Nat.lt_succ_self i, ho, hs, rfl⟩
    · obtain ⟨j, o, hj, r⟩ := kz_mem h0 hall i (by omega) t K hm
      exact ⟨j, o, by omega, r⟩
theorem kz_all {l : List Oper} {Ks : Nat → Kd} {kz : Nat → List (Tmp × Kd)} (hall : ∀ i o, l[i]? = some o → ∃ t, o.dst = some t ∧ kz (i + 1) = (t, Ks i) :: kz i) :
    ∀ i, i ≤ l.length → ∀ j o t, j < i → l[j]? = some o → o.dst = some t → (t, Ks j) ∈ kz i
  | 0, _, j, o, t, hj, _, _ => by omega
  | i + 1, hi, j, o, t, hj, ho, ht => by
    have ho' : l[i]? = some l[i] := List.getElem?_eq_getElem (by omega)
    obtain ⟨s, hs, he⟩ := hall i _ ho'
    rw [he]
    by_cases e : j = i
    · subst e
      rw [ho'] at ho
      injection ho with ho
      subst ho
      rw [hs] at ht
      injection ht with ht
      subst ht
      exact List.mem_cons_self
    · exact List.mem_cons_of_mem _ (kz_all hall i (by omega) j o t (by omega) ho ht)

structure RegOk (ops : Array Oper) (m n : Nat) : Prop where
  le : m ≤ ops.size
  main : ∀ i o, i < m → ops[i]? = some o → ∃ t, o.dst = some t ∧ t < n ∧ (∀ j, j < i → dstOf ops j ≠ some t) ∧ isSel o.op = false ∧
    (∀ s, .tmp s ∈ o.op.operands → ∀ j, j < m → dstOf ops j = some s → hasOn o j = true ∧ j < i) ∧ (∀ g b, o.guard = some (g, b) → hasOn o g = true ∧ g < i)
  down : ∀ i o, ops[i]? = some o → ∀ e ∈ o.after, Region.binds .any e = true → e.on < i
  up : m = ops.size ∨ ∀ j, j < m → ∃ k o, j < k ∧ k ≤ m ∧ ops[k]? = some o ∧ hasOn o j = true
  tail : ∀ k, m ≤ k → k + 1 < ops.size → ∃ o, ops[k + 1]? = some o ∧ hasOn o k = true
theorem upB_out {ops : Array Oper} {lo hi j : Nat} (h : upB ops lo hi j = true) : ∃ k o, lo ≤ k ∧ k ≤ hi ∧ ops[k]? = some o ∧ hasOn o j = true := by
  obtain ⟨k, hk, hh⟩ := List.any_eq_true.1 h
  have := List.mem_range.1 hk
  cases ho : ops[lo + k]? with
  | none => rw [ho] at hh; cases hh
  | some o => rw [ho] at hh; exact ⟨lo + k, o, by omega, by omega, ho, hh⟩
theorem regB_out {ops : Array Oper} {m n : Nat} (h : regB ops m n = true) : RegOk ops m n := by
  unfold regB at h
  simp only [Bool.and_eq_true, decide_eq_true_eq, List.all_eq_true, List.mem_range, Bool.or_eq_true, beq_iff_eq] at h
  obtain ⟨⟨⟨⟨h1, h2⟩, h3⟩, h4⟩, h5⟩ := h
  refine ⟨h1, fun i o hi ho => ?_, fun i o ho e he hb => ?_, ?_, fun k hk hk1 => ?_⟩
  · have := h2 i hi
    unfold mainB at this
    rw [ho] at this
    simp only [Bool.and_eq_true] at this
    obtain ⟨⟨⟨a1, a2⟩, a3⟩, a4⟩ := this
    cases ht : o.dst with
    | none => rw [ht] at a1; cases a1
    | some t =>
      rw [ht] at a1
      simp only [Bool.and_eq_true, decide_eq_true_eq, List.all_eq_true, List.mem_range, bne_iff_ne, ne_eq] at a1
      refine ⟨t, rfl, a1.1, a1.2, by simpa using a2, fun s hs j hj hd => ?_, fun g b hg => ?_⟩
      · rw [Array.all_eq_true] at a3
        obtain ⟨q, hq, hqs⟩ := Array.mem_iff_getElem.1 hs
        have := a3 q hq
        rw [hqs] at this
        simp only [List.all_eq_true, List.mem_range, Bool.or_eq_true, bne_iff_ne, ne_eq, Bool.and_eq_true, decide_eq_true_eq] at this
        exact (this j hj).resolve_left (fun h => h hd)
      · rw [hg] at a4
        simpa using a4
  · have hi : i < ops.size := (Array.getElem?_eq_some_iff.1 ho).1
    have := h3 i hi
    unfold downB at this
    rw [ho] at this
    simp only [Array.all_eq_true] at this
    obtain ⟨k, hk, rfl⟩ := Array.mem_iff_getElem.1 he
    have := this k hk
    rw [hb] at this
    simpa using this
  · rcases h4 with h4 | h4
    · exact .inl h4
    · refine .inr fun j hj => ?_
      obtain ⟨k, o, k1, k2, k3, k4⟩ := upB_out (h4 j hj)
      exact ⟨k, o, by omega, k2, k3, k4⟩
  · have := h5 (k - m) (by omega)
    rw [show m + (k - m) = k from by omega] at this
    obtain ⟨q, o, k1, k2, k3, k4⟩ := upB_out this
    obtain rfl : q = k + 1 := by omega
    exact ⟨o, k3, k4⟩

structure RInv (ops : Array Oper) (a0 : Act) (w0 : World) (Ks : Nat → Kd) (m : Nat) (listed : Array Bool) (a : Act) (w : World) : Prop where
  lsize : listed.size = ops.size
  defers : a.defers = a0.defers
  size : a.tmps.size = a0.tmps.size
  below : Below w0.heap.size w0 w
  other : ∀ t, (∀ j, j < m → dstOf ops j ≠ some t) → a.tmps.getD t undef = a0.tmps.getD t undef
  val : ∀ j t, j < m → listed.getD j false = true → dstOf ops j = some t → (Ks j).holds w (a.tmps.getD t undef)
  down : ∀ i o, ops[i]? = some o → listed.getD i false = true → ∀ e ∈ o.after, Region.binds .any e = true → listed.getD e.on false = true
theorem hasOn_mem {o : Oper} {j : Nat} (h : hasOn o j = true) : ∃ e ∈ o.after, e.on = j ∧ Region.binds .any e = true := by
  unfold hasOn at h
  rw [Array.any_eq_true] at h
  obtain ⟨i, hi, hh⟩ := h
  simp only [Bool.and_eq_true, beq_iff_eq] at hh
  exact ⟨_, Array.getElem_mem hi, hh.1, hh.2⟩
theorem getD_ff {l : Array Bool} {i : Nat} (hi : i < l.size) : l.getD i true = l.getD i false := by
  simp only [Array.getD_eq_getD_getElem?, Array.getElem?_eq_getElem hi, Option.getD_some]
theorem getD_set {l : Array Bool} {i j : Nat} (hi : i < l.size) (b : Bool) : (l.setIfInBounds i true).getD j b = if j = i then true else l.getD j b := by
  by_cases e : j = i
  · subst e; simp [Array.getD_eq_getD_getElem?, hi]
  · simp [Array.getD_eq_getD_getElem?, Array.getElem?_setIfInBounds_ne (Ne.symm e), e]
theorem dstOf_some {ops : Array Oper} {j : Nat} {t : Tmp} (h : dstOf ops j = some t) : ∃ o, ops[j]? = some o ∧ o.dst = some t := by
  unfold dstOf at h
  cases ho : ops[j]? with
  | none => rw [ho] at h; cases h
  | some o => rw [ho] at h; exact ⟨o, rfl, h⟩
theorem dst_inj {ops : Array Oper} {m n : Nat} (h : RegOk ops m n) {i j : Nat} {t : Tmp} (im : i < m) (jm : j < m) (hi : dstOf ops i = some t) (hj : dstOf ops j = some t) : i = j := by
  have key : ∀ i j, j < m → dstOf ops i = some t → dstOf ops j = some t → i < j → False := by
    intro i j jm hi hj hlt
    obtain ⟨o, ho, hd⟩ := dstOf_some hj
    obtain ⟨s, hs, _, hne, _⟩ := h.main j o jm ho
    rw [hd] at hs
    injection hs with hs
    subst hs
    exact hne i hlt hi
  rcases Nat.lt_trichotomy i j with hlt | heq | hlt
  · exact (key i j jm hi hj hlt).elim
  · exact heq
  · exact (key j i im hj hi hlt).elim
/-- Whatever is behind the first m comes up when all before it are done. -/
theorem all_before {ops : Array Oper} {m n : Nat} (h : RegOk ops m n) {listed : Array Bool} (hd : ∀ i o, ops[i]? = some o → listed.getD i false = true → ∀ e ∈ o.after, Region.binds .any e = true → listed.getD e.on false = true)
    {k : Nat} {ok : Oper} (hk : m ≤ k) (hok : ops[k]? = some ok) (hr : ∀ e ∈ ok.after, Region.binds .any e = true → listed.getD e.on false = true) : ∀ d j, j + d + 1 = k → listed.getD j false = true := by
  have hks : k < ops.size := (Array.getElem?_eq_some_iff.1 hok).1
  intro d
  induction d using Nat.strongRecOn with
  | _ d ih =>
    intro j hj
    have : ∃ q o, j < q ∧ q ≤ k ∧ ops[q]? = some o ∧ hasOn o j = true := by
      by_cases jm : j < m
      · rcases h.up with e | e
        · omega
        · obtain ⟨q, o, q1, q2, q3⟩ := e j jm
          exact ⟨q, o, q1, by omega, q3⟩
      · obtain ⟨o, ho, hh⟩ := h.tail j (by omega) (by omega)
        exact ⟨j + 1, o, by omega, by omega, ho, hh⟩
    obtain ⟨q, o, q1, q2, q3, q4⟩ := this
    obtain ⟨e, he, heo, heb⟩ := hasOn_mem q4
    rw [← heo]
    by_cases e1 : q = k
    · subst e1
      rw [hok] at q3
      injection q3 with q3
      subst q3
      exact hr e he heb
    · exact hd q o q3 (ih (k - q - 1) (by omega) q (by omega)) e he heb

section
variable {P : Program} {Q : Exit → Act → World → Prop}
/-- What stands behind the first m goes one by one. -/
theorem tail_any {ops : Array Oper} {m n : Nat} (h : RegOk ops m n) : ∀ (fuel k : Nat) (listed : Array Bool) (a : Act) (w : World), m ≤ k → k ≤ ops.size → listed.size = ops.size →
    (∀ i, i < ops.size → listed.getD i false = decide (i < k)) → ops.size - k ≤ fuel → wpList P ops Q (ops.toList.drop k) a w → wpAny P .any ops Q fuel listed a w := by
  intro fuel
  have hnil : ∀ (k : Nat) (listed : Array Bool), listed.size = ops.size → (∀ i, i < ops.size → listed.getD i false = decide (i < k)) → k ≤ ops.size → Region.ready .any ops listed = [] → k = ops.size := by
    intro k listed hs hl hk hr
    rcases Nat.lt_or_ge k ops.size with hlt | hge
    · exfalso
      have hm : k ∈ Region.ready .any ops listed := by
        rw [mem_ready]
        refine ⟨by rw [getD_ff (by omega), hl k hlt]; simp, ops[k], Array.getElem?_eq_getElem hlt, fun e he hb => ?_⟩
        have := h.down k _ (Array.getElem?_eq_getElem hlt) e he hb
        rw [hl _ (by omega)]
        simpa using this
      rw [hr] at hm
      cases hm
    · omega
  induction fuel with
  | zero =>
    intro k listed a w hmk hk hs hl hf hw
    obtain rfl : k = ops.size := by omega
    have hd : ops.toList.drop ops.size = [] := by simp
    rw [hd] at hw
    refine ⟨?_, hw⟩
    unfold Region.ready
    rw [List.filter_eq_nil_iff]
    intro i hi
    have hi := List.mem_range.1 hi
    rw [getD_ff (by omega), hl i hi]
    simp [hi]
  | succ fuel ih =>
    intro k listed a w hmk hk hs hl hf hw
    refine ⟨fun hr => ?_, fun i hi => ?_⟩
    · obtain rfl := hnil k listed hs hl hk hr
      have hd : ops.toList.drop ops.size = [] := by simp
      rw [hd] at hw
      exact hw
    · rw [mem_ready] at hi
      obtain ⟨hn, o, ho, hall⟩ := hi
      have his : i < ops.size := (Array.getElem?_eq_some_iff.1 ho).1
      rw [getD_ff (by omega), hl i his] at hn
      have hik : k ≤ i := by simpa using hn
      have hki : i ≤ k := by
        rcases Nat.lt_or_ge k i with hlt | hge
        · exfalso
          have := all_before h (listed := listed) (fun q oq hq hlq e he hb => by
            have hqs : q < ops.size := (Array.getElem?_eq_some_iff.1 hq).1
            have h1 := h.down q oq hq e he hb
            rw [hl q hqs] at hlq
            rw [hl _ (by omega)]
            simp only [decide_eq_true_eq] at hlq ⊢
            omega) (by omega) ho hall (i - k - 1) k (by omega)
          rw [hl k (by omega)] at this
          simp at this
        · exact hge
      obtain rfl : i = k := by omega
      have hdrop : ops.toList.drop i = o :: ops.toList.drop (i + 1) := by
        have : ops.toList[i]? = some o := by simpa using ho
        rw [List.drop_eq_getElem_cons (by simpa using his)]
        congr 1
        have e2 := (List.getElem?_eq_some_iff.1 this).2
        exact e2
      rw [hdrop] at hw
      have hnext : ∀ a w, wpList P ops Q (ops.toList.drop (i + 1)) a w → wpAny P .any ops Q fuel (listed.setIfInBounds i true) a w := by
        intro a w hw
        refine ih (i + 1) _ a w (by omega) (by omega) (by simpa using hs) (fun j hj => ?_) (by omega) hw
        rw [getD_set (by omega), hl j hj]
        by_cases e : j = i
        · subst e; simp
        · simp [e]; omega
      unfold wpOp
      rw [ho]
      simp only
      unfold wpList at hw
      split
      · rename_i hwant
        rw [if_pos hwant] at hw
        exact hw.imp (Oper.wp_mono hnext) id
      · rename_i hwant
        rw [if_neg hwant] at hw
        exact hnext _ _ hw

/-- THE LAW. -/
theorem region_txt {id : Nat} {l : List Oper} {a : Act} {w : World} (m : Nat) (hm : P.follows .mixedOrders = true) (hchk : regB l.toArray m a.tmps.size = true)
    (hobs : ObsK P l.toArray a w (fun ks => ∀ W, Below w.heap.size w W → finOn W ks (fun a' => wpList P l.toArray Q (l.drop m) a' W) a) [] (l.take m)) :
    (Code.region id l.toArray true).wp P Q a w := by
  have R := regB_out hchk
  obtain ⟨ops, hops⟩ : ∃ ops, l.toArray = ops := ⟨_, rfl⟩
  have hl' : l = ops.toList := by rw [← hops]
  rw [hops] at hobs R ⊢
  rw [hl'] at hobs
  clear hops hl' hchk
  obtain ⟨Ks, kz, hz0, hfin, hall⟩ := hobs.out
  have hmlen : (ops.toList.take m).length = m := by simp [R.le]
  rw [hmlen] at hfin
  have hat : ∀ i o, i < m → ops[i]? = some o → (ops.toList.take m)[i]? = some o := fun i o hi ho => by
    rw [List.getElem?_take, if_pos hi]; simpa using ho
  have hta : ∀ i o, (ops.toList.take m)[i]? = some o → i < m ∧ ops[i]? = some o := fun i o ho => by
    rw [List.getElem?_take] at ho
    split at ho
    · exact ⟨‹_›, by simpa using ho⟩
    · cases ho
  have hall2 : ∀ i o, (ops.toList.take m)[i]? = some o → ∃ t, o.dst = some t ∧ kz (i + 1) = (t, Ks i) :: kz i := fun i o ho => by
    obtain ⟨t, h1, _, _, h2⟩ := hall i o ho
    exact ⟨t, h1, h2⟩
  have hmem : ∀ i, i ≤ m → ∀ t K, (t, K) ∈ kz i → ∃ j, j < i ∧ dstOf ops j = some t ∧ K = Ks j := fun i hi t K hm => by
    obtain ⟨j, o, h1, h2, h3, h4⟩ := kz_mem hz0 hall2 i (by omega) t K hm
    obtain ⟨_, ho⟩ := hta j o h2
    exact ⟨j, h1, by unfold dstOf; rw [ho]; exact h3, h4⟩
  refine wp_region_any hm ?_
  have hd : ∀ i o, ops[i]? = some o → dstOf ops i = o.dst := fun i o ho => by unfold dstOf; rw [ho]; rfl
  have hend : ∀ (listed : Array Bool) (a' : Act) (w' : World), RInv ops a w Ks m listed a' w' → (∀ j, j < m → listed.getD j false = true) → wpList P ops Q (ops.toList.drop m) a' w' := by
    intro listed a' w' hI hlst
    obtain ⟨b, hb, e1, e2, e3, e4⟩ := finOn.out (a' := a') (hfin w' hI.below) hI.size.symm (fun t K hm => by
      obtain ⟨j, hj, hdj, rfl⟩ := hmem m (Nat.le_refl _) t K hm
      obtain ⟨o, ho, hod⟩ := dstOf_some hdj
      obtain ⟨s, hs, hsn, _⟩ := R.main j o hj ho
      rw [hod] at hs
      injection hs with hs
      subst hs
      exact ⟨by rw [hI.size]; exact hsn, hI.val j t hj (hlst j hj) hdj⟩)
    have : b = a' := by
      cases b with
      | mk bt bd =>
        cases a' with
        | mk at' ad =>
          simp only at e1 e2 e3 e4
          have hdf : bd = ad := by rw [e2]; exact hI.defers.symm
          have htm : bt = at' := by
            apply Array.ext
            · rw [e1]; exact hI.size.symm
            · intro t t1 t2
              have : bt.getD t undef = at'.getD t undef := by
                by_cases hx : ∃ K, (t, K) ∈ kz m
                · exact e4 t hx
                · rw [e3 t (fun K hm => hx ⟨K, hm⟩)]
                  refine (hI.other t fun j hj hdj => hx ?_).symm
                  obtain ⟨o, ho, hod⟩ := dstOf_some hdj
                  exact ⟨Ks j, kz_all hall2 m (by omega) j o t hj (hat j o hj ho) hod⟩
              simpa only [Array.getD_eq_getD_getElem?, Array.getElem?_eq_getElem t1, Array.getElem?_eq_getElem t2, Option.getD_some] using this
          subst hdf htm
          rfl
    rw [this] at hb
    exact hb
  have key : ∀ (fuel : Nat) (listed : Array Bool) (a' : Act) (w' : World), RInv ops a w Ks m listed a' w' → (∀ i, m ≤ i → i < ops.size → listed.getD i false = false) →
      ((List.range ops.size).filter fun i => !listed.getD i true).length ≤ fuel → wpAny P .any ops Q fuel listed a' w' := by
    intro fuel
    have hprefix : ∀ (listed : Array Bool), listed.size = ops.size → (∀ j, j < m → listed.getD j false = true) → (∀ i, m ≤ i → i < ops.size → listed.getD i false = false) → ∀ i, i < ops.size → listed.getD i false = decide (i < m) := by
      intro listed hs h1 h2 i hi
      by_cases e : i < m
      · rw [h1 i e]; simp [e]
      · rw [h2 i (by omega) hi]; simp [e]
    induction fuel with
    | zero =>
      intro listed a' w' hI hno hc
      have h0 : ((List.range ops.size).filter fun i => !listed.getD i true) = [] := List.eq_nil_of_length_eq_zero (by omega)
      have hal : ∀ i, i < ops.size → listed.getD i false = true := by
        intro i hi
        rw [List.filter_eq_nil_iff] at h0
        have := h0 i (List.mem_range.2 hi)
        rw [← getD_ff (by rw [hI.lsize]; exact hi)]
        simpa using this
      have hms : m = ops.size := by
        rcases Nat.lt_or_ge m ops.size with hlt | hge
        · have := hno m (Nat.le_refl _) hlt
          rw [hal m hlt] at this
          cases this
        · have := R.le; omega
      have := hend listed a' w' hI (fun j hj => hal j (by omega))
      rw [hms] at this
      have hdr : ops.toList.drop ops.size = [] := by simp
      rw [hdr] at this
      refine ⟨?_, this⟩
      unfold Region.ready
      rw [List.filter_eq_nil_iff] at h0 ⊢
      intro i hi
      have := h0 i hi
      simp only [Bool.not_eq_true] at this ⊢
      rw [this]
      rfl
    | succ fuel ih =>
      intro listed a' w' hI hno hc
      by_cases hdone : ∀ j, j < m → listed.getD j false = true
      · refine tail_any R (fuel + 1) m listed a' w' (Nat.le_refl _) R.le hI.lsize (hprefix listed hI.lsize hdone hno) ?_ (hend listed a' w' hI hdone)
        have hlen : ops.size - m ≤ ((List.range ops.size).filter fun i => !listed.getD i true).length := by
          have hsub : (List.range ops.size).filter (fun i => decide (m ≤ i)) = (List.range ops.size).filter fun i => !listed.getD i true := by
            apply List.filter_congr
            intro i hi
            have hi := List.mem_range.1 hi
            rw [getD_ff (by rw [hI.lsize]; exact hi), hprefix listed hI.lsize hdone hno i hi]
            by_cases e : i < m <;> simp [e] <;> omega
          rw [← hsub]
          have : ∀ N, m ≤ N → ((List.range N).filter fun i => decide (m ≤ i)).length = N - m := by
            intro N hN
            induction N with
            | zero => simp
            | succ N ihN =>
              rw [List.range_succ, List.filter_append, List.length_append]
              by_cases e : m ≤ N
              · rw [ihN e]; simp [e]; omega
              · have : m = N + 1 := by omega
                subst this
                have : (List.range N).filter (fun i => decide (N + 1 ≤ i)) = [] := by
                  rw [List.filter_eq_nil_iff]
                  intro i hi
                  have := List.mem_range.1 hi
                  simp; omega
                rw [this]
                simp
          rw [this _ R.le]
          exact Nat.le_refl _
        omega
      · refine ⟨fun hr => ?_, fun i hi => ?_⟩
        · exfalso
          refine hdone ?_
          intro j
          induction j using Nat.strongRecOn with
          | _ j ihj =>
            intro hj
            cases hlj : listed.getD j false with
            | true => rfl
            | false =>
              exfalso
              have hjs : j < ops.size := by have := R.le; omega
              have hmem : j ∈ Region.ready .any ops listed := by
                rw [mem_ready]
                refine ⟨by rw [getD_ff (by rw [hI.lsize]; exact hjs)]; exact hlj, ops[j], Array.getElem?_eq_getElem hjs, fun e he hb => ?_⟩
                have := R.down j _ (Array.getElem?_eq_getElem hjs) e he hb
                exact ihj _ this (by omega)
              rw [hr] at hmem
              cases hmem
        · have hi0 := hi
          rw [mem_ready] at hi
          obtain ⟨hnl', o, ho, haf⟩ := hi
          have his : i < ops.size := (Array.getElem?_eq_some_iff.1 ho).1
          have hsi : i < listed.size := by rw [hI.lsize]; exact his
          have him : i < m := by
            rcases Nat.lt_or_ge i m with hlt | hge
            · exact hlt
            · exact absurd (fun j hj => all_before R hI.down hge ho haf (i - j - 1) j (by omega)) hdone
          obtain ⟨t, ht, htn, hne, hsel, hrd, hgd⟩ := R.main i o him ho
          obtain ⟨t', ht', hok, hob, hkz⟩ := hall i o (hat i o him ho)
          have hon : ∀ j, hasOn o j = true → listed.getD j false = true := fun j hj => by
            obtain ⟨e, he, heo, heb⟩ := hasOn_mem hj
            rw [← heo]
            exact haf e he heb
          have hnext : ∀ v w'', (Ks i).holds w'' v → Below w'.heap.size w' w'' → wpAny P .any ops Q fuel (listed.setIfInBounds i true) (a'.put o.dst v) w'' := by
            intro v w'' hv hb
            refine ih _ _ _ ⟨by simpa using hI.lsize, ?_, ?_, below_then hI.below hb, ?_, ?_, ?_⟩ ?_ ?_
            · rw [ht]; exact hI.defers
            · rw [ht]; simpa [Act.put] using hI.size
            · intro s hs
              have hst : s ≠ t := fun e => hs i him (by rw [hd i _ ho, ht, e])
              rw [ht, put_getD (by rw [hI.size]; exact htn), if_neg hst]
              exact hI.other s hs
            · intro j s hjm hj hdj
              rw [getD_set hsi] at hj
              rw [ht, put_getD (by rw [hI.size]; exact htn)]
              by_cases e : j = i
              · subst e
                have : s = t := by rw [hd j _ ho, ht] at hdj; injection hdj with hdj; exact hdj.symm
                rw [if_pos this]
                exact hv
              · rw [if_neg e] at hj
                have hst : s ≠ t := fun e2 => e (dst_inj R hjm him hdj (by rw [hd i _ ho, ht, e2]))
                rw [if_neg hst]
                obtain ⟨oj, hoj, hdoj⟩ := dstOf_some hdj
                obtain ⟨_, _, hokj, _, _⟩ := hall j oj (hat j oj hjm hoj)
                exact Kd.keep hokj (hI.val j s hjm hj hdj) hb
            · intro q oq hq hlq e he hb
              rw [getD_set hsi] at hlq ⊢
              by_cases e1 : q = i
              · subst e1
                rw [ho] at hq
                injection hq with hq
                subst hq
                split
                · rfl
                · exact haf e he hb
              · rw [if_neg e1] at hlq
                split
                · rfl
                · exact hI.down q oq hq hlq e he hb
            · intro q hq hqs
              rw [getD_set hsi, if_neg (by omega)]
              exact hno q hq hqs
            · have hnl : (!listed.getD i true) = true := by rw [hnl']; rfl
              have hlt : ((List.range ops.size).filter fun k => !(listed.setIfInBounds i true).getD k true).length < ((List.range ops.size).filter fun k => !listed.getD k true).length := by
                have hsub : ((List.range ops.size).filter fun k => !(listed.setIfInBounds i true).getD k true) = (((List.range ops.size).filter fun k => !listed.getD k true).filter fun k => k != i) := by
                  rw [List.filter_filter]
                  apply List.filter_congr
                  intro k _
                  rw [getD_set hsi]
                  by_cases e : k = i
                  · subst e; simp
                  · simp [e]
                rw [hsub]
                exact List.length_filter_lt_length_iff_exists.2 ⟨i, List.mem_filter.2 ⟨List.mem_range.2 his, hnl⟩, by simp⟩
              omega
          have hlook : ∀ s K, lookK (kz i) s = some K → ∃ j, j < i ∧ dstOf ops j = some s ∧ K = Ks j := fun s K hK => hmem i (by omega) s K (lookK_some hK)
          unfold wpOp
          rw [ho]
          rcases hob with ⟨hwk, hgo⟩ | ⟨hwk, hskip⟩
          · have hw : Region.wanted o (yielded ops a'.tmps) = true := by
              unfold Region.wanted
              cases hg : o.guard with
              | none => rfl
              | some gb =>
                obtain ⟨g, b⟩ := gb
                rw [hg] at hwk
                unfold wantK at hwk
                simp only at hwk
                cases hdg : dstOf ops g with
                | none => rw [hdg] at hwk; cases hwk
                | some s =>
                  rw [hdg] at hwk
                  cases hlk : lookK (kz i) s with
                  | none => simp only [hlk] at hwk; cases hwk
                  | some K =>
                    simp only [hlk] at hwk
                    split at hwk
                    · rename_i hKe
                      injection hKe with hKe
                      subst hKe
                      rename_i c
                      obtain ⟨j, hj, hdj, hKj⟩ := hlook s _ hlk
                      obtain ⟨hong, hgi⟩ := hgd g b hg
                      obtain rfl := dst_inj R (by omega) (by omega) hdj hdg
                      have hv := hI.val j s (by omega) (hon j hong) hdj
                      rw [← hKj] at hv
                      have hy : yielded ops a'.tmps j = some c := by
                        have hv' : a'.tmps.getD s undef = .bool c := hv
                        unfold yielded
                        unfold dstOf at hdj
                        rw [hdj]
                        rw [Array.getD_eq_getD_getElem?] at hv'
                        cases hx : a'.tmps[s]? with
                        | none => rw [hx] at hv'; exact absurd hv' (by simp [undef])
                        | some x =>
                          rw [hx] at hv'
                          simp only [Option.getD_some] at hv'
                          subst hv'
                          simp [hx]
                      simp only [hy]
                      injection hwk
                    · cases hwk
            simp only [hw, if_true]
            refine .inl ?_
            obtain ⟨b, hb, b1, b2, b3, b4⟩ := leanOn.out (a' := a') (hgo w' hI.below) hI.size.symm (fun s K hs hK => by
              obtain ⟨j, hj, hdj, rfl⟩ := hlook s K hK
              obtain ⟨o2, ho2, hod2⟩ := dstOf_some hdj
              obtain ⟨s2, hs2, hsn, _⟩ := R.main j o2 (by omega) ho2
              rw [hod2] at hs2
              injection hs2 with hs2
              subst hs2
              obtain ⟨ha, _⟩ := hrd s (by simpa using hs) j (by omega) hdj
              exact ⟨by rw [hI.size]; exact hsn, hI.val j s (by omega) (hon j ha) hdj⟩)
            have heq : execOp a'.eval o = execOp b.eval o := by
              refine execOp_congr o (fun cs bb hc => by rw [hc] at hsel; cases hsel) fun x hx => ?_
              cases x with
              | tmp s =>
                show a'.tmps.getD s undef = b.tmps.getD s undef
                by_cases hks : ∃ K, lookK (kz i) s = some K
                · obtain ⟨K, hK⟩ := hks
                  exact (b4 s ⟨K, hK, by simpa using hx⟩).symm
                · have ho2 : ∀ j, j < m → dstOf ops j ≠ some s := by
                    intro j hj hdj
                    obtain ⟨_, hji⟩ := hrd s hx j hj hdj
                    obtain ⟨oj, hoj, hdoj⟩ := dstOf_some hdj
                    have := kz_all hall2 i (by omega) j oj s hji (hat j oj hj hoj) hdoj
                    cases hl : lookK (kz i) s with
                    | some K => exact hks ⟨K, hl⟩
                    | none => exact lookK_none hl _ this
                  have e0 := hI.other s ho2
                  rcases b3 s with e | e
                  · rw [e, e0]
                  · exact e.symm
              | const _ => rfl
              | global _ => rfl
              | func _ => rfl
            have hgoes := hb.out
            unfold Oper.wp
            rw [heq]
            generalize (execOp b.eval o).run P w' = r at hgoes
            cases r with
            | ok n w'' =>
              cases n <;> simp only [OpGoes] at hgoes <;> try exact hgoes.elim
              case value v => exact hnext v w'' hgoes.1 hgoes.2
              case enter f args =>
                refine Calls.mono hgoes ?_
                rintro e w3 ⟨v, rfl, hv, hb⟩
                exact hnext v w3 hv hb
            | halt x w'' => exact hgoes.elim
          · have hw : Region.wanted o (yielded ops a'.tmps) = false := by
              unfold Region.wanted
              cases hg : o.guard with
              | none => rw [hg] at hwk; cases hwk
              | some gb =>
                obtain ⟨g, b⟩ := gb
                rw [hg] at hwk
                unfold wantK at hwk
                simp only at hwk
                cases hdg : dstOf ops g with
                | none => rw [hdg] at hwk; cases hwk
                | some s =>
                  rw [hdg] at hwk
                  cases hlk : lookK (kz i) s with
                  | none => simp only [hlk] at hwk; cases hwk
                  | some K =>
                    simp only [hlk] at hwk
                    split at hwk
                    · rename_i hKe
                      injection hKe with hKe
                      subst hKe
                      rename_i c
                      obtain ⟨j, hj, hdj, hKj⟩ := hlook s _ hlk
                      obtain ⟨hong, hgi⟩ := hgd g b hg
                      obtain rfl := dst_inj R (by omega) (by omega) hdj hdg
                      have hv := hI.val j s (by omega) (hon j hong) hdj
                      rw [← hKj] at hv
                      have hy : yielded ops a'.tmps j = some c := by
                        have hv' : a'.tmps.getD s undef = .bool c := hv
                        unfold yielded
                        unfold dstOf at hdj
                        rw [hdj]
                        rw [Array.getD_eq_getD_getElem?] at hv'
                        cases hx : a'.tmps[s]? with
                        | none => rw [hx] at hv'; exact absurd hv' (by simp [undef])
                        | some x =>
                          rw [hx] at hv'
                          simp only [Option.getD_some] at hv'
                          subst hv'
                          simp [hx]
                      simp only [hy]
                      injection hwk
                    · cases hwk
            simp only [hw]
            exact hnext _ _ (by rw [hskip]; rfl) (Below.refl _ _)
  refine key ops.size _ a _ ⟨by simp, rfl, rfl, Below.drew (Below.refl _ _), fun _ _ => rfl, fun j t _ hj => ?_, fun i o _ hj => ?_⟩ ?_ ?_
  · exfalso
    revert hj
    simp only [Array.getD_eq_getD_getElem?, Array.getElem?_replicate]
    split <;> simp
  · exfalso
    revert hj
    simp only [Array.getD_eq_getD_getElem?, Array.getElem?_replicate]
    split <;> simp
  · intro i _ hi
    simp [Array.getD_eq_getD_getElem?, Array.getElem?_replicate, hi]
  · exact Nat.le_trans (List.length_filter_le _ _) (by simp)
end
end Go.Proofs.Ytogbncpchmnbdaa
