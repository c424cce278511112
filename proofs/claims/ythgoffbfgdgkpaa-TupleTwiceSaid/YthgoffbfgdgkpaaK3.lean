/- Parts of the proofs of this seat, laid together: Zeros RegN RegN2 SegO RegZ SegB Eq SegU SegBR RegXZ. -/
import Derived.Lib.AppendZerosOnto
import Derived.Laws.CopyRow
import Derived.ChangeKeysEq
import Derived.Test.YthgoffbfgdgkpaaK2
import Derived.Test.YthgoffbfgdgkpaaK1
/- append(b, make([]byte, k)...) onto a row of the call's own. -/
namespace Go.Proofs.Ythgoffbfgdgkpaa
open Go.RowKit
set_option linter.unusedVariables false
set_option linter.unusedSimpArgs false
set_option maxHeartbeats 4000000
set_option maxRecDepth 100000

theorem cu_zsl (k : Nat) : (Builtin.zeroCells #[Value.int .u8 0] k).toList = cu (zs k) := by
  have := cu_zs k
  have h2 : madeCells #[Value.int .u8 0] k = Builtin.zeroCells #[Value.int .u8 0] k := by
    apply Array.ext'
    rw [toList_madeCells_one]
    apply List.ext_getElem?
    intro i
    by_cases h : i < k <;> simp [Builtin.zeroCells, Nat.mod_one, List.getElem?_replicate, h]
  rw [← h2, ← this]
theorem run_append_zeros {P : Program} (w : World) (base : Nat) (t tn ty e : TypeId) (kn kq : IntKind) (ht : P.underlying t = some (.slice e)) (htn : P.underlying tn = some (.int kn)) (hinfo : (P.info? e).map (fun i => (i.zero, i.size, i.bytes)) = some (some (.int .u8 0), 1, 1))
    (g n c : Nat) (l : List UInt8) (hown : Own w base e (some ⟨g, 0, none⟩) n c l) (k : Nat) (hk : k ≤ 100) (hn : n ≤ 100000000) (hbase : base ≤ w.heap.size) :
    ∃ A' c' w', (Builtin.append_ #[t, tn] ty #[.slice (some ⟨g, 0, none⟩) n c, .int kq (k : Int)]).run P w = .ok (.slice A' (n + k) c') w' ∧ Own w' base e A' (n + k) c' (l ++ zs k) ∧ w.grownBy w' (some g) := by
  obtain ⟨i, hi, hz, hs, hb⟩ := info_parts hinfo
  have hw : IntKind.i64.wrap (k : Int) = k := by rw [IntKind.wrap_i64]; omega
  have hlen : (l ++ zs k).length = n + k := by rw [List.length_append, hown.len, zs_length]
  have hbs := hown.bs
  obtain ⟨hl, hm, hr1, hr2⟩ := hown
  rcases hr2 with ⟨hv, _⟩ | ⟨g', cap, cur, hv, hbg, hg, hnc, hcm, hcs, htake⟩
  · injection hv with hv; cases hv
  injection hv with h3 h4 h5
  injection h3 with h3
  injection h3 with h3
  subst h3 h5
  rw [Nat.mul_one] at hcs htake
  have hneg : ¬ ((k : Int) < 0) := by omega
  have h48i : ¬ (281474976710656 < (k : Int) * ((1 : Nat) : Int)) := by omega
  by_cases hroom : n + k ≤ c
  · obtain ⟨X, hX⟩ : ∃ X : Array Value, (cur.toList.take n ++ cu (zs k) ++ cur.toList.drop (n + k)).toArray = X := ⟨_, rfl⟩
    have hst := run_storeCells_at (P := P) g n e (cu (zs k)) 0 cur w hg (by rw [cu_length, zs_length]; omega) (cu_one _)
    simp only [Nat.add_zero, cu_length, zs_length, hX] at hst
    refine ⟨some ⟨g, 0, none⟩, c, w.setRow g X, ?_, ⟨hlen, by omega, ⟨by rw [cu_length]; omega, .inr ⟨g, c, X, rfl, hbg, setRow_heap w g cur X e (0, 0) hg, hroom, hcm, ?_, ?_⟩⟩⟩, ⟨rfl, rfl, rfl, by simp, fun j _ hj => setRow_other w g j _ (fun e => hj (by rw [e]))⟩⟩
    · have ha : (⟨g, 0, none⟩ : Addr).add (n * i.size) = ⟨g, n, none⟩ := by rw [hs, Nat.mul_one]; unfold Addr.add; split <;> simp_all
      by_cases hk0 : k = 0
      · subst hk0
        have hst0 : (storeCells ⟨g, n, none⟩ [] 0).run P w = .ok () (w.setRow g X) := by simpa [zs, cu] using hst
        have hw0 : IntKind.i64.wrap 0 = 0 := by decide
        have hroom0 : n ≤ c := by omega
        simp [Builtin.append_, run_underlying ht, run_underlying htn, sizeOf, typeInfo, zeroValue, hi, hz, hs, hb, asInt, asIntOf, hw0, hroom0, Addr.add_lit, hst0]
      · have hns : ¬ (k * 1 = 0) := by omega
        have hz2 : (Builtin.zeroCells (Value.int .u8 0).cells k).toList = cu (zs k) := cu_zsl k
        simp [Builtin.append_, run_underlying ht, run_underlying htn, sizeOf, typeInfo, zeroValue, hi, hz, hs, hb, asInt, asIntOf, hw, hneg, hroom, hk0, h48i, Addr.add_lit, hz2, hst]
        intro h
        omega
    · rw [← hX]; simp [cu_length, zs_length]; omega
    · rw [← hX]
      simp only [Nat.mul_one]
      rw [← cu_append, ← htake]
      have e1 : (cur.toList.take n ++ cu (zs k)).length = n + k := by simp [cu_length, zs_length]; omega
      rw [List.take_left' e1]
  · have hold : (Builtin.firstCells i.size n (.slice (some ⟨g, 0, none⟩) n c)).run P w.drew = .ok (cu l).toArray w.drew := by
      refine run_firstCells_some (P := P) w.drew i.size n ⟨g, 0, none⟩ n c (cu l) (by rw [hs, cu_length]; omega) fun j u hj => ?_
      exact (hbs.drew).cells rfl j u hj
    have hr := Lib.run_append_grow_zeros (P := P) w t tn ty e i (.int .u8 0) kq kn ht htn hi hz (some ⟨g, 0, none⟩) n c (cu l) hold k (by omega) (by omega) (by omega) (by omega) (by rw [hb]; omega) (growslice_fits_wide (by omega) (by rw [hb]; omega))
    have hge : n + k ≤ grownCap w (n + k) c e := grownCap_ge w (n + k) c e
    refine ⟨_, _, _, hr, ⟨hlen, by omega, ⟨by rw [cu_length]; omega, .inr ⟨w.heap.size, _, _, rfl, hbase, heap_alloc_new w.drew _, hge, grownCap_le_maxLen w (n + k) c e (by simp only [maxLen]; omega), ?_, ?_⟩⟩⟩, ⟨rfl, rfl, rfl, by simp, fun j hj _ => Below.heap_alloc w.drew _ j hj⟩⟩
    · simp [Array.size_append, size_zeroCells, Value.cells, cu_length]; omega
    · rw [Nat.mul_one, ← cu_append, ← cu_zsl k]
      simp only [Array.toList_append, List.toList_toArray, List.append_assoc]
      rw [← List.append_assoc]
      refine List.take_left' ?_
      simp [size_zeroCells, cu_length, Value.cells]; omega
theorem goes_zerosX {P : Program} {o : Oper} {a : Act} {W : World} {g : Nat} (s x : Operand) (t tn e : TypeId) (kn kq : IntKind) (ho : o.op = .call { callee := .builtin .append, args := #[s, x], argTypes := #[t, tn] }) (ht : P.underlying t = some (.slice e)) (htn : P.underlying tn = some (.int kn)) (hinfo : (P.info? e).map (fun i => (i.zero, i.size, i.bytes)) = some (some (.int .u8 0), 1, 1))
    {B n c : Nat} {l : List UInt8} (hs : a.eval s = .slice (some ⟨g, 0, none⟩) n c) (hown : Own W B e (some ⟨g, 0, none⟩) n c l) {k : Nat} (hx : a.eval x = .int kq (k : Int)) (hk : k ≤ 100) (hn : n ≤ 100000000) (hB : B ≤ W.heap.size) {J : World → Prop} (hJ : ∀ w', J w') :
    OpGoes P (fun v w' => (Kd.p (fun w'' v => ∃ A n' c', v = .slice A n' c' ∧ Own w'' B e A n' c' (l ++ zs k))).holds w' v ∧ W.grownBy w' (some g) ∧ J w') ((execOp a.eval o).run P W) := by
  obtain ⟨A', c', w', hrun, hown', hgr⟩ := run_append_zeros (P := P) W B t tn o.type e kn kq ht htn hinfo g n c l hown k hk hn hB
  unfold execOp
  simp only [ho, resolve, invoke, builtin, Sem.run_bind, Sem.run_pure, Result.andThen_ok, List.map_toArray, List.map_cons, List.map_nil, hs, hx, hrun]
  exact ⟨⟨A', _, c', rfl, hown'⟩, hgr, hJ _⟩
end Go.Proofs.Ythgoffbfgdgkpaa

/- A statement whose order Go leaves open, in which a few operations, one behind the other, write (appends one onto the other), whatever may change by them said by a relation. After Reg and RegX. -/
namespace Go.Proofs.Ythgoffbfgdgkpaa
open Go.RowKit
set_option linter.unusedVariables false
set_option linter.unusedSimpArgs false

def Kd.OkN (Rl : World → World → Prop) : Kd → Prop
  | .v _ => True
  | .b _ _ => False
  | .p q => ∀ w w' u, q w u → Rl w w' → q w' u
theorem Kd.keepN {Rl : World → World → Prop} {K : Kd} (hk : K.OkN Rl) {w w' : World} {v : Value} (h : K.holds w v) (hb : Rl w w') : K.holds w' v := by
  cases K with
  | v x => exact h
  | b n l => exact hk.elim
  | p q => exact hk _ _ _ h hb
structure GoesN (P : Program) (K : Kd) (Rl : World → World → Prop) (J : World → Prop) (o : Oper) (W : World) (a : Act) : Prop where
  out : OpGoes P (fun v w' => K.holds w' v ∧ Rl W w' ∧ J w') ((execOp a.eval o).run P W)
def Ob1N (P : Program) (ops : Array Oper) (a0 : Act) (w0 : World) (Rl : World → World → Prop) (J : Nat → World → Prop) (c : Nat) (x : Bool) (nz ks : List (Tmp × Kd)) (o : Oper) (K : Kd) : Prop :=
  (x = false ∧ wantK ops ks o.guard = some true ∧ ∀ W, Rl w0 W → leanOn ks W o.op.operands.toList (Goes P K o W) a0) ∨
  (x = true ∧ wantK ops ks o.guard = some true ∧ ∀ W, Rl w0 W → J c W → leanOn (nz ++ ks) W o.op.operands.toList (GoesN P K Rl (J (c + 1)) o W) a0) ∨
  (x = false ∧ wantK ops ks o.guard = some false ∧ K = .v undef)
def kT : Kd := .p fun _ _ => True
/-- What the operations yield: for the next one that writes (K), for all (K'). -/
def ObsN (P : Program) (ops : Array Oper) (a0 : Act) (w0 : World) (Rl : World → World → Prop) (J : Nat → World → Prop) (exs : List Nat) (fin : List (Tmp × Kd) → Prop) : Nat → Nat → List (Tmp × Kd) → List (Tmp × Kd) → List Oper → Prop
  | _, _, _, ks, [] => fin ks
  | i, c, nz, ks, o :: rest => ∃ K K' t, o.dst = some t ∧ (K.Ok ∧ (K' = K ∨ K' = kT) ∧ (lastX exs i = true ∨ K'.OkN Rl)) ∧ Ob1N P ops a0 w0 Rl J c (exs.elem i) nz ks o K ∧
      ObsN P ops a0 w0 Rl J exs fin (i + 1) (bif exs.elem i then c + 1 else c) (bif exs.elem i then [(t, K)] else (bif c == 0 then (t, K) :: nz else nz)) ((t, K') :: ks) rest
section
variable {P : Program} {ops : Array Oper} {a0 : Act} {w0 : World} {Rl : World → World → Prop} {J : Nat → World → Prop} {exs : List Nat} {fin : List (Tmp × Kd) → Prop} {i c : Nat} {nz ks : List (Tmp × Kd)} {rest : List Oper}
  {t : Tmp} {op : Op} {ty : TypeId} {pos : String} {after : Array Edge} {gd : Option (Nat × Bool)}
theorem ObsN.v {x : Value} (hx : exs.elem i = false) (hg : wantK ops ks gd = some true) (ho : ∀ W, Rl w0 W → leanOn ks W op.operands.toList (Goes P (.v x) ⟨some t, op, ty, pos, after, gd⟩ W) a0)
    (hr : ObsN P ops a0 w0 Rl J exs fin (i + 1) c (bif c == 0 then (t, .v x) :: nz else nz) ((t, .v x) :: ks) rest) : ObsN P ops a0 w0 Rl J exs fin i c nz ks (⟨some t, op, ty, pos, after, gd⟩ :: rest) :=
  ⟨.v x, .v x, t, rfl, ⟨trivial, .inl rfl, .inr trivial⟩, .inl ⟨hx, hg, ho⟩, by rw [hx]; exact hr⟩
/-- A value that the next writer alone may look at. -/
theorem ObsN.l {q : World → Value → Prop} (hx : exs.elem i = false) (hg : wantK ops ks gd = some true) (hkb : ∀ w w' v, q w v → Below w.heap.size w w' → q w' v) (ho : ∀ W, Rl w0 W → leanOn ks W op.operands.toList (Goes P (.p q) ⟨some t, op, ty, pos, after, gd⟩ W) a0)
    (hr : ObsN P ops a0 w0 Rl J exs fin (i + 1) c (bif c == 0 then (t, .p q) :: nz else nz) ((t, kT) :: ks) rest) : ObsN P ops a0 w0 Rl J exs fin i c nz ks (⟨some t, op, ty, pos, after, gd⟩ :: rest) :=
  ⟨.p q, kT, t, rfl, ⟨hkb, .inr rfl, .inr fun _ _ _ _ _ => trivial⟩, .inl ⟨hx, hg, ho⟩, by rw [hx]; exact hr⟩
theorem ObsN.p {q : World → Value → Prop} (hx : exs.elem i = false) (hg : wantK ops ks gd = some true) (hkb : ∀ w w' v, q w v → Below w.heap.size w w' → q w' v) (hk : ∀ w w' v, q w v → Rl w w' → q w' v) (ho : ∀ W, Rl w0 W → leanOn ks W op.operands.toList (Goes P (.p q) ⟨some t, op, ty, pos, after, gd⟩ W) a0)
    (hr : ObsN P ops a0 w0 Rl J exs fin (i + 1) c (bif c == 0 then (t, .p q) :: nz else nz) ((t, .p q) :: ks) rest) : ObsN P ops a0 w0 Rl J exs fin i c nz ks (⟨some t, op, ty, pos, after, gd⟩ :: rest) :=
  ⟨.p q, .p q, t, rfl, ⟨hkb, .inl rfl, .inr hk⟩, .inl ⟨hx, hg, ho⟩, by rw [hx]; exact hr⟩
theorem ObsN.ev {x : Value} (hx : exs.elem i = true) (hg : wantK ops ks gd = some true) (ho : ∀ W, Rl w0 W → J c W → leanOn (nz ++ ks) W op.operands.toList (GoesN P (.v x) Rl (J (c + 1)) ⟨some t, op, ty, pos, after, gd⟩ W) a0)
    (hr : ObsN P ops a0 w0 Rl J exs fin (i + 1) (c + 1) [(t, .v x)] ((t, .v x) :: ks) rest) : ObsN P ops a0 w0 Rl J exs fin i c nz ks (⟨some t, op, ty, pos, after, gd⟩ :: rest) :=
  ⟨.v x, .v x, t, rfl, ⟨trivial, .inl rfl, .inr trivial⟩, .inr (.inl ⟨hx, hg, ho⟩), by rw [hx]; exact hr⟩
theorem ObsN.el {q : World → Value → Prop} (hx : exs.elem i = true) (hg : wantK ops ks gd = some true) (hl : lastX exs i = false) (hkb : ∀ w w' v, q w v → Below w.heap.size w w' → q w' v) (ho : ∀ W, Rl w0 W → J c W → leanOn (nz ++ ks) W op.operands.toList (GoesN P (.p q) Rl (J (c + 1)) ⟨some t, op, ty, pos, after, gd⟩ W) a0)
    (hr : ObsN P ops a0 w0 Rl J exs fin (i + 1) (c + 1) [(t, .p q)] ((t, kT) :: ks) rest) : ObsN P ops a0 w0 Rl J exs fin i c nz ks (⟨some t, op, ty, pos, after, gd⟩ :: rest) :=
  ⟨.p q, kT, t, rfl, ⟨hkb, .inr rfl, .inr fun _ _ _ _ _ => trivial⟩, .inr (.inl ⟨hx, hg, ho⟩), by rw [hx]; exact hr⟩
theorem ObsN.ep {q : World → Value → Prop} (hx : exs.elem i = true) (hg : wantK ops ks gd = some true) (hl : lastX exs i = true) (hkb : ∀ w w' v, q w v → Below w.heap.size w w' → q w' v) (ho : ∀ W, Rl w0 W → J c W → leanOn (nz ++ ks) W op.operands.toList (GoesN P (.p q) Rl (J (c + 1)) ⟨some t, op, ty, pos, after, gd⟩ W) a0)
    (hr : ObsN P ops a0 w0 Rl J exs fin (i + 1) (c + 1) [(t, .p q)] ((t, .p q) :: ks) rest) : ObsN P ops a0 w0 Rl J exs fin i c nz ks (⟨some t, op, ty, pos, after, gd⟩ :: rest) :=
  ⟨.p q, .p q, t, rfl, ⟨hkb, .inl rfl, .inl hl⟩, .inr (.inl ⟨hx, hg, ho⟩), by rw [hx]; exact hr⟩
theorem ObsN.skip (hx : exs.elem i = false) (hg : wantK ops ks gd = some false) (hr : ObsN P ops a0 w0 Rl J exs fin (i + 1) c (bif c == 0 then (t, .v undef) :: nz else nz) ((t, .v undef) :: ks) rest) : ObsN P ops a0 w0 Rl J exs fin i c nz ks (⟨some t, op, ty, pos, after, gd⟩ :: rest) :=
  ⟨.v undef, .v undef, t, rfl, ⟨trivial, .inl rfl, .inr trivial⟩, .inr (.inr ⟨hx, hg, rfl⟩), by rw [hx]; exact hr⟩
theorem ObsN.nil (h : fin ks) : ObsN P ops a0 w0 Rl J exs fin i c nz ks [] := h
end
theorem ObsN.out {P : Program} {ops : Array Oper} {a0 : Act} {w0 : World} {Rl : World → World → Prop} {J : Nat → World → Prop} {exs : List Nat} {fin : List (Tmp × Kd) → Prop} : ∀ {l : List Oper} {i0 : Nat} {nz ks : List (Tmp × Kd)}, ObsN P ops a0 w0 Rl J exs fin i0 (czX exs i0) nz ks l →
    ∃ Kt Ks : Nat → Kd, ∃ kn kz : Nat → List (Tmp × Kd), kz 0 = ks ∧ kn 0 = nz ∧ fin (kz l.length) ∧ ∀ i o, l[i]? = some o → ∃ t, o.dst = some t ∧ ((Kt i).Ok ∧ (Ks i = Kt i ∨ Ks i = kT) ∧ (lastX exs (i0 + i) = true ∨ (Ks i).OkN Rl)) ∧ Ob1N P ops a0 w0 Rl J (czX exs (i0 + i)) (exs.elem (i0 + i)) (kn i) (kz i) o (Kt i) ∧ kz (i + 1) = (t, Ks i) :: kz i ∧
      kn (i + 1) = (bif exs.elem (i0 + i) then [(t, Kt i)] else (bif czX exs (i0 + i) == 0 then (t, Kt i) :: kn i else kn i))
  | [], i0, nz, ks, h => ⟨fun _ => .v undef, fun _ => .v undef, fun _ => nz, fun _ => ks, rfl, rfl, h, fun i o ho => by simp at ho⟩
  | o :: rest, i0, nz, ks, ⟨K, K', t, hd, hk, hob, hr⟩ => by
    have hr' : ObsN P ops a0 w0 Rl J exs fin (i0 + 1) (czX exs (i0 + 1)) (bif exs.elem i0 then [(t, K)] else (bif czX exs i0 == 0 then (t, K) :: nz else nz)) ((t, K') :: ks) rest := hr
    obtain ⟨Kt, Ks, kn, kz, h0, hn0, hf, hall⟩ := ObsN.out hr'
    refine ⟨fun i => match i with | 0 => K | i + 1 => Kt i, fun i => match i with | 0 => K' | i + 1 => Ks i, fun i => match i with | 0 => nz | i + 1 => kn i, fun i => match i with | 0 => ks | i + 1 => kz i, rfl, rfl, hf, fun i o' ho' => ?_⟩
    cases i with
    | zero =>
      simp only [List.getElem?_cons_zero, Option.some.injEq] at ho'
      subst ho'
      exact ⟨t, hd, hk, hob, h0, hn0⟩
    | succ i =>
      have := hall i o' (by simpa using ho')
      rw [show i0 + 1 + i = i0 + (i + 1) from by omega] at this
      exact this
structure RInvN (ops : Array Oper) (a0 : Act) (w0 : World) (Kt Ks : Nat → Kd) (m : Nat) (Rl : World → World → Prop) (J : Nat → World → Prop) (exs : List Nat) (listed : Array Bool) (a : Act) (w : World) : Prop where
  lsize : listed.size = ops.size
  defers : a.defers = a0.defers
  size : a.tmps.size = a0.tmps.size
  ext : Rl w0 w
  cnt : ∃ c, c ≤ exs.length ∧ (∀ q, q < exs.length → listed.getD (exs.getD q 0) false = decide (q < c)) ∧ J c w ∧ ∀ j t, j < m → listed.getD j false = true → dstOf ops j = some t → (c = 0 ∨ (exs.elem j = true ∧ czX exs j + 1 = c)) → (Kt j).holds w (a.tmps.getD t undef)
  other : ∀ t, (∀ j, j < m → dstOf ops j ≠ some t) → a.tmps.getD t undef = a0.tmps.getD t undef
  val : ∀ j t, j < m → listed.getD j false = true → dstOf ops j = some t → (Ks j).holds w (a.tmps.getD t undef)
  down : ∀ i o, ops[i]? = some o → listed.getD i false = true → ∀ e ∈ o.after, Region.binds .any e = true → listed.getD e.on false = true
theorem lookK_app {a b : List (Tmp × Kd)} {s : Tmp} {K : Kd} (h : lookK (a ++ b) s = some K) : (s, K) ∈ a ∨ lookK b s = some K := by
  induction a with
  | nil => exact .inr h
  | cons x r ih =>
    obtain ⟨u, L⟩ := x
    simp only [List.cons_append, lookK] at h
    cases hb : Nat.beq u s with
    | true =>
      rw [hb] at h
      injection h with h
      subst h
      rw [Nat.eq_of_beq_eq_true hb]
      exact .inl List.mem_cons_self
    | false =>
      rw [hb] at h
      rcases ih h with h | h
      · exact .inl (List.mem_cons_of_mem _ h)
      · exact .inr h
theorem lookK_none_app {a b : List (Tmp × Kd)} {s : Tmp} (h : lookK (a ++ b) s = none) : lookK b s = none := by
  induction a with
  | nil => exact h
  | cons x r ih =>
    obtain ⟨u, L⟩ := x
    simp only [List.cons_append, lookK] at h
    cases hb : Nat.beq u s with
    | true => rw [hb] at h; cases h
    | false => rw [hb] at h; exact ih h
section
variable {P : Program} {Q : Exit → Act → World → Prop}
/-- THE LAW. -/
theorem regionN {id : Nat} {l : List Oper} {a : Act} {w : World} (m : Nat) (exs : List Nat) (Rl : World → World → Prop) (J : Nat → World → Prop) (hm : P.follows .mixedOrders = true) (hchk : regB l.toArray m a.tmps.size = true) (hex : exB l.toArray m exs = true)
    (hR0 : ∀ a b, Below a.heap.size a b → Rl a b) (hRt : ∀ a b c, Rl a b → Rl b c → Rl a c) (hJ0 : J 0 w) (hJs : ∀ c W W', J c W → Below W.heap.size W W' → J c W')
    (hobs : ObsN P l.toArray a w Rl J exs (fun ks => ∀ W, Rl w W → J exs.length W → finOn W ks (fun a' => wpList P l.toArray Q (l.drop m) a' W) a) 0 0 [] [] (l.take m)) :
    (Code.region id l.toArray true).wp P Q a w := by
  have R := regB_out hchk
  obtain ⟨ops, hops⟩ : ∃ ops, l.toArray = ops := ⟨_, rfl⟩
  have hl' : l = ops.toList := by rw [← hops]
  rw [hops] at hobs R hex ⊢
  rw [hl'] at hobs
  clear hops hl' hchk
  have hex' : ∀ q, q < exs.length → exs.getD q 0 < m ∧ czX exs (exs.getD q 0) = q ∧ (q = 0 ∨ ∃ o, ops[exs.getD q 0]? = some o ∧ hasOn o (exs.getD (q - 1) 0) = true) := by
    intro q hq
    have h := (List.all_eq_true.1 hex) q (List.mem_range.2 hq)
    simp only [Bool.and_eq_true, decide_eq_true_eq, beq_iff_eq, Bool.or_eq_true] at h
    refine ⟨h.1.1, h.1.2, h.2.imp (fun h => h) fun h2 => ?_⟩
    cases ho : ops[exs.getD q 0]? with
    | none => rw [ho] at h2; cases h2
    | some o => rw [ho] at h2; exact ⟨o, rfl, h2⟩
  have hidx : ∀ i, exs.elem i = true → ∃ q, q < exs.length ∧ exs.getD q 0 = i := by
    intro i hi
    obtain ⟨q, hq, e⟩ := List.mem_iff_getElem.1 (List.elem_iff.1 hi)
    exact ⟨q, hq, by rw [List.getD_eq_getElem?_getD, List.getElem?_eq_getElem hq]; exact e⟩
  have hmemE : ∀ q, q < exs.length → exs.elem (exs.getD q 0) = true := by
    intro q hq
    rw [List.elem_iff, List.getD_eq_getElem?_getD, List.getElem?_eq_getElem hq]
    exact List.getElem_mem hq
  obtain ⟨Kt, Ks, kn, kz, hz0, hn0, hfin, hall⟩ := ObsN.out (i0 := 0) hobs
  simp only [Nat.zero_add] at hall
  have hmlen : (ops.toList.take m).length = m := by simp [R.le]
  rw [hmlen] at hfin
  have hat : ∀ i o, i < m → ops[i]? = some o → (ops.toList.take m)[i]? = some o := fun i o hi ho => by
    rw [List.getElem?_take, if_pos hi]; simpa using ho
  have hta : ∀ i o, (ops.toList.take m)[i]? = some o → i < m ∧ ops[i]? = some o := fun i o ho => by
    rw [List.getElem?_take] at ho
    split at ho
    · exact ⟨‹_›, by simpa using ho⟩
    · cases ho
  have hall2 : ∀ i o, (ops.toList.take m)[i]? = some o → ∃ t, o.dst = some t ∧ kz (i + 1) = (t, Ks i) :: kz i := fun i o ho => by
    obtain ⟨t, h1, _, _, h2, _⟩ := hall i o ho
    exact ⟨t, h1, h2⟩
  have hmem : ∀ i, i ≤ m → ∀ t K, (t, K) ∈ kz i → ∃ j, j < i ∧ dstOf ops j = some t ∧ K = Ks j := fun i hi t K hm => by
    obtain ⟨j, o, h1, h2, h3, h4⟩ := kz_mem hz0 hall2 i (by omega) t K hm
    obtain ⟨_, ho⟩ := hta j o h2
    exact ⟨j, h1, by unfold dstOf; rw [ho]; exact h3, h4⟩
  refine wp_region_any hm ?_
  have hd : ∀ i o, ops[i]? = some o → dstOf ops i = o.dst := fun i o ho => by unfold dstOf; rw [ho]; rfl
  have hend : ∀ (listed : Array Bool) (a' : Act) (w' : World), RInvN ops a w Kt Ks m Rl J exs listed a' w' → (∀ j, j < m → listed.getD j false = true) → wpList P ops Q (ops.toList.drop m) a' w' := by
    intro listed a' w' hI hlst
    have HJX : J exs.length w' := by
      obtain ⟨c, hc, hq, hj, -⟩ := hI.cnt
      have : c = exs.length := by
        rcases Nat.lt_or_ge c exs.length with hlt | hge
        · have h1 := hq c hlt
          rw [hlst _ (hex' c hlt).1] at h1
          simp at h1
        · omega
      rw [← this]; exact hj
    obtain ⟨b, hb, e1, e2, e3, e4⟩ := finOn.out (a' := a') (hfin w' hI.ext HJX) hI.size.symm (fun t K hm => by
      obtain ⟨j, hj, hdj, rfl⟩ := hmem m (Nat.le_refl _) t K hm
      obtain ⟨o, ho, hod⟩ := dstOf_some hdj
      obtain ⟨s, hs, hsn, _⟩ := R.main j o hj ho
      rw [hod] at hs
      injection hs with hs
      subst hs
      exact ⟨by rw [hI.size]; exact hsn, hI.val j t hj (hlst j hj) hdj⟩)
    have : b = a' := by
      cases b with
      | mk bt bd =>
        cases a' with
        | mk at' ad =>
          simp only at e1 e2 e3 e4
          have hdf : bd = ad := by rw [e2]; exact hI.defers.symm
          have htm : bt = at' := by
            apply Array.ext
            · rw [e1]; exact hI.size.symm
            · intro t t1 t2
              have : bt.getD t undef = at'.getD t undef := by
                by_cases hx : ∃ K, (t, K) ∈ kz m
                · exact e4 t hx
                · rw [e3 t (fun K hm => hx ⟨K, hm⟩)]
                  refine (hI.other t fun j hj hdj => hx ?_).symm
                  obtain ⟨o, ho, hod⟩ := dstOf_some hdj
                  exact ⟨Ks j, kz_all hall2 m (by omega) j o t hj (hat j o hj ho) hod⟩
              simpa only [Array.getD_eq_getD_getElem?, Array.getElem?_eq_getElem t1, Array.getElem?_eq_getElem t2, Option.getD_some] using this
          subst hdf htm
          rfl
    rw [this] at hb
    exact hb
  have key : ∀ (fuel : Nat) (listed : Array Bool) (a' : Act) (w' : World), RInvN ops a w Kt Ks m Rl J exs listed a' w' → (∀ i, m ≤ i → i < ops.size → listed.getD i false = false) →
      ((List.range ops.size).filter fun i => !listed.getD i true).length ≤ fuel → wpAny P .any ops Q fuel listed a' w' := by
    intro fuel
    have hprefix : ∀ (listed : Array Bool), listed.size = ops.size → (∀ j, j < m → listed.getD j false = true) → (∀ i, m ≤ i → i < ops.size → listed.getD i false = false) → ∀ i, i < ops.size → listed.getD i false = decide (i < m) := by
      intro listed hs h1 h2 i hi
      by_cases e : i < m
      · rw [h1 i e]; simp [e]
      · rw [h2 i (by omega) hi]; simp [e]
    induction fuel with
    | zero =>
      intro listed a' w' hI hno hc
      have h0 : ((List.range ops.size).filter fun i => !listed.getD i true) = [] := List.eq_nil_of_length_eq_zero (by omega)
      have hal : ∀ i, i < ops.size → listed.getD i false = true := by
        intro i hi
        rw [List.filter_eq_nil_iff] at h0
        have := h0 i (List.mem_range.2 hi)
        rw [← getD_ff (by rw [hI.lsize]; exact hi)]
        simpa using this
      have hms : m = ops.size := by
        rcases Nat.lt_or_ge m ops.size with hlt | hge
        · have := hno m (Nat.le_refl _) hlt
          rw [hal m hlt] at this
          cases this
        · have := R.le; omega
      have := hend listed a' w' hI (fun j hj => hal j (by omega))
      rw [hms] at this
      have hdr : ops.toList.drop ops.size = [] := by simp
      rw [hdr] at this
      refine ⟨?_, this⟩
      unfold Region.ready
      rw [List.filter_eq_nil_iff] at h0 ⊢
      intro i hi
      have := h0 i hi
      simp only [Bool.not_eq_true] at this ⊢
      rw [this]
      rfl
    | succ fuel ih =>
      intro listed a' w' hI hno hc
      by_cases hdone : ∀ j, j < m → listed.getD j false = true
      · refine tail_any R (fuel + 1) m listed a' w' (Nat.le_refl _) R.le hI.lsize (hprefix listed hI.lsize hdone hno) ?_ (hend listed a' w' hI hdone)
        have hlen : ops.size - m ≤ ((List.range ops.size).filter fun i => !listed.getD i true).length := by
          have hsub : (List.range ops.size).filter (fun i => decide (m ≤ i)) = (List.range ops.size).filter fun i => !listed.getD i true := by
            apply List.filter_congr
            intro i hi
            have hi := List.mem_range.1 hi
            rw [getD_ff (by rw [hI.lsize]; exact hi), hprefix listed hI.lsize hdone hno i hi]
            by_cases e : i < m <;> simp [e] <;> omega
          rw [← hsub]
          have : ∀ N, m ≤ N → ((List.range N).filter fun i => decide (m ≤ i)).length = N - m := by
            intro N hN
            induction N with
            | zero => simp
            | succ N ihN =>
              rw [List.range_succ, List.filter_append, List.length_append]
              by_cases e : m ≤ N
              · rw [ihN e]; simp [e]; omega
              · have : m = N + 1 := by omega
                subst this
                have : (List.range N).filter (fun i => decide (N + 1 ≤ i)) = [] := by
                  rw [List.filter_eq_nil_iff]
                  intro i hi
                  have := List.mem_range.1 hi
                  simp; omega
                rw [this]
                simp
          rw [this _ R.le]
          exact Nat.le_refl _
        omega
      · refine ⟨fun hr => ?_, fun i hi => ?_⟩
        · exfalso
          refine hdone ?_
          intro j
          induction j using Nat.strongRecOn with
          | _ j ihj =>
            intro hj
            cases hlj : listed.getD j false with
            | true => rfl
            | false =>
              exfalso
              have hjs : j < ops.size := by have := R.le; omega
              have hmem : j ∈ Region.ready .any ops listed := by
                rw [mem_ready]
                refine ⟨by rw [getD_ff (by rw [hI.lsize]; exact hjs)]; exact hlj, ops[j], Array.getElem?_eq_getElem hjs, fun e he hb => ?_⟩
                have := R.down j _ (Array.getElem?_eq_getElem hjs) e he hb
                exact ihj _ this (by omega)
              rw [hr] at hmem
              cases hmem
        · have hi0 := hi
          rw [mem_ready] at hi
          obtain ⟨hnl', o, ho, haf⟩ := hi
          have his : i < ops.size := (Array.getElem?_eq_some_iff.1 ho).1
          have hsi : i < listed.size := by rw [hI.lsize]; exact his
          have him : i < m := by
            rcases Nat.lt_or_ge i m with hlt | hge
            · exact hlt
            · exact absurd (fun j hj => all_before R hI.down hge ho haf (i - j - 1) j (by omega)) hdone
          obtain ⟨t, ht, htn, hne, hsel, hrd, hgd⟩ := R.main i o him ho
          obtain ⟨t', ht', hok, hob, hkz, hkn⟩ := hall i o (hat i o him ho)
          have hon : ∀ j, hasOn o j = true → listed.getD j false = true := fun j hj => by
            obtain ⟨e, he, heo, heb⟩ := hasOn_mem hj
            rw [← heo]
            exact haf e he heb
          have hweak : ∀ w'' v, (Kt i).holds w'' v → (Ks i).holds w'' v := fun w'' v h => by
            rcases hok.2.1 with e | e
            · rw [e]; exact h
            · rw [e]; exact trivial
          have hnext : ∀ v w'', (Kt i).holds w'' v → Rl w' w'' → (∀ j, j < m → listed.getD j false = true → ∀ u, (Ks j).holds w' u → (Ks j).holds w'' u) → (∃ c, c ≤ exs.length ∧ (∀ q, q < exs.length → (listed.setIfInBounds i true).getD (exs.getD q 0) false = decide (q < c)) ∧ J c w'' ∧ ∀ j t, j < m → (listed.setIfInBounds i true).getD j false = true → dstOf ops j = some t → (c = 0 ∨ (exs.elem j = true ∧ czX exs j + 1 = c)) → (Kt j).holds w'' ((a'.put o.dst v).tmps.getD t undef)) → wpAny P .any ops Q fuel (listed.setIfInBounds i true) (a'.put o.dst v) w'' := by
            intro v w'' hv hb hkeep hcn
            refine ih _ _ _ ⟨by simpa using hI.lsize, ?_, ?_, hRt _ _ _ hI.ext hb, hcn, ?_, ?_, ?_⟩ ?_ ?_
            · rw [ht]; exact hI.defers
            · rw [ht]; simpa [Act.put] using hI.size
            · intro s hs
              have hst : s ≠ t := fun e => hs i him (by rw [hd i _ ho, ht, e])
              rw [ht, put_getD (by rw [hI.size]; exact htn), if_neg hst]
              exact hI.other s hs
            · intro j s hjm hj hdj
              rw [getD_set hsi] at hj
              rw [ht, put_getD (by rw [hI.size]; exact htn)]
              by_cases e : j = i
              · subst e
                have : s = t := by rw [hd j _ ho, ht] at hdj; injection hdj with hdj; exact hdj.symm
                rw [if_pos this]
                exact hweak _ _ hv
              · rw [if_neg e] at hj
                have hst : s ≠ t := fun e2 => e (dst_inj R hjm him hdj (by rw [hd i _ ho, ht, e2]))
                rw [if_neg hst]
                exact hkeep j hjm hj _ (hI.val j s hjm hj hdj)
            · intro q oq hq hlq e he hb
              rw [getD_set hsi] at hlq ⊢
              by_cases e1 : q = i
              · subst e1
                rw [ho] at hq
                injection hq with hq
                subst hq
                split
                · rfl
                · exact haf e he hb
              · rw [if_neg e1] at hlq
                split
                · rfl
                · exact hI.down q oq hq hlq e he hb
            · intro q hq hqs
              rw [getD_set hsi, if_neg (by omega)]
              exact hno q hq hqs
            · have hnl : (!listed.getD i true) = true := by rw [hnl']; rfl
              have hlt : ((List.range ops.size).filter fun k => !(listed.setIfInBounds i true).getD k true).length < ((List.range ops.size).filter fun k => !listed.getD k true).length := by
                have hsub : ((List.range ops.size).filter fun k => !(listed.setIfInBounds i true).getD k true) = (((List.range ops.size).filter fun k => !listed.getD k true).filter fun k => k != i) := by
                  rw [List.filter_filter]
                  apply List.filter_congr
                  intro k _
                  rw [getD_set hsi]
                  by_cases e : k = i
                  · subst e; simp
                  · simp [e]
                rw [hsub]
                exact List.length_filter_lt_length_iff_exists.2 ⟨i, List.mem_filter.2 ⟨List.mem_range.2 his, hnl⟩, by simp⟩
              omega
          have hlook : ∀ s K, lookK (kz i) s = some K → ∃ j, j < i ∧ dstOf ops j = some s ∧ K = Ks j := fun s K hK => hmem i (by omega) s K (lookK_some hK)
          have hokj : ∀ j, j < m → (Kt j).Ok ∧ (Ks j = Kt j ∨ Ks j = kT) ∧ (lastX exs j = true ∨ (Ks j).OkN Rl) := by
            intro j hj
            have hjs : j < ops.size := by have := R.le; omega
            obtain ⟨_, _, h1, _⟩ := hall j ops[j] (hat j _ hj (Array.getElem?_eq_getElem hjs))
            exact h1
          have hkN : ∀ w'', Below w'.heap.size w' w'' → ∀ j, j < m → listed.getD j false = true → ∀ u, (Ks j).holds w' u → (Ks j).holds w'' u := fun w'' hB j hj _ u hu => by
            rcases (hokj j hj).2.1 with e | e
            · rw [e] at hu ⊢; exact Kd.keep (hokj j hj).1 hu hB
            · rw [e]; exact trivial
          have hcntN : exs.elem i = false → ∀ v w'', (Kt i).holds w'' v → Below w'.heap.size w' w'' → ∃ c, c ≤ exs.length ∧ (∀ q, q < exs.length → (listed.setIfInBounds i true).getD (exs.getD q 0) false = decide (q < c)) ∧ J c w'' ∧ ∀ j t, j < m → (listed.setIfInBounds i true).getD j false = true → dstOf ops j = some t → (c = 0 ∨ (exs.elem j = true ∧ czX exs j + 1 = c)) → (Kt j).holds w'' ((a'.put o.dst v).tmps.getD t undef) := by
            intro hx v w'' hv hB
            obtain ⟨c, hc, hq, hj, hnear⟩ := hI.cnt
            refine ⟨c, hc, fun q hql => ?_, hJs c _ _ hj hB, fun j s hjm hjl hdj hcj => ?_⟩
            · rw [getD_set hsi, if_neg (fun e => by have h1 := hmemE q hql; rw [e, hx] at h1; cases h1)]
              exact hq q hql
            · rw [getD_set hsi] at hjl
              rw [ht, put_getD (by rw [hI.size]; exact htn)]
              by_cases e : j = i
              · subst e
                have : s = t := by rw [hd j _ ho, ht] at hdj; injection hdj with hdj; exact hdj.symm
                rw [if_pos this]
                exact hv
              · rw [if_neg e] at hjl
                have hst : s ≠ t := fun e2 => e (dst_inj R hjm him hdj (by rw [hd i _ ho, ht, e2]))
                rw [if_neg hst]
                exact Kd.keep (hokj j hjm).1 (hnear j s hjm hjl hdj hcj) hB
          have hknm : ∀ i, i ≤ m → ∀ s K, (s, K) ∈ kn i → ∃ j, j < i ∧ dstOf ops j = some s ∧ K = Kt j ∧ (czX exs i = 0 ∨ (exs.elem j = true ∧ czX exs j + 1 = czX exs i)) := by
            intro i
            induction i with
            | zero => intro _ s K hm0; rw [hn0] at hm0; cases hm0
            | succ i ihn =>
              intro hi1 s K hm1
              have his1 : i < ops.size := by have := R.le; omega
              have hoi : ops[i]? = some ops[i] := Array.getElem?_eq_getElem his1
              obtain ⟨ti, hti, -, -, -, hkni⟩ := hall i _ (hat i _ (by omega) hoi)
              rw [hkni] at hm1
              have hdi : dstOf ops i = some ti := by rw [hd i _ hoi]; exact hti
              cases hx : exs.elem i with
              | true =>
                rw [hx] at hm1
                simp only [cond_true, List.mem_singleton, Prod.mk.injEq] at hm1
                obtain ⟨rfl, rfl⟩ := hm1
                exact ⟨i, by omega, hdi, rfl, .inr ⟨hx, by show czX exs i + 1 = (bif exs.elem i then czX exs i + 1 else czX exs i); rw [hx]; rfl⟩⟩
              | false =>
                have hcz : czX exs (i + 1) = czX exs i := by show (bif exs.elem i then czX exs i + 1 else czX exs i) = _; rw [hx]; rfl
                rw [hx] at hm1
                simp only [cond_false] at hm1
                rw [hcz]
                cases h0 : (czX exs i == 0) with
                | true =>
                  rw [h0] at hm1
                  simp only [cond_true] at hm1
                  rcases List.mem_cons.1 hm1 with e | e
                  · simp only [Prod.mk.injEq] at e
                    obtain ⟨rfl, rfl⟩ := e
                    exact ⟨i, by omega, hdi, rfl, .inl (by simpa using h0)⟩
                  · obtain ⟨j, a1, a2, a3, a4⟩ := ihn (by omega) s K e
                    exact ⟨j, by omega, a2, a3, a4⟩
                | false =>
                  rw [h0] at hm1
                  simp only [cond_false] at hm1
                  obtain ⟨j, a1, a2, a3, a4⟩ := ihn (by omega) s K hm1
                  exact ⟨j, by omega, a2, a3, a4⟩
          unfold wpOp
          rw [ho]
          rcases hob with ⟨hxx, hwk, hgo⟩ | ⟨hxx, hwk, hgo⟩ | ⟨hxx, hwk, hskip⟩
          · have hw : Region.wanted o (yielded ops a'.tmps) = true := by
              unfold Region.wanted
              cases hg : o.guard with
              | none => rfl
              | some gb =>
                obtain ⟨g, b⟩ := gb
                rw [hg] at hwk
                unfold wantK at hwk
                simp only at hwk
                cases hdg : dstOf ops g with
                | none => rw [hdg] at hwk; cases hwk
                | some s =>
                  rw [hdg] at hwk
                  cases hlk : lookK (kz i) s with
                  | none => simp only [hlk] at hwk; cases hwk
                  | some K =>
                    simp only [hlk] at hwk
                    split at hwk
                    · rename_i hKe
                      injection hKe with hKe
                      subst hKe
                      rename_i c
                      obtain ⟨j, hj, hdj, hKj⟩ := hlook s _ hlk
                      obtain ⟨hong, hgi⟩ := hgd g b hg
                      obtain rfl := dst_inj R (by omega) (by omega) hdj hdg
                      have hv := hI.val j s (by omega) (hon j hong) hdj
                      rw [← hKj] at hv
                      have hy : yielded ops a'.tmps j = some c := by
                        have hv' : a'.tmps.getD s undef = .bool c := hv
                        unfold yielded
                        unfold dstOf at hdj
                        rw [hdj]
                        rw [Array.getD_eq_getD_getElem?] at hv'
                        cases hx : a'.tmps[s]? with
                        | none => rw [hx] at hv'; exact absurd hv' (by simp [undef])
                        | some x =>
                          rw [hx] at hv'
                          simp only [Option.getD_some] at hv'
                          subst hv'
                          simp [hx]
                      simp only [hy]
                      injection hwk
                    · cases hwk
            simp only [hw, if_true]
            refine .inl ?_
            obtain ⟨b, hb, b1, b2, b3, b4⟩ := leanOn.out (a' := a') (hgo w' hI.ext) hI.size.symm (fun s K hs hK => by
              obtain ⟨j, hj, hdj, rfl⟩ := hlook s K hK
              obtain ⟨o2, ho2, hod2⟩ := dstOf_some hdj
              obtain ⟨s2, hs2, hsn, _⟩ := R.main j o2 (by omega) ho2
              rw [hod2] at hs2
              injection hs2 with hs2
              subst hs2
              obtain ⟨ha, _⟩ := hrd s (by simpa using hs) j (by omega) hdj
              exact ⟨by rw [hI.size]; exact hsn, hI.val j s (by omega) (hon j ha) hdj⟩)
            have heq : execOp a'.eval o = execOp b.eval o := by
              refine execOp_congr o (fun cs bb hc => by rw [hc] at hsel; cases hsel) fun x hx => ?_
              cases x with
              | tmp s =>
                show a'.tmps.getD s undef = b.tmps.getD s undef
                by_cases hks : ∃ K, lookK (kz i) s = some K
                · obtain ⟨K, hK⟩ := hks
                  exact (b4 s ⟨K, hK, by simpa using hx⟩).symm
                · have ho2 : ∀ j, j < m → dstOf ops j ≠ some s := by
                    intro j hj hdj
                    obtain ⟨_, hji⟩ := hrd s hx j hj hdj
                    obtain ⟨oj, hoj, hdoj⟩ := dstOf_some hdj
                    have := kz_all hall2 i (by omega) j oj s hji (hat j oj hj hoj) hdoj
                    cases hl : lookK (kz i) s with
                    | some K => exact hks ⟨K, hl⟩
                    | none => exact lookK_none hl _ this
                  have e0 := hI.other s ho2
                  rcases b3 s with e | e
                  · rw [e, e0]
                  · exact e.symm
              | const _ => rfl
              | global _ => rfl
              | func _ => rfl
            have hgoes := hb.out
            unfold Oper.wp
            rw [heq]
            generalize (execOp b.eval o).run P w' = r at hgoes
            cases r with
            | ok n w'' =>
              cases n <;> simp only [OpGoes] at hgoes <;> try exact hgoes.elim
              case value v => exact hnext v w'' hgoes.1 (hR0 _ _ hgoes.2) (hkN _ hgoes.2) (hcntN hxx _ _ hgoes.1 hgoes.2)
              case enter f args =>
                refine Calls.mono hgoes ?_
                rintro e w3 ⟨v, rfl, hv, hb⟩
                exact hnext v w3 hv (hR0 _ _ hb) (hkN _ hb) (hcntN hxx _ _ hv hb)
            | halt x w'' => exact hgoes.elim
          · obtain ⟨q, hql, hqe⟩ := hidx i hxx
            obtain ⟨c, hc, hqs, hj, hnear⟩ := hI.cnt
            obtain ⟨hq1, hq2, hq3⟩ := hex' q hql
            have hqc : q = c := by
              have h1 := hqs q hql
              rw [hqe, ← getD_ff hsi, hnl'] at h1
              have h2 : ¬ q < c := by simpa using h1.symm
              rcases hq3 with h3 | ⟨o3, ho3, hh3⟩
              · omega
              · rw [hqe, ho] at ho3
                injection ho3 with ho3
                subst ho3
                have h4 := hon _ hh3
                by_cases h0 : q = 0
                · omega
                · rw [hqs (q - 1) (by omega)] at h4
                  have : q - 1 < c := by simpa using h4
                  omega
            rw [hqe] at hq2
            rw [hq2, hqc] at hgo
            have hkE : ∀ w'', Rl w' w'' → ∀ j, j < m → listed.getD j false = true → ∀ u, (Ks j).holds w' u → (Ks j).holds w'' u := by
              intro w'' hE j hjm hjl u hu
              rcases (hokj j hjm).2.2 with h1 | h1
              · exfalso
                have hlast : j = exs.getD (exs.length - 1) 0 := by
                  unfold lastX at h1
                  rw [List.getLast?_eq_getElem?, List.getElem?_eq_getElem (by omega)] at h1
                  rw [List.getD_eq_getElem?_getD, List.getElem?_eq_getElem (by omega)]
                  simp only [beq_iff_eq] at h1
                  exact h1.symm
                rw [hlast, hqs _ (by omega)] at hjl
                have : exs.length - 1 < c := by simpa using hjl
                omega
              · exact Kd.keepN h1 hu hE
            have hcntE : ∀ v w'', (Kt i).holds w'' v → J (c + 1) w'' → ∃ c, c ≤ exs.length ∧ (∀ q, q < exs.length → (listed.setIfInBounds i true).getD (exs.getD q 0) false = decide (q < c)) ∧ J c w'' ∧ ∀ j t, j < m → (listed.setIfInBounds i true).getD j false = true → dstOf ops j = some t → (c = 0 ∨ (exs.elem j = true ∧ czX exs j + 1 = c)) → (Kt j).holds w'' ((a'.put o.dst v).tmps.getD t undef) := by
              intro v w'' hv hj2
              refine ⟨c + 1, by omega, fun p hp => ?_, hj2, fun j s hjm hjl hdj hcj => ?_⟩
              rotate_left
              · rcases hcj with hcj | ⟨hx2, hcj⟩
                · omega
                · obtain ⟨q2, hq2l, hq2e⟩ := hidx j hx2
                  have h3 := (hex' q2 hq2l).2.1
                  rw [hq2e] at h3
                  have h4 : q2 = q := by omega
                  have h5 : j = i := by rw [← hq2e, h4, hqe]
                  subst h5
                  have : s = t := by rw [hd j _ ho, ht] at hdj; injection hdj with hdj; exact hdj.symm
                  rw [ht, put_getD (by rw [hI.size]; exact htn), if_pos this]
                  exact hv
              rw [getD_set hsi]
              by_cases e : exs.getD p 0 = i
              · have hp2 := (hex' p hp).2.1
                rw [e, hq2] at hp2
                rw [if_pos e]
                have : p < c + 1 := by omega
                simp [this]
              · rw [if_neg e, hqs p hp]
                have hpq : p ≠ q := fun h => e (by rw [h]; exact hqe)
                by_cases hpc : p < c
                · simp [hpc, Nat.lt_succ_of_lt hpc]
                · have : ¬ p < c + 1 := by omega
                  simp [hpc, this]
            have hw : Region.wanted o (yielded ops a'.tmps) = true := by
              unfold Region.wanted
              cases hg : o.guard with
              | none => rfl
              | some gb =>
                obtain ⟨g, b⟩ := gb
                rw [hg] at hwk
                unfold wantK at hwk
                simp only at hwk
                cases hdg : dstOf ops g with
                | none => rw [hdg] at hwk; cases hwk
                | some s =>
                  rw [hdg] at hwk
                  cases hlk : lookK (kz i) s with
                  | none => simp only [hlk] at hwk; cases hwk
                  | some K =>
                    simp only [hlk] at hwk
                    split at hwk
                    · rename_i hKe
                      injection hKe with hKe
                      subst hKe
                      rename_i c
                      obtain ⟨j, hj, hdj, hKj⟩ := hlook s _ hlk
                      obtain ⟨hong, hgi⟩ := hgd g b hg
                      obtain rfl := dst_inj R (by omega) (by omega) hdj hdg
                      have hv := hI.val j s (by omega) (hon j hong) hdj
                      rw [← hKj] at hv
                      have hy : yielded ops a'.tmps j = some c := by
                        have hv' : a'.tmps.getD s undef = .bool c := hv
                        unfold yielded
                        unfold dstOf at hdj
                        rw [hdj]
                        rw [Array.getD_eq_getD_getElem?] at hv'
                        cases hx : a'.tmps[s]? with
                        | none => rw [hx] at hv'; exact absurd hv' (by simp [undef])
                        | some x =>
                          rw [hx] at hv'
                          simp only [Option.getD_some] at hv'
                          subst hv'
                          simp [hx]
                      simp only [hy]
                      injection hwk
                    · cases hwk
            simp only [hw, if_true]
            refine .inl ?_
            obtain ⟨b, hb, b1, b2, b3, b4⟩ := leanOn.out (a' := a') (hgo w' hI.ext hj) hI.size.symm (fun s K hs hK => by
              have hex3 : ∃ j, j < i ∧ dstOf ops j = some s ∧ (listed.getD j false = true → K.holds w' (a'.tmps.getD s undef)) := by
                rcases lookK_app hK with h | h
                · obtain ⟨j, a1, a2, rfl, a4⟩ := hknm i (by omega) s K h
                  exact ⟨j, a1, a2, fun hl => hnear j s (by omega) hl a2 (by rw [hq2] at a4; rw [← hqc]; exact a4)⟩
                · obtain ⟨j, a1, a2, rfl⟩ := hlook s K h
                  exact ⟨j, a1, a2, fun hl => hI.val j s (by omega) hl a2⟩
              obtain ⟨j, hj, hdj, hval⟩ := hex3
              obtain ⟨o2, ho2, hod2⟩ := dstOf_some hdj
              obtain ⟨s2, hs2, hsn, _⟩ := R.main j o2 (by omega) ho2
              rw [hod2] at hs2
              injection hs2 with hs2
              subst hs2
              obtain ⟨ha, _⟩ := hrd s (by simpa using hs) j (by omega) hdj
              exact ⟨by rw [hI.size]; exact hsn, hval (hon j ha)⟩)
            have heq : execOp a'.eval o = execOp b.eval o := by
              refine execOp_congr o (fun cs bb hc => by rw [hc] at hsel; cases hsel) fun x hx => ?_
              cases x with
              | tmp s =>
                show a'.tmps.getD s undef = b.tmps.getD s undef
                by_cases hks : ∃ K, lookK (kn i ++ kz i) s = some K
                · obtain ⟨K, hK⟩ := hks
                  exact (b4 s ⟨K, hK, by simpa using hx⟩).symm
                · have ho2 : ∀ j, j < m → dstOf ops j ≠ some s := by
                    intro j hj hdj
                    obtain ⟨_, hji⟩ := hrd s hx j hj hdj
                    obtain ⟨oj, hoj, hdoj⟩ := dstOf_some hdj
                    have := kz_all hall2 i (by omega) j oj s hji (hat j oj hj hoj) hdoj
                    cases hl : lookK (kn i ++ kz i) s with
                    | some K => exact hks ⟨K, hl⟩
                    | none => exact lookK_none (lookK_none_app hl) _ this
                  have e0 := hI.other s ho2
                  rcases b3 s with e | e
                  · rw [e, e0]
                  · exact e.symm
              | const _ => rfl
              | global _ => rfl
              | func _ => rfl
            have hgoes := hb.out
            unfold Oper.wp
            rw [heq]
            generalize (execOp b.eval o).run P w' = r at hgoes
            cases r with
            | ok n w'' =>
              cases n <;> simp only [OpGoes] at hgoes <;> try exact hgoes.elim
              case value v => exact hnext v w'' hgoes.1 hgoes.2.1 (hkE _ hgoes.2.1) (hcntE _ _ hgoes.1 hgoes.2.2)
              case enter f args =>
                refine Calls.mono hgoes ?_
                rintro e w3 ⟨v, rfl, hv, hb, hj3⟩
                exact hnext v w3 hv hb (hkE _ hb) (hcntE _ _ hv hj3)
            | halt x w'' => exact hgoes.elim
          · have hw : Region.wanted o (yielded ops a'.tmps) = false := by
              unfold Region.wanted
              cases hg : o.guard with
              | none => rw [hg] at hwk; cases hwk
              | some gb =>
                obtain ⟨g, b⟩ := gb
                rw [hg] at hwk
                unfold wantK at hwk
                simp only at hwk
                cases hdg : dstOf ops g with
                | none => rw [hdg] at hwk; cases hwk
                | some s =>
                  rw [hdg] at hwk
                  cases hlk : lookK (kz i) s with
                  | none => simp only [hlk] at hwk; cases hwk
                  | some K =>
                    simp only [hlk] at hwk
                    split at hwk
                    · rename_i hKe
                      injection hKe with hKe
                      subst hKe
                      rename_i c
                      obtain ⟨j, hj, hdj, hKj⟩ := hlook s _ hlk
                      obtain ⟨hong, hgi⟩ := hgd g b hg
                      obtain rfl := dst_inj R (by omega) (by omega) hdj hdg
                      have hv := hI.val j s (by omega) (hon j hong) hdj
                      rw [← hKj] at hv
                      have hy : yielded ops a'.tmps j = some c := by
                        have hv' : a'.tmps.getD s undef = .bool c := hv
                        unfold yielded
                        unfold dstOf at hdj
                        rw [hdj]
                        rw [Array.getD_eq_getD_getElem?] at hv'
                        cases hx : a'.tmps[s]? with
                        | none => rw [hx] at hv'; exact absurd hv' (by simp [undef])
                        | some x =>
                          rw [hx] at hv'
                          simp only [Option.getD_some] at hv'
                          subst hv'
                          simp [hx]
                      simp only [hy]
                      injection hwk
                    · cases hwk
            simp only [hw]
            exact hnext _ _ (by rw [hskip]; rfl) (hR0 _ _ (Below.refl _ _)) (hkN _ (Below.refl _ _)) (hcntN hxx _ _ (by rw [hskip]; rfl) (Below.refl _ _))
  refine key ops.size _ a _ ⟨by simp, rfl, rfl, hR0 _ _ (Below.drew (Below.refl _ _)), ⟨0, Nat.zero_le _, fun q _ => by simp [Array.getD_eq_getD_getElem?, Array.getElem?_replicate]; split <;> simp, hJs 0 _ _ hJ0 (Below.drew (Below.refl _ _)), fun j t _ hj => by
    exfalso
    revert hj
    simp only [Array.getD_eq_getD_getElem?, Array.getElem?_replicate]
    split <;> simp⟩, fun _ _ => rfl, fun j t _ hj => ?_, fun i o _ hj => ?_⟩ ?_ ?_
  · exfalso
    revert hj
    simp only [Array.getD_eq_getD_getElem?, Array.getElem?_replicate]
    split <;> simp
  · exfalso
    revert hj
    simp only [Array.getD_eq_getD_getElem?, Array.getElem?_replicate]
    split <;> simp
  · intro i _ hi
    simp [Array.getD_eq_getD_getElem?, Array.getElem?_replicate, hi]
  · exact Nat.le_trans (List.length_filter_le _ _) (by simp)
end
end Go.Proofs.Ythgoffbfgdgkpaa

/- What appends onto rows of the call's own keep. -/
namespace Go.Proofs.Ythgoffbfgdgkpaa
open Go.RowKit
set_option linter.unusedVariables false
set_option linter.unusedSimpArgs false

structure KeepR (B : Nat) (W W' : World) : Prop where
  below : Below (min B W.heap.size) W W'
  ty : ∀ k cs t, t ≠ 5 → Blk W k cs t → Blk W' k cs t
theorem KeepR.of (B : Nat) : ∀ a b, Below a.heap.size a b → KeepR B a b := fun a b h => ⟨h.mono (Nat.min_le_right _ _), fun k cs t _ bl => bl.below h⟩
theorem KeepR.trans (B : Nat) : ∀ a b c, KeepR B a b → KeepR B b c → KeepR B a c := fun a b c h k => ⟨h.below.trans (k.below.mono (by have := h.below.size; omega)), fun i cs t ht bl => k.ty i cs t ht (h.ty i cs t ht bl)⟩
theorem KeepR.bel {B : Nat} {a b c : World} (h : Below B a b) (k : KeepR B b c) (hB : B ≤ b.heap.size) : Below B a c := h.trans (k.below.mono (by omega))
theorem KeepR.keepT {B h : Nat} {a b c : World} (k : keepT h a b) (l : KeepR B b c) : keepT h a c := fun i cs t ht hi b => l.ty i cs t ht (k i cs t ht hi b)
theorem KeepR.grown {B base n c : Nat} {W w' : World} {A : Option Addr} {l : List UInt8} (hown : Own W base 5 A n c l) (hg : W.grownBy w' (Value.slice A n c).ownBlock) (hb : B ≤ base) : KeepR B W w' :=
  ⟨((Below.refl (min B W.heap.size) W).grown hg (by omega) (fun k hk => by have := hown.base_le k hk; omega)), fun k cs t ht bl => bl.grown hg (hown.ne_blk bl ht)⟩
/-- Bytes. -/
def isBs (n : Nat) (l : List UInt8) : World → Value → Prop := fun W v => ∃ A c, v = .slice A n c ∧ Bs W A n c l
theorem st_isBs {n : Nat} {l : List UInt8} : ∀ w w' v, isBs n l w v → Below w.heap.size w w' → isBs n l w' v := fun _ _ _ ⟨A, c, e, k⟩ hb => ⟨A, c, e, k.below hb⟩
theorem goes_litB {n : Nat} {W : World} {l : List UInt8} {cs : Array Value} (hc : (cu l).toArray = cs) (hn : l.length = n) (hm : n ≤ 200000000000000) :
    OpGoes Try.prog (fun v w' => (Kd.p (isBs n l)).holds w' v ∧ Below W.heap.size W w') (.ok (.value (.slice (some ⟨W.heap.size, 0, none⟩) n n)) (W.alloc (.cells cs 5))) := by
  subst hc
  exact ⟨⟨_, _, rfl, bs_lit l n hn hm⟩, (Below.refl _ W).alloc (Nat.le_refl _) _⟩
theorem goes_appN {o : Oper} {a : Act} {W : World} (s x : Operand) (ho : o.op = .call { callee := .builtin .append, args := #[s, x], argTypes := #[24, 24] }) {B B' n c : Nat} {A : Option Addr} {l : List UInt8} (hs : a.eval s = .slice A n c)
    (hown : Own W B 5 A n c l) {A2 : Option Addr} {n2 c2 : Nat} {l2 : List UInt8} (hx : a.eval x = .slice A2 n2 c2) (hr : Bs W A2 n2 c2 l2) (hmax : n + n2 ≤ 200000000000000) (hB : B ≤ W.heap.size) (hBB : B' ≤ B) {J : World → Prop} (hJ : ∀ w', J w') :
    OpGoes Try.prog (fun v w' => (Kd.p (isW B (l ++ l2))).holds w' v ∧ KeepR B' W w' ∧ J w') ((execOp a.eval o).run Try.prog W) := by
  obtain ⟨A', c', w', hrun, hown', hgr⟩ := run_append_bs (P := Try.prog) W B 24 o.type 5 Try.underlying24 info_u8 A n c l hown A2 n2 c2 l2 hr hmax hB
  unfold execOp
  simp only [ho, resolve, invoke, builtin, Sem.run_bind, Sem.run_pure, Result.andThen_ok, List.map_toArray, List.map_cons, List.map_nil, hs, hx, hrun]
  exact ⟨⟨A', _, c', rfl, hown'⟩, KeepR.grown hown hgr hBB, hJ _⟩
end Go.Proofs.Ythgoffbfgdgkpaa

/- A segment's options put behind its header. -/
namespace Go.Proofs.Ythgoffbfgdgkpaa
open Go.RowKit
set_option linter.unusedVariables false
set_option linter.unusedSimpArgs false
set_option linter.unusedSimpArgs false
set_option maxHeartbeats 4000000
set_option maxRecDepth 100000

theorem neg_and3 {n : Int} (h0 : 20 ≤ n) (h1 : n ≤ 100) : bits .and .i64 (IntKind.i64.wrap (-n)) 3 = ((padN n.toNat : Nat) : Int) := by
  have tab : ∀ a : Fin 101, bits .and .i64 (IntKind.i64.wrap (-(a.val : Int))) 3 = ((padN a.val : Nat) : Int) := by decide +kernel
  have := tab ⟨n.toNat, by omega⟩
  have e : ((n.toNat : Nat) : Int) = n := by omega
  simp only [e] at this
  exact this
/-- The header in block hb, behind options. -/
structure SoPost (B base hb : Nat) (T : TypeId) (l : List UInt8) (os : List Opt) (w : World) (e : Ending) (w' : World) : Prop where
  out : e = .returned (.tuple #[]) ∧ ∃ A n c, Blk w' hb #[.slice A n c, .bool (!okOs os)] T ∧ (okOs os = true → Own w' base 5 A n c (l ++ optL os)) ∧ Below B w w' ∧ keepT hb w w'
end Go.Proofs.Ythgoffbfgdgkpaa

/- A statement that draws its order (XReg), one of whose operations takes a part of a result and need not be done when the store comes. -/
namespace Go.Proofs.Ythgoffbfgdgkpaa
open Go.RowKit
set_option linter.unusedVariables false
set_option linter.unusedSimpArgs false
set_option maxHeartbeats 1000000

def isExt : Op → Bool
  | .extract .. => true
  | _ => false
def lateL (m z s : Nat) : Array Bool := Array.ofFn fun i : Fin s => decide (i.val < m) && i.val != z
def upZ (ops : Array Oper) (lo hi z j : Nat) : Bool := (List.range (hi + 1 - lo)).any fun k => lo + k != z && match ops[lo + k]? with
  | some o => hasOn o j
  | none => false
def regZ (ops : Array Oper) (m z n : Nat) : Bool :=
  decide (m ≤ ops.size) && decide (z < m) && (List.range m).all (mainB ops m n) && (List.range ops.size).all (downB ops) &&
    ((List.range m).all fun j => j == z || upZ ops (j + 1) m z j) && ((List.range (ops.size - 1 - m)).all fun k => upB ops (m + k + 1) (m + k + 1) (m + k)) &&
    Region.noSelect ops && Region.free .any ops (lateL m z ops.size) z && (Region.ready .any ops (lateL m z ops.size)).contains z &&
    (match ops[z]? with
      | some o => isExt o.op && o.guard.isNone
      | none => false)
structure RegOkZ (ops : Array Oper) (m z n : Nat) : Prop where
  le : m ≤ ops.size
  zlt : z < m
  main : ∀ i o, i < m → ops[i]? = some o → ∃ t, o.dst = some t ∧ t < n ∧ (∀ j, j < i → dstOf ops j ≠ some t) ∧ isSel o.op = false ∧
    (∀ s, .tmp s ∈ o.op.operands → ∀ j, j < m → dstOf ops j = some s → hasOn o j = true ∧ j < i) ∧ (∀ g b, o.guard = some (g, b) → hasOn o g = true ∧ g < i)
  down : ∀ i o, ops[i]? = some o → ∀ e ∈ o.after, Region.binds .any e = true → e.on < i
  up : ∀ j, j < m → j ≠ z → ∃ k o, j < k ∧ k ≤ m ∧ k ≠ z ∧ ops[k]? = some o ∧ hasOn o j = true
  tail : ∀ k, m ≤ k → k + 1 < ops.size → ∃ o, ops[k + 1]? = some o ∧ hasOn o k = true
  nosel : Region.noSelect ops = true
  free : Region.free .any ops (lateL m z ops.size) z = true
  rdy : (Region.ready .any ops (lateL m z ops.size)).contains z = true
  ext : ∀ o, ops[z]? = some o → isExt o.op = true ∧ o.guard = none
theorem upZ_out {ops : Array Oper} {lo hi z j : Nat} (h : upZ ops lo hi z j = true) : ∃ k o, lo ≤ k ∧ k ≤ hi ∧ k ≠ z ∧ ops[k]? = some o ∧ hasOn o j = true := by
  obtain ⟨k, hk, hh⟩ := List.any_eq_true.1 h
  have := List.mem_range.1 hk
  simp only [Bool.and_eq_true, bne_iff_ne, ne_eq] at hh
  obtain ⟨hz, hh⟩ := hh
  cases ho : ops[lo + k]? with
  | none => rw [ho] at hh; cases hh
  | some o => rw [ho] at hh; exact ⟨lo + k, o, by omega, by omega, hz, ho, hh⟩
theorem regZ_out {ops : Array Oper} {m z n : Nat} (h : regZ ops m z n = true) : RegOkZ ops m z n := by
  unfold regZ at h
  simp only [Bool.and_eq_true, decide_eq_true_eq, List.all_eq_true, List.mem_range, Bool.or_eq_true, beq_iff_eq] at h
  obtain ⟨⟨⟨⟨⟨⟨⟨⟨⟨h1, hz⟩, h2⟩, h3⟩, h4⟩, h5⟩, h6⟩, h7⟩, h8⟩, h9⟩ := h
  refine ⟨h1, hz, fun i o hi ho => ?_, fun i o ho e he hb => ?_, fun j hj hjz => ?_, fun k hk hk1 => ?_, h6, h7, h8, fun o ho => ?_⟩
  · have := h2 i hi
    unfold mainB at this
    rw [ho] at this
    simp only [Bool.and_eq_true] at this
    obtain ⟨⟨⟨a1, a2⟩, a3⟩, a4⟩ := this
    cases ht : o.dst with
    | none => rw [ht] at a1; cases a1
    | some t =>
      rw [ht] at a1
      simp only [Bool.and_eq_true, decide_eq_true_eq, List.all_eq_true, List.mem_range, bne_iff_ne, ne_eq] at a1
      refine ⟨t, rfl, a1.1, a1.2, by simpa using a2, fun s hs j hj hd => ?_, fun g b hg => ?_⟩
      · rw [Array.all_eq_true] at a3
        obtain ⟨q, hq, hqs⟩ := Array.mem_iff_getElem.1 hs
        have := a3 q hq
        rw [hqs] at this
        simp only [List.all_eq_true, List.mem_range, Bool.or_eq_true, bne_iff_ne, ne_eq, Bool.and_eq_true, decide_eq_true_eq] at this
        exact (this j hj).resolve_left (fun h => h hd)
      · rw [hg] at a4
        simpa using a4
  · have hi : i < ops.size := (Array.getElem?_eq_some_iff.1 ho).1
    have := h3 i hi
    unfold downB at this
    rw [ho] at this
    simp only [Array.all_eq_true] at this
    obtain ⟨k, hk, rfl⟩ := Array.mem_iff_getElem.1 he
    have := this k hk
    rw [hb] at this
    simpa using this
  · obtain ⟨k, o, k1, k2, kz, k3, k4⟩ := upZ_out ((h4 j hj).resolve_left hjz)
    exact ⟨k, o, by omega, k2, kz, k3, k4⟩
  · have := h5 (k - m) (by omega)
    rw [show m + (k - m) = k from by omega] at this
    obtain ⟨q, o, k1, k2, k3, k4⟩ := upB_out this
    obtain rfl : q = k + 1 := by omega
    exact ⟨o, k3, k4⟩
  · rw [ho] at h9
    simp only [Bool.and_eq_true, Option.isNone_iff_eq_none] at h9
    exact h9
theorem dst_injZ {ops : Array Oper} {m z n : Nat} (h : RegOkZ ops m z n) {i j : Nat} {t : Tmp} (im : i < m) (jm : j < m) (hi : dstOf ops i = some t) (hj : dstOf ops j = some t) : i = j := by
  have key : ∀ i j, j < m → dstOf ops i = some t → dstOf ops j = some t → i < j → False := by
    intro i j jm hi hj hlt
    obtain ⟨o, ho, hd⟩ := dstOf_some hj
    obtain ⟨s, hs, _, hne, _⟩ := h.main j o jm ho
    rw [hd] at hs
    injection hs with hs
    subst hs
    exact hne i hlt hi
  rcases Nat.lt_trichotomy i j with hlt | heq | hlt
  · exact (key i j jm hi hj hlt).elim
  · exact heq
  · exact (key j i im hj hi hlt).elim
theorem all_beforeZ {ops : Array Oper} {m z n : Nat} (h : RegOkZ ops m z n) {listed : Array Bool} (hd : ∀ i o, ops[i]? = some o → listed.getD i false = true → ∀ e ∈ o.after, Region.binds .any e = true → listed.getD e.on false = true)
    {k : Nat} {ok : Oper} (hk : m ≤ k) (hok : ops[k]? = some ok) (hr : ∀ e ∈ ok.after, Region.binds .any e = true → listed.getD e.on false = true) : ∀ d j, j + d + 1 = k → j ≠ z → listed.getD j false = true := by
  have hks : k < ops.size := (Array.getElem?_eq_some_iff.1 hok).1
  intro d
  induction d using Nat.strongRecOn with
  | _ d ih =>
    intro j hj hjz
    have zlt := h.zlt
    have : ∃ q o, j < q ∧ q ≤ k ∧ q ≠ z ∧ ops[q]? = some o ∧ hasOn o j = true := by
      by_cases jm : j < m
      · obtain ⟨q, o, q1, q2, qz, q3⟩ := h.up j jm hjz
        exact ⟨q, o, q1, by omega, qz, q3⟩
      · obtain ⟨o, ho, hh⟩ := h.tail j (by omega) (by omega)
        exact ⟨j + 1, o, by omega, by omega, by omega, ho, hh⟩
    obtain ⟨q, o, q1, q2, qz, q3, q4⟩ := this
    obtain ⟨e, he, heo, heb⟩ := hasOn_mem q4
    rw [← heo]
    by_cases e1 : q = k
    · subst e1
      rw [hok] at q3
      injection q3 with q3
      subst q3
      exact hr e he heb
    · exact hd q o q3 (ih (k - q - 1) (by omega) q (by omega) qz) e he heb

section
variable {P : Program} {Q : Exit → Act → World → Prop}
/-- What stands behind the first m goes one by one. -/
theorem tail_anyZ {ops : Array Oper} {m z n : Nat} (h : RegOkZ ops m z n) : ∀ (fuel k : Nat) (listed : Array Bool) (a : Act) (w : World), m ≤ k → k ≤ ops.size → listed.size = ops.size →
    (∀ i, i < ops.size → listed.getD i false = decide (i < k)) → ops.size - k ≤ fuel → wpList P ops Q (ops.toList.drop k) a w → wpAny P .any ops Q fuel listed a w := by
  intro fuel
  have hnil : ∀ (k : Nat) (listed : Array Bool), listed.size = ops.size → (∀ i, i < ops.size → listed.getD i false = decide (i < k)) → k ≤ ops.size → Region.ready .any ops listed = [] → k = ops.size := by
    intro k listed hs hl hk hr
    rcases Nat.lt_or_ge k ops.size with hlt | hge
    · exfalso
      have hm : k ∈ Region.ready .any ops listed := by
        rw [mem_ready]
        refine ⟨by rw [getD_ff (by omega), hl k hlt]; simp, ops[k], Array.getElem?_eq_getElem hlt, fun e he hb => ?_⟩
        have := h.down k _ (Array.getElem?_eq_getElem hlt) e he hb
        rw [hl _ (by omega)]
        simpa using this
      rw [hr] at hm
      cases hm
    · omega
  induction fuel with
  | zero =>
    intro k listed a w hmk hk hs hl hf hw
    obtain rfl : k = ops.size := by omega
    have hd : ops.toList.drop ops.size = [] := by simp
    rw [hd] at hw
    refine ⟨?_, hw⟩
    unfold Region.ready
    rw [List.filter_eq_nil_iff]
    intro i hi
    have hi := List.mem_range.1 hi
    rw [getD_ff (by omega), hl i hi]
    simp [hi]
  | succ fuel ih =>
    intro k listed a w hmk hk hs hl hf hw
    refine ⟨fun hr => ?_, fun i hi => ?_⟩
    · obtain rfl := hnil k listed hs hl hk hr
      have hd : ops.toList.drop ops.size = [] := by simp
      rw [hd] at hw
      exact hw
    · rw [mem_ready] at hi
      obtain ⟨hn, o, ho, hall⟩ := hi
      have his : i < ops.size := (Array.getElem?_eq_some_iff.1 ho).1
      rw [getD_ff (by omega), hl i his] at hn
      have hik : k ≤ i := by simpa using hn
      have hki : i ≤ k := by
        rcases Nat.lt_or_ge k i with hlt | hge
        · exfalso
          have := all_beforeZ h (listed := listed) (fun q oq hq hlq e he hb => by
            have hqs : q < ops.size := (Array.getElem?_eq_some_iff.1 hq).1
            have h1 := h.down q oq hq e he hb
            rw [hl q hqs] at hlq
            rw [hl _ (by omega)]
            simp only [decide_eq_true_eq] at hlq ⊢
            omega) (by omega) ho hall (i - k - 1) k (by omega) (by have := h.zlt; omega)
          rw [hl k (by omega)] at this
          simp at this
        · exact hge
      obtain rfl : i = k := by omega
      have hdrop : ops.toList.drop i = o :: ops.toList.drop (i + 1) := by
        have : ops.toList[i]? = some o := by simpa using ho
        rw [List.drop_eq_getElem_cons (by simpa using his)]
        congr 1
        have e2 := (List.getElem?_eq_some_iff.1 this).2
        exact e2
      rw [hdrop] at hw
      have hnext : ∀ a w, wpList P ops Q (ops.toList.drop (i + 1)) a w → wpAny P .any ops Q fuel (listed.setIfInBounds i true) a w := by
        intro a w hw
        refine ih (i + 1) _ a w (by omega) (by omega) (by simpa using hs) (fun j hj => ?_) (by omega) hw
        rw [getD_set (by omega), hl j hj]
        by_cases e : j = i
        · subst e; simp
        · simp [e]; omega
      unfold wpOp
      rw [ho]
      simp only
      unfold wpList at hw
      split
      · rename_i hwant
        rw [if_pos hwant] at hw
        exact hw.imp (Oper.wp_mono hnext) id
      · rename_i hwant
        rw [if_neg hwant] at hw
        exact hnext _ _ hw

/-- THE LAW. -/
theorem extract_ways {ρ : Operand → Value} {o : Oper} (h : isExt o.op = true) : (∃ v, ∀ w, (execOp ρ o).run P w = .ok (.value v) w) ∨ ∀ w n w', (execOp ρ o).run P w ≠ .ok n w' := by
  obtain ⟨dst, op, ty, pos, after, g⟩ := o
  cases op <;> simp only [isExt] at h <;> try cases h
  rename_i t ix
  simp only [execOp, Instr.extract]
  cases hv : ρ t
  case tuple vs =>
    cases hx : vs[ix]? with
    | none => right; intro w n w'; simp [hx]
    | some v => left; exact ⟨v, fun w => by simp [hx]⟩
  all_goals right; intro w n w'; simp
theorem region_z {id : Nat} {l : List Oper} {a : Act} {w : World} (m z : Nat) (hm : P.follows .mixedOrders = true) (hchk : regZ l.toArray m z a.tmps.size = true) (hQ : ∀ (t : Tmp) v c a w, Q (.panic c) (Act.put a (some t) v) w → Q (.panic c) a w)
    (hobs : ObsK P l.toArray a w (fun ks => ∀ W, Below w.heap.size w W → finOn W ks (fun a' => wpList P l.toArray Q (l.drop m) a' W) a) [] (l.take m)) :
    (Code.region id l.toArray true).wp P Q a w := by
  have R := regZ_out hchk
  obtain ⟨ops, hops⟩ : ∃ ops, l.toArray = ops := ⟨_, rfl⟩
  have hl' : l = ops.toList := by rw [← hops]
  rw [hops] at hobs R ⊢
  rw [hl'] at hobs
  clear hops hl' hchk
  obtain ⟨Ks, kz, hz0, hfin, hall⟩ := hobs.out
  have hmlen : (ops.toList.take m).length = m := by simp [R.le]
  rw [hmlen] at hfin
  have hat : ∀ i o, i < m → ops[i]? = some o → (ops.toList.take m)[i]? = some o := fun i o hi ho => by
    rw [List.getElem?_take, if_pos hi]; simpa using ho
  have hta : ∀ i o, (ops.toList.take m)[i]? = some o → i < m ∧ ops[i]? = some o := fun i o ho => by
    rw [List.getElem?_take] at ho
    split at ho
    · exact ⟨‹_›, by simpa using ho⟩
    · cases ho
  have hall2 : ∀ i o, (ops.toList.take m)[i]? = some o → ∃ t, o.dst = some t ∧ kz (i + 1) = (t, Ks i) :: kz i := fun i o ho => by
    obtain ⟨t, h1, _, _, h2⟩ := hall i o ho
    exact ⟨t, h1, h2⟩
  have hmem : ∀ i, i ≤ m → ∀ t K, (t, K) ∈ kz i → ∃ j, j < i ∧ dstOf ops j = some t ∧ K = Ks j := fun i hi t K hm => by
    obtain ⟨j, o, h1, h2, h3, h4⟩ := kz_mem hz0 hall2 i (by omega) t K hm
    obtain ⟨_, ho⟩ := hta j o h2
    exact ⟨j, h1, by unfold dstOf; rw [ho]; exact h3, h4⟩
  refine wp_region_any hm ?_
  have hd : ∀ i o, ops[i]? = some o → dstOf ops i = o.dst := fun i o ho => by unfold dstOf; rw [ho]; rfl
  have hend : ∀ (listed : Array Bool) (a' : Act) (w' : World), RInv ops a w Ks m listed a' w' → (∀ j, j < m → listed.getD j false = true) → wpList P ops Q (ops.toList.drop m) a' w' := by
    intro listed a' w' hI hlst
    obtain ⟨b, hb, e1, e2, e3, e4⟩ := finOn.out (a' := a') (hfin w' hI.below) hI.size.symm (fun t K hm => by
      obtain ⟨j, hj, hdj, rfl⟩ := hmem m (Nat.le_refl _) t K hm
      obtain ⟨o, ho, hod⟩ := dstOf_some hdj
      obtain ⟨s, hs, hsn, _⟩ := R.main j o hj ho
      rw [hod] at hs
      injection hs with hs
      subst hs
      exact ⟨by rw [hI.size]; exact hsn, hI.val j t hj (hlst j hj) hdj⟩)
    have : b = a' := by
      cases b with
      | mk bt bd =>
        cases a' with
        | mk at' ad =>
          simp only at e1 e2 e3 e4
          have hdf : bd = ad := by rw [e2]; exact hI.defers.symm
          have htm : bt = at' := by
            apply Array.ext
            · rw [e1]; exact hI.size.symm
            · intro t t1 t2
              have : bt.getD t undef = at'.getD t undef := by
                by_cases hx : ∃ K, (t, K) ∈ kz m
                · exact e4 t hx
                · rw [e3 t (fun K hm => hx ⟨K, hm⟩)]
                  refine (hI.other t fun j hj hdj => hx ?_).symm
                  obtain ⟨o, ho, hod⟩ := dstOf_some hdj
                  exact ⟨Ks j, kz_all hall2 m (by omega) j o t hj (hat j o hj ho) hod⟩
              simpa only [Array.getD_eq_getD_getElem?, Array.getElem?_eq_getElem t1, Array.getElem?_eq_getElem t2, Option.getD_some] using this
          subst hdf htm
          rfl
    rw [this] at hb
    exact hb
  have key : ∀ (fuel : Nat) (listed : Array Bool) (a' : Act) (w' : World), RInv ops a w Ks m listed a' w' → (∀ i, m ≤ i → i < ops.size → listed.getD i false = false) →
      ((List.range ops.size).filter fun i => !listed.getD i true).length ≤ fuel → wpAny P .any ops Q fuel listed a' w' := by
    intro fuel
    have hprefix : ∀ (listed : Array Bool), listed.size = ops.size → (∀ j, j < m → listed.getD j false = true) → (∀ i, m ≤ i → i < ops.size → listed.getD i false = false) → ∀ i, i < ops.size → listed.getD i false = decide (i < m) := by
      intro listed hs h1 h2 i hi
      by_cases e : i < m
      · rw [h1 i e]; simp [e]
      · rw [h2 i (by omega) hi]; simp [e]
    induction fuel with
    | zero =>
      intro listed a' w' hI hno hc
      have h0 : ((List.range ops.size).filter fun i => !listed.getD i true) = [] := List.eq_nil_of_length_eq_zero (by omega)
      have hal : ∀ i, i < ops.size → listed.getD i false = true := by
        intro i hi
        rw [List.filter_eq_nil_iff] at h0
        have := h0 i (List.mem_range.2 hi)
        rw [← getD_ff (by rw [hI.lsize]; exact hi)]
        simpa using this
      have hms : m = ops.size := by
        rcases Nat.lt_or_ge m ops.size with hlt | hge
        · have := hno m (Nat.le_refl _) hlt
          rw [hal m hlt] at this
          cases this
        · have := R.le; omega
      have := hend listed a' w' hI (fun j hj => hal j (by omega))
      rw [hms] at this
      have hdr : ops.toList.drop ops.size = [] := by simp
      rw [hdr] at this
      refine ⟨?_, this⟩
      unfold Region.ready
      rw [List.filter_eq_nil_iff] at h0 ⊢
      intro i hi
      have := h0 i hi
      simp only [Bool.not_eq_true] at this ⊢
      rw [this]
      rfl
    | succ fuel ih =>
      intro listed a' w' hI hno hc
      by_cases hdone : ∀ j, j < m → listed.getD j false = true
      · refine tail_anyZ R (fuel + 1) m listed a' w' (Nat.le_refl _) R.le hI.lsize (hprefix listed hI.lsize hdone hno) ?_ (hend listed a' w' hI hdone)
        have hlen : ops.size - m ≤ ((List.range ops.size).filter fun i => !listed.getD i true).length := by
          have hsub : (List.range ops.size).filter (fun i => decide (m ≤ i)) = (List.range ops.size).filter fun i => !listed.getD i true := by
            apply List.filter_congr
            intro i hi
            have hi := List.mem_range.1 hi
            rw [getD_ff (by rw [hI.lsize]; exact hi), hprefix listed hI.lsize hdone hno i hi]
            by_cases e : i < m <;> simp [e] <;> omega
          rw [← hsub]
          have : ∀ N, m ≤ N → ((List.range N).filter fun i => decide (m ≤ i)).length = N - m := by
            intro N hN
            induction N with
            | zero => simp
            | succ N ihN =>
              rw [List.range_succ, List.filter_append, List.length_append]
              by_cases e : m ≤ N
              · rw [ihN e]; simp [e]; omega
              · have : m = N + 1 := by omega
                subst this
                have : (List.range N).filter (fun i => decide (N + 1 ≤ i)) = [] := by
                  rw [List.filter_eq_nil_iff]
                  intro i hi
                  have := List.mem_range.1 hi
                  simp; omega
                rw [this]
                simp
          rw [this _ R.le]
          exact Nat.le_refl _
        omega
      · by_cases hzz : ∀ j, j < m → j ≠ z → listed.getD j false = true
        · have zlt := R.zlt
          have zs : z < ops.size := by have := R.le; omega
          have hlz : listed.getD z false = false := by
            cases hlz : listed.getD z false with
            | false => rfl
            | true => exact absurd (fun j hj => by by_cases e : j = z; · rw [e]; exact hlz
                                                   · exact hzz j hj e) hdone
          have hlst : listed = lateL m z ops.size := by
            apply Array.ext
            · rw [hI.lsize]; simp [lateL]
            · intro q q1 q2
              have qs : q < ops.size := by rw [← hI.lsize]; exact q1
              have e1 : listed[q] = listed.getD q false := by simp [Array.getD_eq_getD_getElem?, Array.getElem?_eq_getElem q1]
              rw [e1]
              simp only [lateL, Array.getElem_ofFn]
              by_cases qm : q < m
              · by_cases qz : q = z
                · subst qz; rw [hlz]; simp
                · rw [hzz q qm qz]; simp [qm, qz]
              · rw [hno q (by omega) qs]; simp [qm]
          have ho : ops[z]? = some ops[z] := Array.getElem?_eq_getElem zs
          obtain ⟨o, hoo⟩ : ∃ o, ops[z] = o := ⟨_, rfl⟩
          rw [hoo] at ho
          have hnl' : listed.getD z true = false := by rw [getD_ff (by rw [hI.lsize]; exact zs)]; exact hlz
          have hrd0 : z ∈ Region.ready .any ops listed := by have := R.rdy; rw [← hlst] at this; simpa using this
          obtain ⟨_, o', ho', haf⟩ := mem_ready.1 hrd0
          rw [ho] at ho'
          injection ho' with ho'
          subst ho'
          obtain ⟨hext, hgn⟩ := R.ext o ho
          have him := zlt
          have his := zs
          have hsi : z < listed.size := by rw [hI.lsize]; exact zs
          obtain ⟨t, ht, htn, hne, hsel, hrd, hgd⟩ := R.main z o him ho
          obtain ⟨t', ht', hok, hob, hkz⟩ := hall z o (hat z o him ho)
          have hon : ∀ j, hasOn o j = true → listed.getD j false = true := fun j hj => by
            obtain ⟨e, he, heo, heb⟩ := hasOn_mem hj
            rw [← heo]
            exact haf e he heb
          have hnext : ∀ v w'', (Ks z).holds w'' v → Below w'.heap.size w' w'' → wpAny P .any ops Q fuel (listed.setIfInBounds z true) (a'.put o.dst v) w'' := by
            intro v w'' hv hb
            refine ih _ _ _ ⟨by simpa using hI.lsize, ?_, ?_, below_then hI.below hb, ?_, ?_, ?_⟩ ?_ ?_
            · rw [ht]; exact hI.defers
            · rw [ht]; simpa [Act.put] using hI.size
            · intro s hs
              have hst : s ≠ t := fun e => hs z him (by rw [hd z _ ho, ht, e])
              rw [ht, put_getD (by rw [hI.size]; exact htn), if_neg hst]
              exact hI.other s hs
            · intro j s hjm hj hdj
              rw [getD_set hsi] at hj
              rw [ht, put_getD (by rw [hI.size]; exact htn)]
              by_cases e : j = z
              · subst e
                have : s = t := by rw [hd j _ ho, ht] at hdj; injection hdj with hdj; exact hdj.symm
                rw [if_pos this]
                exact hv
              · rw [if_neg e] at hj
                have hst : s ≠ t := fun e2 => e (dst_injZ R hjm him hdj (by rw [hd z _ ho, ht, e2]))
                rw [if_neg hst]
                obtain ⟨oj, hoj, hdoj⟩ := dstOf_some hdj
                obtain ⟨_, _, hokj, _, _⟩ := hall j oj (hat j oj hjm hoj)
                exact Kd.keep hokj (hI.val j s hjm hj hdj) hb
            · intro q oq hq hlq e he hb
              rw [getD_set hsi] at hlq ⊢
              by_cases e1 : q = z
              · subst e1
                rw [ho] at hq
                injection hq with hq
                subst hq
                split
                · rfl
                · exact haf e he hb
              · rw [if_neg e1] at hlq
                split
                · rfl
                · exact hI.down q oq hq hlq e he hb
            · intro q hq hqs
              rw [getD_set hsi, if_neg (by omega)]
              exact hno q hq hqs
            · have hnl : (!listed.getD z true) = true := by rw [hnl']; rfl
              have hlt : ((List.range ops.size).filter fun k => !(listed.setIfInBounds z true).getD k true).length < ((List.range ops.size).filter fun k => !listed.getD k true).length := by
                have hsub : ((List.range ops.size).filter fun k => !(listed.setIfInBounds z true).getD k true) = (((List.range ops.size).filter fun k => !listed.getD k true).filter fun k => k != z) := by
                  rw [List.filter_filter]
                  apply List.filter_congr
                  intro k _
                  rw [getD_set hsi]
                  by_cases e : k = z
                  · subst e; simp
                  · simp [e]
                rw [hsub]
                exact List.length_filter_lt_length_iff_exists.2 ⟨z, List.mem_filter.2 ⟨List.mem_range.2 his, hnl⟩, by simp⟩
              omega
          have hlook : ∀ s K, lookK (kz z) s = some K → ∃ j, j < z ∧ dstOf ops j = some s ∧ K = Ks j := fun s K hK => hmem z (by omega) s K (lookK_some hK)
          have hgo : ∀ W, Below w.heap.size w W → leanOn (kz z) W o.op.operands.toList (Goes P (Ks z) o W) a := by
            rcases hob with ⟨_, hgo⟩ | ⟨hwk, _⟩
            · exact hgo
            · rw [hgn] at hwk; cases hwk
          obtain ⟨b, hb, b1, b2, b3, b4⟩ := leanOn.out (a' := a') (hgo w' hI.below) hI.size.symm (fun s K hs hK => by
            obtain ⟨j, hj, hdj, rfl⟩ := hlook s K hK
            obtain ⟨o2, ho2, hod2⟩ := dstOf_some hdj
            obtain ⟨s2, hs2, hsn, _⟩ := R.main j o2 (by omega) ho2
            rw [hod2] at hs2
            injection hs2 with hs2
            subst hs2
            obtain ⟨ha, _⟩ := hrd s (by simpa using hs) j (by omega) hdj
            exact ⟨by rw [hI.size]; exact hsn, hI.val j s (by omega) (hon j ha) hdj⟩)
          have heq : execOp a'.eval o = execOp b.eval o := by
            refine execOp_congr o (fun cs bb hc => by rw [hc] at hsel; cases hsel) fun x hx => ?_
            cases x with
            | tmp s =>
              show a'.tmps.getD s undef = b.tmps.getD s undef
              by_cases hks : ∃ K, lookK (kz z) s = some K
              · obtain ⟨K, hK⟩ := hks
                exact (b4 s ⟨K, hK, by simpa using hx⟩).symm
              · have ho2 : ∀ j, j < m → dstOf ops j ≠ some s := by
                  intro j hj hdj
                  obtain ⟨_, hji⟩ := hrd s hx j hj hdj
                  obtain ⟨oj, hoj, hdoj⟩ := dstOf_some hdj
                  have := kz_all hall2 z (by omega) j oj s hji (hat j oj hj hoj) hdoj
                  cases hl : lookK (kz z) s with
                  | some K => exact hks ⟨K, hl⟩
                  | none => exact lookK_none hl _ this
                have e0 := hI.other s ho2
                rcases b3 s with e | e
                · rw [e, e0]
                · exact e.symm
            | const _ => rfl
            | global _ => rfl
            | func _ => rfl
          have hgoes := hb.out
          have hy : ∃ v, (∀ w, (execOp b.eval o).run P w = .ok (.value v) w) ∧ (Ks z).holds w' v := by
            rcases extract_ways (P := P) (ρ := b.eval) hext with ⟨v, hall'⟩ | hnone
            · rw [hall' w'] at hgoes
              exact ⟨v, hall', hgoes.1⟩
            · exfalso
              cases hr : (execOp b.eval o).run P w' with
              | ok n w'' => exact hnone _ _ _ hr
              | halt x w'' => rw [hr] at hgoes; exact hgoes.elim
          obtain ⟨v, hrun, hv⟩ := hy
          refine wpAny_take ho R.nosel (by rw [hlst]; exact R.free) (by rw [hlst]; exact R.rdy) (fun c a w h => hQ t _ c a w (by rw [← ht]; exact h)) (v := v) (.inl ⟨by unfold Region.wanted; rw [hgn], fun w => by rw [heq]; exact hrun w⟩) ?_
          exact hnext v w' hv (Below.refl _ _)
        · refine ⟨fun hr => ?_, fun i hi => ?_⟩
          · exfalso
            refine hdone ?_
            intro j
            induction j using Nat.strongRecOn with
            | _ j ihj =>
              intro hj
              cases hlj : listed.getD j false with
              | true => rfl
              | false =>
                exfalso
                have hjs : j < ops.size := by have := R.le; omega
                have hmem : j ∈ Region.ready .any ops listed := by
                  rw [mem_ready]
                  refine ⟨by rw [getD_ff (by rw [hI.lsize]; exact hjs)]; exact hlj, ops[j], Array.getElem?_eq_getElem hjs, fun e he hb => ?_⟩
                  have := R.down j _ (Array.getElem?_eq_getElem hjs) e he hb
                  exact ihj _ this (by omega)
                rw [hr] at hmem
                cases hmem
          · have hi0 := hi
            rw [mem_ready] at hi
            obtain ⟨hnl', o, ho, haf⟩ := hi
            have his : i < ops.size := (Array.getElem?_eq_some_iff.1 ho).1
            have hsi : i < listed.size := by rw [hI.lsize]; exact his
            have him : i < m := by
              rcases Nat.lt_or_ge i m with hlt | hge
              · exact hlt
              · exact absurd (fun j hj hjz => all_beforeZ R hI.down hge ho haf (i - j - 1) j (by omega) hjz) hzz
            obtain ⟨t, ht, htn, hne, hsel, hrd, hgd⟩ := R.main i o him ho
            obtain ⟨t', ht', hok, hob, hkz⟩ := hall i o (hat i o him ho)
            have hon : ∀ j, hasOn o j = true → listed.getD j false = true := fun j hj => by
              obtain ⟨e, he, heo, heb⟩ := hasOn_mem hj
              rw [← heo]
              exact haf e he heb
            have hnext : ∀ v w'', (Ks i).holds w'' v → Below w'.heap.size w' w'' → wpAny P .any ops Q fuel (listed.setIfInBounds i true) (a'.put o.dst v) w'' := by
              intro v w'' hv hb
              refine ih _ _ _ ⟨by simpa using hI.lsize, ?_, ?_, below_then hI.below hb, ?_, ?_, ?_⟩ ?_ ?_
              · rw [ht]; exact hI.defers
              · rw [ht]; simpa [Act.put] using hI.size
              · intro s hs
                have hst : s ≠ t := fun e => hs i him (by rw [hd i _ ho, ht, e])
                rw [ht, put_getD (by rw [hI.size]; exact htn), if_neg hst]
                exact hI.other s hs
              · intro j s hjm hj hdj
                rw [getD_set hsi] at hj
                rw [ht, put_getD (by rw [hI.size]; exact htn)]
                by_cases e : j = i
                · subst e
                  have : s = t := by rw [hd j _ ho, ht] at hdj; injection hdj with hdj; exact hdj.symm
                  rw [if_pos this]
                  exact hv
                · rw [if_neg e] at hj
                  have hst : s ≠ t := fun e2 => e (dst_injZ R hjm him hdj (by rw [hd i _ ho, ht, e2]))
                  rw [if_neg hst]
                  obtain ⟨oj, hoj, hdoj⟩ := dstOf_some hdj
                  obtain ⟨_, _, hokj, _, _⟩ := hall j oj (hat j oj hjm hoj)
                  exact Kd.keep hokj (hI.val j s hjm hj hdj) hb
              · intro q oq hq hlq e he hb
                rw [getD_set hsi] at hlq ⊢
                by_cases e1 : q = i
                · subst e1
                  rw [ho] at hq
                  injection hq with hq
                  subst hq
                  split
                  · rfl
                  · exact haf e he hb
                · rw [if_neg e1] at hlq
                  split
                  · rfl
                  · exact hI.down q oq hq hlq e he hb
              · intro q hq hqs
                rw [getD_set hsi, if_neg (by omega)]
                exact hno q hq hqs
              · have hnl : (!listed.getD i true) = true := by rw [hnl']; rfl
                have hlt : ((List.range ops.size).filter fun k => !(listed.setIfInBounds i true).getD k true).length < ((List.range ops.size).filter fun k => !listed.getD k true).length := by
                  have hsub : ((List.range ops.size).filter fun k => !(listed.setIfInBounds i true).getD k true) = (((List.range ops.size).filter fun k => !listed.getD k true).filter fun k => k != i) := by
                    rw [List.filter_filter]
                    apply List.filter_congr
                    intro k _
                    rw [getD_set hsi]
                    by_cases e : k = i
                    · subst e; simp
                    · simp [e]
                  rw [hsub]
                  exact List.length_filter_lt_length_iff_exists.2 ⟨i, List.mem_filter.2 ⟨List.mem_range.2 his, hnl⟩, by simp⟩
                omega
            have hlook : ∀ s K, lookK (kz i) s = some K → ∃ j, j < i ∧ dstOf ops j = some s ∧ K = Ks j := fun s K hK => hmem i (by omega) s K (lookK_some hK)
            unfold wpOp
            rw [ho]
            rcases hob with ⟨hwk, hgo⟩ | ⟨hwk, hskip⟩
            · have hw : Region.wanted o (yielded ops a'.tmps) = true := by
                unfold Region.wanted
                cases hg : o.guard with
                | none => rfl
                | some gb =>
                  obtain ⟨g, b⟩ := gb
                  rw [hg] at hwk
                  unfold wantK at hwk
                  simp only at hwk
                  cases hdg : dstOf ops g with
                  | none => rw [hdg] at hwk; cases hwk
                  | some s =>
                    rw [hdg] at hwk
                    cases hlk : lookK (kz i) s with
                    | none => simp only [hlk] at hwk; cases hwk
                    | some K =>
                      simp only [hlk] at hwk
                      split at hwk
                      · rename_i hKe
                        injection hKe with hKe
                        subst hKe
                        rename_i c
                        obtain ⟨j, hj, hdj, hKj⟩ := hlook s _ hlk
                        obtain ⟨hong, hgi⟩ := hgd g b hg
                        obtain rfl := dst_injZ R (by omega) (by omega) hdj hdg
                        have hv := hI.val j s (by omega) (hon j hong) hdj
                        rw [← hKj] at hv
                        have hy : yielded ops a'.tmps j = some c := by
                          have hv' : a'.tmps.getD s undef = .bool c := hv
                          unfold yielded
                          unfold dstOf at hdj
                          rw [hdj]
                          rw [Array.getD_eq_getD_getElem?] at hv'
                          cases hx : a'.tmps[s]? with
                          | none => rw [hx] at hv'; exact absurd hv' (by simp [undef])
                          | some x =>
                            rw [hx] at hv'
                            simp only [Option.getD_some] at hv'
                            subst hv'
                            simp [hx]
                        simp only [hy]
                        injection hwk
                      · cases hwk
              simp only [hw, if_true]
              refine .inl ?_
              obtain ⟨b, hb, b1, b2, b3, b4⟩ := leanOn.out (a' := a') (hgo w' hI.below) hI.size.symm (fun s K hs hK => by
                obtain ⟨j, hj, hdj, rfl⟩ := hlook s K hK
                obtain ⟨o2, ho2, hod2⟩ := dstOf_some hdj
                obtain ⟨s2, hs2, hsn, _⟩ := R.main j o2 (by omega) ho2
                rw [hod2] at hs2
                injection hs2 with hs2
                subst hs2
                obtain ⟨ha, _⟩ := hrd s (by simpa using hs) j (by omega) hdj
                exact ⟨by rw [hI.size]; exact hsn, hI.val j s (by omega) (hon j ha) hdj⟩)
              have heq : execOp a'.eval o = execOp b.eval o := by
                refine execOp_congr o (fun cs bb hc => by rw [hc] at hsel; cases hsel) fun x hx => ?_
                cases x with
                | tmp s =>
                  show a'.tmps.getD s undef = b.tmps.getD s undef
                  by_cases hks : ∃ K, lookK (kz i) s = some K
                  · obtain ⟨K, hK⟩ := hks
                    exact (b4 s ⟨K, hK, by simpa using hx⟩).symm
                  · have ho2 : ∀ j, j < m → dstOf ops j ≠ some s := by
                      intro j hj hdj
                      obtain ⟨_, hji⟩ := hrd s hx j hj hdj
                      obtain ⟨oj, hoj, hdoj⟩ := dstOf_some hdj
                      have := kz_all hall2 i (by omega) j oj s hji (hat j oj hj hoj) hdoj
                      cases hl : lookK (kz i) s with
                      | some K => exact hks ⟨K, hl⟩
                      | none => exact lookK_none hl _ this
                    have e0 := hI.other s ho2
                    rcases b3 s with e | e
                    · rw [e, e0]
                    · exact e.symm
                | const _ => rfl
                | global _ => rfl
                | func _ => rfl
              have hgoes := hb.out
              unfold Oper.wp
              rw [heq]
              generalize (execOp b.eval o).run P w' = r at hgoes
              cases r with
              | ok n w'' =>
                cases n <;> simp only [OpGoes] at hgoes <;> try exact hgoes.elim
                case value v => exact hnext v w'' hgoes.1 hgoes.2
                case enter f args =>
                  refine Calls.mono hgoes ?_
                  rintro e w3 ⟨v, rfl, hv, hb⟩
                  exact hnext v w3 hv hb
              | halt x w'' => exact hgoes.elim
            · have hw : Region.wanted o (yielded ops a'.tmps) = false := by
                unfold Region.wanted
                cases hg : o.guard with
                | none => rw [hg] at hwk; cases hwk
                | some gb =>
                  obtain ⟨g, b⟩ := gb
                  rw [hg] at hwk
                  unfold wantK at hwk
                  simp only at hwk
                  cases hdg : dstOf ops g with
                  | none => rw [hdg] at hwk; cases hwk
                  | some s =>
                    rw [hdg] at hwk
                    cases hlk : lookK (kz i) s with
                    | none => simp only [hlk] at hwk; cases hwk
                    | some K =>
                      simp only [hlk] at hwk
                      split at hwk
                      · rename_i hKe
                        injection hKe with hKe
                        subst hKe
                        rename_i c
                        obtain ⟨j, hj, hdj, hKj⟩ := hlook s _ hlk
                        obtain ⟨hong, hgi⟩ := hgd g b hg
                        obtain rfl := dst_injZ R (by omega) (by omega) hdj hdg
                        have hv := hI.val j s (by omega) (hon j hong) hdj
                        rw [← hKj] at hv
                        have hy : yielded ops a'.tmps j = some c := by
                          have hv' : a'.tmps.getD s undef = .bool c := hv
                          unfold yielded
                          unfold dstOf at hdj
                          rw [hdj]
                          rw [Array.getD_eq_getD_getElem?] at hv'
                          cases hx : a'.tmps[s]? with
                          | none => rw [hx] at hv'; exact absurd hv' (by simp [undef])
                          | some x =>
                            rw [hx] at hv'
                            simp only [Option.getD_some] at hv'
                            subst hv'
                            simp [hx]
                        simp only [hy]
                        injection hwk
                      · cases hwk
              simp only [hw]
              exact hnext _ _ (by rw [hskip]; rfl) (Below.refl _ _)
  refine key ops.size _ a _ ⟨by simp, rfl, rfl, Below.drew (Below.refl _ _), fun _ _ => rfl, fun j t _ hj => ?_, fun i o _ hj => ?_⟩ ?_ ?_
  · exfalso
    revert hj
    simp only [Array.getD_eq_getD_getElem?, Array.getElem?_replicate]
    split <;> simp
  · exfalso
    revert hj
    simp only [Array.getD_eq_getD_getElem?, Array.getElem?_replicate]
    split <;> simp
  · intro i _ hi
    simp [Array.getD_eq_getD_getElem?, Array.getElem?_replicate, hi]
  · exact Nat.le_trans (List.length_filter_le _ _) (by simp)
end
end Go.Proofs.Ythgoffbfgdgkpaa

/- The packet with a segment: segs.BuildTcp. -/
namespace Go.Proofs.Ythgoffbfgdgkpaa
open Go.RowKit
set_option linter.unusedVariables false
set_option linter.unusedSimpArgs false
set_option linter.unusedSimpArgs false
set_option maxHeartbeats 4000000
set_option maxRecDepth 100000

/-- A new array of these cells, as a slice. -/
def isArr (B m : Nat) (cs : Array Value) (t : TypeId) : World → Value → Prop := fun W v => ∃ g, v = .slice (some ⟨g, 0, none⟩) m m ∧ B ≤ g ∧ Blk W g cs t
theorem st_isArr {B m : Nat} {cs : Array Value} {t : TypeId} : ∀ w w' v, isArr B m cs t w v → Below w.heap.size w w' → isArr B m cs t w' v := fun _ _ _ ⟨g, e, h, k⟩ hb => ⟨g, e, h, k.below hb⟩
theorem goes_arr {B m : Nat} {W : World} {cs : Array Value} {t : TypeId} (h : B ≤ W.heap.size) : OpGoes Try.prog (fun v w' => (Kd.p (isArr B m cs t)).holds w' v ∧ Below W.heap.size W w') (.ok (.value (.slice (some ⟨W.heap.size, 0, none⟩) m m)) (W.alloc (.cells cs t))) :=
  ⟨⟨_, rfl, h, blk_new W cs t _ rfl⟩, (Below.refl _ W).alloc (Nat.le_refl _) _⟩
def hdSg (s : Seg) : List UInt8 := (([] ++ twos [s.src, s.dst]) ++ fours [s.seq, s.ack]) ++ twos [s.flags, s.win, 0, s.urg]
theorem hdSg_len (s : Seg) : (hdSg s).length = 20 := by simp [hdSg, twos, fours, two, four]
theorem sL_of (s : Seg) (x : Int) (hx : ((20 + (optL s.opts).length : Nat) : Int) / 4 * 16 = x) : (hdSg s ++ optL s.opts).set 12 (ub x) ++ s.dat = sL s := by
  subst hx
  have h : ∀ z, (hdSg s ++ optL s.opts).set 12 z = two s.src ++ two s.dst ++ four s.seq ++ four s.ack ++ [z, ub s.flags] ++ two s.win ++ [0, 0] ++ two s.urg ++ optL s.opts := fun z => by
    simp [hdSg, twos, fours, two, four]
    decide
  rw [h]
  simp [sL]
/-- The segment's bytes with their sum. -/
def sS (p : Pkt) (s : Seg) : List UInt8 := put16 (sL s) 16 (psum p 6 (sL s))
def sbE (p : Pkt) (s : Seg) : Int := if okOs s.opts then wiE p (sN s) else 4
def sbP (p : Pkt) (s : Seg) : Pkt := if sbE p s = 0 then { p with proto := 6, dat := sS p s } else zP
theorem sS_len (p : Pkt) (s : Seg) : (sS p s).length = sN s := by unfold sS; rw [put16_length, sL_len]
theorem goes_cat2 {W : World} {n1 c1 n2 c2 : Nat} {A1 A2 : Option Addr} {l1 l2 : List UInt8} {T : TypeId} (k1 : Bs W A1 n1 c1 l1) (k2 : Bs W A2 n2 c2 l2) (h : n1 + n2 ≤ 200000000000000) :
    OpGoes Try.prog (fun v w' => (Kd.p (isC (l1 ++ l2))).holds w' v ∧ Below W.heap.size W w') (.ok (.value (.slice (some ⟨W.heap.size, 0, none⟩) 2 2)) (W.alloc (.cells #[.slice A1 n1 c1, .slice A2 n2 c2] T))) :=
  ⟨⟨isCat2' (blk_new W _ T _ rfl) (k1.alloc _) (k2.alloc _) h⟩, (Below.refl _ W).alloc (Nat.le_refl _) _⟩
theorem goes_tup {B : Nat} {P : Pkt} {E : Int} {C1 C2 : Option Addr} {e1 f1 e2 f2 : Nat} {w : World} (h1 : Own w B 5 C1 e1 f1 P.opt) (h2 : Own w B 5 C2 e2 f2 P.dat) :
    OpGoes Try.prog (fun v w' => (Kd.p (isTup B P E)).holds w' v ∧ Below w.heap.size w w') (.ok (.value (.tuple #[(.agg #[.int .u8 (P).tos, .int .u16 (P).id, .bool (P).keep, .int .u8 (P).ttl, .int .u8 (P).proto, .int .u32 (P).src, .int .u32 (P).dst, .slice C1 e1 f1, .slice C2 e2 f2]), .int .i64 E])) w) := ⟨⟨_, _, _, _, _, _, rfl, h1, h2⟩, Below.refl _ _⟩
end Go.Proofs.Ythgoffbfgdgkpaa

/- Two arrays of whole numbers, compared. -/
namespace Go.Proofs.Ythgoffbfgdgkpaa
open Go.RowKit

theorem run_items_ints {P : Program} (w : World) (d : Nat) (e : TypeId) (k : IntKind) (xs ys : Array Value) (f g : Nat → Int) (he : P.underlying e = some (.int k)) (n : Nat)
    (hx : ∀ i, i < n → xs[i]? = some (.int k (f i))) (hy : ∀ i, i < n → ys[i]? = some (.int k (g i))) : ∀ is : List Nat, (∀ i ∈ is, i < n) →
    (Op.eqItems (d + 1) e 1 xs ys is).run P w = .ok (is.all fun i => f i == g i) w
  | [], _ => by simp [Op.eqItems]
  | i :: is, h => by
    have hp : ∀ (zs : Array Value) (h : Nat → Int), (∀ i, i < n → zs[i]? = some (.int k (h i))) → ∀ i, i < n → (part e zs (i * 1)).run P w = .ok (.int k (h i)) w := by
      intro zs h hz i hi'
      have := hz i hi'
      simp [part, isAgg, run_underlying he, Result.andThen, this]
    have hi := h i (by simp)
    have IH := run_items_ints w d e k xs ys f g he n hx hy is (fun j hj => h j (by simp [hj]))
    simp only [Op.eqItems, Sem.run_bind, hp xs f hx i hi, hp ys g hy i hi, Result.andThen_ok, run_equalIn_int w d e k k (f i) (g i) he]
    cases hb : f i == g i <;> simp [IH, hb]
theorem run_eq_ints {P : Program} (w : World) (d : Nat) (t e : TypeId) (k : IntKind) (n : Nat) {i : TypeInfo} (xs ys : Array Value) (f g : Nat → Int) (ht : P.underlying t = some (.array n e)) (he : P.underlying e = some (.int k))
    (hi : P.info? e = some i) (hs : i.size = 1) (hx : ∀ i, i < n → xs[i]? = some (.int k (f i))) (hy : ∀ i, i < n → ys[i]? = some (.int k (g i))) :
    (Op.equalIn (d + 2) t (.agg xs) (.agg ys)).run P w = .ok ((List.range n).all fun i => f i == g i) w := by
  have h1 : P.cellsOf e = 1 := by simp [Program.cellsOf, hi, hs]
  rw [run_equalIn_array w (d + 1) xs ys ht hi, h1]
  exact run_items_ints w d e k xs ys f g he n hx hy _ (fun i hi => List.mem_range.1 hi)
end Go.Proofs.Ythgoffbfgdgkpaa

/- Datagrams: the same; parsed. -/
namespace Go.Proofs.Ythgoffbfgdgkpaa
open Go.RowKit
set_option linter.unusedVariables false
set_option linter.unusedSimpArgs false
set_option linter.unusedSimpArgs false
set_option maxHeartbeats 4000000
set_option maxRecDepth 100000

def udE (p : Pkt) : Int := if p.proto ≠ 17 then 12 else if p.dat.length < 8 then 3 else if get16 p.dat 4 ≠ p.dat.length then 4 else if get16 p.dat 6 ≠ 0 ∧ psum p 17 p.dat ≠ 0 then 5 else 0
def rdD (l : List UInt8) : Dgm := ⟨get16 l 0, get16 l 2, get16 l 6 == 0, l.drop 8⟩
def udD (p : Pkt) : Dgm := if udE p = 0 then rdD p.dat else zD
structure DgPost (w : World) (D : Dgm) (E : Int) (e : Ending) (w' : World) : Prop where
  out : ∃ A n c, e = .returned (.tuple #[(.agg #[.int .u16 (D).src, .int .u16 (D).dst, .bool (D).bare, .slice A n c]), .int .i64 E]) ∧ Own w' w.heap.size 5 A n c D.dat ∧ Below w.heap.size w w'
theorem dgPost_no {w w' : World} {E : Int} (hB : Below w.heap.size w w') : DgPost w zD E (.returned (.tuple #[.agg #[.int .u16 0, .int .u16 0, .bool false, .slice none 0 0], .int .i64 E])) w' :=
  ⟨none, 0, 0, rfl, own_nil _ _ _, hB⟩
theorem udp_no (p : Pkt) (hp : p.Ok) (A1 : Option Addr) (n1 c1 : Nat) (A2 : Option Addr) (n2 c2 : Nat) (w : World) (k2 : Bs w A2 n2 c2 p.dat) (E q4 : Int) (b6 : Bool) (hq4 : get16 p.dat 4 = q4) (hb6 : (get16 p.dat 6 == 0) = b6)
    (h : (E = 12 ∧ (p.proto != 17) = true) ∨ (E = 3 ∧ (p.proto != 17) = false ∧ (n2 : Int) < 8) ∨ (E = 4 ∧ (p.proto != 17) = false ∧ 8 ≤ (n2 : Int) ∧ (q4 != (n2 : Int)) = true) ∨ (E = 5 ∧ (p.proto != 17) = false ∧ 8 ≤ (n2 : Int) ∧ (q4 != (n2 : Int)) = false ∧ b6 = false ∧ (psum p 17 p.dat == 0) = false)) :
    Calls Try.prog 71 #[(.agg #[.int .u8 (p).tos, .int .u16 (p).id, .bool (p).keep, .int .u8 (p).ttl, .int .u8 (p).proto, .int .u32 (p).src, .int .u32 (p).dst, .slice A1 n1 c1, .slice A2 n2 c2])] w (DgPost w zD E) := by
  have b2 := k2.max
  have q0 : 0 ≤ q4 := by rw [← hq4]; exact get16_lo _ _
  have q1 : q4 ≤ 65535 := by rw [← hq4]; exact get16_hi _ _
  have hw4 : IntKind.i64.wrap q4 = q4 := by rw [IntKind.wrap_i64]; omega
  have g4 : ∀ W, Bs W A2 n2 c2 p.dat → Calls Try.prog 47 #[.slice A2 n2 c2, .int .i64 4] W fun e w' => e = .returned (.int .u16 q4) ∧ Drawn W w' := fun W k => by have := get16_any A2 n2 c2 p.dat 4 W k; rw [hq4] at this; exact this
  obtain ⟨q6, hq6⟩ : ∃ q, get16 p.dat 6 = q := ⟨_, rfl⟩
  have g6 : ∀ W, Bs W A2 n2 c2 p.dat → Calls Try.prog 47 #[.slice A2 n2 c2, .int .i64 6] W fun e w' => e = .returned (.int .u16 q6) ∧ Drawn W w' := fun W k => by have := get16_any A2 n2 c2 p.dat 6 W k; rw [hq6] at this; exact this
  rw [hq6] at hb6
  clear hq4 hq6
  obtain ⟨k, hk⟩ : ∃ k : Nat, w.heap.size = k := ⟨_, rfl⟩
  obtain ⟨w1, hw1⟩ : ∃ W, ((w.alloc (.cells #[.int .u8 (p).tos, .int .u16 (p).id, .bool (p).keep, .int .u8 (p).ttl, .int .u8 (p).proto, .int .u32 (p).src, .int .u32 (p).dst, .slice A1 n1 c1, .slice A2 n2 c2] 26)).alloc (.cells #[.int .u16 0, .int .u16 0, .bool false, .slice none 0 0] 45)) = W := ⟨_, rfl⟩
  have P1 : Blk w1 k #[.int .u8 (p).tos, .int .u16 (p).id, .bool (p).keep, .int .u8 (p).ttl, .int .u8 (p).proto, .int .u32 (p).src, .int .u32 (p).dst, .slice A1 n1 c1, .slice A2 n2 c2] 26 := by rw [← hw1]; exact ((blk_new _ _ _ k (by simp [hk])).alloc _)
  have Z1 : Blk w1 (k + 1) #[.int .u16 0, .int .u16 0, .bool false, .slice none 0 0] 45 := by rw [← hw1]; exact (blk_new _ _ _ (k + 1) (by simp [hk]))
  have R1 : Below w.heap.size w w1 := by rw [← hw1]; (repeat (first | with_reducible exact Below.refl _ _ | with_reducible refine below_drew ?_ | with_reducible refine below_drewN ?_ _ | with_reducible refine below_alloc ?_ (Nat.le_refl _) _ | with_reducible refine Below.setCell ?_ (by first | exact Nat.le_refl _ | (simp only []; omega)) _ | with_reducible assumption))
  have Pc1 := P1.cell
  have Zc1 := Z1.cell
  have Pl1 := P1.lt
  have Zl1 := Z1.lt
  have x1 := (k2).below R1
  rcases h with ⟨rfl, h1⟩ | ⟨rfl, h1, h2⟩ | ⟨rfl, h1, h2, h3⟩ | ⟨rfl, h1, h2, h3, rfl, h5⟩
  · go_enter Try.func71, Try.ntmps71
    go_wp2_with (go_at_call 47; ((with_reducible refine (g6 w1 x1).mono ?_); rintro e w2 ⟨rfl, hD2⟩); have hB2 := hD2.bel; have P2 := P1.below hB2; have Pc2 := P2.cell; clear Pc1; have Z2 := Z1.below hB2; have Zc2 := Z2.cell; clear Zc1; have x2 := x1.below hB2; have R2 := below_then R1 hB2)
    obtain ⟨wf, hwf, Sf⟩ := store4 Z2 (.int .u16 0) (.int .u16 0) (.bool false) (.slice none 0 0)
    rw [hwf]
    have pf := Sf.blk.cell
    exact bodyPost_ret (by simp [results, Try.results71, go_sem, pf]) rfl (dgPost_no (Sf.bel R2 (by omega)))

  · go_enter Try.func71, Try.ntmps71
    go_wp2_with (go_at_call 47; ((with_reducible refine (g6 w1 x1).mono ?_); rintro e w2 ⟨rfl, hD2⟩); have hB2 := hD2.bel; have P2 := P1.below hB2; have Pc2 := P2.cell; clear Pc1; have Z2 := Z1.below hB2; have Zc2 := Z2.cell; clear Zc1; have x2 := x1.below hB2; have R2 := below_then R1 hB2)
    obtain ⟨wf, hwf, Sf⟩ := store4 Z2 (.int .u16 0) (.int .u16 0) (.bool false) (.slice none 0 0)
    rw [hwf]
    have pf := Sf.blk.cell
    exact bodyPost_ret (by simp [results, Try.results71, go_sem, pf]) rfl (dgPost_no (Sf.bel R2 (by omega)))

  · go_enter Try.func71, Try.ntmps71
    go_wp2_with (first
      | (go_at_call 47; ((with_reducible refine (g6 w1 x1).mono ?_); rintro e w2 ⟨rfl, hD2⟩); have hB2 := hD2.bel; have P2 := P1.below hB2; have Pc2 := P2.cell; clear Pc1; have Z2 := Z1.below hB2; have Zc2 := Z2.cell; clear Zc1; have x2 := x1.below hB2; have R2 := below_then R1 hB2)
      | (go_at_call 47; ((with_reducible refine (g4 w2 x2).mono ?_); rintro e w3 ⟨rfl, hD3⟩); have hB3 := hD3.bel; have P3 := P2.below hB3; have Pc3 := P3.cell; clear Pc2; have Z3 := Z2.below hB3; have Zc3 := Z3.cell; clear Zc2; have x3 := x2.below hB3; have R3 := below_then R2 hB3))
    obtain ⟨wf, hwf, Sf⟩ := store4 Z3 (.int .u16 0) (.int .u16 0) (.bool false) (.slice none 0 0)
    rw [hwf]
    have pf := Sf.blk.cell
    exact bodyPost_ret (by simp [results, Try.results71, go_sem, pf]) rfl (dgPost_no (Sf.bel R3 (by omega)))

  · have n2b : n2 ≤ 140737488400000 := by have : q4 = n2 := by simpa using h3
                                          omega
    go_enter Try.func71, Try.ntmps71
    go_wp2_with (first
      | (go_at_call 47; ((with_reducible refine (g6 w1 x1).mono ?_); rintro e w2 ⟨rfl, hD2⟩); have hB2 := hD2.bel; have P2 := P1.below hB2; have Pc2 := P2.cell; clear Pc1; have Z2 := Z1.below hB2; have Zc2 := Z2.cell; clear Zc1; have x2 := x1.below hB2; have R2 := below_then R1 hB2)
      | (go_at_call 47; ((with_reducible refine (g4 w2 x2).mono ?_); rintro e w3 ⟨rfl, hD3⟩); have hB3 := hD3.bel; have P3 := P2.below hB3; have Pc3 := P3.cell; clear Pc2; have Z3 := Z2.below hB3; have Zc3 := Z3.cell; clear Zc2; have x3 := x2.below hB3; have R3 := below_then R2 hB3)
      | (go_at_call 80; ((with_reducible refine (fits_any p hp A1 n1 c1 A2 n2 c2 17 (by omega) (by omega) w3 x3 n2b).mono ?_); rintro e w4 ⟨he4, hB4⟩); (try rw [h5] at he4); subst he4; have P4 := P3.below hB4; have Pc4 := P4.cell; clear Pc3; have Z4 := Z3.below hB4; have Zc4 := Z4.cell; clear Zc3; have x4 := x3.below hB4; have R4 := below_then R3 hB4))
    obtain ⟨wf, hwf, Sf⟩ := store4 Z4 (.int .u16 0) (.int .u16 0) (.bool false) (.slice none 0 0)
    rw [hwf]
    have pf := Sf.blk.cell
    exact bodyPost_ret (by simp [results, Try.results71, go_sem, pf]) rfl (dgPost_no (Sf.bel R4 (by omega)))
theorem udp_ok (p : Pkt) (hp : p.Ok) (A1 : Option Addr) (n1 c1 : Nat) (A2 : Option Addr) (n2 c2 : Nat) (w : World) (k2 : Bs w A2 n2 c2 p.dat) (q4 : Int) (b6 : Bool) (hq4 : get16 p.dat 4 = q4) (hb6 : (get16 p.dat 6 == 0) = b6)
    (h1 : (p.proto != 17) = false) (h2 : 8 ≤ (n2 : Int)) (h3 : (q4 != (n2 : Int)) = false) (h : b6 = true ∨ (b6 = false ∧ (psum p 17 p.dat == 0) = true)) :
    Calls Try.prog 71 #[(.agg #[.int .u8 (p).tos, .int .u16 (p).id, .bool (p).keep, .int .u8 (p).ttl, .int .u8 (p).proto, .int .u32 (p).src, .int .u32 (p).dst, .slice A1 n1 c1, .slice A2 n2 c2])] w (DgPost w (rdD p.dat) 0) := by
  have hlL : p.dat.take n2 = p.dat := List.take_of_length_le (by rw [k2.len]; exact Nat.le_refl _)
  obtain ⟨i8, hi8, -, hs8, -⟩ := info_parts info_u8
  have b2 := k2.max
  have hcap := k2.cap
  obtain ⟨b, off, rfl⟩ := k2.some_ (by omega)
  have hcut : ∀ W, (Instr.slice 24 (.slice (some ⟨b, off, none⟩) n2 c2) (some (.int .i64 8)) none none).run Try.prog W = _ := fun W => cut_l Try.underlying24 hi8 hs8 (some ⟨b, off, none⟩) n2 c2 .i64 8 (by omega) (by omega) W
  obtain ⟨A', n', c', eA, en, ec, hbD⟩ := k2.cutE (lo := 8) (hi := n2) (by omega) (Nat.le_refl _)
  simp only [show (8 : Int).toNat = 8 from rfl, eA, en, ec] at hcut
  rw [hlL] at hbD
  have hn' : n' ≤ n2 := by omega
  clear eA en ec hlL
  have q0 : 0 ≤ q4 := by rw [← hq4]; exact get16_lo _ _
  have q1 : q4 ≤ 65535 := by rw [← hq4]; exact get16_hi _ _
  have hw4 : IntKind.i64.wrap q4 = q4 := by rw [IntKind.wrap_i64]; omega
  have g4 : ∀ W, Bs W (some ⟨b, off, none⟩) n2 c2 p.dat → Calls Try.prog 47 #[.slice (some ⟨b, off, none⟩) n2 c2, .int .i64 4] W fun e w' => e = .returned (.int .u16 q4) ∧ Drawn W w' := fun W k => by have := get16_any (some ⟨b, off, none⟩) n2 c2 p.dat 4 W k; rw [hq4] at this; exact this
  obtain ⟨q6, hq6⟩ : ∃ q, get16 p.dat 6 = q := ⟨_, rfl⟩
  have g6 : ∀ W, Bs W (some ⟨b, off, none⟩) n2 c2 p.dat → Calls Try.prog 47 #[.slice (some ⟨b, off, none⟩) n2 c2, .int .i64 6] W fun e w' => e = .returned (.int .u16 q6) ∧ Drawn W w' := fun W k => by have := get16_any (some ⟨b, off, none⟩) n2 c2 p.dat 6 W k; rw [hq6] at this; exact this
  rw [hq6] at hb6
  have HQ6 := Lib.hid hq6
  clear hq4 hq6
  obtain ⟨v0, hv0⟩ : ∃ q, get16 p.dat 0 = q := ⟨_, rfl⟩
  obtain ⟨v2, hv2⟩ : ∃ q, get16 p.dat 2 = q := ⟨_, rfl⟩
  have g0 : ∀ W, Bs W (some ⟨b, off, none⟩) n2 c2 p.dat → Calls Try.prog 47 #[.slice (some ⟨b, off, none⟩) n2 c2, .int .i64 0] W fun e w' => e = .returned (.int .u16 v0) ∧ Drawn W w' := fun W k => by have := get16_any (some ⟨b, off, none⟩) n2 c2 p.dat 0 W k; rw [hv0] at this; exact this
  have g2 : ∀ W, Bs W (some ⟨b, off, none⟩) n2 c2 p.dat → Calls Try.prog 47 #[.slice (some ⟨b, off, none⟩) n2 c2, .int .i64 2] W fun e w' => e = .returned (.int .u16 v2) ∧ Drawn W w' := fun W k => by have := get16_any (some ⟨b, off, none⟩) n2 c2 p.dat 2 W k; rw [hv2] at this; exact this
  have HD : Hid (rdD p.dat = ⟨v0, v2, b6, p.dat.drop 8⟩) := by unfold Hid rdD; rw [hv0, hv2, HQ6.out, hb6]
  clear hv0 hv2
  have n2b : n2 ≤ 100000 := by have : q4 = n2 := by simpa using h3
                               omega
  obtain ⟨k, hk⟩ : ∃ k : Nat, w.heap.size = k := ⟨_, rfl⟩
  obtain ⟨w1, hw1⟩ : ∃ W, ((w.alloc (.cells #[.int .u8 (p).tos, .int .u16 (p).id, .bool (p).keep, .int .u8 (p).ttl, .int .u8 (p).proto, .int .u32 (p).src, .int .u32 (p).dst, .slice A1 n1 c1, .slice (some ⟨b, off, none⟩) n2 c2] 26)).alloc (.cells #[.int .u16 0, .int .u16 0, .bool false, .slice none 0 0] 45)) = W := ⟨_, rfl⟩
  have P1 : Blk w1 k #[.int .u8 (p).tos, .int .u16 (p).id, .bool (p).keep, .int .u8 (p).ttl, .int .u8 (p).proto, .int .u32 (p).src, .int .u32 (p).dst, .slice A1 n1 c1, .slice (some ⟨b, off, none⟩) n2 c2] 26 := by rw [← hw1]; exact ((blk_new _ _ _ k (by simp [hk])).alloc _)
  have Z1 : Blk w1 (k + 1) #[.int .u16 0, .int .u16 0, .bool false, .slice none 0 0] 45 := by rw [← hw1]; exact (blk_new _ _ _ (k + 1) (by simp [hk]))
  have R1 : Below w.heap.size w w1 := by rw [← hw1]; (repeat (first | with_reducible exact Below.refl _ _ | with_reducible refine below_drew ?_ | with_reducible refine below_drewN ?_ _ | with_reducible refine below_alloc ?_ (Nat.le_refl _) _ | with_reducible refine Below.setCell ?_ (by first | exact Nat.le_refl _ | (simp only []; omega)) _ | with_reducible assumption))
  have Pc1 := P1.cell
  have Zc1 := Z1.cell
  have Pl1 := P1.lt
  have Zl1 := Z1.lt
  have x1 := (k2).below R1
  rcases h with rfl | ⟨rfl, h5⟩
  · go_enter Try.func71, Try.ntmps71
    go_wp2_with (first
      | (go_at_call 47; ((with_reducible refine (g6 w1 x1).mono ?_); rintro e w2 ⟨rfl, hD2⟩); have hB2 := hD2.bel; have P2 := P1.below hB2; have Pc2 := P2.cell; clear Pc1; have Z2 := Z1.below hB2; have Zc2 := Z2.cell; clear Zc1; have x2 := x1.below hB2; have R2 := below_then R1 hB2)
      | (go_at_call 47; ((with_reducible refine (g4 w2 x2).mono ?_); rintro e w3 ⟨rfl, hD3⟩); have hB3 := hD3.bel; have P3 := P2.below hB3; have Pc3 := P3.cell; clear Pc2; have Z3 := Z2.below hB3; have Zc3 := Z3.cell; clear Zc2; have x3 := x2.below hB3; have R3 := below_then R2 hB3))
    have D3 := hbD.below R3
    have r3s := R3.size
    refine region_txt 8 (by kernel_rfl) (by kernel_rfl) ?_; (iterate 8 (first | (apply ObsK.skip (by rfl)) | (apply ObsK.v (by rfl); (intro wo hT; (repeat (first | (intro v hv; (skip)) | (intro _ _ k; try have hcv := cv k))); (have bo := x3.below hT; have hsz : w3.heap.size ≤ wo.heap.size := hT.size); refine Goes.mk ?_; go_simp; first | exact goes_v | exact goes_b (by assumption) | (refine goes_enter ?_; first | (go_at_call 47; ((with_reducible refine (g0 wo bo).mono ?_); rintro e w9 ⟨rfl, hD9⟩); exact ret_v hD9.bel) | (go_at_call 47; ((with_reducible refine (g2 wo bo).mono ?_); rintro e w9 ⟨rfl, hD9⟩); exact ret_v hD9.bel) | (go_at_call 64; ((with_reducible refine (clone_any A' n' c' _ wo (D3.below hT)).mono ?_); rintro e w9 ⟨A9, c9, rfl, ho9, hB9⟩); exact ret_p (own_isW ho9 hsz) hB9)))) | (apply ObsK.b (by rfl); (intro wo hT; (repeat (first | (intro v hv; (skip)) | (intro _ _ k; try have hcv := cv k))); (have bo := x3.below hT; have hsz : w3.heap.size ≤ wo.heap.size := hT.size); refine Goes.mk ?_; go_simp; first | exact goes_v | exact goes_b (by assumption) | (refine goes_enter ?_; first | (go_at_call 47; ((with_reducible refine (g0 wo bo).mono ?_); rintro e w9 ⟨rfl, hD9⟩); exact ret_v hD9.bel) | (go_at_call 47; ((with_reducible refine (g2 wo bo).mono ?_); rintro e w9 ⟨rfl, hD9⟩); exact ret_v hD9.bel) | (go_at_call 64; ((with_reducible refine (clone_any A' n' c' _ wo (D3.below hT)).mono ?_); rintro e w9 ⟨A9, c9, rfl, ho9, hB9⟩); exact ret_p (own_isW ho9 hsz) hB9)))) | (apply ObsK.p (q := isW w3.heap.size _) (by rfl) st_isW; (intro wo hT; (repeat (first | (intro v hv; (skip)) | (intro _ _ k; try have hcv := cv k))); (have bo := x3.below hT; have hsz : w3.heap.size ≤ wo.heap.size := hT.size); refine Goes.mk ?_; go_simp; first | exact goes_v | exact goes_b (by assumption) | (refine goes_enter ?_; first | (go_at_call 47; ((with_reducible refine (g0 wo bo).mono ?_); rintro e w9 ⟨rfl, hD9⟩); exact ret_v hD9.bel) | (go_at_call 47; ((with_reducible refine (g2 wo bo).mono ?_); rintro e w9 ⟨rfl, hD9⟩); exact ret_v hD9.bel) | (go_at_call 64; ((with_reducible refine (clone_any A' n' c' _ wo (D3.below hT)).mono ?_); rintro e w9 ⟨A9, c9, rfl, ho9, hB9⟩); exact ret_p (own_isW ho9 hsz) hB9)))))); refine ObsK.nil ?_; intro wz hBz; simp only [finOn, List.drop_succ_cons, List.drop_zero, List.drop_nil]
    rintro v9 ⟨A9, n9, c9, rfl, O9⟩
    go_simp
    have Zz := Z3.below hBz
    have zcz := Zz.cell
    have zl := Z3.lt
    obtain ⟨wf, hwf, Sf⟩ := store4 Zz (.int .u16 v0) (.int .u16 v2) (.bool true) (.slice A9 n9 c9)
    have pf := Sf.blk.cell
    have Tf := Sf.bel (below_then R3 hBz) (by omega)
    have Of := Sf.own O9 (fun a e => by have := O9.ge a e; omega)
    go_wp2_with fail
    refine bodyPost_ret (v := .tuple #[.agg #[.int .u16 v0, .int .u16 v2, .bool true, .slice A9 n9 c9], .int .i64 0]) (by simp [results, Try.results71, go_sem, pf]) rfl (by rw [HD.out]; exact ⟨A9, n9, c9, rfl, Of.mono r3s, Tf⟩)

  · go_enter Try.func71, Try.ntmps71
    go_wp2_with (first
      | (go_at_call 47; ((with_reducible refine (g6 w1 x1).mono ?_); rintro e w2 ⟨rfl, hD2⟩); have hB2 := hD2.bel; have P2 := P1.below hB2; have Pc2 := P2.cell; clear Pc1; have Z2 := Z1.below hB2; have Zc2 := Z2.cell; clear Zc1; have x2 := x1.below hB2; have R2 := below_then R1 hB2)
      | (go_at_call 47; ((with_reducible refine (g4 w2 x2).mono ?_); rintro e w3 ⟨rfl, hD3⟩); have hB3 := hD3.bel; have P3 := P2.below hB3; have Pc3 := P3.cell; clear Pc2; have Z3 := Z2.below hB3; have Zc3 := Z3.cell; clear Zc2; have x3 := x2.below hB3; have R3 := below_then R2 hB3)
      | (go_at_call 80; ((with_reducible refine (fits_any p hp A1 n1 c1 (some ⟨b, off, none⟩) n2 c2 17 (by omega) (by omega) w3 x3 (by omega)).mono ?_); rintro e w4 ⟨he4, hB4⟩); (try rw [h5] at he4); subst he4; have P4 := P3.below hB4; have Pc4 := P4.cell; clear Pc3; have Z4 := Z3.below hB4; have Zc4 := Z4.cell; clear Zc3; have x4 := x3.below hB4; have R4 := below_then R3 hB4))
    have D4 := hbD.below R4
    have r4s := R4.size
    refine region_txt 8 (by kernel_rfl) (by kernel_rfl) ?_; (iterate 8 (first | (apply ObsK.skip (by rfl)) | (apply ObsK.v (by rfl); (intro wo hT; (repeat (first | (intro v hv; (skip)) | (intro _ _ k; try have hcv := cv k))); (have bo := x4.below hT; have hsz : w4.heap.size ≤ wo.heap.size := hT.size); refine Goes.mk ?_; go_simp; first | exact goes_v | exact goes_b (by assumption) | (refine goes_enter ?_; first | (go_at_call 47; ((with_reducible refine (g0 wo bo).mono ?_); rintro e w9 ⟨rfl, hD9⟩); exact ret_v hD9.bel) | (go_at_call 47; ((with_reducible refine (g2 wo bo).mono ?_); rintro e w9 ⟨rfl, hD9⟩); exact ret_v hD9.bel) | (go_at_call 64; ((with_reducible refine (clone_any A' n' c' _ wo (D4.below hT)).mono ?_); rintro e w9 ⟨A9, c9, rfl, ho9, hB9⟩); exact ret_p (own_isW ho9 hsz) hB9)))) | (apply ObsK.b (by rfl); (intro wo hT; (repeat (first | (intro v hv; (skip)) | (intro _ _ k; try have hcv := cv k))); (have bo := x4.below hT; have hsz : w4.heap.size ≤ wo.heap.size := hT.size); refine Goes.mk ?_; go_simp; first | exact goes_v | exact goes_b (by assumption) | (refine goes_enter ?_; first | (go_at_call 47; ((with_reducible refine (g0 wo bo).mono ?_); rintro e w9 ⟨rfl, hD9⟩); exact ret_v hD9.bel) | (go_at_call 47; ((with_reducible refine (g2 wo bo).mono ?_); rintro e w9 ⟨rfl, hD9⟩); exact ret_v hD9.bel) | (go_at_call 64; ((with_reducible refine (clone_any A' n' c' _ wo (D4.below hT)).mono ?_); rintro e w9 ⟨A9, c9, rfl, ho9, hB9⟩); exact ret_p (own_isW ho9 hsz) hB9)))) | (apply ObsK.p (q := isW w4.heap.size _) (by rfl) st_isW; (intro wo hT; (repeat (first | (intro v hv; (skip)) | (intro _ _ k; try have hcv := cv k))); (have bo := x4.below hT; have hsz : w4.heap.size ≤ wo.heap.size := hT.size); refine Goes.mk ?_; go_simp; first | exact goes_v | exact goes_b (by assumption) | (refine goes_enter ?_; first | (go_at_call 47; ((with_reducible refine (g0 wo bo).mono ?_); rintro e w9 ⟨rfl, hD9⟩); exact ret_v hD9.bel) | (go_at_call 47; ((with_reducible refine (g2 wo bo).mono ?_); rintro e w9 ⟨rfl, hD9⟩); exact ret_v hD9.bel) | (go_at_call 64; ((with_reducible refine (clone_any A' n' c' _ wo (D4.below hT)).mono ?_); rintro e w9 ⟨A9, c9, rfl, ho9, hB9⟩); exact ret_p (own_isW ho9 hsz) hB9)))))); refine ObsK.nil ?_; intro wz hBz; simp only [finOn, List.drop_succ_cons, List.drop_zero, List.drop_nil]
    rintro v9 ⟨A9, n9, c9, rfl, O9⟩
    go_simp
    have Zz := Z4.below hBz
    have zcz := Zz.cell
    have zl := Z4.lt
    obtain ⟨wf, hwf, Sf⟩ := store4 Zz (.int .u16 v0) (.int .u16 v2) (.bool false) (.slice A9 n9 c9)
    have pf := Sf.blk.cell
    have Tf := Sf.bel (below_then R4 hBz) (by omega)
    have Of := Sf.own O9 (fun a e => by have := O9.ge a e; omega)
    go_wp2_with fail
    refine bodyPost_ret (v := .tuple #[.agg #[.int .u16 v0, .int .u16 v2, .bool false, .slice A9 n9 c9], .int .i64 0]) (by simp [results, Try.results71, go_sem, pf]) rfl (by rw [HD.out]; exact ⟨A9, n9, c9, rfl, Of.mono r4s, Tf⟩)
theorem ud_ways (p : Pkt) (n2 : Nat) (l2 : p.dat.length = n2) :
    (udE p ≠ 0 ∧ ((udE p = 12 ∧ (p.proto != 17) = true) ∨ (udE p = 3 ∧ (p.proto != 17) = false ∧ (n2 : Int) < 8) ∨ (udE p = 4 ∧ (p.proto != 17) = false ∧ 8 ≤ (n2 : Int) ∧ (get16 p.dat 4 != (n2 : Int)) = true) ∨ (udE p = 5 ∧ (p.proto != 17) = false ∧ 8 ≤ (n2 : Int) ∧ (get16 p.dat 4 != (n2 : Int)) = false ∧ (get16 p.dat 6 == 0) = false ∧ (psum p 17 p.dat == 0) = false))) ∨
    (udE p = 0 ∧ (p.proto != 17) = false ∧ 8 ≤ (n2 : Int) ∧ (get16 p.dat 4 != (n2 : Int)) = false ∧ ((get16 p.dat 6 == 0) = true ∨ ((get16 p.dat 6 == 0) = false ∧ (psum p 17 p.dat == 0) = true))) := by
  unfold udE
  rw [l2]
  by_cases h1 : p.proto = 17
  · by_cases h2 : n2 < 8
    · have h2' : (n2 : Int) < 8 := by omega
      simp [h1, h2, h2']
    · have h2' : 8 ≤ (n2 : Int) := by omega
      by_cases h3 : get16 p.dat 4 = n2
      · by_cases h6 : get16 p.dat 6 = 0
        · simp [h1, h2, h2', h3, h6]
        · by_cases h5 : psum p 17 p.dat = 0
          · simp [h1, h2, h2', h3, h6, h5]
          · simp [h1, h2, h2', h3, h6, h5]
      · simp [h1, h2, h2', h3]
  · simp [h1]
theorem udp_any (p : Pkt) (hp : p.Ok) (A1 : Option Addr) (n1 c1 : Nat) (A2 : Option Addr) (n2 c2 : Nat) (w : World) (k2 : Bs w A2 n2 c2 p.dat) :
    Calls Try.prog 71 #[(.agg #[.int .u8 (p).tos, .int .u16 (p).id, .bool (p).keep, .int .u8 (p).ttl, .int .u8 (p).proto, .int .u32 (p).src, .int .u32 (p).dst, .slice A1 n1 c1, .slice A2 n2 c2])] w (DgPost w (udD p) (udE p)) := by
  unfold udD
  rcases ud_ways p n2 k2.len with ⟨h0, h⟩ | ⟨h0, h1, h2, h3, h⟩
  · rw [if_neg h0]
    exact udp_no p hp A1 n1 c1 A2 n2 c2 w k2 _ _ _ rfl rfl h
  · rw [if_pos h0, h0]
    exact udp_ok p hp A1 n1 c1 A2 n2 c2 w k2 _ _ rfl rfl h1 h2 h3 h
theorem rudp_no (p : Pkt) (hp : p.Ok) (A1 : Option Addr) (n1 c1 : Nat) (A2 : Option Addr) (n2 c2 : Nat) (w : World) (k2 : Bs w A2 n2 c2 p.dat) (E q4 : Int) (b6 : Bool) (hq4 : get16 p.dat 4 = q4) (hb6 : (get16 p.dat 6 == 0) = b6)
    (h : (E = 12 ∧ (p.proto != 17) = true) ∨ (E = 3 ∧ (p.proto != 17) = false ∧ (n2 : Int) < 8) ∨ (E = 4 ∧ (p.proto != 17) = false ∧ 8 ≤ (n2 : Int) ∧ (q4 != (n2 : Int)) = true) ∨ (E = 5 ∧ (p.proto != 17) = false ∧ 8 ≤ (n2 : Int) ∧ (q4 != (n2 : Int)) = false ∧ b6 = false ∧ (psum p 17 p.dat == 0) = false)) :
    Calls Try.prog 30 #[(.agg #[.int .u8 (p).tos, .int .u16 (p).id, .bool (p).keep, .int .u8 (p).ttl, .int .u8 (p).proto, .int .u32 (p).src, .int .u32 (p).dst, .slice A1 n1 c1, .slice A2 n2 c2])] w (DgPost w zD E) := by
  have b2 := k2.max
  have q0 : 0 ≤ q4 := by rw [← hq4]; exact get16_lo _ _
  have q1 : q4 ≤ 65535 := by rw [← hq4]; exact get16_hi _ _
  have hw4 : IntKind.i64.wrap q4 = q4 := by rw [IntKind.wrap_i64]; omega
  have g4 : ∀ W, Bs W A2 n2 c2 p.dat → Calls Try.prog 55 #[.slice A2 n2 c2, .int .i64 4] W fun e w' => e = .returned (.int .u16 q4) ∧ Drawn W w' := fun W k => by have := rget16_any A2 n2 c2 p.dat 4 W k; rw [hq4] at this; exact this
  obtain ⟨q6, hq6⟩ : ∃ q, get16 p.dat 6 = q := ⟨_, rfl⟩
  have g6 : ∀ W, Bs W A2 n2 c2 p.dat → Calls Try.prog 55 #[.slice A2 n2 c2, .int .i64 6] W fun e w' => e = .returned (.int .u16 q6) ∧ Drawn W w' := fun W k => by have := rget16_any A2 n2 c2 p.dat 6 W k; rw [hq6] at this; exact this
  rw [hq6] at hb6
  clear hq4 hq6
  obtain ⟨k, hk⟩ : ∃ k : Nat, w.heap.size = k := ⟨_, rfl⟩
  obtain ⟨w1, hw1⟩ : ∃ W, ((w.alloc (.cells #[.int .u8 (p).tos, .int .u16 (p).id, .bool (p).keep, .int .u8 (p).ttl, .int .u8 (p).proto, .int .u32 (p).src, .int .u32 (p).dst, .slice A1 n1 c1, .slice A2 n2 c2] 26)).alloc (.cells #[.int .u16 0, .int .u16 0, .bool false, .slice none 0 0] 45)) = W := ⟨_, rfl⟩
  have P1 : Blk w1 k #[.int .u8 (p).tos, .int .u16 (p).id, .bool (p).keep, .int .u8 (p).ttl, .int .u8 (p).proto, .int .u32 (p).src, .int .u32 (p).dst, .slice A1 n1 c1, .slice A2 n2 c2] 26 := by rw [← hw1]; exact ((blk_new _ _ _ k (by simp [hk])).alloc _)
  have Z1 : Blk w1 (k + 1) #[.int .u16 0, .int .u16 0, .bool false, .slice none 0 0] 45 := by rw [← hw1]; exact (blk_new _ _ _ (k + 1) (by simp [hk]))
  have R1 : Below w.heap.size w w1 := by rw [← hw1]; (repeat (first | with_reducible exact Below.refl _ _ | with_reducible refine below_drew ?_ | with_reducible refine below_drewN ?_ _ | with_reducible refine below_alloc ?_ (Nat.le_refl _) _ | with_reducible refine Below.setCell ?_ (by first | exact Nat.le_refl _ | (simp only []; omega)) _ | with_reducible assumption))
  have Pc1 := P1.cell
  have Zc1 := Z1.cell
  have Pl1 := P1.lt
  have Zl1 := Z1.lt
  have x1 := (k2).below R1
  rcases h with ⟨rfl, h1⟩ | ⟨rfl, h1, h2⟩ | ⟨rfl, h1, h2, h3⟩ | ⟨rfl, h1, h2, h3, rfl, h5⟩
  · go_enter Try.func30, Try.ntmps30
    go_wp2_with fail
    obtain ⟨wf, hwf, Sf⟩ := store4 Z1 (.int .u16 0) (.int .u16 0) (.bool false) (.slice none 0 0)
    rw [hwf]
    have pf := Sf.blk.cell
    exact bodyPost_ret (by simp [results, Try.results30, go_sem, pf]) rfl (dgPost_no (Sf.bel R1 (by omega)))
  · go_enter Try.func30, Try.ntmps30
    go_wp2_with fail
    obtain ⟨wf, hwf, Sf⟩ := store4 Z1 (.int .u16 0) (.int .u16 0) (.bool false) (.slice none 0 0)
    rw [hwf]
    have pf := Sf.blk.cell
    exact bodyPost_ret (by simp [results, Try.results30, go_sem, pf]) rfl (dgPost_no (Sf.bel R1 (by omega)))
  · go_enter Try.func30, Try.ntmps30
    go_wp2_with (go_at_call 55; ((with_reducible refine (g4 w1 x1).mono ?_); rintro e w2 ⟨rfl, hD2⟩); have hB2 := hD2.bel; have P2 := P1.below hB2; have Pc2 := P2.cell; clear Pc1; have Z2 := Z1.below hB2; have Zc2 := Z2.cell; clear Zc1; have x2 := x1.below hB2; have R2 := below_then R1 hB2)
    obtain ⟨wf, hwf, Sf⟩ := store4 Z2 (.int .u16 0) (.int .u16 0) (.bool false) (.slice none 0 0)
    rw [hwf]
    have pf := Sf.blk.cell
    exact bodyPost_ret (by simp [results, Try.results30, go_sem, pf]) rfl (dgPost_no (Sf.bel R2 (by omega)))

  · have n2b : n2 ≤ 17592186044400 := by have : q4 = n2 := by simpa using h3
                                         omega
    have h6 : ∀ z : Int, (z == 0) = false → (z != 0) = true := fun z h => by simpa using h
    have h5' := h6 _ h5
    go_enter Try.func30, Try.ntmps30
    go_wp2_with (first
      | (go_at_call 55; ((with_reducible refine (g4 w1 x1).mono ?_); rintro e w2 ⟨rfl, hD2⟩); have hB2 := hD2.bel; have P2 := P1.below hB2; have Pc2 := P2.cell; clear Pc1; have Z2 := Z1.below hB2; have Zc2 := Z2.cell; clear Zc1; have x2 := x1.below hB2; have R2 := below_then R1 hB2)
      | (go_at_call 55; ((with_reducible refine (g6 w2 x2).mono ?_); rintro e w3 ⟨rfl, hD3⟩); have hB3 := hD3.bel; have P3 := P2.below hB3; have Pc3 := P3.cell; clear Pc2; have Z3 := Z2.below hB3; have Zc3 := Z3.cell; clear Zc2; have x3 := x2.below hB3; have R3 := below_then R2 hB3)
      | (go_at_call 39; ((with_reducible refine (rssum_any p hp A1 n1 c1 A2 n2 c2 17 (by omega) (by omega) A2 n2 c2 p.dat w3 x3 n2b).mono ?_); rintro e w4 ⟨rfl, hB4⟩); have P4 := P3.below hB4; have Pc4 := P4.cell; clear Pc3; have Z4 := Z3.below hB4; have Zc4 := Z4.cell; clear Zc3; have x4 := x3.below hB4; have R4 := below_then R3 hB4))
    obtain ⟨wf, hwf, Sf⟩ := store4 Z4 (.int .u16 0) (.int .u16 0) (.bool false) (.slice none 0 0)
    rw [hwf]
    have pf := Sf.blk.cell
    exact bodyPost_ret (by simp [results, Try.results30, go_sem, pf]) rfl (dgPost_no (Sf.bel R4 (by omega)))
theorem rudp_ok (p : Pkt) (hp : p.Ok) (A1 : Option Addr) (n1 c1 : Nat) (A2 : Option Addr) (n2 c2 : Nat) (w : World) (k2 : Bs w A2 n2 c2 p.dat) (q4 : Int) (b6 : Bool) (hq4 : get16 p.dat 4 = q4) (hb6 : (get16 p.dat 6 == 0) = b6)
    (h1 : (p.proto != 17) = false) (h2 : 8 ≤ (n2 : Int)) (h3 : (q4 != (n2 : Int)) = false) (h : b6 = true ∨ (b6 = false ∧ (psum p 17 p.dat == 0) = true)) :
    Calls Try.prog 30 #[(.agg #[.int .u8 (p).tos, .int .u16 (p).id, .bool (p).keep, .int .u8 (p).ttl, .int .u8 (p).proto, .int .u32 (p).src, .int .u32 (p).dst, .slice A1 n1 c1, .slice A2 n2 c2])] w (DgPost w (rdD p.dat) 0) := by
  have hlL : p.dat.take n2 = p.dat := List.take_of_length_le (by rw [k2.len]; exact Nat.le_refl _)
  obtain ⟨i8, hi8, -, hs8, -⟩ := info_parts info_u8
  have b2 := k2.max
  have hcap := k2.cap
  obtain ⟨b, off, rfl⟩ := k2.some_ (by omega)
  have hcut : ∀ W, (Instr.slice 24 (.slice (some ⟨b, off, none⟩) n2 c2) (some (.int .i64 8)) none none).run Try.prog W = _ := fun W => cut_l Try.underlying24 hi8 hs8 (some ⟨b, off, none⟩) n2 c2 .i64 8 (by omega) (by omega) W
  obtain ⟨A', n', c', eA, en, ec, hbD⟩ := k2.cutE (lo := 8) (hi := n2) (by omega) (Nat.le_refl _)
  simp only [show (8 : Int).toNat = 8 from rfl, eA, en, ec] at hcut
  rw [hlL] at hbD
  have hn' : n' ≤ n2 := by omega
  clear eA en ec hlL
  have q0 : 0 ≤ q4 := by rw [← hq4]; exact get16_lo _ _
  have q1 : q4 ≤ 65535 := by rw [← hq4]; exact get16_hi _ _
  have hw4 : IntKind.i64.wrap q4 = q4 := by rw [IntKind.wrap_i64]; omega
  have g4 : ∀ W, Bs W (some ⟨b, off, none⟩) n2 c2 p.dat → Calls Try.prog 55 #[.slice (some ⟨b, off, none⟩) n2 c2, .int .i64 4] W fun e w' => e = .returned (.int .u16 q4) ∧ Drawn W w' := fun W k => by have := rget16_any (some ⟨b, off, none⟩) n2 c2 p.dat 4 W k; rw [hq4] at this; exact this
  obtain ⟨q6, hq6⟩ : ∃ q, get16 p.dat 6 = q := ⟨_, rfl⟩
  have g6 : ∀ W, Bs W (some ⟨b, off, none⟩) n2 c2 p.dat → Calls Try.prog 55 #[.slice (some ⟨b, off, none⟩) n2 c2, .int .i64 6] W fun e w' => e = .returned (.int .u16 q6) ∧ Drawn W w' := fun W k => by have := rget16_any (some ⟨b, off, none⟩) n2 c2 p.dat 6 W k; rw [hq6] at this; exact this
  rw [hq6] at hb6
  have HQ6 := Lib.hid hq6
  clear hq4 hq6
  obtain ⟨v0, hv0⟩ : ∃ q, get16 p.dat 0 = q := ⟨_, rfl⟩
  obtain ⟨v2, hv2⟩ : ∃ q, get16 p.dat 2 = q := ⟨_, rfl⟩
  have g0 : ∀ W, Bs W (some ⟨b, off, none⟩) n2 c2 p.dat → Calls Try.prog 55 #[.slice (some ⟨b, off, none⟩) n2 c2, .int .i64 0] W fun e w' => e = .returned (.int .u16 v0) ∧ Drawn W w' := fun W k => by have := rget16_any (some ⟨b, off, none⟩) n2 c2 p.dat 0 W k; rw [hv0] at this; exact this
  have g2 : ∀ W, Bs W (some ⟨b, off, none⟩) n2 c2 p.dat → Calls Try.prog 55 #[.slice (some ⟨b, off, none⟩) n2 c2, .int .i64 2] W fun e w' => e = .returned (.int .u16 v2) ∧ Drawn W w' := fun W k => by have := rget16_any (some ⟨b, off, none⟩) n2 c2 p.dat 2 W k; rw [hv2] at this; exact this
  have HD : Hid (rdD p.dat = ⟨v0, v2, b6, p.dat.drop 8⟩) := by unfold Hid rdD; rw [hv0, hv2, HQ6.out, hb6]
  clear hv0 hv2
  have n2b : n2 ≤ 100000 := by have : q4 = n2 := by simpa using h3
                               omega
  obtain ⟨k, hk⟩ : ∃ k : Nat, w.heap.size = k := ⟨_, rfl⟩
  obtain ⟨w1, hw1⟩ : ∃ W, ((w.alloc (.cells #[.int .u8 (p).tos, .int .u16 (p).id, .bool (p).keep, .int .u8 (p).ttl, .int .u8 (p).proto, .int .u32 (p).src, .int .u32 (p).dst, .slice A1 n1 c1, .slice (some ⟨b, off, none⟩) n2 c2] 26)).alloc (.cells #[.int .u16 0, .int .u16 0, .bool false, .slice none 0 0] 45)) = W := ⟨_, rfl⟩
  have P1 : Blk w1 k #[.int .u8 (p).tos, .int .u16 (p).id, .bool (p).keep, .int .u8 (p).ttl, .int .u8 (p).proto, .int .u32 (p).src, .int .u32 (p).dst, .slice A1 n1 c1, .slice (some ⟨b, off, none⟩) n2 c2] 26 := by rw [← hw1]; exact ((blk_new _ _ _ k (by simp [hk])).alloc _)
  have Z1 : Blk w1 (k + 1) #[.int .u16 0, .int .u16 0, .bool false, .slice none 0 0] 45 := by rw [← hw1]; exact (blk_new _ _ _ (k + 1) (by simp [hk]))
  have R1 : Below w.heap.size w w1 := by rw [← hw1]; (repeat (first | with_reducible exact Below.refl _ _ | with_reducible refine below_drew ?_ | with_reducible refine below_drewN ?_ _ | with_reducible refine below_alloc ?_ (Nat.le_refl _) _ | with_reducible refine Below.setCell ?_ (by first | exact Nat.le_refl _ | (simp only []; omega)) _ | with_reducible assumption))
  have Pc1 := P1.cell
  have Zc1 := Z1.cell
  have Pl1 := P1.lt
  have Zl1 := Z1.lt
  have x1 := (k2).below R1
  rcases h with rfl | ⟨rfl, h5⟩
  · go_enter Try.func30, Try.ntmps30
    go_wp2_with (first
      | (go_at_call 55; ((with_reducible refine (g4 w1 x1).mono ?_); rintro e w2 ⟨rfl, hD2⟩); have hB2 := hD2.bel; have P2 := P1.below hB2; have Pc2 := P2.cell; clear Pc1; have Z2 := Z1.below hB2; have Zc2 := Z2.cell; clear Zc1; have x2 := x1.below hB2; have R2 := below_then R1 hB2)
      | (go_at_call 55; ((with_reducible refine (g6 w2 x2).mono ?_); rintro e w3 ⟨rfl, hD3⟩); have hB3 := hD3.bel; have P3 := P2.below hB3; have Pc3 := P3.cell; clear Pc2; have Z3 := Z2.below hB3; have Zc3 := Z3.cell; clear Zc2; have x3 := x2.below hB3; have R3 := below_then R2 hB3)
      | (go_at_call 55; ((with_reducible refine (g0 w3 x3).mono ?_); rintro e w4 ⟨rfl, hD4⟩); have hB4 := hD4.bel; have P4 := P3.below hB4; have Pc4 := P4.cell; clear Pc3; have Z4 := Z3.below hB4; have Zc4 := Z4.cell; clear Zc3; have x4 := x3.below hB4; have R4 := below_then R3 hB4)
      | (go_at_call 55; ((with_reducible refine (g2 w4 x4).mono ?_); rintro e w5 ⟨rfl, hD5⟩); have hB5 := hD5.bel; have P5 := P4.below hB5; have Pc5 := P5.cell; clear Pc4; have Z5 := Z4.below hB5; have Zc5 := Z5.cell; clear Zc4; have x5 := x4.below hB5; have R5 := below_then R4 hB5))
    obtain ⟨wq, hwq⟩ : ∃ W, w5.alloc (.cells #[.int .u16 v0, .int .u16 v2, .bool true, .slice none 0 0] 45) = W := ⟨_, rfl⟩
    have G := blk_new w5 #[.int .u16 v0, .int .u16 v2, .bool true, .slice none 0 0] 45 _ rfl
    have Vq : Below w5.heap.size w5 wq := by rw [← hwq]; (repeat (first | with_reducible exact Below.refl _ _ | with_reducible refine below_drew ?_ | with_reducible refine below_drewN ?_ _ | with_reducible refine below_alloc ?_ (Nat.le_refl _) _ | with_reducible refine Below.setCell ?_ (by first | exact Nat.le_refl _ | (simp only []; omega)) _ | with_reducible assumption))
    rw [hwq] at G ⊢
    have Zq := Z5.below Vq
    have Tq := below_then R5 Vq
    have Dq := hbD.below Tq
    have zl := Z5.lt
    have rs := R5.size
    have hg : w.heap.size ≤ w5.heap.size := rs
    clear hwq
    refine region_txt 4 (by kernel_rfl) (by kernel_rfl) ?_; (iterate 4 (first | (apply ObsK.skip (by rfl)) | (apply ObsK.v (by rfl); (intro wo hT; (repeat (first | (intro _ _ k; try have hcv := cv k))); (have gc := (G.below hT).cell); refine Goes.mk ?_; go_simp; first | exact goes_v | exact goes_b (by assumption) | (refine goes_enter ?_; first | fail))) | (apply ObsK.b (by rfl); (intro wo hT; (repeat (first | (intro _ _ k; try have hcv := cv k))); (have gc := (G.below hT).cell); refine Goes.mk ?_; go_simp; first | exact goes_v | exact goes_b (by assumption) | (refine goes_enter ?_; first | fail))))); refine ObsK.nil ?_; intro wz hBz; simp only [finOn, List.drop_succ_cons, List.drop_zero, List.drop_nil]
    go_simp
    have G5 := G.below hBz
    have Z5 := Zq.below hBz
    have T5 := below_then Tq hBz
    have D5 := Dq.below hBz
    have gs := hBz.size
    have gl := G.lt
    go_wp2_with (first
      | (at_builtin; refine wpList_append_bs (w0 := wz) _ rfl _ _ _ rfl wz.heap.size 5 Try.underlying24 info_u8 none 0 0 [] rfl (own_nil _ _ _) A' n' c' _ rfl D5 (Below.refl _ _) (by omega) (by first | exact Nat.le_refl _ | exact Below.size (Below.refl _ _) | omega | (simp <;> omega)) ?_; intro A7 n7 c7 w7 ho7 hB7 _ hz7; have u7 : n7 = n' := (by have := ho7.len; have := D5.len; simp at *; omega); subst u7; replace ho7 : Own w7 wz.heap.size 5 A7 n7 c7 (p.dat.drop 8) := ho7; have G7 := G5.below hB7; have gc7 := G7.cell; (obtain ⟨w8, hw8, S8⟩ := store1 G7 3 (.slice A7 n7 c7)); simp only [List.setIfInBounds_toArray, List.set_cons_zero, List.set_cons_succ] at S8; have gc8 := S8.blk.cell; have Z8 := S8.other (by omega) (Z5.below hB7); have zc8 := Z8.cell; have T8 := S8.bel (below_then T5 hB7) (by omega); have O8 := S8.own ho7 (fun a e => by have := ho7.ge a e; omega)))
    obtain ⟨wf, hwf, Sf⟩ := store4 Z8 (.int .u16 v0) (.int .u16 v2) (.bool true) (.slice A7 n7 c7)
    rw [hwf]
    have pf := Sf.blk.cell
    have Of := Sf.own O8 (fun a e => by have := ho7.ge a e; omega)
    have s5 := T5.size
    refine bodyPost_ret (v := .tuple #[.agg #[.int .u16 v0, .int .u16 v2, .bool true, .slice A7 n7 c7], .int .i64 0]) (by simp [results, Try.results30, go_sem, pf]) rfl (by rw [HD.out]; exact ⟨A7, n7, c7, rfl, Of.mono s5, Sf.bel T8 (by omega)⟩)

  · have h6 : ∀ z : Int, (z == 0) = true → (z != 0) = false := fun z h => by simpa using h
    have h5' := h6 _ h5
    go_enter Try.func30, Try.ntmps30
    go_wp2_with (first
      | (go_at_call 55; ((with_reducible refine (g4 w1 x1).mono ?_); rintro e w2 ⟨rfl, hD2⟩); have hB2 := hD2.bel; have P2 := P1.below hB2; have Pc2 := P2.cell; clear Pc1; have Z2 := Z1.below hB2; have Zc2 := Z2.cell; clear Zc1; have x2 := x1.below hB2; have R2 := below_then R1 hB2)
      | (go_at_call 55; ((with_reducible refine (g6 w2 x2).mono ?_); rintro e w3 ⟨rfl, hD3⟩); have hB3 := hD3.bel; have P3 := P2.below hB3; have Pc3 := P3.cell; clear Pc2; have Z3 := Z2.below hB3; have Zc3 := Z3.cell; clear Zc2; have x3 := x2.below hB3; have R3 := below_then R2 hB3)
      | (go_at_call 39; ((with_reducible refine (rssum_any p hp A1 n1 c1 (some ⟨b, off, none⟩) n2 c2 17 (by omega) (by omega) (some ⟨b, off, none⟩) n2 c2 p.dat w3 x3 (by omega)).mono ?_); rintro e w4 ⟨rfl, hB4⟩); have P4 := P3.below hB4; have Pc4 := P4.cell; clear Pc3; have Z4 := Z3.below hB4; have Zc4 := Z4.cell; clear Zc3; have x4 := x3.below hB4; have R4 := below_then R3 hB4)
      | (go_at_call 55; ((with_reducible refine (g0 w4 x4).mono ?_); rintro e w5 ⟨rfl, hD5⟩); have hB5 := hD5.bel; have P5 := P4.below hB5; have Pc5 := P5.cell; clear Pc4; have Z5 := Z4.below hB5; have Zc5 := Z5.cell; clear Zc4; have x5 := x4.below hB5; have R5 := below_then R4 hB5)
      | (go_at_call 55; ((with_reducible refine (g2 w5 x5).mono ?_); rintro e w6 ⟨rfl, hD6⟩); have hB6 := hD6.bel; have P6 := P5.below hB6; have Pc6 := P6.cell; clear Pc5; have Z6 := Z5.below hB6; have Zc6 := Z6.cell; clear Zc5; have x6 := x5.below hB6; have R6 := below_then R5 hB6))
    obtain ⟨wq, hwq⟩ : ∃ W, w6.alloc (.cells #[.int .u16 v0, .int .u16 v2, .bool false, .slice none 0 0] 45) = W := ⟨_, rfl⟩
    have G := blk_new w6 #[.int .u16 v0, .int .u16 v2, .bool false, .slice none 0 0] 45 _ rfl
    have Vq : Below w6.heap.size w6 wq := by rw [← hwq]; (repeat (first | with_reducible exact Below.refl _ _ | with_reducible refine below_drew ?_ | with_reducible refine below_drewN ?_ _ | with_reducible refine below_alloc ?_ (Nat.le_refl _) _ | with_reducible refine Below.setCell ?_ (by first | exact Nat.le_refl _ | (simp only []; omega)) _ | with_reducible assumption))
    rw [hwq] at G ⊢
    have Zq := Z6.below Vq
    have Tq := below_then R6 Vq
    have Dq := hbD.below Tq
    have zl := Z6.lt
    have rs := R6.size
    have hg : w.heap.size ≤ w6.heap.size := rs
    clear hwq
    refine region_txt 4 (by kernel_rfl) (by kernel_rfl) ?_; (iterate 4 (first | (apply ObsK.skip (by rfl)) | (apply ObsK.v (by rfl); (intro wo hT; (repeat (first | (intro _ _ k; try have hcv := cv k))); (have gc := (G.below hT).cell); refine Goes.mk ?_; go_simp; first | exact goes_v | exact goes_b (by assumption) | (refine goes_enter ?_; first | fail))) | (apply ObsK.b (by rfl); (intro wo hT; (repeat (first | (intro _ _ k; try have hcv := cv k))); (have gc := (G.below hT).cell); refine Goes.mk ?_; go_simp; first | exact goes_v | exact goes_b (by assumption) | (refine goes_enter ?_; first | fail))))); refine ObsK.nil ?_; intro wz hBz; simp only [finOn, List.drop_succ_cons, List.drop_zero, List.drop_nil]
    go_simp
    have G5 := G.below hBz
    have Z5 := Zq.below hBz
    have T5 := below_then Tq hBz
    have D5 := Dq.below hBz
    have gs := hBz.size
    have gl := G.lt
    go_wp2_with (first
      | (at_builtin; refine wpList_append_bs (w0 := wz) _ rfl _ _ _ rfl wz.heap.size 5 Try.underlying24 info_u8 none 0 0 [] rfl (own_nil _ _ _) A' n' c' _ rfl D5 (Below.refl _ _) (by omega) (by first | exact Nat.le_refl _ | exact Below.size (Below.refl _ _) | omega | (simp <;> omega)) ?_; intro A7 n7 c7 w7 ho7 hB7 _ hz7; have u7 : n7 = n' := (by have := ho7.len; have := D5.len; simp at *; omega); subst u7; replace ho7 : Own w7 wz.heap.size 5 A7 n7 c7 (p.dat.drop 8) := ho7; have G7 := G5.below hB7; have gc7 := G7.cell; (obtain ⟨w8, hw8, S8⟩ := store1 G7 3 (.slice A7 n7 c7)); simp only [List.setIfInBounds_toArray, List.set_cons_zero, List.set_cons_succ] at S8; have gc8 := S8.blk.cell; have Z8 := S8.other (by omega) (Z5.below hB7); have zc8 := Z8.cell; have T8 := S8.bel (below_then T5 hB7) (by omega); have O8 := S8.own ho7 (fun a e => by have := ho7.ge a e; omega)))
    obtain ⟨wf, hwf, Sf⟩ := store4 Z8 (.int .u16 v0) (.int .u16 v2) (.bool false) (.slice A7 n7 c7)
    rw [hwf]
    have pf := Sf.blk.cell
    have Of := Sf.own O8 (fun a e => by have := ho7.ge a e; omega)
    have s5 := T5.size
    refine bodyPost_ret (v := .tuple #[.agg #[.int .u16 v0, .int .u16 v2, .bool false, .slice A7 n7 c7], .int .i64 0]) (by simp [results, Try.results30, go_sem, pf]) rfl (by rw [HD.out]; exact ⟨A7, n7, c7, rfl, Of.mono s5, Sf.bel T8 (by omega)⟩)
theorem rudp_any (p : Pkt) (hp : p.Ok) (A1 : Option Addr) (n1 c1 : Nat) (A2 : Option Addr) (n2 c2 : Nat) (w : World) (k2 : Bs w A2 n2 c2 p.dat) :
    Calls Try.prog 30 #[(.agg #[.int .u8 (p).tos, .int .u16 (p).id, .bool (p).keep, .int .u8 (p).ttl, .int .u8 (p).proto, .int .u32 (p).src, .int .u32 (p).dst, .slice A1 n1 c1, .slice A2 n2 c2])] w (DgPost w (udD p) (udE p)) := by
  unfold udD
  rcases ud_ways p n2 k2.len with ⟨h0, h⟩ | ⟨h0, h1, h2, h3, h⟩
  · rw [if_neg h0]
    exact rudp_no p hp A1 n1 c1 A2 n2 c2 w k2 _ _ _ rfl rfl h
  · rw [if_pos h0, h0]
    exact rudp_ok p hp A1 n1 c1 A2 n2 c2 w k2 _ _ rfl rfl h1 h2 h3 h
end Go.Proofs.Ythgoffbfgdgkpaa

/- The document's packet with a segment. -/
namespace Go.Proofs.Ythgoffbfgdgkpaa
open Go.RowKit
set_option linter.unusedVariables false
set_option linter.unusedSimpArgs false
set_option linter.unusedSimpArgs false
set_option maxHeartbeats 4000000
set_option maxRecDepth 100000

theorem bs00 (W : World) : Bs (W.alloc (.cells #[.int .u8 0, .int .u8 0] 5)) (some ⟨W.heap.size, 0, none⟩) 2 2 [0, 0] := bs_lit (W := W) (e := 5) [0, 0] 2 rfl (by omega)
theorem own_lt {w : World} {base : Nat} {e : TypeId} {A : Option Addr} {n c : Nat} {l : List UInt8} (h : Own w base e A n c l) {a : Addr} (ha : A = some a) : a.block < w.heap.size := by
  rcases h.row.2 with ⟨hv, _⟩ | ⟨g, cap, cur, hv, _, hg, _⟩
  · injection hv with hv; rw [hv] at ha; cases ha
  · injection hv with hv
    rw [hv] at ha
    injection ha with ha
    subst ha
    exact (Array.getElem?_eq_some_iff.1 hg).1
theorem rsbuild_no (p : Pkt) (X1 : Option Addr) (m1 j1 : Nat) (X2 : Option Addr) (m2 j2 : Nat) (s : Seg) (OA : Option Addr) (on oc : Nat) (DA : Option Addr) (dn dc : Nat) (w : World) (K : Os w OA on oc s.opts) (hok : okOs s.opts = false) :
    Calls Try.prog 19 #[(.agg #[.int .u8 (p).tos, .int .u16 (p).id, .bool (p).keep, .int .u8 (p).ttl, .int .u8 (p).proto, .int .u32 (p).src, .int .u32 (p).dst, .slice X1 m1 j1, .slice X2 m2 j2]), (.agg #[.int .u16 (s).src, .int .u16 (s).dst, .int .u32 (s).seq, .int .u32 (s).ack, .int .u8 (s).flags, .int .u16 (s).win, .int .u16 (s).urg, .slice OA on oc, .slice DA dn dc])] w (WiPost w zP 4) := by
  have hro : ∀ W, Below w.heap.size w W → Calls Try.prog 36 #[.slice OA on oc] W fun e w' => ∃ A n c, e = .returned (.tuple #[.slice A n c, .bool false]) ∧ Below W.heap.size W w' := fun W hB => by
    refine (ropts_any OA on oc s.opts W (K.below hB)).mono ?_
    rintro e w' ⟨A, n, c, rfl, -, hB'⟩
    rw [hok]
    exact ⟨A, n, c, rfl, hB'⟩
  clear hok K
  obtain ⟨k, hk⟩ : ∃ k : Nat, w.heap.size = k := ⟨_, rfl⟩
  obtain ⟨w1, hw1⟩ : ∃ W, (((w.alloc (.cells #[.int .u8 (p).tos, .int .u16 (p).id, .bool (p).keep, .int .u8 (p).ttl, .int .u8 (p).proto, .int .u32 (p).src, .int .u32 (p).dst, .slice X1 m1 j1, .slice X2 m2 j2] 26)).alloc (.cells #[.int .u16 (s).src, .int .u16 (s).dst, .int .u32 (s).seq, .int .u32 (s).ack, .int .u8 (s).flags, .int .u16 (s).win, .int .u16 (s).urg, .slice OA on oc, .slice DA dn dc] 42)).alloc (.cells #[.int .u8 0, .int .u16 0, .bool false, .int .u8 0, .int .u8 0, .int .u32 0, .int .u32 0, .slice none 0 0, .slice none 0 0] 26)) = W := ⟨_, rfl⟩
  have P1 : Blk w1 k #[.int .u8 (p).tos, .int .u16 (p).id, .bool (p).keep, .int .u8 (p).ttl, .int .u8 (p).proto, .int .u32 (p).src, .int .u32 (p).dst, .slice X1 m1 j1, .slice X2 m2 j2] 26 := by rw [← hw1]; exact (((blk_new _ _ _ k (by simp [hk])).alloc _).alloc _)
  have S1 : Blk w1 (k + 1) #[.int .u16 (s).src, .int .u16 (s).dst, .int .u32 (s).seq, .int .u32 (s).ack, .int .u8 (s).flags, .int .u16 (s).win, .int .u16 (s).urg, .slice OA on oc, .slice DA dn dc] 42 := by rw [← hw1]; exact ((blk_new _ _ _ (k + 1) (by simp [hk])).alloc _)
  have Z1 : Blk w1 (k + 1 + 1) #[.int .u8 0, .int .u16 0, .bool false, .int .u8 0, .int .u8 0, .int .u32 0, .int .u32 0, .slice none 0 0, .slice none 0 0] 26 := by rw [← hw1]; exact (blk_new _ _ _ (k + 1 + 1) (by simp [hk]))
  have R1 : Below w.heap.size w w1 := by rw [← hw1]; (repeat (first | with_reducible exact Below.refl _ _ | with_reducible refine below_drew ?_ | with_reducible refine below_drewN ?_ _ | with_reducible refine below_alloc ?_ (Nat.le_refl _) _ | with_reducible refine Below.setCell ?_ (by first | exact Nat.le_refl _ | (simp only []; omega)) _ | with_reducible assumption))
  have Pc1 := P1.cell
  have Sc1 := S1.cell
  have Zc1 := Z1.cell
  have Pl1 := P1.lt
  have Sl1 := S1.lt
  have Zl1 := Z1.lt
  go_enter Try.func19, Try.ntmps19
  go_wp2_with (go_at_call 36; ((with_reducible refine (hro w1 R1).mono ?_); rintro e w2 ⟨A2, n2, c2, rfl, hB2⟩); have P2 := P1.below hB2; have Pc2 := P2.cell; clear Pc1; have S2 := S1.below hB2; have Sc2 := S2.cell; clear Sc1; have Z2 := Z1.below hB2; have Zc2 := Z2.cell; clear Zc1; have R2 := below_then R1 hB2)
  obtain ⟨wh, hwh, Sh⟩ := store9 Z2 (.int .u8 0) (.int .u16 0) (.bool false) (.int .u8 0) (.int .u8 0) (.int .u32 0) (.int .u32 0) (.slice none 0 0) (.slice none 0 0)
  rw [hwh]
  have ph := Sh.blk.cell
  exact bodyPost_ret (by simp [results, Try.results19, go_sem, ph]) rfl (wiPost_no (Sh.bel R2 (by omega)))
theorem sL_of2 (s : Seg) (x : Int) (hx : ((20 + (optL s.opts).length : Nat) : Int) / 4 * 16 = x) : ((((((((([] ++ two s.src) ++ two s.dst) ++ four s.seq) ++ four s.ack) ++ [ub x, ub s.flags]) ++ two s.win) ++ [0, 0]) ++ two s.urg) ++ optL s.opts) ++ s.dat = sL s := by
  subst hx; rfl
theorem rsbuild_yes (p : Pkt) (hp : p.Ok) (X1 : Option Addr) (m1 j1 : Nat) (X2 : Option Addr) (m2 j2 : Nat) (s : Seg) (hs : s.Ok) (OA : Option Addr) (on oc : Nat) (DA : Option Addr) (dn dc : Nat) (w : World) (k1 : Bs w X1 m1 j1 p.opt) (K : Os w OA on oc s.opts) (kd : Bs w DA dn dc s.dat) (hdn : dn ≤ 140737488400000) (hok : okOs s.opts = true) :
    Calls Try.prog 19 #[(.agg #[.int .u8 (p).tos, .int .u16 (p).id, .bool (p).keep, .int .u8 (p).ttl, .int .u8 (p).proto, .int .u32 (p).src, .int .u32 (p).dst, .slice X1 m1 j1, .slice X2 m2 j2]), (.agg #[.int .u16 (s).src, .int .u16 (s).dst, .int .u32 (s).seq, .int .u32 (s).ack, .int .u8 (s).flags, .int .u16 (s).win, .int .u16 (s).urg, .slice OA on oc, .slice DA dn dc])] w (WiPost w (sbP p s) (sbE p s)) := by
  obtain ⟨⟨a0, a1⟩, ⟨d0, d1⟩, ⟨q0, q1⟩, ⟨r0, r1⟩, ⟨f0, f1⟩, ⟨v0, v1⟩, ⟨g0, g1⟩, -⟩ := hs
  have HOK := Lib.hid hok
  obtain ⟨on2, hon2⟩ : ∃ n, (optL s.opts).length = n := ⟨_, rfl⟩
  have ho1 := okOs_len hok
  have ho2 := (optL_len s.opts).2
  rw [hon2] at ho1 ho2
  have bd := kd.max
  have hro : ∀ W, Below w.heap.size w W → Calls Try.prog 36 #[.slice OA on oc] W fun e w' => ∃ A c, e = .returned (.tuple #[.slice A on2 c, .bool true]) ∧ Own w' W.heap.size 5 A on2 c (optL s.opts) ∧ Below W.heap.size W w' := fun W hB => by
    refine (ropts_any OA on oc s.opts W (K.below hB)).mono ?_
    rintro e w' ⟨A, n, c, rfl, ho, hB'⟩
    have h1 := ho hok
    obtain rfl : n = on2 := by rw [← h1.len]; exact hon2
    rw [hok]
    exact ⟨A, c, rfl, h1, hB'⟩
  have hx := sL_of2 s _ rfl
  rw [hon2] at hx
  obtain ⟨x, hxe⟩ : ∃ x, ((20 + on2 : Nat) : Int) / 4 * 16 = x := ⟨_, rfl⟩
  rw [hxe] at hx
  have HX := Lib.hid hx
  have x0 : 0 ≤ x := by omega
  have x1 : x ≤ 255 := by omega
  obtain ⟨y, hy⟩ : ∃ y : Int, 20 + (on2 : Int) = y := ⟨_, rfl⟩
  have y0 : 0 ≤ y := by omega
  have hq0 : IntKind.i64.wrap (20 + (on2 : Int)) = y := by rw [IntKind.wrap_i64]; omega
  obtain ⟨z, hz⟩ : ∃ z : Int, y / 4 = z := ⟨_, rfl⟩
  have hq1 : wrap64 (y.tdiv 4) = z := by rw [Int.tdiv_eq_ediv_of_nonneg y0, hz]; unfold wrap64; omega
  have hq2 : wrap64 (z * 16) = x := by rw [show z * 16 = x from by omega]; unfold wrap64; omega
  have hq3 : x % 256 = x := by omega
  have HZZ := Lib.hid hz
  clear hz
  have hon40 : on2 ≤ 40 := ho1
  have HON := Lib.hid hon2
  have HX2 := Lib.hid hxe
  have HY := Lib.hid hy
  clear hok K hx hxe hy hon2 ho1 ho2
  have LX := fun W => (lit2 (e := 5) x0 x1 f0 f1 W).bs
  obtain ⟨k, hk⟩ : ∃ k : Nat, w.heap.size = k := ⟨_, rfl⟩
  obtain ⟨w1, hw1⟩ : ∃ W, (((w.alloc (.cells #[.int .u8 (p).tos, .int .u16 (p).id, .bool (p).keep, .int .u8 (p).ttl, .int .u8 (p).proto, .int .u32 (p).src, .int .u32 (p).dst, .slice X1 m1 j1, .slice X2 m2 j2] 26)).alloc (.cells #[.int .u16 (s).src, .int .u16 (s).dst, .int .u32 (s).seq, .int .u32 (s).ack, .int .u8 (s).flags, .int .u16 (s).win, .int .u16 (s).urg, .slice OA on oc, .slice DA dn dc] 42)).alloc (.cells #[.int .u8 0, .int .u16 0, .bool false, .int .u8 0, .int .u8 0, .int .u32 0, .int .u32 0, .slice none 0 0, .slice none 0 0] 26)) = W := ⟨_, rfl⟩
  have P1 : Blk w1 k #[.int .u8 (p).tos, .int .u16 (p).id, .bool (p).keep, .int .u8 (p).ttl, .int .u8 (p).proto, .int .u32 (p).src, .int .u32 (p).dst, .slice X1 m1 j1, .slice X2 m2 j2] 26 := by rw [← hw1]; exact (((blk_new _ _ _ k (by simp [hk])).alloc _).alloc _)
  have S1 : Blk w1 (k + 1) #[.int .u16 (s).src, .int .u16 (s).dst, .int .u32 (s).seq, .int .u32 (s).ack, .int .u8 (s).flags, .int .u16 (s).win, .int .u16 (s).urg, .slice OA on oc, .slice DA dn dc] 42 := by rw [← hw1]; exact ((blk_new _ _ _ (k + 1) (by simp [hk])).alloc _)
  have Z1 : Blk w1 (k + 1 + 1) #[.int .u8 0, .int .u16 0, .bool false, .int .u8 0, .int .u8 0, .int .u32 0, .int .u32 0, .slice none 0 0, .slice none 0 0] 26 := by rw [← hw1]; exact (blk_new _ _ _ (k + 1 + 1) (by simp [hk]))
  have R1 : Below w.heap.size w w1 := by rw [← hw1]; (repeat (first | with_reducible exact Below.refl _ _ | with_reducible refine below_drew ?_ | with_reducible refine below_drewN ?_ _ | with_reducible refine below_alloc ?_ (Nat.le_refl _) _ | with_reducible refine Below.setCell ?_ (by first | exact Nat.le_refl _ | (simp only []; omega)) _ | with_reducible assumption))
  have Pc1 := P1.cell
  have Sc1 := S1.cell
  have Zc1 := Z1.cell
  have Pl1 := P1.lt
  have Sl1 := S1.lt
  have Zl1 := Z1.lt
  have xx1 := (k1).below R1
  have yy1 := (kd).below R1
  go_enter Try.func19, Try.ntmps19
  go_wp2_with (go_at_call 36; ((with_reducible refine (hro w1 R1).mono ?_); rintro e w2 ⟨A2, c2, rfl, o2, hB2⟩); have P2 := P1.below hB2; have Pc2 := P2.cell; clear Pc1; have S2 := S1.below hB2; have Sc2 := S2.cell; clear Sc1; have Z2 := Z1.below hB2; have Zc2 := Z2.cell; clear Zc1; have xx2 := xx1.below hB2; have yy2 := yy1.below hB2; have R2 := below_then R1 hB2)
  have o2b := o2.bs
  have hk1 : w.heap.size ≤ k := Nat.le_of_eq hk
  have hk2 : k ≤ w.heap.size := Nat.le_of_eq hk.symm
  clear hk hw1 hro
  refine region_txt 8 (by kernel_rfl) (by kernel_rfl) ?_; (iterate 8 (first | (apply ObsK.skip (by rfl)) | (apply ObsK.v (by rfl); (intro wo hT; (repeat (first | (intro v hv; (fail)) | (intro _ _ k; try have hcv := cv k))); (have sc := (S2.below hT).cell; have hsz : w2.heap.size ≤ wo.heap.size := hT.size); refine Goes.mk ?_; first | (exact goes_app _ _ rfl rfl (own_nil _ w2.heap.size _) rfl (by assumption) (by omega) hsz) | (go_simp; first | exact goes_v | exact goes_b (by assumption) | fail | (refine goes_enter ?_; first | (go_at_call 35; ((with_reducible refine (two_any s.src a0 a1 wo).mono ?_); rintro e w9 ⟨A9, c9, rfl, ho9, hB9⟩); exact ret_b ho9.bs hB9) | (go_at_call 35; ((with_reducible refine (two_any s.dst d0 d1 wo).mono ?_); rintro e w9 ⟨A9, c9, rfl, ho9, hB9⟩); exact ret_b ho9.bs hB9))))) | (apply ObsK.b (by rfl); (intro wo hT; (repeat (first | (intro v hv; (fail)) | (intro _ _ k; try have hcv := cv k))); (have sc := (S2.below hT).cell; have hsz : w2.heap.size ≤ wo.heap.size := hT.size); refine Goes.mk ?_; first | (exact goes_app _ _ rfl rfl (own_nil _ w2.heap.size _) rfl (by assumption) (by omega) hsz) | (go_simp; first | exact goes_v | exact goes_b (by assumption) | fail | (refine goes_enter ?_; first | (go_at_call 35; ((with_reducible refine (two_any s.src a0 a1 wo).mono ?_); rintro e w9 ⟨A9, c9, rfl, ho9, hB9⟩); exact ret_b ho9.bs hB9) | (go_at_call 35; ((with_reducible refine (two_any s.dst d0 d1 wo).mono ?_); rintro e w9 ⟨A9, c9, rfl, ho9, hB9⟩); exact ret_b ho9.bs hB9))))) | (apply ObsK.p (q := isW w2.heap.size ([] ++ two s.src)) (by rfl) st_isW; (intro wo hT; (repeat (first | (intro v hv; (fail)) | (intro _ _ k; try have hcv := cv k))); (have sc := (S2.below hT).cell; have hsz : w2.heap.size ≤ wo.heap.size := hT.size); refine Goes.mk ?_; first | (exact goes_app _ _ rfl rfl (own_nil _ w2.heap.size _) rfl (by assumption) (by omega) hsz) | (go_simp; first | exact goes_v | exact goes_b (by assumption) | fail | (refine goes_enter ?_; first | (go_at_call 35; ((with_reducible refine (two_any s.src a0 a1 wo).mono ?_); rintro e w9 ⟨A9, c9, rfl, ho9, hB9⟩); exact ret_b ho9.bs hB9) | (go_at_call 35; ((with_reducible refine (two_any s.dst d0 d1 wo).mono ?_); rintro e w9 ⟨A9, c9, rfl, ho9, hB9⟩); exact ret_b ho9.bs hB9))))))); refine ObsK.nil ?_; intro wz hBz; simp only [finOn, List.drop_succ_cons, List.drop_zero, List.drop_nil]
  rintro A7 c7 k7 v4 ⟨A4, n4, c4, rfl, O4⟩ A3 c3 k3
  go_simp
  have u4 : n4 = 2 := by rw [← O4.len]; rfl
  subst u4
  have S4 := S2.below hBz
  have sc4 := S4.cell
  clear k3
  go_wp2_with (at_builtin; refine wpList_append_bs (w0 := w2) _ rfl _ _ _ rfl w2.heap.size 5 Try.underlying24 info_u8 A4 2 c4 _ rfl O4 A7 2 c7 (two s.dst) rfl k7 hBz (by omega) (by first | exact Nat.le_refl _ | exact Below.size hBz | omega | (simp <;> omega)) ?_; intro A8 n8 c8 w8 O8 hB8 _ hz8; have u8 : 4 = n8 := (by rw [← O8.len]; rfl); subst u8; (obtain ⟨g8, rfl, ge8, gt8⟩ := O8.ptr (by omega)); have S8 := S2.below hB8; have sc8 := S8.cell)
  have sl8 := S2.lt
  have b8 := hB8.size
  refine regionX 8 [4] g8 (fun c W => match c with | 0 => Own W w2.heap.size 5 (some ⟨g8, 0, none⟩) 4 c8 (([] ++ two s.src) ++ two s.dst) | _ + 1 => True) (by kernel_rfl) (by kernel_rfl) (by kernel_rfl) O8 (fun c W W' hj hb => by cases c with | zero => exact Own.below hj hb | succ n => trivial) ?_; (iterate 8 (first | (apply ObsX.skip (by rfl) (by rfl)) | (apply ObsX.v (by rfl) (by rfl); (intro wo hE; (repeat (first | (intro v hv; ((obtain ⟨Aq, cq, rfl, oq, oq'⟩ := hv))) | (intro _ _ k; try have hcv := cv k))); (have sco := (S8.ext hE (by omega)).cell; have hsz2 := hE.size); refine Goes.mk ?_; first | (exact goes_appX _ _ rfl rfl hj (fun k e => by simp [Value.ownBlock] at e; exact e.symm) rfl oq (by omega) (by omega) (fun _ => trivial)) | (go_simp; first | exact goes_v | fail | (refine goes_enter ?_; first | (go_at_call 34; ((with_reducible refine (four_any s.seq q0 q1 wo).mono ?_); rintro e w9 ⟨A9, c9, rfl, ho9, hB9⟩); exact ret_p ⟨_, _, rfl, ho9.bs, fun a e => ⟨by have := ho9.ge a e; omega, by have := ho9.bs; exact own_lt ho9 e⟩⟩ hB9) | (go_at_call 34; ((with_reducible refine (four_any s.ack r0 r1 wo).mono ?_); rintro e w9 ⟨A9, c9, rfl, ho9, hB9⟩); exact ret_p ⟨_, _, rfl, ho9.bs, fun a e => ⟨by have := ho9.ge a e; omega, own_lt ho9 e⟩⟩ hB9))))) | (apply ObsX.p (q := isN g8 4 (four s.seq)) (by rfl) (by rfl) st_isN sx_isN; (intro wo hE; (repeat (first | (intro v hv; ((obtain ⟨Aq, cq, rfl, oq, oq'⟩ := hv))) | (intro _ _ k; try have hcv := cv k))); (have sco := (S8.ext hE (by omega)).cell; have hsz2 := hE.size); refine Goes.mk ?_; first | (exact goes_appX _ _ rfl rfl hj (fun k e => by simp [Value.ownBlock] at e; exact e.symm) rfl oq (by omega) (by omega) (fun _ => trivial)) | (go_simp; first | exact goes_v | fail | (refine goes_enter ?_; first | (go_at_call 34; ((with_reducible refine (four_any s.seq q0 q1 wo).mono ?_); rintro e w9 ⟨A9, c9, rfl, ho9, hB9⟩); exact ret_p ⟨_, _, rfl, ho9.bs, fun a e => ⟨by have := ho9.ge a e; omega, by have := ho9.bs; exact own_lt ho9 e⟩⟩ hB9) | (go_at_call 34; ((with_reducible refine (four_any s.ack r0 r1 wo).mono ?_); rintro e w9 ⟨A9, c9, rfl, ho9, hB9⟩); exact ret_p ⟨_, _, rfl, ho9.bs, fun a e => ⟨by have := ho9.ge a e; omega, own_lt ho9 e⟩⟩ hB9))))) | (apply ObsX.p (q := isN g8 4 (four s.ack)) (by rfl) (by rfl) st_isN sx_isN; (intro wo hE; (repeat (first | (intro v hv; ((obtain ⟨Aq, cq, rfl, oq, oq'⟩ := hv))) | (intro _ _ k; try have hcv := cv k))); (have sco := (S8.ext hE (by omega)).cell; have hsz2 := hE.size); refine Goes.mk ?_; first | (exact goes_appX _ _ rfl rfl hj (fun k e => by simp [Value.ownBlock] at e; exact e.symm) rfl oq (by omega) (by omega) (fun _ => trivial)) | (go_simp; first | exact goes_v | fail | (refine goes_enter ?_; first | (go_at_call 34; ((with_reducible refine (four_any s.seq q0 q1 wo).mono ?_); rintro e w9 ⟨A9, c9, rfl, ho9, hB9⟩); exact ret_p ⟨_, _, rfl, ho9.bs, fun a e => ⟨by have := ho9.ge a e; omega, by have := ho9.bs; exact own_lt ho9 e⟩⟩ hB9) | (go_at_call 34; ((with_reducible refine (four_any s.ack r0 r1 wo).mono ?_); rintro e w9 ⟨A9, c9, rfl, ho9, hB9⟩); exact ret_p ⟨_, _, rfl, ho9.bs, fun a e => ⟨by have := ho9.ge a e; omega, own_lt ho9 e⟩⟩ hB9))))) | (apply ObsX.ev (by rfl) (by rfl); (intro wo hE hj; (repeat (first | (intro v hv; ((obtain ⟨Aq, cq, rfl, oq, oq'⟩ := hv))) | (intro _ _ k; try have hcv := cv k))); (have sco := (S8.ext hE (by omega)).cell; have hsz2 := hE.size); refine GoesX.mk ?_; first | (exact goes_appX _ _ rfl rfl hj (fun k e => by simp [Value.ownBlock] at e; exact e.symm) rfl oq (by omega) (by omega) (fun _ => trivial)) | (go_simp; first | exact goes_v | fail | (refine goes_enter ?_; first | (go_at_call 34; ((with_reducible refine (four_any s.seq q0 q1 wo).mono ?_); rintro e w9 ⟨A9, c9, rfl, ho9, hB9⟩); exact ret_p ⟨_, _, rfl, ho9.bs, fun a e => ⟨by have := ho9.ge a e; omega, by have := ho9.bs; exact own_lt ho9 e⟩⟩ hB9) | (go_at_call 34; ((with_reducible refine (four_any s.ack r0 r1 wo).mono ?_); rintro e w9 ⟨A9, c9, rfl, ho9, hB9⟩); exact ret_p ⟨_, _, rfl, ho9.bs, fun a e => ⟨by have := ho9.ge a e; omega, own_lt ho9 e⟩⟩ hB9))))) | (apply ObsX.ep (q := isN g8 4 (four s.seq)) (by rfl) (by rfl) (by rfl) st_isN; (intro wo hE hj; (repeat (first | (intro v hv; ((obtain ⟨Aq, cq, rfl, oq, oq'⟩ := hv))) | (intro _ _ k; try have hcv := cv k))); (have sco := (S8.ext hE (by omega)).cell; have hsz2 := hE.size); refine GoesX.mk ?_; first | (exact goes_appX _ _ rfl rfl hj (fun k e => by simp [Value.ownBlock] at e; exact e.symm) rfl oq (by omega) (by omega) (fun _ => trivial)) | (go_simp; first | exact goes_v | fail | (refine goes_enter ?_; first | (go_at_call 34; ((with_reducible refine (four_any s.seq q0 q1 wo).mono ?_); rintro e w9 ⟨A9, c9, rfl, ho9, hB9⟩); exact ret_p ⟨_, _, rfl, ho9.bs, fun a e => ⟨by have := ho9.ge a e; omega, by have := ho9.bs; exact own_lt ho9 e⟩⟩ hB9) | (go_at_call 34; ((with_reducible refine (four_any s.ack r0 r1 wo).mono ?_); rintro e w9 ⟨A9, c9, rfl, ho9, hB9⟩); exact ret_p ⟨_, _, rfl, ho9.bs, fun a e => ⟨by have := ho9.ge a e; omega, own_lt ho9 e⟩⟩ hB9))))) | (apply ObsX.ep (q := isW w2.heap.size ((([] ++ two s.src) ++ two s.dst) ++ four s.seq)) (by rfl) (by rfl) (by rfl) st_isW; (intro wo hE hj; (repeat (first | (intro v hv; ((obtain ⟨Aq, cq, rfl, oq, oq'⟩ := hv))) | (intro _ _ k; try have hcv := cv k))); (have sco := (S8.ext hE (by omega)).cell; have hsz2 := hE.size); refine GoesX.mk ?_; first | (exact goes_appX _ _ rfl rfl hj (fun k e => by simp [Value.ownBlock] at e; exact e.symm) rfl oq (by omega) (by omega) (fun _ => trivial)) | (go_simp; first | exact goes_v | fail | (refine goes_enter ?_; first | (go_at_call 34; ((with_reducible refine (four_any s.seq q0 q1 wo).mono ?_); rintro e w9 ⟨A9, c9, rfl, ho9, hB9⟩); exact ret_p ⟨_, _, rfl, ho9.bs, fun a e => ⟨by have := ho9.ge a e; omega, by have := ho9.bs; exact own_lt ho9 e⟩⟩ hB9) | (go_at_call 34; ((with_reducible refine (four_any s.ack r0 r1 wo).mono ?_); rintro e w9 ⟨A9, c9, rfl, ho9, hB9⟩); exact ret_p ⟨_, _, rfl, ho9.bs, fun a e => ⟨by have := ho9.ge a e; omega, own_lt ho9 e⟩⟩ hB9))))) | (apply ObsX.ep (q := isN g8 4 (four s.ack)) (by rfl) (by rfl) (by rfl) st_isN; (intro wo hE hj; (repeat (first | (intro v hv; ((obtain ⟨Aq, cq, rfl, oq, oq'⟩ := hv))) | (intro _ _ k; try have hcv := cv k))); (have sco := (S8.ext hE (by omega)).cell; have hsz2 := hE.size); refine GoesX.mk ?_; first | (exact goes_appX _ _ rfl rfl hj (fun k e => by simp [Value.ownBlock] at e; exact e.symm) rfl oq (by omega) (by omega) (fun _ => trivial)) | (go_simp; first | exact goes_v | fail | (refine goes_enter ?_; first | (go_at_call 34; ((with_reducible refine (four_any s.seq q0 q1 wo).mono ?_); rintro e w9 ⟨A9, c9, rfl, ho9, hB9⟩); exact ret_p ⟨_, _, rfl, ho9.bs, fun a e => ⟨by have := ho9.ge a e; omega, by have := ho9.bs; exact own_lt ho9 e⟩⟩ hB9) | (go_at_call 34; ((with_reducible refine (four_any s.ack r0 r1 wo).mono ?_); rintro e w9 ⟨A9, c9, rfl, ho9, hB9⟩); exact ret_p ⟨_, _, rfl, ho9.bs, fun a e => ⟨by have := ho9.ge a e; omega, own_lt ho9 e⟩⟩ hB9))))))); refine ObsX.nil ?_; intro wz hEz hJz; simp only [finOn, List.drop_succ_cons, List.drop_zero, List.drop_nil]
  rintro v12 ⟨A12, c12, rfl, k12, -⟩ v10 ⟨A10, n10, c10, rfl, O10⟩ v9 hv9
  clear hv9
  go_simp
  have u10 : n10 = 8 := by rw [← O10.len]; rfl
  subst u10
  have hBy := below_ext hB8 hEz (by omega) hB8.size
  have S10 := S2.below hBy
  have sc10 := S10.cell
  clear sc8 sc4
  go_wp2_with (first
    | (at_builtin; refine wpList_append_bs (w0 := w2) _ rfl _ _ _ rfl w2.heap.size 5 Try.underlying24 info_u8 A10 8 c10 _ rfl O10 A12 4 c12 (four s.ack) rfl k12 hBy (by omega) (by first | exact Nat.le_refl _ | exact Below.size hBy | omega | (simp <;> omega)) ?_; intro A14 n14 c14 w14 O14 hB14 _ hz14; have u14 : 12 = n14 := (by rw [← O14.len]; rfl); subst u14; have S14 := S2.below hB14; have sc14 := S14.cell)
    | (at_builtin; refine wpList_append_bs (w0 := w2) _ rfl _ _ _ rfl w2.heap.size 5 Try.underlying24 info_u8 A14 12 c14 _ rfl (O14.alloc _) (some ⟨_, 0, none⟩) 2 2 _ rfl (LX w14) (hB14.alloc hB14.size _) (by omega) (by first | exact Nat.le_refl _ | exact Below.size (hB14.alloc hB14.size _) | omega | (simp <;> omega)) ?_; intro A15 n15 c15 w15 O15 hB15 _ hz15; have u15 : 14 = n15 := (by rw [← O15.len]; rfl); subst u15; have S15 := S2.below hB15; have sc15 := S15.cell)
    | (go_at_call 35; ((with_reducible refine (two_any s.win v0 v1 w15).mono ?_); rintro e w16 ⟨A16, c16, rfl, o16, hB16⟩); have O15' := O15.below hB16; have T16 := below_then hB15 hB16)
    | (at_builtin; refine wpList_append_bs (w0 := w2) _ rfl _ _ _ rfl w2.heap.size 5 Try.underlying24 info_u8 A15 14 c15 _ rfl O15' A16 2 c16 (two s.win) rfl o16.bs T16 (by omega) (by first | exact Nat.le_refl _ | exact Below.size T16 | omega | (simp <;> omega)) ?_; intro A17 n17 c17 w17 O17 hB17 _ hz17; have u17 : 16 = n17 := (by rw [← O17.len]; rfl); subst u17)
    | (at_builtin; refine wpList_append_bs (w0 := w2) _ rfl _ _ _ rfl w2.heap.size 5 Try.underlying24 info_u8 A17 16 c17 _ rfl (O17.alloc _) (some ⟨_, 0, none⟩) 2 2 _ rfl (bs00 w17) (hB17.alloc hB17.size _) (by omega) (by first | exact Nat.le_refl _ | exact Below.size (hB17.alloc hB17.size _) | omega | (simp <;> omega)) ?_; intro A18 n18 c18 w18 O18 hB18 _ hz18; have u18 : 18 = n18 := (by rw [← O18.len]; rfl); subst u18; have S18 := S2.below hB18; have sc18 := S18.cell)
    | (go_at_call 35; ((with_reducible refine (two_any s.urg g0 g1 w18).mono ?_); rintro e w19 ⟨A19, c19, rfl, o19, hB19⟩); have O18' := O18.below hB19; have T19 := below_then hB18 hB19)
    | (at_builtin; refine wpList_append_bs (w0 := w2) _ rfl _ _ _ rfl w2.heap.size 5 Try.underlying24 info_u8 A18 18 c18 _ rfl O18' A19 2 c19 (two s.urg) rfl o19.bs T19 (by omega) (by first | exact Nat.le_refl _ | exact Below.size T19 | omega | (simp <;> omega)) ?_; intro A20 n20 c20 w20 O20 hB20 _ hz20; have u20 : 20 = n20 := (by rw [← O20.len]; rfl); subst u20; have o20 := o2b.below hB20)
    | (at_builtin; refine wpList_append_bs (w0 := w2) _ rfl _ _ _ rfl w2.heap.size 5 Try.underlying24 info_u8 A20 20 c20 _ rfl O20 A2 on2 c2 _ rfl o20 hB20 (by omega) (by first | exact Nat.le_refl _ | exact Below.size hB20 | omega | (simp <;> omega)) ?_; intro A21 n21 c21 w21 O21 hB21 _ hz21; have S21 := S2.below hB21; have sc21 := S21.cell; have d21 := yy2.below hB21; have u21 : n21 ≤ 60 := (by have h1 := O21.len; have h2 := HON.out; rw [List.length_append] at h1; have h3 := O20.len; omega))
    | (at_builtin; refine wpList_append_bs (w0 := w2) _ rfl _ _ _ rfl w2.heap.size 5 Try.underlying24 info_u8 A21 n21 c21 _ rfl O21 DA dn dc _ rfl d21 hB21 (by omega) (by first | exact Nat.le_refl _ | exact Below.size hB21 | omega | (simp <;> omega)) ?_; intro A22 n22 c22 w22 O22 hB22 _ hz22; rw [HX.out] at O22; have P22 := P2.below hB22; have pc22 := P22.cell; have Z22 := Z2.below hB22))
  have xx22 := xx2.below hB22
  have R22 := below_then R2 hB22
  have hN : n22 = sN s := by rw [← O22.len, sL_len]
  have hsE : sbE p s = wiE p n22 := by unfold sbE; rw [HOK.out, if_pos rfl, hN]
  have l1 := k1.len
  have b22 := R22.size
  by_cases hbad : 40 < (m1 : Int) ∨ m1 % 4 ≠ 0
  · have HE : Hid (sbE p s = 4) := by unfold Hid; rw [hsE]; exact wiE_4 l1 hbad
    have HP : Hid (sbP p s = zP) := by unfold Hid sbP; rw [HE.out]; rfl
    have hw0 : ∀ W, Bs W X1 m1 j1 p.opt → Calls Try.prog 37 #[(.agg #[.int .u8 (p).tos, .int .u16 (p).id, .bool (p).keep, .int .u8 (p).ttl, .int .u8 (p).proto, .int .u32 (p).src, .int .u32 (p).dst, .slice X1 m1 j1, .slice X2 m2 j2]), .int .u8 6, .slice none 0 0] W (fun e w' => ∃ C1 e1 f1 C2 e2 f2, e = .returned (.tuple #[.agg #[.int .u8 0, .int .u16 0, .bool false, .int .u8 0, .int .u8 0, .int .u32 0, .int .u32 0, .slice C1 e1 f1, .slice C2 e2 f2], .int .i64 4]) ∧ Own w' W.heap.size 5 C1 e1 f1 [] ∧ Own w' W.heap.size 5 C2 e2 f2 [] ∧ Below W.heap.size W w') := fun W kk => by
      have hh := rwith_any p X1 m1 j1 X2 m2 j2 6 none 0 0 [] W kk (Bs.none_ W)
      unfold withP at hh
      rw [wiE_4 l1 hbad, if_neg (by decide)] at hh
      exact hh.mono fun e w' hq => hq.out
    clear hbad hN hsE l1 hp
    go_wp2_with (go_at_call 37; ((with_reducible refine (hw0 w22 xx22).mono ?_); rintro e w23 ⟨C1, e1, f1, C2, e2, f2, rfl, O1, O2, hB23⟩); (obtain ⟨w24, hw24⟩ : ∃ W, w23.alloc (.cells #[.int .u8 0, .int .u16 0, .bool false, .int .u8 0, .int .u8 0, .int .u32 0, .int .u32 0, .slice C1 e1 f1, .slice C2 e2 f2] 26) = W := ⟨_, rfl⟩); have V24 : Below w23.heap.size w23 w24 := (by rw [← hw24]; (repeat (first | with_reducible exact Below.refl _ _ | with_reducible refine below_drew ?_ | with_reducible refine below_drewN ?_ _ | with_reducible refine below_alloc ?_ (Nat.le_refl _) _ | with_reducible refine Below.setCell ?_ (by first | exact Nat.le_refl _ | (simp only []; omega)) _ | with_reducible assumption))); have T24 := below_then hB23 V24; have Q24 : Blk w24 w23.heap.size #[.int .u8 0, .int .u16 0, .bool false, .int .u8 0, .int .u8 0, .int .u32 0, .int .u32 0, .slice C1 e1 f1, .slice C2 e2 f2] 26 := (by rw [← hw24]; exact blk_new w23 _ _ _ rfl); have qc24 := Q24.cell; have P24 := P22.below T24; have pc24 := P24.cell; have Z24 := Z22.below T24; have zc24 := Z24.cell; have O24 := O22.below T24)
    obtain ⟨wf, hwf, Sf⟩ := store9 Z24 (.int .u8 0) (.int .u16 0) (.bool false) (.int .u8 0) (.int .u8 0) (.int .u32 0) (.int .u32 0) (.slice none 0 0) (.slice none 0 0)
    rw [hwf]
    have pf := Sf.blk.cell
    exact bodyPost_ret (v := .tuple #[.agg #[.int .u8 0, .int .u16 0, .bool false, .int .u8 0, .int .u8 0, .int .u32 0, .int .u32 0, .slice none 0 0, .slice none 0 0], .int .i64 4]) (by simp [results, Try.results19, go_sem, pf]) rfl (by rw [HE.out, HP.out]; exact wiPost_no (Sf.bel (below_then R22 T24) (by omega)))
  · have h1 : (m1 : Int) ≤ 40 := by omega
    have h2 : m1 % 4 = 0 := by omega
    have hw0 : ∀ W, Bs W X1 m1 j1 p.opt → Calls Try.prog 37 #[(.agg #[.int .u8 (p).tos, .int .u16 (p).id, .bool (p).keep, .int .u8 (p).ttl, .int .u8 (p).proto, .int .u32 (p).src, .int .u32 (p).dst, .slice X1 m1 j1, .slice X2 m2 j2]), .int .u8 6, .slice none 0 0] W (fun e w' => ∃ C1 e1 f1 C2 e2 f2, e = .returned (.tuple #[.agg #[.int .u8 p.tos, .int .u16 p.id, .bool p.keep, .int .u8 p.ttl, .int .u8 6, .int .u32 p.src, .int .u32 p.dst, .slice C1 e1 f1, .slice C2 e2 f2], .int .i64 0]) ∧ Own w' W.heap.size 5 C1 e1 f1 p.opt ∧ Own w' W.heap.size 5 C2 e2 f2 [] ∧ Below W.heap.size W w') := fun W kk => by
      have hh := rwith_any p X1 m1 j1 X2 m2 j2 6 none 0 0 [] W kk (Bs.none_ W)
      unfold withP at hh
      rw [show ([] : List UInt8).length = 0 from rfl, wiE_0 l1 h1 h2 (by omega), if_pos rfl] at hh
      exact hh.mono fun e w' hq => hq.out
    have ho1 : ∀ w' C1 e1 f1, Own w' w22.heap.size 5 C1 e1 f1 p.opt → m1 = e1 := fun w' C1 e1 f1 h => by rw [← h.len]; exact l1.symm
    by_cases h3 : 20 + (m1 : Int) + (n22 : Int) ≤ 65535
    · have HE : Hid (sbE p s = 0) := by unfold Hid; rw [hsE]; exact wiE_0 l1 h1 h2 (by omega)
      have HP : Hid (sbP p s = { p with proto := 6, dat := sS p s }) := by unfold Hid sbP; rw [if_pos HE.out]
      have HS : Hid (put16 (sL s) 16 (psum p 6 (sL s)) = sS p s) := rfl
      obtain ⟨zz, hzz⟩ : ∃ z, psum p 6 (sL s) = z := ⟨_, rfl⟩
      have zz0 : 0 ≤ zz := by rw [← hzz]; exact csum_lo _
      have zz1 : zz ≤ 65535 := by rw [← hzz]; exact csum_hi _
      rw [hzz] at HS
      have hsum : ∀ W, Bs W A22 n22 c22 (sL s) → Calls Try.prog 39 #[(.agg #[.int .u8 (p).tos, .int .u16 (p).id, .bool (p).keep, .int .u8 (p).ttl, .int .u8 (p).proto, .int .u32 (p).src, .int .u32 (p).dst, .slice X1 m1 j1, .slice X2 m2 j2]), .int .u8 6, .slice A22 n22 c22] W fun e w' => e = .returned (.int .u16 zz) ∧ Below W.heap.size W w' := fun W bo => by
        have := rssum_any p hp X1 m1 j1 X2 m2 j2 6 (by omega) (by omega) A22 n22 c22 (sL s) W bo (by omega)
        rw [← hzz]
        exact this
      have hw1' : ∀ W A n c, Bs W X1 m1 j1 p.opt → Bs W A n c (sS p s) → Calls Try.prog 37 #[(.agg #[.int .u8 (p).tos, .int .u16 (p).id, .bool (p).keep, .int .u8 (p).ttl, .int .u8 (p).proto, .int .u32 (p).src, .int .u32 (p).dst, .slice X1 m1 j1, .slice X2 m2 j2]), .int .u8 6, .slice A n c] W (fun e w' => ∃ C1 e1 f1 C2 e2 f2, e = .returned (.tuple #[.agg #[.int .u8 p.tos, .int .u16 p.id, .bool p.keep, .int .u8 p.ttl, .int .u8 6, .int .u32 p.src, .int .u32 p.dst, .slice C1 e1 f1, .slice C2 e2 f2], .int .i64 0]) ∧ Own w' W.heap.size 5 C1 e1 f1 p.opt ∧ Own w' W.heap.size 5 C2 e2 f2 (sS p s) ∧ Below W.heap.size W w') := fun W A n c kk ks => by
        have hh := rwith_any p X1 m1 j1 X2 m2 j2 6 A n c (sS p s) W kk ks
        unfold withP at hh
        rw [sS_len, ← hN, wiE_0 l1 h1 h2 (by omega), if_pos rfl] at hh
        exact hh.mono fun e w' hq => hq.out
      clear hbad hN hsE l1 hp hzz
      go_wp2_with (first
        | (go_at_call 37; ((with_reducible refine (hw0 w22 xx22).mono ?_); rintro e w23 ⟨C1, e1, f1, C2, e2, f2, rfl, O1, O2, hB23⟩); have ue := ho1 _ _ _ _ O1; subst ue; (obtain ⟨w24, hw24⟩ : ∃ W, w23.alloc (.cells #[.int .u8 p.tos, .int .u16 p.id, .bool p.keep, .int .u8 p.ttl, .int .u8 6, .int .u32 p.src, .int .u32 p.dst, .slice C1 m1 f1, .slice C2 e2 f2] 26) = W := ⟨_, rfl⟩); have V24 : Below w23.heap.size w23 w24 := (by rw [← hw24]; (repeat (first | with_reducible exact Below.refl _ _ | with_reducible refine below_drew ?_ | with_reducible refine below_drewN ?_ _ | with_reducible refine below_alloc ?_ (Nat.le_refl _) _ | with_reducible refine Below.setCell ?_ (by first | exact Nat.le_refl _ | (simp only []; omega)) _ | with_reducible assumption))); have T24 := below_then hB23 V24; have Q24 : Blk w24 w23.heap.size #[.int .u8 p.tos, .int .u16 p.id, .bool p.keep, .int .u8 p.ttl, .int .u8 6, .int .u32 p.src, .int .u32 p.dst, .slice C1 m1 f1, .slice C2 e2 f2] 26 := (by rw [← hw24]; exact blk_new w23 _ _ _ rfl); have qc24 := Q24.cell; have P24 := P22.below T24; have pc24 := P24.cell; have Z24 := Z22.below T24; have zc24 := Z24.cell; have O24 := O22.below T24; have O24b := O24.bs; have P25 := P22.below T24)
        | (go_at_call 39; ((with_reducible refine (hsum w24 O24b).mono ?_); rintro e w25 ⟨rfl, hB25⟩); have T25 := below_then T24 hB25; have P25 := P22.below T25; have pc25 := P25.cell; have O25 := (O24.below hB25).bs)
        | (go_at_call 38; ((with_reducible refine (rput16_any A22 n22 c22 (sL s) 16 zz zz0 zz1 _ O25).mono ?_); rintro e w26 ⟨A26, c26, rfl, O26, hB26⟩); rw [HS.out] at O26; have O26b := O26.bs; have T26 := below_then T25 hB26; have P26 := P22.below T26; have pc26 := P26.cell; have xx26 := xx22.below T26)
        | (go_at_call 37; ((with_reducible refine (hw1' w26 A26 n22 c26 xx26 O26b).mono ?_); rintro e w27 ⟨D1, g1', h1', D2, g2', h2', rfl, O13, O14, hB27⟩); have T27 := below_then T26 hB27; have Z27 := Z22.below T27; have zc27 := Z27.cell))
      obtain ⟨wf, hwf, Sf⟩ := store9 Z27 (.int .u8 p.tos) (.int .u16 p.id) (.bool p.keep) (.int .u8 p.ttl) (.int .u8 6) (.int .u32 p.src) (.int .u32 p.dst) (.slice D1 g1' h1') (.slice D2 g2' h2')
      rw [hwf]
      have pf := Sf.blk.cell
      have z22 := Z22.lt
      have t26 := T26.size
      have Of := Sf.own O13 (fun a e => by have := O13.ge a e; omega)
      have Df := Sf.own O14 (fun a e => by have := O14.ge a e; omega)
      exact bodyPost_ret (v := .tuple #[.agg #[.int .u8 p.tos, .int .u16 p.id, .bool p.keep, .int .u8 p.ttl, .int .u8 6, .int .u32 p.src, .int .u32 p.dst, .slice D1 g1' h1', .slice D2 g2' h2'], .int .i64 0]) (by simp [results, Try.results19, go_sem, pf]) rfl (by rw [HE.out, HP.out]; exact ⟨⟨D1, g1', h1', D2, g2', h2', rfl, Of.mono (by omega), Df.mono (by omega), Sf.bel (below_then R22 T27) (by omega)⟩⟩)
    · have HE : Hid (sbE p s = 8) := by unfold Hid; rw [hsE]; exact wiE_8 l1 h1 h2 (by omega)
      have HP : Hid (sbP p s = zP) := by unfold Hid sbP; rw [HE.out]; rfl
      have h3' : 65535 < 20 + (m1 : Int) + (n22 : Int) := by omega
      have n22b : n22 ≤ 200000000000000 := O22.max
      clear hbad hN hsE l1 hp h3
      go_wp2_with (go_at_call 37; ((with_reducible refine (hw0 w22 xx22).mono ?_); rintro e w23 ⟨C1, e1, f1, C2, e2, f2, rfl, O1, O2, hB23⟩); have ue := ho1 _ _ _ _ O1; subst ue; (obtain ⟨w24, hw24⟩ : ∃ W, w23.alloc (.cells #[.int .u8 p.tos, .int .u16 p.id, .bool p.keep, .int .u8 p.ttl, .int .u8 6, .int .u32 p.src, .int .u32 p.dst, .slice C1 m1 f1, .slice C2 e2 f2] 26) = W := ⟨_, rfl⟩); have V24 : Below w23.heap.size w23 w24 := (by rw [← hw24]; (repeat (first | with_reducible exact Below.refl _ _ | with_reducible refine below_drew ?_ | with_reducible refine below_drewN ?_ _ | with_reducible refine below_alloc ?_ (Nat.le_refl _) _ | with_reducible refine Below.setCell ?_ (by first | exact Nat.le_refl _ | (simp only []; omega)) _ | with_reducible assumption))); have T24 := below_then hB23 V24; have Q24 : Blk w24 w23.heap.size #[.int .u8 p.tos, .int .u16 p.id, .bool p.keep, .int .u8 p.ttl, .int .u8 6, .int .u32 p.src, .int .u32 p.dst, .slice C1 m1 f1, .slice C2 e2 f2] 26 := (by rw [← hw24]; exact blk_new w23 _ _ _ rfl); have qc24 := Q24.cell; have P24 := P22.below T24; have pc24 := P24.cell; have Z24 := Z22.below T24; have zc24 := Z24.cell; have O24 := O22.below T24; have O24b := O24.bs)
      obtain ⟨wf, hwf, Sf⟩ := store9 Z24 (.int .u8 0) (.int .u16 0) (.bool false) (.int .u8 0) (.int .u8 0) (.int .u32 0) (.int .u32 0) (.slice none 0 0) (.slice none 0 0)
      rw [hwf]
      have pf := Sf.blk.cell
      exact bodyPost_ret (v := .tuple #[.agg #[.int .u8 0, .int .u16 0, .bool false, .int .u8 0, .int .u8 0, .int .u32 0, .int .u32 0, .slice none 0 0, .slice none 0 0], .int .i64 8]) (by simp [results, Try.results19, go_sem, pf]) rfl (by rw [HE.out, HP.out]; exact wiPost_no (Sf.bel (below_then R22 T24) (by omega)))
theorem rsbuild_any (p : Pkt) (hp : p.Ok) (X1 : Option Addr) (m1 j1 : Nat) (X2 : Option Addr) (m2 j2 : Nat) (s : Seg) (hs : s.Ok) (OA : Option Addr) (on oc : Nat) (DA : Option Addr) (dn dc : Nat) (w : World) (k1 : Bs w X1 m1 j1 p.opt) (K : Os w OA on oc s.opts) (kd : Bs w DA dn dc s.dat) (hdn : dn ≤ 140737488400000) :
    Calls Try.prog 19 #[(.agg #[.int .u8 (p).tos, .int .u16 (p).id, .bool (p).keep, .int .u8 (p).ttl, .int .u8 (p).proto, .int .u32 (p).src, .int .u32 (p).dst, .slice X1 m1 j1, .slice X2 m2 j2]), (.agg #[.int .u16 (s).src, .int .u16 (s).dst, .int .u32 (s).seq, .int .u32 (s).ack, .int .u8 (s).flags, .int .u16 (s).win, .int .u16 (s).urg, .slice OA on oc, .slice DA dn dc])] w (WiPost w (sbP p s) (sbE p s)) := by
  rcases Bool.eq_false_or_eq_true (okOs s.opts) with hok | hok
  · exact rsbuild_yes p hp X1 m1 j1 X2 m2 j2 s hs OA on oc DA dn dc w k1 K kd hdn hok
  · have hE : sbE p s = 4 := by unfold sbE; rw [hok]; rfl
    have hP : sbP p s = zP := by unfold sbP; rw [hE]; rfl
    rw [hE, hP]
    exact rsbuild_no p X1 m1 j1 X2 m2 j2 s OA on oc DA dn dc w K hok
end Go.Proofs.Ythgoffbfgdgkpaa

/- A drawn region with writers into one block (RegX), of which one extract need not be waited for (RegZ). -/
namespace Go.Proofs.Ythgoffbfgdgkpaa
open Go.RowKit
set_option linter.unusedVariables false
set_option linter.unusedSimpArgs false
set_option maxHeartbeats 1000000
/-- Does operation j come behind operation l? -/
def aftY (ops : Array Oper) (l : Nat) : Nat → Nat → Bool
  | 0, _ => false
  | f + 1, j => match ops[j]? with
    | some o => o.after.any fun e => Region.binds .any e && (e.on == l || aftY ops l f e.on)
    | none => false
def lastY (ops : Array Oper) (exs : List Nat) (i : Nat) : Bool := lastX exs i || match exs.getLast? with
  | some l => aftY ops l 40 i
  | none => false
theorem aftY_out {ops : Array Oper} {listed : Array Bool} (hd : ∀ i o, ops[i]? = some o → listed.getD i false = true → ∀ e ∈ o.after, Region.binds .any e = true → listed.getD e.on false = true) {l : Nat} :
    ∀ f j, aftY ops l f j = true → listed.getD j false = true → listed.getD l false = true
  | 0, _, h, _ => by cases h
  | f + 1, j, h, hj => by
    unfold aftY at h
    cases ho : ops[j]? with
    | none => rw [ho] at h; cases h
    | some o =>
      rw [ho] at h
      simp only [Array.any_eq_true, Bool.and_eq_true, Bool.or_eq_true, beq_iff_eq] at h
      obtain ⟨q, hq, hb, hh⟩ := h
      have := hd j o ho hj _ (Array.getElem_mem hq) hb
      rcases hh with e | hh
      · rw [← e]; exact this
      · exact aftY_out hd f _ hh this
theorem lastY_out {ops : Array Oper} {listed : Array Bool} (hd : ∀ i o, ops[i]? = some o → listed.getD i false = true → ∀ e ∈ o.after, Region.binds .any e = true → listed.getD e.on false = true) {exs : List Nat} {j : Nat} (h : lastY ops exs j = true)
    (hj : listed.getD j false = true) : ∃ j', lastX exs j' = true ∧ listed.getD j' false = true := by
  unfold lastY at h
  rw [Bool.or_eq_true] at h
  rcases h with h | h
  · exact ⟨j, h, hj⟩
  · cases hl : exs.getLast? with
    | none => rw [hl] at h; cases h
    | some l =>
      rw [hl] at h
      exact ⟨l, by unfold lastX; rw [hl]; simp, aftY_out hd _ _ h hj⟩
def ObsY (P : Program) (ops : Array Oper) (a0 : Act) (w0 : World) (g : Nat) (J : Nat → World → Prop) (exs : List Nat) (fin : List (Tmp × Kd) → Prop) : Nat → Nat → List (Tmp × Kd) → List Oper → Prop
  | _, _, ks, [] => fin ks
  | i, c, ks, o :: rest => ∃ K t, o.dst = some t ∧ (K.Ok ∧ (lastY ops exs i = true ∨ K.OkX g)) ∧ Ob1X P ops a0 w0 g J c (exs.elem i) ks o K ∧ ObsY P ops a0 w0 g J exs fin (i + 1) (bif exs.elem i then c + 1 else c) ((t, K) :: ks) rest
section
variable {P : Program} {ops : Array Oper} {a0 : Act} {w0 : World} {g : Nat} {J : Nat → World → Prop} {exs : List Nat} {fin : List (Tmp × Kd) → Prop} {i c : Nat} {ks : List (Tmp × Kd)} {rest : List Oper}
  {t : Tmp} {op : Op} {ty : TypeId} {pos : String} {after : Array Edge} {gd : Option (Nat × Bool)}
theorem ObsY.v {x : Value} (hx : exs.elem i = false) (hg : wantK ops ks gd = some true) (ho : ∀ W, w0.grownBy W (some g) → leanOn ks W op.operands.toList (Goes P (.v x) ⟨some t, op, ty, pos, after, gd⟩ W) a0)
    (hr : ObsY P ops a0 w0 g J exs fin (i + 1) c ((t, .v x) :: ks) rest) : ObsY P ops a0 w0 g J exs fin i c ks (⟨some t, op, ty, pos, after, gd⟩ :: rest) :=
  ⟨.v x, t, rfl, ⟨trivial, .inr trivial⟩, .inl ⟨hx, hg, ho⟩, by rw [hx]; exact hr⟩
theorem ObsY.p {q : World → Value → Prop} (hx : exs.elem i = false) (hg : wantK ops ks gd = some true) (hkb : ∀ w w' v, q w v → Below w.heap.size w w' → q w' v) (hk : ∀ w w' v, q w v → w.grownBy w' (some g) → q w' v) (ho : ∀ W, w0.grownBy W (some g) → leanOn ks W op.operands.toList (Goes P (.p q) ⟨some t, op, ty, pos, after, gd⟩ W) a0)
    (hr : ObsY P ops a0 w0 g J exs fin (i + 1) c ((t, .p q) :: ks) rest) : ObsY P ops a0 w0 g J exs fin i c ks (⟨some t, op, ty, pos, after, gd⟩ :: rest) :=
  ⟨.p q, t, rfl, ⟨hkb, .inr hk⟩, .inl ⟨hx, hg, ho⟩, by rw [hx]; exact hr⟩
theorem ObsY.ev {x : Value} (hx : exs.elem i = true) (hg : wantK ops ks gd = some true) (ho : ∀ W, w0.grownBy W (some g) → J c W → leanOn ks W op.operands.toList (GoesX P (.v x) g (J (c + 1)) ⟨some t, op, ty, pos, after, gd⟩ W) a0)
    (hr : ObsY P ops a0 w0 g J exs fin (i + 1) (c + 1) ((t, .v x) :: ks) rest) : ObsY P ops a0 w0 g J exs fin i c ks (⟨some t, op, ty, pos, after, gd⟩ :: rest) :=
  ⟨.v x, t, rfl, ⟨trivial, .inr trivial⟩, .inr (.inl ⟨hx, hg, ho⟩), by rw [hx]; exact hr⟩
theorem ObsY.ap {q : World → Value → Prop} (hx : exs.elem i = false) (hg : wantK ops ks gd = some true) (hl : lastY ops exs i = true) (hkb : ∀ w w' v, q w v → Below w.heap.size w w' → q w' v) (ho : ∀ W, w0.grownBy W (some g) → leanOn ks W op.operands.toList (Goes P (.p q) ⟨some t, op, ty, pos, after, gd⟩ W) a0)
    (hr : ObsY P ops a0 w0 g J exs fin (i + 1) c ((t, .p q) :: ks) rest) : ObsY P ops a0 w0 g J exs fin i c ks (⟨some t, op, ty, pos, after, gd⟩ :: rest) :=
  ⟨.p q, t, rfl, ⟨hkb, .inl hl⟩, .inl ⟨hx, hg, ho⟩, by rw [hx]; exact hr⟩
theorem ObsY.ep {q : World → Value → Prop} (hx : exs.elem i = true) (hg : wantK ops ks gd = some true) (hl : lastY ops exs i = true) (hkb : ∀ w w' v, q w v → Below w.heap.size w w' → q w' v) (ho : ∀ W, w0.grownBy W (some g) → J c W → leanOn ks W op.operands.toList (GoesX P (.p q) g (J (c + 1)) ⟨some t, op, ty, pos, after, gd⟩ W) a0)
    (hr : ObsY P ops a0 w0 g J exs fin (i + 1) (c + 1) ((t, .p q) :: ks) rest) : ObsY P ops a0 w0 g J exs fin i c ks (⟨some t, op, ty, pos, after, gd⟩ :: rest) :=
  ⟨.p q, t, rfl, ⟨hkb, .inl hl⟩, .inr (.inl ⟨hx, hg, ho⟩), by rw [hx]; exact hr⟩
theorem ObsY.skip (hx : exs.elem i = false) (hg : wantK ops ks gd = some false) (hr : ObsY P ops a0 w0 g J exs fin (i + 1) c ((t, .v undef) :: ks) rest) : ObsY P ops a0 w0 g J exs fin i c ks (⟨some t, op, ty, pos, after, gd⟩ :: rest) :=
  ⟨.v undef, t, rfl, ⟨trivial, .inr trivial⟩, .inr (.inr ⟨hx, hg, rfl⟩), by rw [hx]; exact hr⟩
theorem ObsY.nil (h : fin ks) : ObsY P ops a0 w0 g J exs fin i c ks [] := h
end
theorem ObsY.out {P : Program} {ops : Array Oper} {a0 : Act} {w0 : World} {g : Nat} {J : Nat → World → Prop} {exs : List Nat} {fin : List (Tmp × Kd) → Prop} : ∀ {l : List Oper} {i0 : Nat} {ks : List (Tmp × Kd)}, ObsY P ops a0 w0 g J exs fin i0 (czX exs i0) ks l →
    ∃ Ks : Nat → Kd, ∃ kz : Nat → List (Tmp × Kd), kz 0 = ks ∧ fin (kz l.length) ∧ ∀ i o, l[i]? = some o → ∃ t, o.dst = some t ∧ ((Ks i).Ok ∧ (lastY ops exs (i0 + i) = true ∨ (Ks i).OkX g)) ∧ Ob1X P ops a0 w0 g J (czX exs (i0 + i)) (exs.elem (i0 + i)) (kz i) o (Ks i) ∧ kz (i + 1) = (t, Ks i) :: kz i
  | [], i0, ks, h => ⟨fun _ => .v undef, fun _ => ks, rfl, h, fun i o ho => by simp at ho⟩
  | o :: rest, i0, ks, ⟨K, t, hd, hk, hob, hr⟩ => by
    have hr' : ObsY P ops a0 w0 g J exs fin (i0 + 1) (czX exs (i0 + 1)) ((t, K) :: ks) rest := hr
    obtain ⟨Ks, kz, h0, hf, hall⟩ := ObsY.out hr'
    refine ⟨fun i => match i with | 0 => K | i + 1 => Ks i, fun i => match i with | 0 => ks | i + 1 => kz i, rfl, hf, fun i o' ho' => ?_⟩
    cases i with
    | zero =>
      simp only [List.getElem?_cons_zero, Option.some.injEq] at ho'
      subst ho'
      exact ⟨t, hd, hk, hob, h0⟩
    | succ i =>
      have := hall i o' (by simpa using ho')
      rw [show i0 + 1 + i = i0 + (i + 1) from by omega] at this
      exact this
section
variable {P : Program} {Q : Exit → Act → World → Prop}
theorem regionXZ {id : Nat} {l : List Oper} {a : Act} {w : World} (m z : Nat) (exs : List Nat) (g : Nat) (J : Nat → World → Prop) (hm : P.follows .mixedOrders = true) (hchk : regZ l.toArray m z a.tmps.size = true) (hQ : ∀ (t : Tmp) v c a w, Q (.panic c) (Act.put a (some t) v) w → Q (.panic c) a w) (hzx : exs.elem z = false) (hex : exB l.toArray m exs = true)
    (hJ0 : J 0 w) (hJs : ∀ c W W', J c W → Below W.heap.size W W' → J c W')
    (hobs : ObsY P l.toArray a w g J exs (fun ks => ∀ W, w.grownBy W (some g) → J exs.length W → finOn W ks (fun a' => wpList P l.toArray Q (l.drop m) a' W) a) 0 0 [] (l.take m)) :
    (Code.region id l.toArray true).wp P Q a w := by
  have R := regZ_out hchk
  obtain ⟨ops, hops⟩ : ∃ ops, l.toArray = ops := ⟨_, rfl⟩
  have hl' : l = ops.toList := by rw [← hops]
  rw [hops] at hobs R hex ⊢
  rw [hl'] at hobs
  clear hops hl' hchk
  have hex' : ∀ q, q < exs.length → exs.getD q 0 < m ∧ czX exs (exs.getD q 0) = q ∧ (q = 0 ∨ ∃ o, ops[exs.getD q 0]? = some o ∧ hasOn o (exs.getD (q - 1) 0) = true) := by
    intro q hq
    have h := (List.all_eq_true.1 hex) q (List.mem_range.2 hq)
    simp only [Bool.and_eq_true, decide_eq_true_eq, beq_iff_eq, Bool.or_eq_true] at h
    refine ⟨h.1.1, h.1.2, h.2.imp (fun h => h) fun h2 => ?_⟩
    cases ho : ops[exs.getD q 0]? with
    | none => rw [ho] at h2; cases h2
    | some o => rw [ho] at h2; exact ⟨o, rfl, h2⟩
  have hidx : ∀ i, exs.elem i = true → ∃ q, q < exs.length ∧ exs.getD q 0 = i := by
    intro i hi
    obtain ⟨q, hq, e⟩ := List.mem_iff_getElem.1 (List.elem_iff.1 hi)
    exact ⟨q, hq, by rw [List.getD_eq_getElem?_getD, List.getElem?_eq_getElem hq]; exact e⟩
  have hmemE : ∀ q, q < exs.length → exs.elem (exs.getD q 0) = true := by
    intro q hq
    rw [List.elem_iff, List.getD_eq_getElem?_getD, List.getElem?_eq_getElem hq]
    exact List.getElem_mem hq
  obtain ⟨Ks, kz, hz0, hfin, hall⟩ := ObsY.out (i0 := 0) hobs
  simp only [Nat.zero_add] at hall
  have hmlen : (ops.toList.take m).length = m := by simp [R.le]
  rw [hmlen] at hfin
  have hat : ∀ i o, i < m → ops[i]? = some o → (ops.toList.take m)[i]? = some o := fun i o hi ho => by
    rw [List.getElem?_take, if_pos hi]; simpa using ho
  have hta : ∀ i o, (ops.toList.take m)[i]? = some o → i < m ∧ ops[i]? = some o := fun i o ho => by
    rw [List.getElem?_take] at ho
    split at ho
    · exact ⟨‹_›, by simpa using ho⟩
    · cases ho
  have hall2 : ∀ i o, (ops.toList.take m)[i]? = some o → ∃ t, o.dst = some t ∧ kz (i + 1) = (t, Ks i) :: kz i := fun i o ho => by
    obtain ⟨t, h1, _, _, h2⟩ := hall i o ho
    exact ⟨t, h1, h2⟩
  have hmem : ∀ i, i ≤ m → ∀ t K, (t, K) ∈ kz i → ∃ j, j < i ∧ dstOf ops j = some t ∧ K = Ks j := fun i hi t K hm => by
    obtain ⟨j, o, h1, h2, h3, h4⟩ := kz_mem hz0 hall2 i (by omega) t K hm
    obtain ⟨_, ho⟩ := hta j o h2
    exact ⟨j, h1, by unfold dstOf; rw [ho]; exact h3, h4⟩
  refine wp_region_any hm ?_
  have hd : ∀ i o, ops[i]? = some o → dstOf ops i = o.dst := fun i o ho => by unfold dstOf; rw [ho]; rfl
  have hend : ∀ (listed : Array Bool) (a' : Act) (w' : World), RInvX ops a w Ks m g J exs listed a' w' → (∀ j, j < m → listed.getD j false = true) → wpList P ops Q (ops.toList.drop m) a' w' := by
    intro listed a' w' hI hlst
    have HJX : J exs.length w' := by
      obtain ⟨c, hc, hq, hj⟩ := hI.cnt
      have : c = exs.length := by
        rcases Nat.lt_or_ge c exs.length with hlt | hge
        · have h1 := hq c hlt
          rw [hlst _ (hex' c hlt).1] at h1
          simp at h1
        · omega
      rw [← this]; exact hj
    obtain ⟨b, hb, e1, e2, e3, e4⟩ := finOn.out (a' := a') (hfin w' hI.ext HJX) hI.size.symm (fun t K hm => by
      obtain ⟨j, hj, hdj, rfl⟩ := hmem m (Nat.le_refl _) t K hm
      obtain ⟨o, ho, hod⟩ := dstOf_some hdj
      obtain ⟨s, hs, hsn, _⟩ := R.main j o hj ho
      rw [hod] at hs
      injection hs with hs
      subst hs
      exact ⟨by rw [hI.size]; exact hsn, hI.val j t hj (hlst j hj) hdj⟩)
    have : b = a' := by
      cases b with
      | mk bt bd =>
        cases a' with
        | mk at' ad =>
          simp only at e1 e2 e3 e4
          have hdf : bd = ad := by rw [e2]; exact hI.defers.symm
          have htm : bt = at' := by
            apply Array.ext
            · rw [e1]; exact hI.size.symm
            · intro t t1 t2
              have : bt.getD t undef = at'.getD t undef := by
                by_cases hx : ∃ K, (t, K) ∈ kz m
                · exact e4 t hx
                · rw [e3 t (fun K hm => hx ⟨K, hm⟩)]
                  refine (hI.other t fun j hj hdj => hx ?_).symm
                  obtain ⟨o, ho, hod⟩ := dstOf_some hdj
                  exact ⟨Ks j, kz_all hall2 m (by omega) j o t hj (hat j o hj ho) hod⟩
              simpa only [Array.getD_eq_getD_getElem?, Array.getElem?_eq_getElem t1, Array.getElem?_eq_getElem t2, Option.getD_some] using this
          subst hdf htm
          rfl
    rw [this] at hb
    exact hb
  have key : ∀ (fuel : Nat) (listed : Array Bool) (a' : Act) (w' : World), RInvX ops a w Ks m g J exs listed a' w' → (∀ i, m ≤ i → i < ops.size → listed.getD i false = false) →
      ((List.range ops.size).filter fun i => !listed.getD i true).length ≤ fuel → wpAny P .any ops Q fuel listed a' w' := by
    intro fuel
    have hprefix : ∀ (listed : Array Bool), listed.size = ops.size → (∀ j, j < m → listed.getD j false = true) → (∀ i, m ≤ i → i < ops.size → listed.getD i false = false) → ∀ i, i < ops.size → listed.getD i false = decide (i < m) := by
      intro listed hs h1 h2 i hi
      by_cases e : i < m
      · rw [h1 i e]; simp [e]
      · rw [h2 i (by omega) hi]; simp [e]
    induction fuel with
    | zero =>
      intro listed a' w' hI hno hc
      have h0 : ((List.range ops.size).filter fun i => !listed.getD i true) = [] := List.eq_nil_of_length_eq_zero (by omega)
      have hal : ∀ i, i < ops.size → listed.getD i false = true := by
        intro i hi
        rw [List.filter_eq_nil_iff] at h0
        have := h0 i (List.mem_range.2 hi)
        rw [← getD_ff (by rw [hI.lsize]; exact hi)]
        simpa using this
      have hms : m = ops.size := by
        rcases Nat.lt_or_ge m ops.size with hlt | hge
        · have := hno m (Nat.le_refl _) hlt
          rw [hal m hlt] at this
          cases this
        · have := R.le; omega
      have := hend listed a' w' hI (fun j hj => hal j (by omega))
      rw [hms] at this
      have hdr : ops.toList.drop ops.size = [] := by simp
      rw [hdr] at this
      refine ⟨?_, this⟩
      unfold Region.ready
      rw [List.filter_eq_nil_iff] at h0 ⊢
      intro i hi
      have := h0 i hi
      simp only [Bool.not_eq_true] at this ⊢
      rw [this]
      rfl
    | succ fuel ih =>
      intro listed a' w' hI hno hc
      by_cases hdone : ∀ j, j < m → listed.getD j false = true
      · refine tail_anyZ R (fuel + 1) m listed a' w' (Nat.le_refl _) R.le hI.lsize (hprefix listed hI.lsize hdone hno) ?_ (hend listed a' w' hI hdone)
        have hlen : ops.size - m ≤ ((List.range ops.size).filter fun i => !listed.getD i true).length := by
          have hsub : (List.range ops.size).filter (fun i => decide (m ≤ i)) = (List.range ops.size).filter fun i => !listed.getD i true := by
            apply List.filter_congr
            intro i hi
            have hi := List.mem_range.1 hi
            rw [getD_ff (by rw [hI.lsize]; exact hi), hprefix listed hI.lsize hdone hno i hi]
            by_cases e : i < m <;> simp [e] <;> omega
          rw [← hsub]
          have : ∀ N, m ≤ N → ((List.range N).filter fun i => decide (m ≤ i)).length = N - m := by
            intro N hN
            induction N with
            | zero => simp
            | succ N ihN =>
              rw [List.range_succ, List.filter_append, List.length_append]
              by_cases e : m ≤ N
              · rw [ihN e]; simp [e]; omega
              · have : m = N + 1 := by omega
                subst this
                have : (List.range N).filter (fun i => decide (N + 1 ≤ i)) = [] := by
                  rw [List.filter_eq_nil_iff]
                  intro i hi
                  have := List.mem_range.1 hi
                  simp; omega
                rw [this]
                simp
          rw [this _ R.le]
          exact Nat.le_refl _
        omega
      · by_cases hzz : ∀ j, j < m → j ≠ z → listed.getD j false = true
        · have zlt := R.zlt
          have zs : z < ops.size := by have := R.le; omega
          have hlz : listed.getD z false = false := by
            cases hlz : listed.getD z false with
            | false => rfl
            | true => exact absurd (fun j hj => by by_cases e : j = z; · rw [e]; exact hlz
                                                   · exact hzz j hj e) hdone
          have hlst : listed = lateL m z ops.size := by
            apply Array.ext
            · rw [hI.lsize]; simp [lateL]
            · intro q q1 q2
              have qs : q < ops.size := by rw [← hI.lsize]; exact q1
              have e1 : listed[q] = listed.getD q false := by simp [Array.getD_eq_getD_getElem?, Array.getElem?_eq_getElem q1]
              rw [e1]
              simp only [lateL, Array.getElem_ofFn]
              by_cases qm : q < m
              · by_cases qz : q = z
                · subst qz; rw [hlz]; simp
                · rw [hzz q qm qz]; simp [qm, qz]
              · rw [hno q (by omega) qs]; simp [qm]
          have ho : ops[z]? = some ops[z] := Array.getElem?_eq_getElem zs
          obtain ⟨o, hoo⟩ : ∃ o, ops[z] = o := ⟨_, rfl⟩
          rw [hoo] at ho
          have hnl' : listed.getD z true = false := by rw [getD_ff (by rw [hI.lsize]; exact zs)]; exact hlz
          have hrd0 : z ∈ Region.ready .any ops listed := by have := R.rdy; rw [← hlst] at this; simpa using this
          obtain ⟨_, o', ho', haf⟩ := mem_ready.1 hrd0
          rw [ho] at ho'
          injection ho' with ho'
          subst ho'
          obtain ⟨hext, hgn⟩ := R.ext o ho
          have him := zlt
          have his := zs
          have hsi : z < listed.size := by rw [hI.lsize]; exact zs
          obtain ⟨t, ht, htn, hne, hsel, hrd, hgd⟩ := R.main z o him ho
          obtain ⟨t', ht', hok, hob, hkz⟩ := hall z o (hat z o him ho)
          have hon : ∀ j, hasOn o j = true → listed.getD j false = true := fun j hj => by
            obtain ⟨e, he, heo, heb⟩ := hasOn_mem hj
            rw [← heo]
            exact haf e he heb
          have hnext : ∀ v w'', (Ks z).holds w'' v → w'.grownBy w'' (some g) → (∀ j, j < m → listed.getD j false = true → ∀ u, (Ks j).holds w' u → (Ks j).holds w'' u) → (∃ c, c ≤ exs.length ∧ (∀ q, q < exs.length → (listed.setIfInBounds z true).getD (exs.getD q 0) false = decide (q < c)) ∧ J c w'') → wpAny P .any ops Q fuel (listed.setIfInBounds z true) (a'.put o.dst v) w'' := by
            intro v w'' hv hb hkeep hcn
            refine ih _ _ _ ⟨by simpa using hI.lsize, ?_, ?_, ext_trans hI.ext hb, hcn, ?_, ?_, ?_⟩ ?_ ?_
            · rw [ht]; exact hI.defers
            · rw [ht]; simpa [Act.put] using hI.size
            · intro s hs
              have hst : s ≠ t := fun e => hs z him (by rw [hd z _ ho, ht, e])
              rw [ht, put_getD (by rw [hI.size]; exact htn), if_neg hst]
              exact hI.other s hs
            · intro j s hjm hj hdj
              rw [getD_set hsi] at hj
              rw [ht, put_getD (by rw [hI.size]; exact htn)]
              by_cases e : j = z
              · subst e
                have : s = t := by rw [hd j _ ho, ht] at hdj; injection hdj with hdj; exact hdj.symm
                rw [if_pos this]
                exact hv
              · rw [if_neg e] at hj
                have hst : s ≠ t := fun e2 => e (dst_injZ R hjm him hdj (by rw [hd z _ ho, ht, e2]))
                rw [if_neg hst]
                exact hkeep j hjm hj _ (hI.val j s hjm hj hdj)
            · intro q oq hq hlq e he hb
              rw [getD_set hsi] at hlq ⊢
              by_cases e1 : q = z
              · subst e1
                rw [ho] at hq
                injection hq with hq
                subst hq
                split
                · rfl
                · exact haf e he hb
              · rw [if_neg e1] at hlq
                split
                · rfl
                · exact hI.down q oq hq hlq e he hb
            · intro q hq hqs
              rw [getD_set hsi, if_neg (by omega)]
              exact hno q hq hqs
            · have hnl : (!listed.getD z true) = true := by rw [hnl']; rfl
              have hlt : ((List.range ops.size).filter fun k => !(listed.setIfInBounds z true).getD k true).length < ((List.range ops.size).filter fun k => !listed.getD k true).length := by
                have hsub : ((List.range ops.size).filter fun k => !(listed.setIfInBounds z true).getD k true) = (((List.range ops.size).filter fun k => !listed.getD k true).filter fun k => k != z) := by
                  rw [List.filter_filter]
                  apply List.filter_congr
                  intro k _
                  rw [getD_set hsi]
                  by_cases e : k = z
                  · subst e; simp
                  · simp [e]
                rw [hsub]
                exact List.length_filter_lt_length_iff_exists.2 ⟨z, List.mem_filter.2 ⟨List.mem_range.2 his, hnl⟩, by simp⟩
              omega
          have hlook : ∀ s K, lookK (kz z) s = some K → ∃ j, j < z ∧ dstOf ops j = some s ∧ K = Ks j := fun s K hK => hmem z (by omega) s K (lookK_some hK)
          have hokj : ∀ j, j < m → (Ks j).Ok ∧ (lastY ops exs j = true ∨ (Ks j).OkX g) := by
            intro j hj
            have hjs : j < ops.size := by have := R.le; omega
            obtain ⟨_, _, h1, _⟩ := hall j ops[j] (hat j _ hj (Array.getElem?_eq_getElem hjs))
            exact h1
          have hkN : ∀ w'', Below w'.heap.size w' w'' → ∀ j, j < m → listed.getD j false = true → ∀ u, (Ks j).holds w' u → (Ks j).holds w'' u := fun w'' hB j hj _ u hu => Kd.keep (hokj j hj).1 hu hB
          have hcntN : exs.elem z = false → ∀ w'', Below w'.heap.size w' w'' → ∃ c, c ≤ exs.length ∧ (∀ q, q < exs.length → (listed.setIfInBounds z true).getD (exs.getD q 0) false = decide (q < c)) ∧ J c w'' := by
            intro hx w'' hB
            obtain ⟨c, hc, hq, hj⟩ := hI.cnt
            refine ⟨c, hc, fun q hql => ?_, hJs c _ _ hj hB⟩
            rw [getD_set hsi, if_neg (fun e => by have h1 := hmemE q hql; rw [e, hx] at h1; cases h1)]
            exact hq q hql
          have hgo : ∀ W, w.grownBy W (some g) → leanOn (kz z) W o.op.operands.toList (Goes P (Ks z) o W) a := by
            rcases hob with ⟨_, _, hgo⟩ | ⟨hxx, _, _⟩ | ⟨_, hwk, _⟩
            · exact hgo
            · rw [hzx] at hxx; cases hxx
            · rw [hgn] at hwk; cases hwk
          obtain ⟨b, hb, b1, b2, b3, b4⟩ := leanOn.out (a' := a') (hgo w' hI.ext) hI.size.symm (fun s K hs hK => by
            obtain ⟨j, hj, hdj, rfl⟩ := hlook s K hK
            obtain ⟨o2, ho2, hod2⟩ := dstOf_some hdj
            obtain ⟨s2, hs2, hsn, _⟩ := R.main j o2 (by omega) ho2
            rw [hod2] at hs2
            injection hs2 with hs2
            subst hs2
            obtain ⟨ha, _⟩ := hrd s (by simpa using hs) j (by omega) hdj
            exact ⟨by rw [hI.size]; exact hsn, hI.val j s (by omega) (hon j ha) hdj⟩)
          have heq : execOp a'.eval o = execOp b.eval o := by
            refine execOp_congr o (fun cs bb hc => by rw [hc] at hsel; cases hsel) fun x hx => ?_
            cases x with
            | tmp s =>
              show a'.tmps.getD s undef = b.tmps.getD s undef
              by_cases hks : ∃ K, lookK (kz z) s = some K
              · obtain ⟨K, hK⟩ := hks
                exact (b4 s ⟨K, hK, by simpa using hx⟩).symm
              · have ho2 : ∀ j, j < m → dstOf ops j ≠ some s := by
                  intro j hj hdj
                  obtain ⟨_, hji⟩ := hrd s hx j hj hdj
                  obtain ⟨oj, hoj, hdoj⟩ := dstOf_some hdj
                  have := kz_all hall2 z (by omega) j oj s hji (hat j oj hj hoj) hdoj
                  cases hl : lookK (kz z) s with
                  | some K => exact hks ⟨K, hl⟩
                  | none => exact lookK_none hl _ this
                have e0 := hI.other s ho2
                rcases b3 s with e | e
                · rw [e, e0]
                · exact e.symm
            | const _ => rfl
            | global _ => rfl
            | func _ => rfl
          have hgoes := hb.out
          have hy : ∃ v, (∀ w, (execOp b.eval o).run P w = .ok (.value v) w) ∧ (Ks z).holds w' v := by
            rcases extract_ways (P := P) (ρ := b.eval) hext with ⟨v, hall'⟩ | hnone
            · rw [hall' w'] at hgoes
              exact ⟨v, hall', hgoes.1⟩
            · exfalso
              cases hr : (execOp b.eval o).run P w' with
              | ok n w'' => exact hnone _ _ _ hr
              | halt x w'' => rw [hr] at hgoes; exact hgoes.elim
          obtain ⟨v, hrun, hv⟩ := hy
          refine wpAny_take ho R.nosel (by rw [hlst]; exact R.free) (by rw [hlst]; exact R.rdy) (fun c a w h => hQ t _ c a w (by rw [← ht]; exact h)) (v := v) (.inl ⟨by unfold Region.wanted; rw [hgn], fun w => by rw [heq]; exact hrun w⟩) ?_
          exact hnext v w' hv (ext_refl _ _) (hkN w' (Below.refl _ _)) (hcntN hzx w' (Below.refl _ _))
        · refine ⟨fun hr => ?_, fun i hi => ?_⟩
          · exfalso
            refine hdone ?_
            intro j
            induction j using Nat.strongRecOn with
            | _ j ihj =>
              intro hj
              cases hlj : listed.getD j false with
              | true => rfl
              | false =>
                exfalso
                have hjs : j < ops.size := by have := R.le; omega
                have hmem : j ∈ Region.ready .any ops listed := by
                  rw [mem_ready]
                  refine ⟨by rw [getD_ff (by rw [hI.lsize]; exact hjs)]; exact hlj, ops[j], Array.getElem?_eq_getElem hjs, fun e he hb => ?_⟩
                  have := R.down j _ (Array.getElem?_eq_getElem hjs) e he hb
                  exact ihj _ this (by omega)
                rw [hr] at hmem
                cases hmem
          · have hi0 := hi
            rw [mem_ready] at hi
            obtain ⟨hnl', o, ho, haf⟩ := hi
            have his : i < ops.size := (Array.getElem?_eq_some_iff.1 ho).1
            have hsi : i < listed.size := by rw [hI.lsize]; exact his
            have him : i < m := by
              rcases Nat.lt_or_ge i m with hlt | hge
              · exact hlt
              · exact absurd (fun j hj hjz => all_beforeZ R hI.down hge ho haf (i - j - 1) j (by omega) hjz) hzz
            obtain ⟨t, ht, htn, hne, hsel, hrd, hgd⟩ := R.main i o him ho
            obtain ⟨t', ht', hok, hob, hkz⟩ := hall i o (hat i o him ho)
            have hon : ∀ j, hasOn o j = true → listed.getD j false = true := fun j hj => by
              obtain ⟨e, he, heo, heb⟩ := hasOn_mem hj
              rw [← heo]
              exact haf e he heb
            have hnext : ∀ v w'', (Ks i).holds w'' v → w'.grownBy w'' (some g) → (∀ j, j < m → listed.getD j false = true → ∀ u, (Ks j).holds w' u → (Ks j).holds w'' u) → (∃ c, c ≤ exs.length ∧ (∀ q, q < exs.length → (listed.setIfInBounds i true).getD (exs.getD q 0) false = decide (q < c)) ∧ J c w'') → wpAny P .any ops Q fuel (listed.setIfInBounds i true) (a'.put o.dst v) w'' := by
              intro v w'' hv hb hkeep hcn
              refine ih _ _ _ ⟨by simpa using hI.lsize, ?_, ?_, ext_trans hI.ext hb, hcn, ?_, ?_, ?_⟩ ?_ ?_
              · rw [ht]; exact hI.defers
              · rw [ht]; simpa [Act.put] using hI.size
              · intro s hs
                have hst : s ≠ t := fun e => hs i him (by rw [hd i _ ho, ht, e])
                rw [ht, put_getD (by rw [hI.size]; exact htn), if_neg hst]
                exact hI.other s hs
              · intro j s hjm hj hdj
                rw [getD_set hsi] at hj
                rw [ht, put_getD (by rw [hI.size]; exact htn)]
                by_cases e : j = i
                · subst e
                  have : s = t := by rw [hd j _ ho, ht] at hdj; injection hdj with hdj; exact hdj.symm
                  rw [if_pos this]
                  exact hv
                · rw [if_neg e] at hj
                  have hst : s ≠ t := fun e2 => e (dst_injZ R hjm him hdj (by rw [hd i _ ho, ht, e2]))
                  rw [if_neg hst]
                  exact hkeep j hjm hj _ (hI.val j s hjm hj hdj)
              · intro q oq hq hlq e he hb
                rw [getD_set hsi] at hlq ⊢
                by_cases e1 : q = i
                · subst e1
                  rw [ho] at hq
                  injection hq with hq
                  subst hq
                  split
                  · rfl
                  · exact haf e he hb
                · rw [if_neg e1] at hlq
                  split
                  · rfl
                  · exact hI.down q oq hq hlq e he hb
              · intro q hq hqs
                rw [getD_set hsi, if_neg (by omega)]
                exact hno q hq hqs
              · have hnl : (!listed.getD i true) = true := by rw [hnl']; rfl
                have hlt : ((List.range ops.size).filter fun k => !(listed.setIfInBounds i true).getD k true).length < ((List.range ops.size).filter fun k => !listed.getD k true).length := by
                  have hsub : ((List.range ops.size).filter fun k => !(listed.setIfInBounds i true).getD k true) = (((List.range ops.size).filter fun k => !listed.getD k true).filter fun k => k != i) := by
                    rw [List.filter_filter]
                    apply List.filter_congr
                    intro k _
                    rw [getD_set hsi]
                    by_cases e : k = i
                    · subst e; simp
                    · simp [e]
                  rw [hsub]
                  exact List.length_filter_lt_length_iff_exists.2 ⟨i, List.mem_filter.2 ⟨List.mem_range.2 his, hnl⟩, by simp⟩
                omega
            have hlook : ∀ s K, lookK (kz i) s = some K → ∃ j, j < i ∧ dstOf ops j = some s ∧ K = Ks j := fun s K hK => hmem i (by omega) s K (lookK_some hK)
            have hokj : ∀ j, j < m → (Ks j).Ok ∧ (lastY ops exs j = true ∨ (Ks j).OkX g) := by
              intro j hj
              have hjs : j < ops.size := by have := R.le; omega
              obtain ⟨_, _, h1, _⟩ := hall j ops[j] (hat j _ hj (Array.getElem?_eq_getElem hjs))
              exact h1
            have hkN : ∀ w'', Below w'.heap.size w' w'' → ∀ j, j < m → listed.getD j false = true → ∀ u, (Ks j).holds w' u → (Ks j).holds w'' u := fun w'' hB j hj _ u hu => Kd.keep (hokj j hj).1 hu hB
            have hcntN : exs.elem i = false → ∀ w'', Below w'.heap.size w' w'' → ∃ c, c ≤ exs.length ∧ (∀ q, q < exs.length → (listed.setIfInBounds i true).getD (exs.getD q 0) false = decide (q < c)) ∧ J c w'' := by
              intro hx w'' hB
              obtain ⟨c, hc, hq, hj⟩ := hI.cnt
              refine ⟨c, hc, fun q hql => ?_, hJs c _ _ hj hB⟩
              rw [getD_set hsi, if_neg (fun e => by have h1 := hmemE q hql; rw [e, hx] at h1; cases h1)]
              exact hq q hql
            unfold wpOp
            rw [ho]
            rcases hob with ⟨hxx, hwk, hgo⟩ | ⟨hxx, hwk, hgo⟩ | ⟨hxx, hwk, hskip⟩
            · have hw : Region.wanted o (yielded ops a'.tmps) = true := by
                unfold Region.wanted
                cases hg : o.guard with
                | none => rfl
                | some gb =>
                  obtain ⟨g, b⟩ := gb
                  rw [hg] at hwk
                  unfold wantK at hwk
                  simp only at hwk
                  cases hdg : dstOf ops g with
                  | none => rw [hdg] at hwk; cases hwk
                  | some s =>
                    rw [hdg] at hwk
                    cases hlk : lookK (kz i) s with
                    | none => simp only [hlk] at hwk; cases hwk
                    | some K =>
                      simp only [hlk] at hwk
                      split at hwk
                      · rename_i hKe
                        injection hKe with hKe
                        subst hKe
                        rename_i c
                        obtain ⟨j, hj, hdj, hKj⟩ := hlook s _ hlk
                        obtain ⟨hong, hgi⟩ := hgd g b hg
                        obtain rfl := dst_injZ R (by omega) (by omega) hdj hdg
                        have hv := hI.val j s (by omega) (hon j hong) hdj
                        rw [← hKj] at hv
                        have hy : yielded ops a'.tmps j = some c := by
                          have hv' : a'.tmps.getD s undef = .bool c := hv
                          unfold yielded
                          unfold dstOf at hdj
                          rw [hdj]
                          rw [Array.getD_eq_getD_getElem?] at hv'
                          cases hx : a'.tmps[s]? with
                          | none => rw [hx] at hv'; exact absurd hv' (by simp [undef])
                          | some x =>
                            rw [hx] at hv'
                            simp only [Option.getD_some] at hv'
                            subst hv'
                            simp [hx]
                        simp only [hy]
                        injection hwk
                      · cases hwk
              simp only [hw, if_true]
              refine .inl ?_
              obtain ⟨b, hb, b1, b2, b3, b4⟩ := leanOn.out (a' := a') (hgo w' hI.ext) hI.size.symm (fun s K hs hK => by
                obtain ⟨j, hj, hdj, rfl⟩ := hlook s K hK
                obtain ⟨o2, ho2, hod2⟩ := dstOf_some hdj
                obtain ⟨s2, hs2, hsn, _⟩ := R.main j o2 (by omega) ho2
                rw [hod2] at hs2
                injection hs2 with hs2
                subst hs2
                obtain ⟨ha, _⟩ := hrd s (by simpa using hs) j (by omega) hdj
                exact ⟨by rw [hI.size]; exact hsn, hI.val j s (by omega) (hon j ha) hdj⟩)
              have heq : execOp a'.eval o = execOp b.eval o := by
                refine execOp_congr o (fun cs bb hc => by rw [hc] at hsel; cases hsel) fun x hx => ?_
                cases x with
                | tmp s =>
                  show a'.tmps.getD s undef = b.tmps.getD s undef
                  by_cases hks : ∃ K, lookK (kz i) s = some K
                  · obtain ⟨K, hK⟩ := hks
                    exact (b4 s ⟨K, hK, by simpa using hx⟩).symm
                  · have ho2 : ∀ j, j < m → dstOf ops j ≠ some s := by
                      intro j hj hdj
                      obtain ⟨_, hji⟩ := hrd s hx j hj hdj
                      obtain ⟨oj, hoj, hdoj⟩ := dstOf_some hdj
                      have := kz_all hall2 i (by omega) j oj s hji (hat j oj hj hoj) hdoj
                      cases hl : lookK (kz i) s with
                      | some K => exact hks ⟨K, hl⟩
                      | none => exact lookK_none hl _ this
                    have e0 := hI.other s ho2
                    rcases b3 s with e | e
                    · rw [e, e0]
                    · exact e.symm
                | const _ => rfl
                | global _ => rfl
                | func _ => rfl
              have hgoes := hb.out
              unfold Oper.wp
              rw [heq]
              generalize (execOp b.eval o).run P w' = r at hgoes
              cases r with
              | ok n w'' =>
                cases n <;> simp only [OpGoes] at hgoes <;> try exact hgoes.elim
                case value v => exact hnext v w'' hgoes.1 (ext_below hgoes.2) (hkN _ hgoes.2) (hcntN hxx _ hgoes.2)
                case enter f args =>
                  refine Calls.mono hgoes ?_
                  rintro e w3 ⟨v, rfl, hv, hb⟩
                  exact hnext v w3 hv (ext_below hb) (hkN _ hb) (hcntN hxx _ hb)
              | halt x w'' => exact hgoes.elim
            · obtain ⟨q, hql, hqe⟩ := hidx i hxx
              obtain ⟨c, hc, hqs, hj⟩ := hI.cnt
              obtain ⟨hq1, hq2, hq3⟩ := hex' q hql
              have hqc : q = c := by
                have h1 := hqs q hql
                rw [hqe, ← getD_ff hsi, hnl'] at h1
                have h2 : ¬ q < c := by simpa using h1.symm
                rcases hq3 with h3 | ⟨o3, ho3, hh3⟩
                · omega
                · rw [hqe, ho] at ho3
                  injection ho3 with ho3
                  subst ho3
                  have h4 := hon _ hh3
                  by_cases h0 : q = 0
                  · omega
                  · rw [hqs (q - 1) (by omega)] at h4
                    have : q - 1 < c := by simpa using h4
                    omega
              rw [hqe] at hq2
              rw [hq2, hqc] at hgo
              have hkE : ∀ w'', w'.grownBy w'' (some g) → ∀ j, j < m → listed.getD j false = true → ∀ u, (Ks j).holds w' u → (Ks j).holds w'' u := by
                intro w'' hE j hjm hjl u hu
                rcases (hokj j hjm).2 with h1 | h1
                · exfalso
                  obtain ⟨j', h1, hjl⟩ := lastY_out hI.down h1 hjl
                  have hlast : j' = exs.getD (exs.length - 1) 0 := by
                    unfold lastX at h1
                    rw [List.getLast?_eq_getElem?, List.getElem?_eq_getElem (by omega)] at h1
                    rw [List.getD_eq_getElem?_getD, List.getElem?_eq_getElem (by omega)]
                    simp only [beq_iff_eq] at h1
                    exact h1.symm
                  rw [hlast, hqs _ (by omega)] at hjl
                  have : exs.length - 1 < c := by simpa using hjl
                  omega
                · exact Kd.keepX h1 hu hE
              have hcntE : ∀ w'', J (c + 1) w'' → ∃ c, c ≤ exs.length ∧ (∀ q, q < exs.length → (listed.setIfInBounds i true).getD (exs.getD q 0) false = decide (q < c)) ∧ J c w'' := by
                intro w'' hj2
                refine ⟨c + 1, by omega, fun p hp => ?_, hj2⟩
                rw [getD_set hsi]
                by_cases e : exs.getD p 0 = i
                · have hp2 := (hex' p hp).2.1
                  rw [e, hq2] at hp2
                  rw [if_pos e]
                  have : p < c + 1 := by omega
                  simp [this]
                · rw [if_neg e, hqs p hp]
                  have hpq : p ≠ q := fun h => e (by rw [h]; exact hqe)
                  by_cases hpc : p < c
                  · simp [hpc, Nat.lt_succ_of_lt hpc]
                  · have : ¬ p < c + 1 := by omega
                    simp [hpc, this]
              have hw : Region.wanted o (yielded ops a'.tmps) = true := by
                unfold Region.wanted
                cases hg : o.guard with
                | none => rfl
                | some gb =>
                  obtain ⟨g, b⟩ := gb
                  rw [hg] at hwk
                  unfold wantK at hwk
                  simp only at hwk
                  cases hdg : dstOf ops g with
                  | none => rw [hdg] at hwk; cases hwk
                  | some s =>
                    rw [hdg] at hwk
                    cases hlk : lookK (kz i) s with
                    | none => simp only [hlk] at hwk; cases hwk
                    | some K =>
                      simp only [hlk] at hwk
                      split at hwk
                      · rename_i hKe
                        injection hKe with hKe
                        subst hKe
                        rename_i c
                        obtain ⟨j, hj, hdj, hKj⟩ := hlook s _ hlk
                        obtain ⟨hong, hgi⟩ := hgd g b hg
                        obtain rfl := dst_injZ R (by omega) (by omega) hdj hdg
                        have hv := hI.val j s (by omega) (hon j hong) hdj
                        rw [← hKj] at hv
                        have hy : yielded ops a'.tmps j = some c := by
                          have hv' : a'.tmps.getD s undef = .bool c := hv
                          unfold yielded
                          unfold dstOf at hdj
                          rw [hdj]
                          rw [Array.getD_eq_getD_getElem?] at hv'
                          cases hx : a'.tmps[s]? with
                          | none => rw [hx] at hv'; exact absurd hv' (by simp [undef])
                          | some x =>
                            rw [hx] at hv'
                            simp only [Option.getD_some] at hv'
                            subst hv'
                            simp [hx]
                        simp only [hy]
                        injection hwk
                      · cases hwk
              simp only [hw, if_true]
              refine .inl ?_
              obtain ⟨b, hb, b1, b2, b3, b4⟩ := leanOn.out (a' := a') (hgo w' hI.ext hj) hI.size.symm (fun s K hs hK => by
                obtain ⟨j, hj, hdj, rfl⟩ := hlook s K hK
                obtain ⟨o2, ho2, hod2⟩ := dstOf_some hdj
                obtain ⟨s2, hs2, hsn, _⟩ := R.main j o2 (by omega) ho2
                rw [hod2] at hs2
                injection hs2 with hs2
                subst hs2
                obtain ⟨ha, _⟩ := hrd s (by simpa using hs) j (by omega) hdj
                exact ⟨by rw [hI.size]; exact hsn, hI.val j s (by omega) (hon j ha) hdj⟩)
              have heq : execOp a'.eval o = execOp b.eval o := by
                refine execOp_congr o (fun cs bb hc => by rw [hc] at hsel; cases hsel) fun x hx => ?_
                cases x with
                | tmp s =>
                  show a'.tmps.getD s undef = b.tmps.getD s undef
                  by_cases hks : ∃ K, lookK (kz i) s = some K
                  · obtain ⟨K, hK⟩ := hks
                    exact (b4 s ⟨K, hK, by simpa using hx⟩).symm
                  · have ho2 : ∀ j, j < m → dstOf ops j ≠ some s := by
                      intro j hj hdj
                      obtain ⟨_, hji⟩ := hrd s hx j hj hdj
                      obtain ⟨oj, hoj, hdoj⟩ := dstOf_some hdj
                      have := kz_all hall2 i (by omega) j oj s hji (hat j oj hj hoj) hdoj
                      cases hl : lookK (kz i) s with
                      | some K => exact hks ⟨K, hl⟩
                      | none => exact lookK_none hl _ this
                    have e0 := hI.other s ho2
                    rcases b3 s with e | e
                    · rw [e, e0]
                    · exact e.symm
                | const _ => rfl
                | global _ => rfl
                | func _ => rfl
              have hgoes := hb.out
              unfold Oper.wp
              rw [heq]
              generalize (execOp b.eval o).run P w' = r at hgoes
              cases r with
              | ok n w'' =>
                cases n <;> simp only [OpGoes] at hgoes <;> try exact hgoes.elim
                case value v => exact hnext v w'' hgoes.1 hgoes.2.1 (hkE _ hgoes.2.1) (hcntE _ hgoes.2.2)
                case enter f args =>
                  refine Calls.mono hgoes ?_
                  rintro e w3 ⟨v, rfl, hv, hb, hj3⟩
                  exact hnext v w3 hv hb (hkE _ hb) (hcntE _ hj3)
              | halt x w'' => exact hgoes.elim
            · have hw : Region.wanted o (yielded ops a'.tmps) = false := by
                unfold Region.wanted
                cases hg : o.guard with
                | none => rw [hg] at hwk; cases hwk
                | some gb =>
                  obtain ⟨g, b⟩ := gb
                  rw [hg] at hwk
                  unfold wantK at hwk
                  simp only at hwk
                  cases hdg : dstOf ops g with
                  | none => rw [hdg] at hwk; cases hwk
                  | some s =>
                    rw [hdg] at hwk
                    cases hlk : lookK (kz i) s with
                    | none => simp only [hlk] at hwk; cases hwk
                    | some K =>
                      simp only [hlk] at hwk
                      split at hwk
                      · rename_i hKe
                        injection hKe with hKe
                        subst hKe
                        rename_i c
                        obtain ⟨j, hj, hdj, hKj⟩ := hlook s _ hlk
                        obtain ⟨hong, hgi⟩ := hgd g b hg
                        obtain rfl := dst_injZ R (by omega) (by omega) hdj hdg
                        have hv := hI.val j s (by omega) (hon j hong) hdj
                        rw [← hKj] at hv
                        have hy : yielded ops a'.tmps j = some c := by
                          have hv' : a'.tmps.getD s undef = .bool c := hv
                          unfold yielded
                          unfold dstOf at hdj
                          rw [hdj]
                          rw [Array.getD_eq_getD_getElem?] at hv'
                          cases hx : a'.tmps[s]? with
                          | none => rw [hx] at hv'; exact absurd hv' (by simp [undef])
                          | some x =>
                            rw [hx] at hv'
                            simp only [Option.getD_some] at hv'
                            subst hv'
                            simp [hx]
                        simp only [hy]
                        injection hwk
                      · cases hwk
              simp only [hw]
              exact hnext _ _ (by rw [hskip]; rfl) (ext_refl _ _) (hkN _ (Below.refl _ _)) (hcntN hxx _ (Below.refl _ _))
  refine key ops.size _ a _ ⟨by simp, rfl, rfl, ext_below (Below.drew (Below.refl _ _)), ⟨0, Nat.zero_le _, fun q _ => by simp [Array.getD_eq_getD_getElem?, Array.getElem?_replicate]; split <;> simp, hJs 0 _ _ hJ0 (Below.drew (Below.refl _ _))⟩, fun _ _ => rfl, fun j t _ hj => ?_, fun i o _ hj => ?_⟩ ?_ ?_
  · exfalso
    revert hj
    simp only [Array.getD_eq_getD_getElem?, Array.getElem?_replicate]
    split <;> simp
  · exfalso
    revert hj
    simp only [Array.getD_eq_getD_getElem?, Array.getElem?_replicate]
    split <;> simp
  · intro i _ hi
    simp [Array.getD_eq_getD_getElem?, Array.getElem?_replicate, hi]
  · exact Nat.le_trans (List.length_filter_le _ _) (by simp)
end
end Go.Proofs.Ythgoffbfgdgkpaa
