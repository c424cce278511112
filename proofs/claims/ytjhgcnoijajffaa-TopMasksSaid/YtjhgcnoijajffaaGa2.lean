/- Parts of the proofs of this seat, laid together. -/
import Derived.Sort.QuietTacIn
import Derived.BigRegionIn
import Derived.Lib.AppendZerosOnto
import Derived.MapKept
import Derived.BigRegion
import Derived.Lib.SlBytesConst
import Derived.Test.YtjhgcnoijajffaaRows
import Derived.WalkKit
import Derived.ProofKit
import Derived.OpenShut
import Derived.ChangeOld
import Derived.Below
import Derived.SizedLaws
import Derived.JoinedCond
import Derived.Test.YtjhgcnoijajffaaGa1
namespace Go.Proofs.Ytjhgcnoijajffaa
open Go.RowKit
set_option linter.unusedVariables false
set_option linter.unusedSimpArgs false
set_option maxHeartbeats 1000000
def aftY (ops : Array Oper) (l : Nat) : Nat → Nat → Bool
  | 0, _ => false
  | f + 1, j => match ops[j]? with
    | some o => o.after.any fun e => Region.binds .any e && (e.on == l || aftY ops l f e.on)
    | none => false
def lastY (ops : Array Oper) (exs : List Nat) (i : Nat) : Bool := lastX exs i || match exs.getLast? with
  | some l => aftY ops l 40 i
  | none => false
theorem aftY_out {ops : Array Oper} {listed : Array Bool} (hd : ∀ i o, ops[i]? = some o → listed.getD i false = true → ∀ e ∈ o.after, Region.binds .any e = true → listed.getD e.on false = true) {l : Nat} :
    ∀ f j, aftY ops l f j = true → listed.getD j false = true → listed.getD l false = true
  | 0, _, h, _ => by cases h
  | f + 1, j, h, hj => by
    unfold aftY at h
    cases ho : ops[j]? with
    | none => rw [ho] at h; cases h
    | some o =>
      rw [ho] at h
      simp only [Array.any_eq_true, Bool.and_eq_true, Bool.or_eq_true, beq_iff_eq] at h
      obtain ⟨q, hq, hb, hh⟩ := h
      have := hd j o ho hj _ (Array.getElem_mem hq) hb
      rcases hh with e | hh
      · rw [← e]; exact this
      · exact aftY_out hd f _ hh this
theorem lastY_out {ops : Array Oper} {listed : Array Bool} (hd : ∀ i o, ops[i]? = some o → listed.getD i false = true → ∀ e ∈ o.after, Region.binds .any e = true → listed.getD e.on false = true) {exs : List Nat} {j : Nat} (h : lastY ops exs j = true)
    (hj : listed.getD j false = true) : ∃ j', lastX exs j' = true ∧ listed.getD j' false = true := by
  unfold lastY at h
  rw [Bool.or_eq_true] at h
  rcases h with h | h
  · exact ⟨j, h, hj⟩
  · cases hl : exs.getLast? with
    | none => rw [hl] at h; cases h
    | some l =>
      rw [hl] at h
      exact ⟨l, by unfold lastX; rw [hl]; simp, aftY_out hd _ _ h hj⟩
def ObsY (P : Program) (ops : Array Oper) (a0 : Act) (w0 : World) (g : Nat) (J : Nat → World → Prop) (exs : List Nat) (fin : List (Tmp × Kd) → Prop) : Nat → Nat → List (Tmp × Kd) → List Oper → Prop
  | _, _, ks, [] => fin ks
  | i, c, ks, o :: rest => ∃ K t, o.dst = some t ∧ (K.Ok ∧ (lastY ops exs i = true ∨ K.OkX g)) ∧ Ob1X P ops a0 w0 g J c (exs.elem i) ks o K ∧ ObsY P ops a0 w0 g J exs fin (i + 1) (bif exs.elem i then c + 1 else c) ((t, K) :: ks) rest
section
variable {P : Program} {ops : Array Oper} {a0 : Act} {w0 : World} {g : Nat} {J : Nat → World → Prop} {exs : List Nat} {fin : List (Tmp × Kd) → Prop} {i c : Nat} {ks : List (Tmp × Kd)} {rest : List Oper}
  {t : Tmp} {op : Op} {ty : TypeId} {pos : String} {after : Array Edge} {gd : Option (Nat × Bool)}
theorem ObsY.v {x : Value} (hx : exs.elem i = false) (hg : wantK ops ks gd = some true) (ho : ∀ W, w0.grownBy W (some g) → leanOn ks W op.operands.toList (Goes P (.v x) ⟨some t, op, ty, pos, after, gd⟩ W) a0)
    (hr : ObsY P ops a0 w0 g J exs fin (i + 1) c ((t, .v x) :: ks) rest) : ObsY P ops a0 w0 g J exs fin i c ks (⟨some t, op, ty, pos, after, gd⟩ :: rest) :=
  ⟨.v x, t, rfl, ⟨trivial, .inr trivial⟩, .inl ⟨hx, hg, ho⟩, by rw [hx]; exact hr⟩
theorem ObsY.p {q : World → Value → Prop} (hx : exs.elem i = false) (hg : wantK ops ks gd = some true) (hkb : ∀ w w' v, q w v → Below w.heap.size w w' → q w' v) (hk : ∀ w w' v, q w v → w.grownBy w' (some g) → q w' v) (ho : ∀ W, w0.grownBy W (some g) → leanOn ks W op.operands.toList (Goes P (.p q) ⟨some t, op, ty, pos, after, gd⟩ W) a0)
    (hr : ObsY P ops a0 w0 g J exs fin (i + 1) c ((t, .p q) :: ks) rest) : ObsY P ops a0 w0 g J exs fin i c ks (⟨some t, op, ty, pos, after, gd⟩ :: rest) :=
  ⟨.p q, t, rfl, ⟨hkb, .inr hk⟩, .inl ⟨hx, hg, ho⟩, by rw [hx]; exact hr⟩
theorem ObsY.ev {x : Value} (hx : exs.elem i = true) (hg : wantK ops ks gd = some true) (ho : ∀ W, w0.grownBy W (some g) → J c W → leanOn ks W op.operands.toList (GoesX P (.v x) g (J (c + 1)) ⟨some t, op, ty, pos, after, gd⟩ W) a0)
    (hr : ObsY P ops a0 w0 g J exs fin (i + 1) (c + 1) ((t, .v x) :: ks) rest) : ObsY P ops a0 w0 g J exs fin i c ks (⟨some t, op, ty, pos, after, gd⟩ :: rest) :=
  ⟨.v x, t, rfl, ⟨trivial, .inr trivial⟩, .inr (.inl ⟨hx, hg, ho⟩), by rw [hx]; exact hr⟩
theorem ObsY.ap {q : World → Value → Prop} (hx : exs.elem i = false) (hg : wantK ops ks gd = some true) (hl : lastY ops exs i = true) (hkb : ∀ w w' v, q w v → Below w.heap.size w w' → q w' v) (ho : ∀ W, w0.grownBy W (some g) → leanOn ks W op.operands.toList (Goes P (.p q) ⟨some t, op, ty, pos, after, gd⟩ W) a0)
    (hr : ObsY P ops a0 w0 g J exs fin (i + 1) c ((t, .p q) :: ks) rest) : ObsY P ops a0 w0 g J exs fin i c ks (⟨some t, op, ty, pos, after, gd⟩ :: rest) :=
  ⟨.p q, t, rfl, ⟨hkb, .inl hl⟩, .inl ⟨hx, hg, ho⟩, by rw [hx]; exact hr⟩
theorem ObsY.ep {q : World → Value → Prop} (hx : exs.elem i = true) (hg : wantK ops ks gd = some true) (hl : lastY ops exs i = true) (hkb : ∀ w w' v, q w v → Below w.heap.size w w' → q w' v) (ho : ∀ W, w0.grownBy W (some g) → J c W → leanOn ks W op.operands.toList (GoesX P (.p q) g (J (c + 1)) ⟨some t, op, ty, pos, after, gd⟩ W) a0)
    (hr : ObsY P ops a0 w0 g J exs fin (i + 1) (c + 1) ((t, .p q) :: ks) rest) : ObsY P ops a0 w0 g J exs fin i c ks (⟨some t, op, ty, pos, after, gd⟩ :: rest) :=
  ⟨.p q, t, rfl, ⟨hkb, .inl hl⟩, .inr (.inl ⟨hx, hg, ho⟩), by rw [hx]; exact hr⟩
theorem ObsY.skip (hx : exs.elem i = false) (hg : wantK ops ks gd = some false) (hr : ObsY P ops a0 w0 g J exs fin (i + 1) c ((t, .v undef) :: ks) rest) : ObsY P ops a0 w0 g J exs fin i c ks (⟨some t, op, ty, pos, after, gd⟩ :: rest) :=
  ⟨.v undef, t, rfl, ⟨trivial, .inr trivial⟩, .inr (.inr ⟨hx, hg, rfl⟩), by rw [hx]; exact hr⟩
theorem ObsY.nil (h : fin ks) : ObsY P ops a0 w0 g J exs fin i c ks [] := h
end
theorem ObsY.out {P : Program} {ops : Array Oper} {a0 : Act} {w0 : World} {g : Nat} {J : Nat → World → Prop} {exs : List Nat} {fin : List (Tmp × Kd) → Prop} : ∀ {l : List Oper} {i0 : Nat} {ks : List (Tmp × Kd)}, ObsY P ops a0 w0 g J exs fin i0 (czX exs i0) ks l →
    ∃ Ks : Nat → Kd, ∃ kz : Nat → List (Tmp × Kd), kz 0 = ks ∧ fin (kz l.length) ∧ ∀ i o, l[i]? = some o → ∃ t, o.dst = some t ∧ ((Ks i).Ok ∧ (lastY ops exs (i0 + i) = true ∨ (Ks i).OkX g)) ∧ Ob1X P ops a0 w0 g J (czX exs (i0 + i)) (exs.elem (i0 + i)) (kz i) o (Ks i) ∧ kz (i + 1) = (t, Ks i) :: kz i
  | [], i0, ks, h => ⟨fun _ => .v undef, fun _ => ks, rfl, h, fun i o ho => by simp at ho⟩
  | o :: rest, i0, ks, ⟨K, t, hd, hk, hob, hr⟩ => by
    have hr' : ObsY P ops a0 w0 g J exs fin (i0 + 1) (czX exs (i0 + 1)) ((t, K) :: ks) rest := hr
    obtain ⟨Ks, kz, h0, hf, hall⟩ := ObsY.out hr'
    refine ⟨fun i => match i with | 0 => K | i + 1 => Ks i, fun i => match i with | 0 => ks | i + 1 => kz i, rfl, hf, fun i o' ho' => ?_⟩
    cases i with
    | zero =>
      simp only [List.getElem?_cons_zero, Option.some.injEq] at ho'
      subst ho'
      exact ⟨t, hd, hk, hob, h0⟩
    | succ i =>
      have := hall i o' (by simpa using ho')
      rw [show i0 + 1 + i = i0 + (i + 1) from by omega] at this
      exact this
section
variable {P : Program} {Q : Exit → Act → World → Prop}
theorem regionXZ {id : Nat} {l : List Oper} {a : Act} {w : World} (m z : Nat) (exs : List Nat) (g : Nat) (J : Nat → World → Prop) (hm : P.follows .mixedOrders = true) (hchk : regZ l.toArray m z a.tmps.size = true) (hQ : ∀ (t : Tmp) v c a w, Q (.panic c) (Act.put a (some t) v) w → Q (.panic c) a w) (hzx : exs.elem z = false) (hex : exB l.toArray m exs = true)
    (hJ0 : J 0 w) (hJs : ∀ c W W', J c W → Below W.heap.size W W' → J c W')
    (hobs : ObsY P l.toArray a w g J exs (fun ks => ∀ W, w.grownBy W (some g) → J exs.length W → finOn W ks (fun a' => wpList P l.toArray Q (l.drop m) a' W) a) 0 0 [] (l.take m)) :
    (Code.region id l.toArray true).wp P Q a w := by
  have R := regZ_out hchk
  obtain ⟨ops, hops⟩ : ∃ ops, l.toArray = ops := ⟨_, rfl⟩
  have hl' : l = ops.toList := by rw [← hops]
  rw [hops] at hobs R hex ⊢
  rw [hl'] at hobs
  clear hops hl' hchk
  have hex' : ∀ q, q < exs.length → exs.getD q 0 < m ∧ czX exs (exs.getD q 0) = q ∧ (q = 0 ∨ ∃ o, ops[exs.getD q 0]? = some o ∧ hasOn o (exs.getD (q - 1) 0) = true) := by
    intro q hq
    have h := (List.all_eq_true.1 hex) q (List.mem_range.2 hq)
    simp only [Bool.and_eq_true, decide_eq_true_eq, beq_iff_eq, Bool.or_eq_true] at h
    refine ⟨h.1.1, h.1.2, h.2.imp (fun h => h) fun h2 => ?_⟩
    cases ho : ops[exs.getD q 0]? with
    | none => rw [ho] at h2; cases h2
    | some o => rw [ho] at h2; exact ⟨o, rfl, h2⟩
  have hidx : ∀ i, exs.elem i = true → ∃ q, q < exs.length ∧ exs.getD q 0 = i := by
    intro i hi
    obtain ⟨q, hq, e⟩ := List.mem_iff_getElem.1 (List.elem_iff.1 hi)
    exact ⟨q, hq, by rw [List.getD_eq_getElem?_getD, List.getElem?_eq_getElem hq]; exact e⟩
  have hmemE : ∀ q, q < exs.length → exs.elem (exs.getD q 0) = true := by
    intro q hq
    rw [List.elem_iff, List.getD_eq_getElem?_getD, List.getElem?_eq_getElem hq]
    exact List.getElem_mem hq
  obtain ⟨Ks, kz, hz0, hfin, hall⟩ := ObsY.out (i0 := 0) hobs
  simp only [Nat.zero_add] at hall
  have hmlen : (ops.toList.take m).length = m := by simp [R.le]
  rw [hmlen] at hfin
  have hat : ∀ i o, i < m → ops[i]? = some o → (ops.toList.take m)[i]? = some o := fun i o hi ho => by
    rw [List.getElem?_take, if_pos hi]; simpa using ho
  have hta : ∀ i o, (ops.toList.take m)[i]? = some o → i < m ∧ ops[i]? = some o := fun i o ho => by
    rw [List.getElem?_take] at ho
    split at ho
    · exact ⟨‹_›, by simpa using ho⟩
    · cases ho
  have hall2 : ∀ i o, (ops.toList.take m)[i]? = some o → ∃ t, o.dst = some t ∧ kz (i + 1) = (t, Ks i) :: kz i := fun i o ho => by
    obtain ⟨t, h1, _, _, h2⟩ := hall i o ho
    exact ⟨t, h1, h2⟩
  have hmem : ∀ i, i ≤ m → ∀ t K, (t, K) ∈ kz i → ∃ j, j < i ∧ dstOf ops j = some t ∧ K = Ks j := fun i hi t K hm => by
    obtain ⟨j, o, h1, h2, h3, h4⟩ := kz_mem hz0 hall2 i (by omega) t K hm
    obtain ⟨_, ho⟩ := hta j o h2
    exact ⟨j, h1, by unfold dstOf; rw [ho]; exact h3, h4⟩
  refine wp_region_any hm ?_
  have hd : ∀ i o, ops[i]? = some o → dstOf ops i = o.dst := fun i o ho => by unfold dstOf; rw [ho]; rfl
  have hend : ∀ (listed : Array Bool) (a' : Act) (w' : World), RInvX ops a w Ks m g J exs listed a' w' → (∀ j, j < m → listed.getD j false = true) → wpList P ops Q (ops.toList.drop m) a' w' := by
    intro listed a' w' hI hlst
    have HJX : J exs.length w' := by
      obtain ⟨c, hc, hq, hj⟩ := hI.cnt
      have : c = exs.length := by
        rcases Nat.lt_or_ge c exs.length with hlt | hge
        · have h1 := hq c hlt
          rw [hlst _ (hex' c hlt).1] at h1
          simp at h1
        · omega
      rw [← this]; exact hj
    obtain ⟨b, hb, e1, e2, e3, e4⟩ := finOn.out (a' := a') (hfin w' hI.ext HJX) hI.size.symm (fun t K hm => by
      obtain ⟨j, hj, hdj, rfl⟩ := hmem m (Nat.le_refl _) t K hm
      obtain ⟨o, ho, hod⟩ := dstOf_some hdj
      obtain ⟨s, hs, hsn, _⟩ := R.main j o hj ho
      rw [hod] at hs
      injection hs with hs
      subst hs
      exact ⟨by rw [hI.size]; exact hsn, hI.val j t hj (hlst j hj) hdj⟩)
    have : b = a' := by
      cases b with
      | mk bt bd =>
        cases a' with
        | mk at' ad =>
          simp only at e1 e2 e3 e4
          have hdf : bd = ad := by rw [e2]; exact hI.defers.symm
          have htm : bt = at' := by
            apply Array.ext
            · rw [e1]; exact hI.size.symm
            · intro t t1 t2
              have : bt.getD t undef = at'.getD t undef := by
                by_cases hx : ∃ K, (t, K) ∈ kz m
                · exact e4 t hx
                · rw [e3 t (fun K hm => hx ⟨K, hm⟩)]
                  refine (hI.other t fun j hj hdj => hx ?_).symm
                  obtain ⟨o, ho, hod⟩ := dstOf_some hdj
                  exact ⟨Ks j, kz_all hall2 m (by omega) j o t hj (hat j o hj ho) hod⟩
              simpa only [Array.getD_eq_getD_getElem?, Array.getElem?_eq_getElem t1, Array.getElem?_eq_getElem t2, Option.getD_some] using this
          subst hdf htm
          rfl
    rw [this] at hb
    exact hb
  have key : ∀ (fuel : Nat) (listed : Array Bool) (a' : Act) (w' : World), RInvX ops a w Ks m g J exs listed a' w' → (∀ i, m ≤ i → i < ops.size → listed.getD i false = false) →
      ((List.range ops.size).filter fun i => !listed.getD i true).length ≤ fuel → wpAny P .any ops Q fuel listed a' w' := by
    intro fuel
    have hprefix : ∀ (listed : Array Bool), listed.size = ops.size → (∀ j, j < m → listed.getD j false = true) → (∀ i, m ≤ i → i < ops.size → listed.getD i false = false) → ∀ i, i < ops.size → listed.getD i false = decide (i < m) := by
      intro listed hs h1 h2 i hi
      by_cases e : i < m
      · rw [h1 i e]; simp [e]
      · rw [h2 i (by omega) hi]; simp [e]
    induction fuel with
    | zero =>
      intro listed a' w' hI hno hc
      have h0 : ((List.range ops.size).filter fun i => !listed.getD i true) = [] := List.eq_nil_of_length_eq_zero (by omega)
      have hal : ∀ i, i < ops.size → listed.getD i false = true := by
        intro i hi
        rw [List.filter_eq_nil_iff] at h0
        have := h0 i (List.mem_range.2 hi)
        rw [← getD_ff (by rw [hI.lsize]; exact hi)]
        simpa using this
      have hms : m = ops.size := by
        rcases Nat.lt_or_ge m ops.size with hlt | hge
        · have := hno m (Nat.le_refl _) hlt
          rw [hal m hlt] at this
          cases this
        · have := R.le; omega
      have := hend listed a' w' hI (fun j hj => hal j (by omega))
      rw [hms] at this
      have hdr : ops.toList.drop ops.size = [] := by simp
      rw [hdr] at this
      refine ⟨?_, this⟩
      unfold Region.ready
      rw [List.filter_eq_nil_iff] at h0 ⊢
      intro i hi
      have := h0 i hi
      simp only [Bool.not_eq_true] at this ⊢
      rw [this]
      rfl
    | succ fuel ih =>
      intro listed a' w' hI hno hc
      by_cases hdone : ∀ j, j < m → listed.getD j false = true
      · refine tail_anyZ R (fuel + 1) m listed a' w' (Nat.le_refl _) R.le hI.lsize (hprefix listed hI.lsize hdone hno) ?_ (hend listed a' w' hI hdone)
        have hlen : ops.size - m ≤ ((List.range ops.size).filter fun i => !listed.getD i true).length := by
          have hsub : (List.range ops.size).filter (fun i => decide (m ≤ i)) = (List.range ops.size).filter fun i => !listed.getD i true := by
            apply List.filter_congr
            intro i hi
            have hi := List.mem_range.1 hi
            rw [getD_ff (by rw [hI.lsize]; exact hi), hprefix listed hI.lsize hdone hno i hi]
            by_cases e : i < m <;> simp [e] <;> omega
          rw [← hsub]
          have : ∀ N, m ≤ N → ((List.range N).filter fun i => decide (m ≤ i)).length = N - m := by
            intro N hN
            induction N with
            | zero => simp
            | succ N ihN =>
              rw [List.range_succ, List.filter_append, List.length_append]
              by_cases e : m ≤ N
              · rw [ihN e]; simp [e]; omega
              · have : m = N + 1 := by omega
                subst this
                have : (List.range N).filter (fun i => decide (N + 1 ≤ i)) = [] := by
                  rw [List.filter_eq_nil_iff]
                  intro i hi
                  have := List.mem_range.1 hi
                  simp; omega
                rw [this]
                simp
          rw [this _ R.le]
          exact Nat.le_refl _
        omega
      · by_cases hzz : ∀ j, j < m → j ≠ z → listed.getD j false = true
        · have zlt := R.zlt
          have zs : z < ops.size := by have := R.le; omega
          have hlz : listed.getD z false = false := by
            cases hlz : listed.getD z false with
            | false => rfl
            | true => exact absurd (fun j hj => by by_cases e : j = z; · rw [e]; exact hlz
                                                   · exact hzz j hj e) hdone
          have hlst : listed = lateL m z ops.size := by
            apply Array.ext
            · rw [hI.lsize]; simp [lateL]
            · intro q q1 q2
              have qs : q < ops.size := by rw [← hI.lsize]; exact q1
              have e1 : listed[q] = listed.getD q false := by simp [Array.getD_eq_getD_getElem?, Array.getElem?_eq_getElem q1]
              rw [e1]
              simp only [lateL, Array.getElem_ofFn]
              by_cases qm : q < m
              · by_cases qz : q = z
                · subst qz; rw [hlz]; simp
                · rw [hzz q qm qz]; simp [qm, qz]
              · rw [hno q (by omega) qs]; simp [qm]
          have ho : ops[z]? = some ops[z] := Array.getElem?_eq_getElem zs
          obtain ⟨o, hoo⟩ : ∃ o, ops[z] = o := ⟨_, rfl⟩
          rw [hoo] at ho
          have hnl' : listed.getD z true = false := by rw [getD_ff (by rw [hI.lsize]; exact zs)]; exact hlz
          have hrd0 : z ∈ Region.ready .any ops listed := by have := R.rdy; rw [← hlst] at this; simpa using this
          obtain ⟨_, o', ho', haf⟩ := mem_ready.1 hrd0
          rw [ho] at ho'
          injection ho' with ho'
          subst ho'
          obtain ⟨hext, hgn⟩ := R.ext o ho
          have him := zlt
          have his := zs
          have hsi : z < listed.size := by rw [hI.lsize]; exact zs
          obtain ⟨t, ht, htn, hne, hsel, hrd, hgd⟩ := R.main z o him ho
          obtain ⟨t', ht', hok, hob, hkz⟩ := hall z o (hat z o him ho)
          have hon : ∀ j, hasOn o j = true → listed.getD j false = true := fun j hj => by
            obtain ⟨e, he, heo, heb⟩ := hasOn_mem hj
            rw [← heo]
            exact haf e he heb
          have hnext : ∀ v w'', (Ks z).holds w'' v → w'.grownBy w'' (some g) → (∀ j, j < m → listed.getD j false = true → ∀ u, (Ks j).holds w' u → (Ks j).holds w'' u) → (∃ c, c ≤ exs.length ∧ (∀ q, q < exs.length → (listed.setIfInBounds z true).getD (exs.getD q 0) false = decide (q < c)) ∧ J c w'') → wpAny P .any ops Q fuel (listed.setIfInBounds z true) (a'.put o.dst v) w'' := by
            intro v w'' hv hb hkeep hcn
            refine ih _ _ _ ⟨by simpa using hI.lsize, ?_, ?_, ext_trans hI.ext hb, hcn, ?_, ?_, ?_⟩ ?_ ?_
            · rw [ht]; exact hI.defers
            · rw [ht]; simpa [Act.put] using hI.size
            · intro s hs
              have hst : s ≠ t := fun e => hs z him (by rw [hd z _ ho, ht, e])
              rw [ht, put_getD (by rw [hI.size]; exact htn), if_neg hst]
              exact hI.other s hs
            · intro j s hjm hj hdj
              rw [getD_set hsi] at hj
              rw [ht, put_getD (by rw [hI.size]; exact htn)]
              by_cases e : j = z
              · subst e
                have : s = t := by rw [hd j _ ho, ht] at hdj; injection hdj with hdj; exact hdj.symm
                rw [if_pos this]
                exact hv
              · rw [if_neg e] at hj
                have hst : s ≠ t := fun e2 => e (dst_injZ R hjm him hdj (by rw [hd z _ ho, ht, e2]))
                rw [if_neg hst]
                exact hkeep j hjm hj _ (hI.val j s hjm hj hdj)
            · intro q oq hq hlq e he hb
              rw [getD_set hsi] at hlq ⊢
              by_cases e1 : q = z
              · subst e1
                rw [ho] at hq
                injection hq with hq
                subst hq
                split
                · rfl
                · exact haf e he hb
              · rw [if_neg e1] at hlq
                split
                · rfl
                · exact hI.down q oq hq hlq e he hb
            · intro q hq hqs
              rw [getD_set hsi, if_neg (by omega)]
              exact hno q hq hqs
            · have hnl : (!listed.getD z true) = true := by rw [hnl']; rfl
              have hlt : ((List.range ops.size).filter fun k => !(listed.setIfInBounds z true).getD k true).length < ((List.range ops.size).filter fun k => !listed.getD k true).length := by
                have hsub : ((List.range ops.size).filter fun k => !(listed.setIfInBounds z true).getD k true) = (((List.range ops.size).filter fun k => !listed.getD k true).filter fun k => k != z) := by
                  rw [List.filter_filter]
                  apply List.filter_congr
                  intro k _
                  rw [getD_set hsi]
                  by_cases e : k = z
                  · subst e; simp
                  · simp [e]
                rw [hsub]
                exact List.length_filter_lt_length_iff_exists.2 ⟨z, List.mem_filter.2 ⟨List.mem_range.2 his, hnl⟩, by simp⟩
              omega
          have hlook : ∀ s K, lookK (kz z) s = some K → ∃ j, j < z ∧ dstOf ops j = some s ∧ K = Ks j := fun s K hK => hmem z (by omega) s K (lookK_some hK)
          have hokj : ∀ j, j < m → (Ks j).Ok ∧ (lastY ops exs j = true ∨ (Ks j).OkX g) := by
            intro j hj
            have hjs : j < ops.size := by have := R.le; omega
            obtain ⟨_, _, h1, _⟩ := hall j ops[j] (hat j _ hj (Array.getElem?_eq_getElem hjs))
            exact h1
          have hkN : ∀ w'', Below w'.heap.size w' w'' → ∀ j, j < m → listed.getD j false = true → ∀ u, (Ks j).holds w' u → (Ks j).holds w'' u := fun w'' hB j hj _ u hu => Kd.keep (hokj j hj).1 hu hB
          have hcntN : exs.elem z = false → ∀ w'', Below w'.heap.size w' w'' → ∃ c, c ≤ exs.length ∧ (∀ q, q < exs.length → (listed.setIfInBounds z true).getD (exs.getD q 0) false = decide (q < c)) ∧ J c w'' := by
            intro hx w'' hB
            obtain ⟨c, hc, hq, hj⟩ := hI.cnt
            refine ⟨c, hc, fun q hql => ?_, hJs c _ _ hj hB⟩
            rw [getD_set hsi, if_neg (fun e => by have h1 := hmemE q hql; rw [e, hx] at h1; cases h1)]
            exact hq q hql
          have hgo : ∀ W, w.grownBy W (some g) → leanOn (kz z) W o.op.operands.toList (Goes P (Ks z) o W) a := by
            rcases hob with ⟨_, _, hgo⟩ | ⟨hxx, _, _⟩ | ⟨_, hwk, _⟩
            · exact hgo
            · rw [hzx] at hxx; cases hxx
            · rw [hgn] at hwk; cases hwk
          obtain ⟨b, hb, b1, b2, b3, b4⟩ := leanOn.out (a' := a') (hgo w' hI.ext) hI.size.symm (fun s K hs hK => by
            obtain ⟨j, hj, hdj, rfl⟩ := hlook s K hK
            obtain ⟨o2, ho2, hod2⟩ := dstOf_some hdj
            obtain ⟨s2, hs2, hsn, _⟩ := R.main j o2 (by omega) ho2
            rw [hod2] at hs2
            injection hs2 with hs2
            subst hs2
            obtain ⟨ha, _⟩ := hrd s (by simpa using hs) j (by omega) hdj
            exact ⟨by rw [hI.size]; exact hsn, hI.val j s (by omega) (hon j ha) hdj⟩)
          have heq : execOp a'.eval o = execOp b.eval o := by
            refine execOp_congr o (fun cs bb hc => by rw [hc] at hsel; cases hsel) fun x hx => ?_
            cases x with
            | tmp s =>
              show a'.tmps.getD s undef = b.tmps.getD s undef
              by_cases hks : ∃ K, lookK (kz z) s = some K
              · obtain ⟨K, hK⟩ := hks
                exact (b4 s ⟨K, hK, by simpa using hx⟩).symm
              · have ho2 : ∀ j, j < m → dstOf ops j ≠ some s := by
                  intro j hj hdj
                  obtain ⟨_, hji⟩ := hrd s hx j hj hdj
                  obtain ⟨oj, hoj, hdoj⟩ := dstOf_some hdj
                  have := kz_all hall2 z (by omega) j oj s hji (hat j oj hj hoj) hdoj
                  cases hl : lookK (kz z) s with
                  | some K => exact hks ⟨K, hl⟩
                  | none => exact lookK_none hl _ this
                have e0 := hI.other s ho2
                rcases b3 s with e | e
                · rw [e, e0]
                · exact e.symm
            | const _ => rfl
            | global _ => rfl
            | func _ => rfl
          have hgoes := hb.out
          have hy : ∃ v, (∀ w, (execOp b.eval o).run P w = .ok (.value v) w) ∧ (Ks z).holds w' v := by
            rcases extract_ways (P := P) (ρ := b.eval) hext with ⟨v, hall'⟩ | hnone
            · rw [hall' w'] at hgoes
              exact ⟨v, hall', hgoes.1⟩
            · exfalso
              cases hr : (execOp b.eval o).run P w' with
              | ok n w'' => exact hnone _ _ _ hr
              | halt x w'' => rw [hr] at hgoes; exact hgoes.elim
          obtain ⟨v, hrun, hv⟩ := hy
          refine wpAny_take ho R.nosel (by rw [hlst]; exact R.free) (by rw [hlst]; exact R.rdy) (fun c a w h => hQ t _ c a w (by rw [← ht]; exact h)) (v := v) (.inl ⟨by unfold Region.wanted; rw [hgn], fun w => by rw [heq]; exact hrun w⟩) ?_
          exact hnext v w' hv (ext_refl _ _) (hkN w' (Below.refl _ _)) (hcntN hzx w' (Below.refl _ _))
        · refine ⟨fun hr => ?_, fun i hi => ?_⟩
          · exfalso
            refine hdone ?_
            intro j
            induction j using Nat.strongRecOn with
            | _ j ihj =>
              intro hj
              cases hlj : listed.getD j false with
              | true => rfl
              | false =>
                exfalso
                have hjs : j < ops.size := by have := R.le; omega
                have hmem : j ∈ Region.ready .any ops listed := by
                  rw [mem_ready]
                  refine ⟨by rw [getD_ff (by rw [hI.lsize]; exact hjs)]; exact hlj, ops[j], Array.getElem?_eq_getElem hjs, fun e he hb => ?_⟩
                  have := R.down j _ (Array.getElem?_eq_getElem hjs) e he hb
                  exact ihj _ this (by omega)
                rw [hr] at hmem
                cases hmem
          · have hi0 := hi
            rw [mem_ready] at hi
            obtain ⟨hnl', o, ho, haf⟩ := hi
            have his : i < ops.size := (Array.getElem?_eq_some_iff.1 ho).1
            have hsi : i < listed.size := by rw [hI.lsize]; exact his
            have him : i < m := by
              rcases Nat.lt_or_ge i m with hlt | hge
              · exact hlt
              · exact absurd (fun j hj hjz => all_beforeZ R hI.down hge ho haf (i - j - 1) j (by omega) hjz) hzz
            obtain ⟨t, ht, htn, hne, hsel, hrd, hgd⟩ := R.main i o him ho
            obtain ⟨t', ht', hok, hob, hkz⟩ := hall i o (hat i o him ho)
            have hon : ∀ j, hasOn o j = true → listed.getD j false = true := fun j hj => by
              obtain ⟨e, he, heo, heb⟩ := hasOn_mem hj
              rw [← heo]
              exact haf e he heb
            have hnext : ∀ v w'', (Ks i).holds w'' v → w'.grownBy w'' (some g) → (∀ j, j < m → listed.getD j false = true → ∀ u, (Ks j).holds w' u → (Ks j).holds w'' u) → (∃ c, c ≤ exs.length ∧ (∀ q, q < exs.length → (listed.setIfInBounds i true).getD (exs.getD q 0) false = decide (q < c)) ∧ J c w'') → wpAny P .any ops Q fuel (listed.setIfInBounds i true) (a'.put o.dst v) w'' := by
              intro v w'' hv hb hkeep hcn
              refine ih _ _ _ ⟨by simpa using hI.lsize, ?_, ?_, ext_trans hI.ext hb, hcn, ?_, ?_, ?_⟩ ?_ ?_
              · rw [ht]; exact hI.defers
              · rw [ht]; simpa [Act.put] using hI.size
              · intro s hs
                have hst : s ≠ t := fun e => hs i him (by rw [hd i _ ho, ht, e])
                rw [ht, put_getD (by rw [hI.size]; exact htn), if_neg hst]
                exact hI.other s hs
              · intro j s hjm hj hdj
                rw [getD_set hsi] at hj
                rw [ht, put_getD (by rw [hI.size]; exact htn)]
                by_cases e : j = i
                · subst e
                  have : s = t := by rw [hd j _ ho, ht] at hdj; injection hdj with hdj; exact hdj.symm
                  rw [if_pos this]
                  exact hv
                · rw [if_neg e] at hj
                  have hst : s ≠ t := fun e2 => e (dst_injZ R hjm him hdj (by rw [hd i _ ho, ht, e2]))
                  rw [if_neg hst]
                  exact hkeep j hjm hj _ (hI.val j s hjm hj hdj)
              · intro q oq hq hlq e he hb
                rw [getD_set hsi] at hlq ⊢
                by_cases e1 : q = i
                · subst e1
                  rw [ho] at hq
                  injection hq with hq
                  subst hq
                  split
                  · rfl
                  · exact haf e he hb
                · rw [if_neg e1] at hlq
                  split
                  · rfl
                  · exact hI.down q oq hq hlq e he hb
              · intro q hq hqs
                rw [getD_set hsi, if_neg (by omega)]
                exact hno q hq hqs
              · have hnl : (!listed.getD i true) = true := by rw [hnl']; rfl
                have hlt : ((List.range ops.size).filter fun k => !(listed.setIfInBounds i true).getD k true).length < ((List.range ops.size).filter fun k => !listed.getD k true).length := by
                  have hsub : ((List.range ops.size).filter fun k => !(listed.setIfInBounds i true).getD k true) = (((List.range ops.size).filter fun k => !listed.getD k true).filter fun k => k != i) := by
                    rw [List.filter_filter]
                    apply List.filter_congr
                    intro k _
                    rw [getD_set hsi]
                    by_cases e : k = i
                    · subst e; simp
                    · simp [e]
                  rw [hsub]
                  exact List.length_filter_lt_length_iff_exists.2 ⟨i, List.mem_filter.2 ⟨List.mem_range.2 his, hnl⟩, by simp⟩
                omega
            have hlook : ∀ s K, lookK (kz i) s = some K → ∃ j, j < i ∧ dstOf ops j = some s ∧ K = Ks j := fun s K hK => hmem i (by omega) s K (lookK_some hK)
            have hokj : ∀ j, j < m → (Ks j).Ok ∧ (lastY ops exs j = true ∨ (Ks j).OkX g) := by
              intro j hj
              have hjs : j < ops.size := by have := R.le; omega
              obtain ⟨_, _, h1, _⟩ := hall j ops[j] (hat j _ hj (Array.getElem?_eq_getElem hjs))
              exact h1
            have hkN : ∀ w'', Below w'.heap.size w' w'' → ∀ j, j < m → listed.getD j false = true → ∀ u, (Ks j).holds w' u → (Ks j).holds w'' u := fun w'' hB j hj _ u hu => Kd.keep (hokj j hj).1 hu hB
            have hcntN : exs.elem i = false → ∀ w'', Below w'.heap.size w' w'' → ∃ c, c ≤ exs.length ∧ (∀ q, q < exs.length → (listed.setIfInBounds i true).getD (exs.getD q 0) false = decide (q < c)) ∧ J c w'' := by
              intro hx w'' hB
              obtain ⟨c, hc, hq, hj⟩ := hI.cnt
              refine ⟨c, hc, fun q hql => ?_, hJs c _ _ hj hB⟩
              rw [getD_set hsi, if_neg (fun e => by have h1 := hmemE q hql; rw [e, hx] at h1; cases h1)]
              exact hq q hql
            unfold wpOp
            rw [ho]
            rcases hob with ⟨hxx, hwk, hgo⟩ | ⟨hxx, hwk, hgo⟩ | ⟨hxx, hwk, hskip⟩
            · have hw : Region.wanted o (yielded ops a'.tmps) = true := by
                unfold Region.wanted
                cases hg : o.guard with
                | none => rfl
                | some gb =>
                  obtain ⟨g, b⟩ := gb
                  rw [hg] at hwk
                  unfold wantK at hwk
                  simp only at hwk
                  cases hdg : dstOf ops g with
                  | none => rw [hdg] at hwk; cases hwk
                  | some s =>
                    rw [hdg] at hwk
                    cases hlk : lookK (kz i) s with
                    | none => simp only [hlk] at hwk; cases hwk
                    | some K =>
                      simp only [hlk] at hwk
                      split at hwk
                      · rename_i hKe
                        injection hKe with hKe
                        subst hKe
                        rename_i c
                        obtain ⟨j, hj, hdj, hKj⟩ := hlook s _ hlk
                        obtain ⟨hong, hgi⟩ := hgd g b hg
                        obtain rfl := dst_injZ R (by omega) (by omega) hdj hdg
                        have hv := hI.val j s (by omega) (hon j hong) hdj
                        rw [← hKj] at hv
                        have hy : yielded ops a'.tmps j = some c := by
                          have hv' : a'.tmps.getD s undef = .bool c := hv
                          unfold yielded
                          unfold dstOf at hdj
                          rw [hdj]
                          rw [Array.getD_eq_getD_getElem?] at hv'
                          cases hx : a'.tmps[s]? with
                          | none => rw [hx] at hv'; exact absurd hv' (by simp [undef])
                          | some x =>
                            rw [hx] at hv'
                            simp only [Option.getD_some] at hv'
                            subst hv'
                            simp [hx]
                        simp only [hy]
                        injection hwk
                      · cases hwk
              simp only [hw, if_true]
              refine .inl ?_
              obtain ⟨b, hb, b1, b2, b3, b4⟩ := leanOn.out (a' := a') (hgo w' hI.ext) hI.size.symm (fun s K hs hK => by
                obtain ⟨j, hj, hdj, rfl⟩ := hlook s K hK
                obtain ⟨o2, ho2, hod2⟩ := dstOf_some hdj
                obtain ⟨s2, hs2, hsn, _⟩ := R.main j o2 (by omega) ho2
                rw [hod2] at hs2
                injection hs2 with hs2
                subst hs2
                obtain ⟨ha, _⟩ := hrd s (by simpa using hs) j (by omega) hdj
                exact ⟨by rw [hI.size]; exact hsn, hI.val j s (by omega) (hon j ha) hdj⟩)
              have heq : execOp a'.eval o = execOp b.eval o := by
                refine execOp_congr o (fun cs bb hc => by rw [hc] at hsel; cases hsel) fun x hx => ?_
                cases x with
                | tmp s =>
                  show a'.tmps.getD s undef = b.tmps.getD s undef
                  by_cases hks : ∃ K, lookK (kz i) s = some K
                  · obtain ⟨K, hK⟩ := hks
                    exact (b4 s ⟨K, hK, by simpa using hx⟩).symm
                  · have ho2 : ∀ j, j < m → dstOf ops j ≠ some s := by
                      intro j hj hdj
                      obtain ⟨_, hji⟩ := hrd s hx j hj hdj
                      obtain ⟨oj, hoj, hdoj⟩ := dstOf_some hdj
                      have := kz_all hall2 i (by omega) j oj s hji (hat j oj hj hoj) hdoj
                      cases hl : lookK (kz i) s with
                      | some K => exact hks ⟨K, hl⟩
                      | none => exact lookK_none hl _ this
                    have e0 := hI.other s ho2
                    rcases b3 s with e | e
                    · rw [e, e0]
                    · exact e.symm
                | const _ => rfl
                | global _ => rfl
                | func _ => rfl
              have hgoes := hb.out
              unfold Oper.wp
              rw [heq]
              generalize (execOp b.eval o).run P w' = r at hgoes
              cases r with
              | ok n w'' =>
                cases n <;> simp only [OpGoes] at hgoes <;> try exact hgoes.elim
                case value v => exact hnext v w'' hgoes.1 (ext_below hgoes.2) (hkN _ hgoes.2) (hcntN hxx _ hgoes.2)
                case enter f args =>
                  refine Calls.mono hgoes ?_
                  rintro e w3 ⟨v, rfl, hv, hb⟩
                  exact hnext v w3 hv (ext_below hb) (hkN _ hb) (hcntN hxx _ hb)
              | halt x w'' => exact hgoes.elim
            · obtain ⟨q, hql, hqe⟩ := hidx i hxx
              obtain ⟨c, hc, hqs, hj⟩ := hI.cnt
              obtain ⟨hq1, hq2, hq3⟩ := hex' q hql
              have hqc : q = c := by
                have h1 := hqs q hql
                rw [hqe, ← getD_ff hsi, hnl'] at h1
                have h2 : ¬ q < c := by simpa using h1.symm
                rcases hq3 with h3 | ⟨o3, ho3, hh3⟩
                · omega
                · rw [hqe, ho] at ho3
                  injection ho3 with ho3
                  subst ho3
                  have h4 := hon _ hh3
                  by_cases h0 : q = 0
                  · omega
                  · rw [hqs (q - 1) (by omega)] at h4
                    have : q - 1 < c := by simpa using h4
                    omega
              rw [hqe] at hq2
              rw [hq2, hqc] at hgo
              have hkE : ∀ w'', w'.grownBy w'' (some g) → ∀ j, j < m → listed.getD j false = true → ∀ u, (Ks j).holds w' u → (Ks j).holds w'' u := by
                intro w'' hE j hjm hjl u hu
                rcases (hokj j hjm).2 with h1 | h1
                · exfalso
                  obtain ⟨j', h1, hjl⟩ := lastY_out hI.down h1 hjl
                  have hlast : j' = exs.getD (exs.length - 1) 0 := by
                    unfold lastX at h1
                    rw [List.getLast?_eq_getElem?, List.getElem?_eq_getElem (by omega)] at h1
                    rw [List.getD_eq_getElem?_getD, List.getElem?_eq_getElem (by omega)]
                    simp only [beq_iff_eq] at h1
                    exact h1.symm
                  rw [hlast, hqs _ (by omega)] at hjl
                  have : exs.length - 1 < c := by simpa using hjl
                  omega
                · exact Kd.keepX h1 hu hE
              have hcntE : ∀ w'', J (c + 1) w'' → ∃ c, c ≤ exs.length ∧ (∀ q, q < exs.length → (listed.setIfInBounds i true).getD (exs.getD q 0) false = decide (q < c)) ∧ J c w'' := by
                intro w'' hj2
                refine ⟨c + 1, by omega, fun p hp => ?_, hj2⟩
                rw [getD_set hsi]
                by_cases e : exs.getD p 0 = i
                · have hp2 := (hex' p hp).2.1
                  rw [e, hq2] at hp2
                  rw [if_pos e]
                  have : p < c + 1 := by omega
                  simp [this]
                · rw [if_neg e, hqs p hp]
                  have hpq : p ≠ q := fun h => e (by rw [h]; exact hqe)
                  by_cases hpc : p < c
                  · simp [hpc, Nat.lt_succ_of_lt hpc]
                  · have : ¬ p < c + 1 := by omega
                    simp [hpc, this]
              have hw : Region.wanted o (yielded ops a'.tmps) = true := by
                unfold Region.wanted
                cases hg : o.guard with
                | none => rfl
                | some gb =>
                  obtain ⟨g, b⟩ := gb
                  rw [hg] at hwk
                  unfold wantK at hwk
                  simp only at hwk
                  cases hdg : dstOf ops g with
                  | none => rw [hdg] at hwk; cases hwk
                  | some s =>
                    rw [hdg] at hwk
                    cases hlk : lookK (kz i) s with
                    | none => simp only [hlk] at hwk; cases hwk
                    | some K =>
                      simp only [hlk] at hwk
                      split at hwk
                      · rename_i hKe
                        injection hKe with hKe
                        subst hKe
                        rename_i c
                        obtain ⟨j, hj, hdj, hKj⟩ := hlook s _ hlk
                        obtain ⟨hong, hgi⟩ := hgd g b hg
                        obtain rfl := dst_injZ R (by omega) (by omega) hdj hdg
                        have hv := hI.val j s (by omega) (hon j hong) hdj
                        rw [← hKj] at hv
                        have hy : yielded ops a'.tmps j = some c := by
                          have hv' : a'.tmps.getD s undef = .bool c := hv
                          unfold yielded
                          unfold dstOf at hdj
                          rw [hdj]
                          rw [Array.getD_eq_getD_getElem?] at hv'
                          cases hx : a'.tmps[s]? with
                          | none => rw [hx] at hv'; exact absurd hv' (by simp [undef])
                          | some x =>
                            rw [hx] at hv'
                            simp only [Option.getD_some] at hv'
                            subst hv'
                            simp [hx]
                        simp only [hy]
                        injection hwk
                      · cases hwk
              simp only [hw, if_true]
              refine .inl ?_
              obtain ⟨b, hb, b1, b2, b3, b4⟩ := leanOn.out (a' := a') (hgo w' hI.ext hj) hI.size.symm (fun s K hs hK => by
                obtain ⟨j, hj, hdj, rfl⟩ := hlook s K hK
                obtain ⟨o2, ho2, hod2⟩ := dstOf_some hdj
                obtain ⟨s2, hs2, hsn, _⟩ := R.main j o2 (by omega) ho2
                rw [hod2] at hs2
                injection hs2 with hs2
                subst hs2
                obtain ⟨ha, _⟩ := hrd s (by simpa using hs) j (by omega) hdj
                exact ⟨by rw [hI.size]; exact hsn, hI.val j s (by omega) (hon j ha) hdj⟩)
              have heq : execOp a'.eval o = execOp b.eval o := by
                refine execOp_congr o (fun cs bb hc => by rw [hc] at hsel; cases hsel) fun x hx => ?_
                cases x with
                | tmp s =>
                  show a'.tmps.getD s undef = b.tmps.getD s undef
                  by_cases hks : ∃ K, lookK (kz i) s = some K
                  · obtain ⟨K, hK⟩ := hks
                    exact (b4 s ⟨K, hK, by simpa using hx⟩).symm
                  · have ho2 : ∀ j, j < m → dstOf ops j ≠ some s := by
                      intro j hj hdj
                      obtain ⟨_, hji⟩ := hrd s hx j hj hdj
                      obtain ⟨oj, hoj, hdoj⟩ := dstOf_some hdj
                      have := kz_all hall2 i (by omega) j oj s hji (hat j oj hj hoj) hdoj
                      cases hl : lookK (kz i) s with
                      | some K => exact hks ⟨K, hl⟩
                      | none => exact lookK_none hl _ this
                    have e0 := hI.other s ho2
                    rcases b3 s with e | e
                    · rw [e, e0]
                    · exact e.symm
                | const _ => rfl
                | global _ => rfl
                | func _ => rfl
              have hgoes := hb.out
              unfold Oper.wp
              rw [heq]
              generalize (execOp b.eval o).run P w' = r at hgoes
              cases r with
              | ok n w'' =>
                cases n <;> simp only [OpGoes] at hgoes <;> try exact hgoes.elim
                case value v => exact hnext v w'' hgoes.1 hgoes.2.1 (hkE _ hgoes.2.1) (hcntE _ hgoes.2.2)
                case enter f args =>
                  refine Calls.mono hgoes ?_
                  rintro e w3 ⟨v, rfl, hv, hb, hj3⟩
                  exact hnext v w3 hv hb (hkE _ hb) (hcntE _ hj3)
              | halt x w'' => exact hgoes.elim
            · have hw : Region.wanted o (yielded ops a'.tmps) = false := by
                unfold Region.wanted
                cases hg : o.guard with
                | none => rw [hg] at hwk; cases hwk
                | some gb =>
                  obtain ⟨g, b⟩ := gb
                  rw [hg] at hwk
                  unfold wantK at hwk
                  simp only at hwk
                  cases hdg : dstOf ops g with
                  | none => rw [hdg] at hwk; cases hwk
                  | some s =>
                    rw [hdg] at hwk
                    cases hlk : lookK (kz i) s with
                    | none => simp only [hlk] at hwk; cases hwk
                    | some K =>
                      simp only [hlk] at hwk
                      split at hwk
                      · rename_i hKe
                        injection hKe with hKe
                        subst hKe
                        rename_i c
                        obtain ⟨j, hj, hdj, hKj⟩ := hlook s _ hlk
                        obtain ⟨hong, hgi⟩ := hgd g b hg
                        obtain rfl := dst_injZ R (by omega) (by omega) hdj hdg
                        have hv := hI.val j s (by omega) (hon j hong) hdj
                        rw [← hKj] at hv
                        have hy : yielded ops a'.tmps j = some c := by
                          have hv' : a'.tmps.getD s undef = .bool c := hv
                          unfold yielded
                          unfold dstOf at hdj
                          rw [hdj]
                          rw [Array.getD_eq_getD_getElem?] at hv'
                          cases hx : a'.tmps[s]? with
                          | none => rw [hx] at hv'; exact absurd hv' (by simp [undef])
                          | some x =>
                            rw [hx] at hv'
                            simp only [Option.getD_some] at hv'
                            subst hv'
                            simp [hx]
                        simp only [hy]
                        injection hwk
                      · cases hwk
              simp only [hw]
              exact hnext _ _ (by rw [hskip]; rfl) (ext_refl _ _) (hkN _ (Below.refl _ _)) (hcntN hxx _ (Below.refl _ _))
  refine key ops.size _ a _ ⟨by simp, rfl, rfl, ext_below (Below.drew (Below.refl _ _)), ⟨0, Nat.zero_le _, fun q _ => by simp [Array.getD_eq_getD_getElem?, Array.getElem?_replicate]; split <;> simp, hJs 0 _ _ hJ0 (Below.drew (Below.refl _ _))⟩, fun _ _ => rfl, fun j t _ hj => ?_, fun i o _ hj => ?_⟩ ?_ ?_
  · exfalso
    revert hj
    simp only [Array.getD_eq_getD_getElem?, Array.getElem?_replicate]
    split <;> simp
  · exfalso
    revert hj
    simp only [Array.getD_eq_getD_getElem?, Array.getElem?_replicate]
    split <;> simp
  · intro i _ hi
    simp [Array.getD_eq_getD_getElem?, Array.getElem?_replicate, hi]
  · exact Nat.le_trans (List.length_filter_le _ _) (by simp)
end
set_option maxHeartbeats 4000000
set_option maxRecDepth 100000
def dL (d : Dgm) : List UInt8 := ([] ++ twos [d.src, d.dst, (8 + (d.dat.length : Int)) % 65536, 0]) ++ d.dat
def dZ (p : Pkt) (d : Dgm) : Int := if psum p 17 (dL d) = 0 then 65535 else psum p 17 (dL d)
def dS (p : Pkt) (d : Dgm) : List UInt8 := if d.bare then dL d else put16 (dL d) 6 (dZ p d)
def dbE (p : Pkt) (d : Dgm) : Int := wiE p (8 + d.dat.length)
def dbP (p : Pkt) (d : Dgm) : Pkt := withP p 17 (dS p d)
theorem dL_len (d : Dgm) : (dL d).length = 8 + d.dat.length := by simp [dL, twos, two]; omega
theorem dS_len (p : Pkt) (d : Dgm) : (dS p d).length = 8 + d.dat.length := by
  unfold dS; split
  · exact dL_len d
  · rw [put16_length, dL_len]
theorem sx_isNew {g B : Nat} {cs : Array Value} {t : TypeId} (hg : g < B) : ∀ w w' v, isNew B cs t w v → w.grownBy w' (some g) → isNew B cs t w' v := fun _ _ _ ⟨b, e, h, k⟩ hE => ⟨b, e, h, k.ext hE (by omega)⟩
theorem dbuild_any (p : Pkt) (hp : p.Ok) (X1 : Option Addr) (m1 j1 : Nat) (X2 : Option Addr) (m2 j2 : Nat) (s : Dgm) (hs : s.Ok) (DA : Option Addr) (dn dc : Nat) (w : World) (k1 : Bs w X1 m1 j1 p.opt) (kd : Bs w DA dn dc s.dat)
    (hdn : dn ≤ 140737488351232) : Calls Try.prog 5 #[(.agg #[.int .u8 (p).tos, .int .u16 (p).id, .bool (p).keep, .int .u8 (p).ttl, .int .u8 (p).proto, .int .u32 (p).src, .int .u32 (p).dst, .slice X1 m1 j1, .slice X2 m2 j2]), (.agg #[.int .u16 (s).src, .int .u16 (s).dst, .bool (s).bare, .slice DA dn dc])] w (WiPost w (dbP p s) (dbE p s)) := by
  obtain ⟨⟨a0, a1⟩, ⟨d0, d1⟩⟩ := hs
  have hTs : 62 ≠ 5 := by decide
  have h77 : 27 ≠ 5 := by decide
  have h78 : 32 ≠ 5 := by decide
  have ld := kd.len
  obtain ⟨z, hz⟩ : ∃ z : Int, (8 + (dn : Int)) % 65536 = z := ⟨_, rfl⟩
  have z0 : 0 ≤ z := by omega
  have z1 : z ≤ 65535 := by omega
  obtain ⟨y, hy⟩ : ∃ y : Int, 8 + (dn : Int) = y := ⟨_, rfl⟩
  have hw8 : IntKind.i64.wrap (8 + (dn : Int)) = y := by rw [IntKind.wrap_i64]; omega
  have hwy : IntKind.u16.wrap y = z := by rw [IntKind.wrap_u16]; omega
  have HL : Hid (([] ++ twos [s.src, s.dst, z, 0]) ++ s.dat = dL s) := by unfold Hid dL; rw [ld, hz]
  have HN : Hid ((dL s).length = 8 + dn) := by unfold Hid; rw [dL_len, ld]
  have HLD := Lib.hid ld
  have HY := Lib.hid hy
  clear ld hz hy
  obtain ⟨k, hk, w1, hw1, P1, S1, Z1, H1, R1⟩ := nwI4 w #[.int .u8 (p).tos, .int .u16 (p).id, .bool (p).keep, .int .u8 (p).ttl, .int .u8 (p).proto, .int .u32 (p).src, .int .u32 (p).dst, .slice X1 m1 j1, .slice X2 m2 j2] 27 #[.int .u16 (s).src, .int .u16 (s).dst, .bool (s).bare, .slice DA dn dc] 32 #[.int .u8 0, .int .u16 0, .bool false, .int .u8 0, .int .u8 0, .int .u32 0, .int .u32 0, .slice none 0 0, .slice none 0 0] 27 #[.slice none 0 0] 62
  have Pc1 := P1.cell
  have Sc1 := S1.cell
  have Zc1 := Z1.cell
  have Hc1 := H1.cell
  have Pl1 := P1.lt
  have Sl1 := S1.lt
  have Zl1 := Z1.lt
  have Hl1 := H1.lt
  go_enter Try.func5, Try.ntmps5
  obtain ⟨g2, hg2⟩ : ∃ g : Nat, w1.heap.size = g := ⟨_, rfl⟩
  obtain ⟨v1, hv1⟩ : ∃ W, w1.alloc (.cells #[.int .u16 s.src, .int .u16 s.dst, .int .u16 z, .int .u16 0] 23) = W := ⟨_, rfl⟩
  have G2 : Blk v1 g2 (u16s [s.src, s.dst, z, 0]) 23 := by rw [← hv1]; exact blk_new w1 _ _ _ hg2
  have Vv : Below w1.heap.size w1 v1 := by first | exact bw1 hv1 | exact bw2 hv1 | exact bw3 hv1 | exact bw4 hv1
  have hk1 : w.heap.size ≤ k := Nat.le_of_eq hk
  have hk2 : k ≤ w.heap.size := Nat.le_of_eq hk.symm
  have zs1 := Vv.size
  have rs1 := R1.size
  have h2 := htwo_any w.heap.size w.heap.size (k + 1 + 1 + 1) #[.slice none 0 0] 62 none 0 0 [] g2 4 4 [s.src, s.dst, z, 0] rfl (by omega) v1 (H1.below Vv) rfl (own_nil _ _ _) (by omega) G2 (by intro x hx; simp at hx; omega) hTs (by omega) (by omega) (Nat.le_refl _) (by omega) (by omega)
  go_wp2_with (go_at_call 18; ((with_reducible refine (h2).mono ?_); rintro e w2 hpost); (obtain ⟨rfl, A2, n2, c2, H2, O2, B2, K2⟩ := hpost.out); simp only [List.setIfInBounds_toArray, List.set_cons_zero] at H2)
  have u2 : n2 = 8 := by rw [← O2.len]; simp [twos, two]
  subst u2
  have R2 := (R1.trans (Vv.mono (by omega))).trans B2
  have P2 := K2 k _ _ h77 (by omega) (P1.below Vv)
  have S2 := K2 (k + 1) _ _ h78 (by omega) (S1.below Vv)
  have Z2 := K2 (k + 1 + 1) _ _ h77 (by omega) (Z1.below Vv)
  obtain ⟨ga, rfl, gb, gl⟩ := O2.ptr (by omega)
  have nP := O2.ne_blk P2 h77 ga rfl
  have nS := O2.ne_blk S2 h78 ga rfl
  have nZ := O2.ne_blk Z2 h77 ga rfl
  have nH := O2.ne_blk H2 hTs ga rfl
  obtain ⟨E, hE'⟩ : ∃ E, dbE p s = E := ⟨_, rfl⟩
  obtain ⟨P, hP⟩ : ∃ P, P = withP p 17 (dL s) := ⟨_, rfl⟩
  have hw2 := fun W A n c k1 k3 hb => swith_all p X1 m1 j1 X2 m2 j2 17 (([] ++ twos [s.src, s.dst, z, 0]) ++ s.dat) P E (by rw [HL.out, dL_len]; exact hE') (by rw [HL.out]; exact hP) w.heap.size A n c W k1 k3 hb
  have HE := Lib.hid hE'
  have HP := Lib.hid hP
  have rs2 := R2.size
  clear hE' hP H1 P1 S1 Z1 Pc1 Sc1 Zc1 Hc1 Pl1 Sl1 Zl1 Hl1 R1 rs1 zs1 Vv G2 hg2 hv1 hw1 hk hpost h2 B2 K2
  refine regionXZ 13 11 [7] ga (fun c W => match c with | 0 => Own W w.heap.size 5 (some ⟨ga, 0, none⟩) 8 c2 ([] ++ twos [s.src, s.dst, z, 0]) | _ + 1 => True) (by kernel_rfl) (by kernel_rfl) (fun _ _ _ _ _ h => h) (by kernel_rfl) (by kernel_rfl) O2 (fun c W W' hj hb => by cases c with | zero => exact Own.below hj hb | succ n => trivial) ?_; (iterate 13 (first | (apply ObsY.skip (by rfl) (by rfl)) | (apply ObsY.v (by rfl) (by rfl); (intro wo hE; (repeat (first | (intro v hv; ((first | (obtain ⟨A7, n7, c7, rfl, o7⟩ := hv) | (obtain ⟨D1, g1, h1', D2, g2', h2', rfl, o13, o14⟩ := hv)))) | (intro _ _ k; try have hcv := cv k))); (have pco := (P2.ext hE (Ne.symm nP)).cell; have sco := (S2.ext hE (Ne.symm nS)).cell; have hco := (H2.ext hE (Ne.symm nH)).cell; have Ro := below_ext R2 hE gb rs2; have xo := k1.below Ro; have yo := kd.below Ro; have hsz := hE.size); refine Goes.mk ?_; first | (exact goes_appX _ _ rfl rfl hj (fun k e => by simp [Value.ownBlock] at e; exact e.symm) rfl yo (by omega) (by omega) (fun _ => trivial)) | (go_simp; first | exact goes_v | (first | exact goes_tup (by assumption) (by assumption) | exact goes_pk (by assumption) (by assumption) | exact goes_new hsz) | (refine goes_enter ?_; first | (go_at_call 19; ((with_reducible refine (hw2 wo A7 n7 c7 xo o7 (by omega)).mono ?_); rintro e w9 ⟨D1, g1, h1', D2, g2', h2', rfl, o13, o14, hB9⟩); exact ret_tup (P := P) o13 o14 hB9))))) | (apply ObsY.p (q := isNew w2.heap.size #[.int .u8 0, .int .u16 0, .bool false, .int .u8 0, .int .u8 0, .int .u32 0, .int .u32 0, .slice none 0 0, .slice none 0 0] 27) (by rfl) (by rfl) st_isNew (sx_isNew gl); (intro wo hE; (repeat (first | (intro v hv; ((first | (obtain ⟨A7, n7, c7, rfl, o7⟩ := hv) | (obtain ⟨D1, g1, h1', D2, g2', h2', rfl, o13, o14⟩ := hv)))) | (intro _ _ k; try have hcv := cv k))); (have pco := (P2.ext hE (Ne.symm nP)).cell; have sco := (S2.ext hE (Ne.symm nS)).cell; have hco := (H2.ext hE (Ne.symm nH)).cell; have Ro := below_ext R2 hE gb rs2; have xo := k1.below Ro; have yo := kd.below Ro; have hsz := hE.size); refine Goes.mk ?_; first | (exact goes_appX _ _ rfl rfl hj (fun k e => by simp [Value.ownBlock] at e; exact e.symm) rfl yo (by omega) (by omega) (fun _ => trivial)) | (go_simp; first | exact goes_v | (first | exact goes_tup (by assumption) (by assumption) | exact goes_pk (by assumption) (by assumption) | exact goes_new hsz) | (refine goes_enter ?_; first | (go_at_call 19; ((with_reducible refine (hw2 wo A7 n7 c7 xo o7 (by omega)).mono ?_); rintro e w9 ⟨D1, g1, h1', D2, g2', h2', rfl, o13, o14, hB9⟩); exact ret_tup (P := P) o13 o14 hB9))))) | (apply ObsY.ev (by rfl) (by rfl); (intro wo hE hj; (repeat (first | (intro v hv; ((first | (obtain ⟨A7, n7, c7, rfl, o7⟩ := hv) | (obtain ⟨D1, g1, h1', D2, g2', h2', rfl, o13, o14⟩ := hv)))) | (intro _ _ k; try have hcv := cv k))); (have pco := (P2.ext hE (Ne.symm nP)).cell; have sco := (S2.ext hE (Ne.symm nS)).cell; have hco := (H2.ext hE (Ne.symm nH)).cell; have Ro := below_ext R2 hE gb rs2; have xo := k1.below Ro; have yo := kd.below Ro; have hsz := hE.size); refine GoesX.mk ?_; first | (exact goes_appX _ _ rfl rfl hj (fun k e => by simp [Value.ownBlock] at e; exact e.symm) rfl yo (by omega) (by omega) (fun _ => trivial)) | (go_simp; first | exact goes_v | (first | exact goes_tup (by assumption) (by assumption) | exact goes_pk (by assumption) (by assumption) | exact goes_new hsz) | (refine goes_enter ?_; first | (go_at_call 19; ((with_reducible refine (hw2 wo A7 n7 c7 xo o7 (by omega)).mono ?_); rintro e w9 ⟨D1, g1, h1', D2, g2', h2', rfl, o13, o14, hB9⟩); exact ret_tup (P := P) o13 o14 hB9))))) | (apply ObsY.ep (q := isW w.heap.size (([] ++ twos [s.src, s.dst, z, 0]) ++ s.dat)) (by rfl) (by rfl) (by rfl) st_isW; (intro wo hE hj; (repeat (first | (intro v hv; ((first | (obtain ⟨A7, n7, c7, rfl, o7⟩ := hv) | (obtain ⟨D1, g1, h1', D2, g2', h2', rfl, o13, o14⟩ := hv)))) | (intro _ _ k; try have hcv := cv k))); (have pco := (P2.ext hE (Ne.symm nP)).cell; have sco := (S2.ext hE (Ne.symm nS)).cell; have hco := (H2.ext hE (Ne.symm nH)).cell; have Ro := below_ext R2 hE gb rs2; have xo := k1.below Ro; have yo := kd.below Ro; have hsz := hE.size); refine GoesX.mk ?_; first | (exact goes_appX _ _ rfl rfl hj (fun k e => by simp [Value.ownBlock] at e; exact e.symm) rfl yo (by omega) (by omega) (fun _ => trivial)) | (go_simp; first | exact goes_v | (first | exact goes_tup (by assumption) (by assumption) | exact goes_pk (by assumption) (by assumption) | exact goes_new hsz) | (refine goes_enter ?_; first | (go_at_call 19; ((with_reducible refine (hw2 wo A7 n7 c7 xo o7 (by omega)).mono ?_); rintro e w9 ⟨D1, g1, h1', D2, g2', h2', rfl, o13, o14, hB9⟩); exact ret_tup (P := P) o13 o14 hB9))))) | (apply ObsY.ep (q := isTup w.heap.size P E) (by rfl) (by rfl) (by rfl) st_isTup; (intro wo hE hj; (repeat (first | (intro v hv; ((first | (obtain ⟨A7, n7, c7, rfl, o7⟩ := hv) | (obtain ⟨D1, g1, h1', D2, g2', h2', rfl, o13, o14⟩ := hv)))) | (intro _ _ k; try have hcv := cv k))); (have pco := (P2.ext hE (Ne.symm nP)).cell; have sco := (S2.ext hE (Ne.symm nS)).cell; have hco := (H2.ext hE (Ne.symm nH)).cell; have Ro := below_ext R2 hE gb rs2; have xo := k1.below Ro; have yo := kd.below Ro; have hsz := hE.size); refine GoesX.mk ?_; first | (exact goes_appX _ _ rfl rfl hj (fun k e => by simp [Value.ownBlock] at e; exact e.symm) rfl yo (by omega) (by omega) (fun _ => trivial)) | (go_simp; first | exact goes_v | (first | exact goes_tup (by assumption) (by assumption) | exact goes_pk (by assumption) (by assumption) | exact goes_new hsz) | (refine goes_enter ?_; first | (go_at_call 19; ((with_reducible refine (hw2 wo A7 n7 c7 xo o7 (by omega)).mono ?_); rintro e w9 ⟨D1, g1, h1', D2, g2', h2', rfl, o13, o14, hB9⟩); exact ret_tup (P := P) o13 o14 hB9))))) | (apply ObsY.ep (q := isPk w.heap.size P) (by rfl) (by rfl) (by rfl) st_isPk; (intro wo hE hj; (repeat (first | (intro v hv; ((first | (obtain ⟨A7, n7, c7, rfl, o7⟩ := hv) | (obtain ⟨D1, g1, h1', D2, g2', h2', rfl, o13, o14⟩ := hv)))) | (intro _ _ k; try have hcv := cv k))); (have pco := (P2.ext hE (Ne.symm nP)).cell; have sco := (S2.ext hE (Ne.symm nS)).cell; have hco := (H2.ext hE (Ne.symm nH)).cell; have Ro := below_ext R2 hE gb rs2; have xo := k1.below Ro; have yo := kd.below Ro; have hsz := hE.size); refine GoesX.mk ?_; first | (exact goes_appX _ _ rfl rfl hj (fun k e => by simp [Value.ownBlock] at e; exact e.symm) rfl yo (by omega) (by omega) (fun _ => trivial)) | (go_simp; first | exact goes_v | (first | exact goes_tup (by assumption) (by assumption) | exact goes_pk (by assumption) (by assumption) | exact goes_new hsz) | (refine goes_enter ?_; first | (go_at_call 19; ((with_reducible refine (hw2 wo A7 n7 c7 xo o7 (by omega)).mono ?_); rintro e w9 ⟨D1, g1, h1', D2, g2', h2', rfl, o13, o14, hB9⟩); exact ret_tup (P := P) o13 o14 hB9))))) | (apply ObsY.ep (q := isNew w2.heap.size #[.int .u8 0, .int .u16 0, .bool false, .int .u8 0, .int .u8 0, .int .u32 0, .int .u32 0, .slice none 0 0, .slice none 0 0] 27) (by rfl) (by rfl) (by rfl) st_isNew; (intro wo hE hj; (repeat (first | (intro v hv; ((first | (obtain ⟨A7, n7, c7, rfl, o7⟩ := hv) | (obtain ⟨D1, g1, h1', D2, g2', h2', rfl, o13, o14⟩ := hv)))) | (intro _ _ k; try have hcv := cv k))); (have pco := (P2.ext hE (Ne.symm nP)).cell; have sco := (S2.ext hE (Ne.symm nS)).cell; have hco := (H2.ext hE (Ne.symm nH)).cell; have Ro := below_ext R2 hE gb rs2; have xo := k1.below Ro; have yo := kd.below Ro; have hsz := hE.size); refine GoesX.mk ?_; first | (exact goes_appX _ _ rfl rfl hj (fun k e => by simp [Value.ownBlock] at e; exact e.symm) rfl yo (by omega) (by omega) (fun _ => trivial)) | (go_simp; first | exact goes_v | (first | exact goes_tup (by assumption) (by assumption) | exact goes_pk (by assumption) (by assumption) | exact goes_new hsz) | (refine goes_enter ?_; first | (go_at_call 19; ((with_reducible refine (hw2 wo A7 n7 c7 xo o7 (by omega)).mono ?_); rintro e w9 ⟨D1, g1, h1', D2, g2', h2', rfl, o13, o14, hB9⟩); exact ret_tup (P := P) o13 o14 hB9))))) | (apply ObsY.ap (q := isW w.heap.size (([] ++ twos [s.src, s.dst, z, 0]) ++ s.dat)) (by rfl) (by rfl) (by kernel_rfl) st_isW; (intro wo hE; (repeat (first | (intro v hv; ((first | (obtain ⟨A7, n7, c7, rfl, o7⟩ := hv) | (obtain ⟨D1, g1, h1', D2, g2', h2', rfl, o13, o14⟩ := hv)))) | (intro _ _ k; try have hcv := cv k))); (have pco := (P2.ext hE (Ne.symm nP)).cell; have sco := (S2.ext hE (Ne.symm nS)).cell; have hco := (H2.ext hE (Ne.symm nH)).cell; have Ro := below_ext R2 hE gb rs2; have xo := k1.below Ro; have yo := kd.below Ro; have hsz := hE.size); refine Goes.mk ?_; first | (exact goes_appX _ _ rfl rfl hj (fun k e => by simp [Value.ownBlock] at e; exact e.symm) rfl yo (by omega) (by omega) (fun _ => trivial)) | (go_simp; first | exact goes_v | (first | exact goes_tup (by assumption) (by assumption) | exact goes_pk (by assumption) (by assumption) | exact goes_new hsz) | (refine goes_enter ?_; first | (go_at_call 19; ((with_reducible refine (hw2 wo A7 n7 c7 xo o7 (by omega)).mono ?_); rintro e w9 ⟨D1, g1, h1', D2, g2', h2', rfl, o13, o14, hB9⟩); exact ret_tup (P := P) o13 o14 hB9))))) | (apply ObsY.ap (q := isTup w.heap.size P E) (by rfl) (by rfl) (by kernel_rfl) st_isTup; (intro wo hE; (repeat (first | (intro v hv; ((first | (obtain ⟨A7, n7, c7, rfl, o7⟩ := hv) | (obtain ⟨D1, g1, h1', D2, g2', h2', rfl, o13, o14⟩ := hv)))) | (intro _ _ k; try have hcv := cv k))); (have pco := (P2.ext hE (Ne.symm nP)).cell; have sco := (S2.ext hE (Ne.symm nS)).cell; have hco := (H2.ext hE (Ne.symm nH)).cell; have Ro := below_ext R2 hE gb rs2; have xo := k1.below Ro; have yo := kd.below Ro; have hsz := hE.size); refine Goes.mk ?_; first | (exact goes_appX _ _ rfl rfl hj (fun k e => by simp [Value.ownBlock] at e; exact e.symm) rfl yo (by omega) (by omega) (fun _ => trivial)) | (go_simp; first | exact goes_v | (first | exact goes_tup (by assumption) (by assumption) | exact goes_pk (by assumption) (by assumption) | exact goes_new hsz) | (refine goes_enter ?_; first | (go_at_call 19; ((with_reducible refine (hw2 wo A7 n7 c7 xo o7 (by omega)).mono ?_); rintro e w9 ⟨D1, g1, h1', D2, g2', h2', rfl, o13, o14, hB9⟩); exact ret_tup (P := P) o13 o14 hB9))))) | (apply ObsY.ap (q := isPk w.heap.size P) (by rfl) (by rfl) (by kernel_rfl) st_isPk; (intro wo hE; (repeat (first | (intro v hv; ((first | (obtain ⟨A7, n7, c7, rfl, o7⟩ := hv) | (obtain ⟨D1, g1, h1', D2, g2', h2', rfl, o13, o14⟩ := hv)))) | (intro _ _ k; try have hcv := cv k))); (have pco := (P2.ext hE (Ne.symm nP)).cell; have sco := (S2.ext hE (Ne.symm nS)).cell; have hco := (H2.ext hE (Ne.symm nH)).cell; have Ro := below_ext R2 hE gb rs2; have xo := k1.below Ro; have yo := kd.below Ro; have hsz := hE.size); refine Goes.mk ?_; first | (exact goes_appX _ _ rfl rfl hj (fun k e => by simp [Value.ownBlock] at e; exact e.symm) rfl yo (by omega) (by omega) (fun _ => trivial)) | (go_simp; first | exact goes_v | (first | exact goes_tup (by assumption) (by assumption) | exact goes_pk (by assumption) (by assumption) | exact goes_new hsz) | (refine goes_enter ?_; first | (go_at_call 19; ((with_reducible refine (hw2 wo A7 n7 c7 xo o7 (by omega)).mono ?_); rintro e w9 ⟨D1, g1, h1', D2, g2', h2', rfl, o13, o14, hB9⟩); exact ret_tup (P := P) o13 o14 hB9))))) | (apply ObsY.ap (q := isNew w2.heap.size #[.int .u8 0, .int .u16 0, .bool false, .int .u8 0, .int .u8 0, .int .u32 0, .int .u32 0, .slice none 0 0, .slice none 0 0] 27) (by rfl) (by rfl) (by kernel_rfl) st_isNew; (intro wo hE; (repeat (first | (intro v hv; ((first | (obtain ⟨A7, n7, c7, rfl, o7⟩ := hv) | (obtain ⟨D1, g1, h1', D2, g2', h2', rfl, o13, o14⟩ := hv)))) | (intro _ _ k; try have hcv := cv k))); (have pco := (P2.ext hE (Ne.symm nP)).cell; have sco := (S2.ext hE (Ne.symm nS)).cell; have hco := (H2.ext hE (Ne.symm nH)).cell; have Ro := below_ext R2 hE gb rs2; have xo := k1.below Ro; have yo := kd.below Ro; have hsz := hE.size); refine Goes.mk ?_; first | (exact goes_appX _ _ rfl rfl hj (fun k e => by simp [Value.ownBlock] at e; exact e.symm) rfl yo (by omega) (by omega) (fun _ => trivial)) | (go_simp; first | exact goes_v | (first | exact goes_tup (by assumption) (by assumption) | exact goes_pk (by assumption) (by assumption) | exact goes_new hsz) | (refine goes_enter ?_; first | (go_at_call 19; ((with_reducible refine (hw2 wo A7 n7 c7 xo o7 (by omega)).mono ?_); rintro e w9 ⟨D1, g1, h1', D2, g2', h2', rfl, o13, o14, hB9⟩); exact ret_tup (P := P) o13 o14 hB9))))))); refine ObsY.nil ?_; intro wz hEz hJz; simp only [finOn, List.drop_succ_cons, List.drop_zero, List.drop_nil]
  rintro v12 ⟨gq, rfl, hgq, Q⟩ v10 ⟨D1, g1, h1', D2, g2', h2', rfl, O13, O14⟩ v9 hv9 v8 hv8 v7 hv7
  go_simp
  clear hv9 hv8 hv7
  have Q7 := Q.cell
  have Z7 := Z2.ext hEz (Ne.symm nZ)
  have S7 := S2.ext hEz (Ne.symm nS)
  have R7 := below_ext R2 hEz gb rs2
  have qneZ : k + 1 + 1 ≠ gq := by have := Z2.lt; omega
  have qneS : k + 1 ≠ gq := by have := S2.lt; omega
  obtain ⟨wf, hwf, Sf⟩ := store9 Q (.int .u8 P.tos) (.int .u16 P.id) (.bool P.keep) (.int .u8 P.ttl) (.int .u8 P.proto) (.int .u32 P.src) (.int .u32 P.dst) (.slice D1 g1 h1') (.slice D2 g2' h2')
  have Qf := Sf.blk
  have Zf := Sf.other qneZ Z7
  have Sgf := Sf.other qneS S7
  have Of := Sf.own O13 (fun a e => O13.ne_blk Q h77 a.block (by rw [e]; rfl))
  have Df := Sf.own O14 (fun a e => O14.ne_blk Q h77 a.block (by rw [e]; rfl))
  have Rf := Sf.bel R7 (by omega)
  have qcf := Qf.cell
  have zcf := Zf.cell
  have scf := Sgf.cell
  clear Sf O13 O14
  by_cases hE0 : E = 0
  · subst hE0
    rcases Bool.eq_false_or_eq_true s.bare with hb | hb
    · have HPP : Hid (dbP p s = P) := by unfold Hid dbP dS; rw [hb, if_pos rfl]; exact HP.out.symm
      clear hw2
      go_wp2_with fail
      obtain ⟨wh, hwh, Sh⟩ := store9 Zf (.int .u8 P.tos) (.int .u16 P.id) (.bool P.keep) (.int .u8 P.ttl) (.int .u8 P.proto) (.int .u32 P.src) (.int .u32 P.dst) (.slice D1 g1 h1') (.slice D2 g2' h2')
      rw [hwh]
      have ph := Sh.blk.cell
      have Oh := Sh.own Of (fun a e => Of.ne_blk Zf h77 a.block (by rw [e]; rfl))
      have Dh := Sh.own Df (fun a e => Df.ne_blk Zf h77 a.block (by rw [e]; rfl))
      exact bodyPost_ret (v := .tuple #[(.agg #[.int .u8 (P).tos, .int .u16 (P).id, .bool (P).keep, .int .u8 (P).ttl, .int .u8 (P).proto, .int .u32 (P).src, .int .u32 (P).dst, .slice D1 g1 h1', .slice D2 g2' h2']), .int .i64 0]) (by simp [results, Try.results5, go_sem, ph]) rfl (by rw [HE.out, HPP.out]; exact ⟨⟨D1, g1, h1', D2, g2', h2', rfl, Oh, Dh, Sh.bel Rf (by omega)⟩⟩)
    · have hp1 : P = { p with proto := 17, dat := dL s } := by rw [HP.out]; unfold withP; rw [dL_len, show wiE p (8 + s.dat.length) = 0 from HE.out, if_pos rfl]
      have HPP : Hid (dbP p s = { p with proto := 17, dat := dS p s }) := by unfold Hid dbP withP; rw [dS_len, show wiE p (8 + s.dat.length) = 0 from HE.out, if_pos rfl]
      clear HP hw2
      subst hp1
      have hp' : ({ p with proto := 17, dat := dL s } : Pkt).Ok := by
        obtain ⟨e1, e2, e3, e4, e5, e6⟩ := hp
        exact ⟨e1, e2, e3, ⟨by show (0 : Int) ≤ 17; omega, by show (17 : Int) ≤ 255; omega⟩, e5, e6⟩
      have Dfb := Df.bs
      have g1b : g2' ≤ 140737488400000 := by
        have h1 := Df.len
        have h2 : (dL s).length = g2' := h1
        rw [HN.out] at h2
        omega
      obtain ⟨zz, hzz⟩ : ∃ z, psum p 17 (dL s) = z := ⟨_, rfl⟩
      have zz0 : 0 ≤ zz := by rw [← hzz]; exact csum_lo _
      have zz1 : zz ≤ 65535 := by rw [← hzz]; exact csum_hi _
      have hsum : ∀ W, Bs W D2 g2' h2' (dL s) → Calls Try.prog 20 #[(.agg #[.int .u8 ({ p with proto := 17, dat := dL s }).tos, .int .u16 ({ p with proto := 17, dat := dL s }).id, .bool ({ p with proto := 17, dat := dL s }).keep, .int .u8 ({ p with proto := 17, dat := dL s }).ttl, .int .u8 ({ p with proto := 17, dat := dL s }).proto, .int .u32 ({ p with proto := 17, dat := dL s }).src, .int .u32 ({ p with proto := 17, dat := dL s }).dst, .slice D1 g1 h1', .slice D2 g2' h2']), .int .u8 17, .slice D2 g2' h2'] W fun e w' => e = .returned (.int .u16 zz) ∧ Below W.heap.size W w' := fun W bo => by
        have := ssum_any { p with proto := 17, dat := dL s } hp' D1 g1 h1' D2 g2' h2' 17 (by omega) (by omega) D2 g2' h2' (dL s) W bo g1b
        rw [← hzz]
        exact this
      clear hp' hp
      by_cases hz0 : zz = 0
      · subst hz0
        have HS : Hid (put16 (dL s) 6 65535 = dS p s) := by unfold Hid dS dZ; rw [hb, hzz]; rfl
        clear hzz
        go_wp2_with (first
        | (go_at_call 20; ((with_reducible refine (hsum wf Dfb).mono ?_); rintro e w8 ⟨rfl, hB8⟩); have Q8 := Qf.below hB8; have Z8 := Zf.below hB8; have O8 := Of.below hB8; have D8b := Dfb.below hB8; have R8 := Rf.trans (hB8.mono Rf.size); have q8 := Q8.cell)
        | (go_at_call 21; ((with_reducible refine (put16_any D2 g2' h2' (dL s) 6 65535 (by omega) (by omega) w8 D8b).mono ?_); rintro e w9 ⟨A9, c9, rfl, O9, hB9⟩); rw [HS.out] at O9; have Q9 := Q8.below hB9; have q9 := Q9.cell; have Z9 := Z8.below hB9; have OP9 := O8.below hB9; have R9 := R8.trans (hB9.mono R8.size); have O9' := O9.mono R8.size; (obtain ⟨wg, hwg, Sg⟩ := store1 Q9 8 (.slice A9 g2' c9)); simp only [List.setIfInBounds_toArray, List.set_cons_zero, List.set_cons_succ] at Sg; have qg := Sg.blk.cell; have Zg := Sg.other qneZ Z9; have zg := Zg.cell; have Og := Sg.own OP9 (fun a e => OP9.ne_blk Q9 h77 a.block (by rw [e]; rfl)); have Dg := Sg.own O9' (fun a e => O9'.ne_blk Q9 h77 a.block (by rw [e]; rfl)); have Rg := Sg.bel R9 (by omega)))
        obtain ⟨wh, hwh, Sh⟩ := store9 Zg (.int .u8 p.tos) (.int .u16 p.id) (.bool p.keep) (.int .u8 p.ttl) (.int .u8 17) (.int .u32 p.src) (.int .u32 p.dst) (.slice D1 g1 h1') (.slice A9 g2' c9)
        rw [hwh]
        have ph := Sh.blk.cell
        have Oh := Sh.own Og (fun a e => Og.ne_blk Zg h77 a.block (by rw [e]; rfl))
        have Dh := Sh.own Dg (fun a e => Dg.ne_blk Zg h77 a.block (by rw [e]; rfl))
        exact bodyPost_ret (v := .tuple #[.agg #[.int .u8 p.tos, .int .u16 p.id, .bool p.keep, .int .u8 p.ttl, .int .u8 17, .int .u32 p.src, .int .u32 p.dst, .slice D1 g1 h1', .slice A9 g2' c9], .int .i64 0]) (by simp [results, Try.results5, go_sem, ph]) rfl (by rw [HE.out, HPP.out]; exact ⟨⟨D1, g1, h1', A9, g2', c9, rfl, Oh, Dh, Sh.bel Rg (by omega)⟩⟩)
      · have HS : Hid (put16 (dL s) 6 zz = dS p s) := by unfold Hid dS dZ; rw [hb, hzz, if_neg hz0]; rfl
        have z0b : (zz == 0) = false := by simpa using hz0
        clear hzz
        go_wp2_with (first
        | (go_at_call 20; ((with_reducible refine (hsum wf Dfb).mono ?_); rintro e w8 ⟨rfl, hB8⟩); have Q8 := Qf.below hB8; have Z8 := Zf.below hB8; have O8 := Of.below hB8; have D8b := Dfb.below hB8; have R8 := Rf.trans (hB8.mono Rf.size); have q8 := Q8.cell)
        | (go_at_call 21; ((with_reducible refine (put16_any D2 g2' h2' (dL s) 6 zz zz0 zz1 w8 D8b).mono ?_); rintro e w9 ⟨A9, c9, rfl, O9, hB9⟩); rw [HS.out] at O9; have Q9 := Q8.below hB9; have q9 := Q9.cell; have Z9 := Z8.below hB9; have OP9 := O8.below hB9; have R9 := R8.trans (hB9.mono R8.size); have O9' := O9.mono R8.size; (obtain ⟨wg, hwg, Sg⟩ := store1 Q9 8 (.slice A9 g2' c9)); simp only [List.setIfInBounds_toArray, List.set_cons_zero, List.set_cons_succ] at Sg; have qg := Sg.blk.cell; have Zg := Sg.other qneZ Z9; have zg := Zg.cell; have Og := Sg.own OP9 (fun a e => OP9.ne_blk Q9 h77 a.block (by rw [e]; rfl)); have Dg := Sg.own O9' (fun a e => O9'.ne_blk Q9 h77 a.block (by rw [e]; rfl)); have Rg := Sg.bel R9 (by omega)))
        obtain ⟨wh, hwh, Sh⟩ := store9 Zg (.int .u8 p.tos) (.int .u16 p.id) (.bool p.keep) (.int .u8 p.ttl) (.int .u8 17) (.int .u32 p.src) (.int .u32 p.dst) (.slice D1 g1 h1') (.slice A9 g2' c9)
        rw [hwh]
        have ph := Sh.blk.cell
        have Oh := Sh.own Og (fun a e => Og.ne_blk Zg h77 a.block (by rw [e]; rfl))
        have Dh := Sh.own Dg (fun a e => Dg.ne_blk Zg h77 a.block (by rw [e]; rfl))
        exact bodyPost_ret (v := .tuple #[.agg #[.int .u8 p.tos, .int .u16 p.id, .bool p.keep, .int .u8 p.ttl, .int .u8 17, .int .u32 p.src, .int .u32 p.dst, .slice D1 g1 h1', .slice A9 g2' c9], .int .i64 0]) (by simp [results, Try.results5, go_sem, ph]) rfl (by rw [HE.out, HPP.out]; exact ⟨⟨D1, g1, h1', A9, g2', c9, rfl, Oh, Dh, Sh.bel Rg (by omega)⟩⟩)
  · have HPP : Hid (dbP p s = P) := by
      have h1 : wiE p (8 + s.dat.length) ≠ 0 := by rw [show wiE p (8 + s.dat.length) = E from HE.out]; exact hE0
      unfold Hid dbP withP
      rw [dS_len, if_neg h1, HP.out]
      unfold withP
      rw [dL_len, if_neg h1]
    have e0 : (E == 0) = false := by simpa using hE0
    have e1 : decide (E = 0) = false := by simpa using hE0
    clear hw2
    go_wp2_with fail
    obtain ⟨wh, hwh, Sh⟩ := store9 Zf (.int .u8 P.tos) (.int .u16 P.id) (.bool P.keep) (.int .u8 P.ttl) (.int .u8 P.proto) (.int .u32 P.src) (.int .u32 P.dst) (.slice D1 g1 h1') (.slice D2 g2' h2')
    rw [hwh]
    have ph := Sh.blk.cell
    have Oh := Sh.own Of (fun a e => Of.ne_blk Zf h77 a.block (by rw [e]; rfl))
    have Dh := Sh.own Df (fun a e => Df.ne_blk Zf h77 a.block (by rw [e]; rfl))
    exact bodyPost_ret (v := .tuple #[(.agg #[.int .u8 (P).tos, .int .u16 (P).id, .bool (P).keep, .int .u8 (P).ttl, .int .u8 (P).proto, .int .u32 (P).src, .int .u32 (P).dst, .slice D1 g1 h1', .slice D2 g2' h2']), .int .i64 E]) (by simp [results, Try.results5, go_sem, ph]) rfl (by rw [HE.out, HPP.out]; exact ⟨⟨D1, g1, h1', D2, g2', h2', rfl, Oh, Dh, Sh.bel Rf (by omega)⟩⟩)
theorem pseudo_len (s d p n : Int) : (pseudo s d p n).length = 12 := rfl
theorem put16_behind {a b : List UInt8} {i : Nat} {v : Int} (h : i + 2 ≤ b.length) : put16 (a ++ b) ((a.length + i : Nat) : Int) v = a ++ put16 b i v := by
  rw [put16_eq (by rw [List.length_append]; omega), put16_eq h, List.set_append_right _ _ (by omega), List.set_append_right _ _ (by omega)]
  rw [show a.length + i - a.length = i from by omega, show a.length + i + 1 - a.length = i + 1 from by omega]
theorem psum_z {p : Pkt} {pr : Int} {l : List UInt8} {j : Nat} (h : 2 * j + 2 ≤ l.length) (h0 : wd l j = 0) (v : Int) (v0 : 0 ≤ v) (v1 : v ≤ 65535) :
    psum p pr (put16 l (2 * j : Nat) v) = csum (put16 (pseudo p.src p.dst pr l.length ++ l) (2 * (6 + j) : Nat) v) ∧ 2 * (6 + j) + 2 ≤ (pseudo p.src p.dst pr l.length ++ l).length ∧ wd (pseudo p.src p.dst pr l.length ++ l) (6 + j) = 0 := by
  refine ⟨?_, by rw [List.length_append, pseudo_len]; omega, ?_⟩
  · unfold psum
    rw [put16_length, show (2 * (6 + j) : Nat) = (pseudo p.src p.dst pr l.length).length + 2 * j from by rw [pseudo_len]; omega, put16_behind h]
  · rw [wd_append_right (m := 6) _ rfl]; exact h0
theorem psum_good {p : Pkt} {pr : Int} {l : List UInt8} {j : Nat} (h : 2 * j + 2 ≤ l.length) (h0 : wd l j = 0) : psum p pr (put16 l (2 * j : Nat) (psum p pr l)) = 0 := by
  obtain ⟨e, h1, h2⟩ := psum_z (p := p) (pr := pr) h h0 (psum p pr l) (csum_lo _) (csum_hi _)
  rw [e]
  exact good_put h1 h2
theorem psum_good2 {p : Pkt} {pr : Int} {l : List UInt8} {j : Nat} (h : 2 * j + 2 ≤ l.length) (h0 : wd l j = 0) (hs : psum p pr l = 0) : psum p pr (put16 l (2 * j : Nat) 65535) = 0 := by
  obtain ⟨e, h1, h2⟩ := psum_z (p := p) (pr := pr) h h0 65535 (by omega) (by omega)
  rw [e]
  obtain ⟨t1, t2⟩ := (csum_zero _).1 hs
  rw [csum_zero, ws_put16 (by omega) (by omega) h1, h2]
  have t3 := ws_lo (pseudo p.src p.dst pr l.length ++ l)
  generalize ws (pseudo p.src p.dst pr l.length ++ l) = W at t1 t2 t3 ⊢
  exact ⟨by omega, by omega⟩
theorem wiE_zero {p : Pkt} {n : Nat} (h : wiE p n = 0) : p.opt.length ≤ 40 ∧ p.opt.length % 4 = 0 ∧ 20 + p.opt.length + n ≤ 65535 := by
  unfold wiE at h
  split at h
  · omega
  · split at h <;> omega
theorem dL_at {d : Dgm} (hd : d.Ok) (h : 8 + d.dat.length ≤ 65535) : get16 (dL d) 0 = d.src ∧ get16 (dL d) 2 = d.dst ∧ get16 (dL d) 4 = 8 + (d.dat.length : Int) ∧ get16 (dL d) 6 = 0 ∧ (dL d).drop 8 = d.dat := by
  obtain ⟨⟨a0, a1⟩, ⟨b0, b1⟩⟩ := hd
  have e : dL d = [ub (d.src / 256), ub d.src, ub (d.dst / 256), ub d.dst, ub ((8 + (d.dat.length : Int)) % 65536 / 256), ub ((8 + (d.dat.length : Int)) % 65536), ub (0 / 256), ub 0] ++ d.dat := by simp [dL, twos, two]
  rw [e]
  have hl : ([ub (d.src / 256), ub d.src, ub (d.dst / 256), ub d.dst, ub ((8 + (d.dat.length : Int)) % 65536 / 256), ub ((8 + (d.dat.length : Int)) % 65536), ub (0 / 256), ub 0] ++ d.dat).length = 8 + d.dat.length := by simp; omega
  refine ⟨?_, ?_, ?_, ?_, ?_⟩
  · rw [get16_in (by omega) (by omega)]
    show ((ub _).toNat : Int) * 256 + ((ub _).toNat : Int) = _
    rw [ub_val, ub_val]; omega
  · rw [get16_in (by omega) (by omega)]
    show ((ub _).toNat : Int) * 256 + ((ub _).toNat : Int) = _
    rw [ub_val, ub_val]; omega
  · rw [get16_in (by omega) (by omega)]
    show ((ub _).toNat : Int) * 256 + ((ub _).toNat : Int) = _
    rw [ub_val, ub_val]; omega
  · rw [get16_in (by omega) (by omega)]
    show ((ub _).toNat : Int) * 256 + ((ub _).toNat : Int) = _
    rw [ub_val, ub_val]; omega
  · exact List.drop_left' (by simp)
theorem dZ_ok (p : Pkt) (d : Dgm) : 1 ≤ dZ p d ∧ dZ p d ≤ 65535 := by
  have h0 := csum_lo (pseudo p.src p.dst 17 (dL d).length ++ dL d)
  have h1 := csum_hi (pseudo p.src p.dst 17 (dL d).length ++ dL d)
  have e : dZ p d = if csum (pseudo p.src p.dst 17 (dL d).length ++ dL d) = 0 then 65535 else csum (pseudo p.src p.dst 17 (dL d).length ++ dL d) := rfl
  rw [e]
  split <;> omega
theorem dL_wd {d : Dgm} (hd : d.Ok) (h : 8 + d.dat.length ≤ 65535) : wd (dL d) 3 = 0 := by
  have := (dL_at hd h).2.2.2.1
  rw [← get16_wd (l := dL d) (j := 3) (by rw [dL_len]; omega)]
  exact this
theorem dS_sum {p : Pkt} {d : Dgm} (hd : d.Ok) (h : 8 + d.dat.length ≤ 65535) (hb : d.bare = false) : psum p 17 (dS p d) = 0 := by
  have hl : 2 * 3 + 2 ≤ (dL d).length := by rw [dL_len]; omega
  unfold dS
  rw [hb]
  show psum p 17 (put16 (dL d) ((2 * 3 : Nat) : Int) (dZ p d)) = 0
  unfold dZ
  split
  · rename_i h0; exact psum_good2 hl (dL_wd hd h) h0
  · exact psum_good hl (dL_wd hd h)
theorem dS_at {p : Pkt} {d : Dgm} (hd : d.Ok) (h : 8 + d.dat.length ≤ 65535) : get16 (dS p d) 0 = d.src ∧ get16 (dS p d) 2 = d.dst ∧ get16 (dS p d) 4 = 8 + (d.dat.length : Int) ∧ (get16 (dS p d) 6 == 0) = d.bare ∧ (dS p d).drop 8 = d.dat := by
  obtain ⟨h0, h2, h4, h6, h8⟩ := dL_at hd h
  have hl := dL_len d
  obtain ⟨z0, z1⟩ := dZ_ok p d
  unfold dS
  cases hb : d.bare with
  | true => exact ⟨h0, h2, h4, by simpa using h6, h8⟩
  | false =>
    show get16 (put16 (dL d) ((6 : Nat) : Int) (dZ p d)) ((0 : Nat) : Int) = _ ∧ get16 (put16 (dL d) ((6 : Nat) : Int) (dZ p d)) ((2 : Nat) : Int) = _ ∧ get16 (put16 (dL d) ((6 : Nat) : Int) (dZ p d)) ((4 : Nat) : Int) = _ ∧ (get16 (put16 (dL d) ((6 : Nat) : Int) (dZ p d)) ((6 : Nat) : Int) == 0) = _ ∧ (put16 (dL d) ((6 : Nat) : Int) (dZ p d)).drop 8 = _
    rw [get16_put16_far (by omega) (by omega) (by omega), get16_put16_far (by omega) (by omega) (by omega), get16_put16_far (by omega) (by omega) (by omega), get16_put16 (by omega) z1 (by omega)]
    refine ⟨h0, h2, h4, by simp; omega, ?_⟩
    rw [put16_eq (by omega), List.drop_set_of_lt (by omega), List.drop_set_of_lt (by omega)]
    exact h8
theorem ud_form {p q : Pkt} {d : Dgm} (hd : d.Ok) (h : 8 + d.dat.length ≤ 65535) (h17 : q.proto = 17) (hq : q.dat = dS p d) (hs : d.bare = true ∨ psum q 17 q.dat = 0) : udE q = 0 ∧ udD q = d := by
  obtain ⟨h0, h2, h4, h6, h8⟩ := dS_at (p := p) hd h
  rw [← hq] at h0 h2 h4 h6 h8
  have hl : q.dat.length = 8 + d.dat.length := by rw [hq, dS_len]
  have e : udE q = 0 := by
    unfold udE
    rw [if_neg (by simp [h17]), if_neg (by omega), if_neg (by rw [h4, hl]; simp), if_neg]
    rintro ⟨h9, h10⟩
    rcases hs with hs | hs
    · rw [hs] at h6
      exact h9 (by simpa using h6)
    · exact h10 hs
  refine ⟨e, ?_⟩
  unfold udD
  rw [if_pos e]
  unfold rdD
  rw [h0, h2, h6, h8]
theorem db_form {p : Pkt} {d : Dgm} (h : dbE p d = 0) : dbP p d = { p with proto := 17, dat := dS p d } ∧ p.opt.length ≤ 40 ∧ p.opt.length % 4 = 0 ∧ 20 + p.opt.length + (8 + d.dat.length) ≤ 65535 := by
  have hw := wiE_zero h
  refine ⟨?_, hw⟩
  unfold dbP withP
  rw [dS_len]
  unfold dbE at h
  rw [if_pos h]
theorem db_back {p : Pkt} {d : Dgm} (hd : d.Ok) (h : dbE p d = 0) : udE (dbP p d) = 0 ∧ udD (dbP p d) = d ∧ rightP (dbP p d) = true ∧ (dbP p d).ttl = p.ttl := by
  obtain ⟨e, h1, h2, h3⟩ := db_form h
  have h8 : 8 + d.dat.length ≤ 65535 := by omega
  have hs : d.bare = true ∨ psum (dbP p d) 17 (dbP p d).dat = 0 := by
    cases hb : d.bare with
    | true => exact .inl rfl
    | false => right; rw [e]; exact dS_sum hd h8 hb
  have := ud_form hd h8 (q := dbP p d) (p := p) (by rw [e]) (by rw [e]) hs
  refine ⟨this.1, this.2, ?_, by rw [e]⟩
  rw [e]; unfold rightP
  simp [dS_len]
  omega





end Go.Proofs.Ytjhgcnoijajffaa
namespace Go.Proofs.Ytjhgcnoijajffaa
open Go.RowKit Go.Shelf
set_option linter.unusedVariables false
set_option linter.unusedSimpArgs false
attribute [local go_sem] Oper.semAt_some
set_option linter.unusedVariables false
set_option linter.unusedSimpArgs false
set_option maxHeartbeats 4000000
set_option maxRecDepth 100000
structure SpX where
  o : Opt
  A : Option Addr
  n : Nat
  c : Nat
  ok : Bool
structure SpS where
  os : List Opt
  v : Value
  pd : Option SpX
  bad : Bool
def SplI (w : World) (B : Nat) (C : List Opt → World → Prop) (s : SpS) (W : World) : Prop :=
  C s.os W ∧ W.cell? ⟨B, 0, none⟩ = some s.v ∧ W.frozen? ⟨B, 0, none⟩ = false ∧ Below w.heap.size w W ∧ s.bad = false ∧ ∀ x, s.pd = some x → x.ok = true → Own W w.heap.size 5 x.A x.n x.c x.o.dat
theorem SplI.below {w : World} {B : Nat} {C : List Opt → World → Prop} (hC : ∀ os W W', C os W → Below W.heap.size W W' → C os W') {s : SpS} {W W' : World} (h : SplI w B C s W) (hb : Below W.heap.size W W') : SplI w B C s W' := by
  obtain ⟨h1, h2, h3, h4, h5, h6⟩ := h
  have hlt := World.block_lt_of_cell? W _ h2
  exact ⟨hC _ _ _ h1 hb, (hb.cell hlt).trans h2, (hb.frozen hlt).trans h3, below_then h4 hb, h5, fun x hx ho => (h6 x hx ho).below hb⟩
end Go.Proofs.Ytjhgcnoijajffaa
namespace Go.Proofs.Ytjhgcnoijajffaa
open Go.RowKit Go.Shelf
set_option linter.unusedVariables false
set_option linter.unusedSimpArgs false
attribute [local go_sem] Oper.semAt_some
set_option linter.unusedVariables false
set_option linter.unusedSimpArgs false
set_option maxHeartbeats 8000000
set_option maxRecDepth 100000
end Go.Proofs.Ytjhgcnoijajffaa
namespace Go.Proofs.Ytjhgcnoijajffaa
open Go.RowKit Go.Shelf
set_option linter.unusedVariables false
set_option linter.unusedSimpArgs false
attribute [local go_sem] Oper.semAt_some jump_normal jump_exit jump_ret jump_panic jump_goto
set_option linter.unusedVariables false
set_option linter.unusedSimpArgs false
set_option maxHeartbeats 8000000
set_option maxRecDepth 100000
end Go.Proofs.Ytjhgcnoijajffaa
namespace Go.Proofs.Ytjhgcnoijajffaa
open Go.RowKit Go.Shelf
set_option linter.unusedVariables false
set_option linter.unusedSimpArgs false
attribute [local go_sem] Oper.semAt_some jump_normal jump_exit jump_ret jump_panic jump_goto
set_option linter.unusedVariables false
set_option linter.unusedSimpArgs false
set_option linter.unusedSimpArgs false
set_option maxHeartbeats 8000000
set_option maxRecDepth 100000
structure SO (W : World) (base r : Nat) (t : TypeId) (A : Option Addr) (n c : Nat) (os : List Opt) : Prop where
  o : OsO W base A n c os
  b : ∃ cs, Blk W r cs t
theorem SO.set {W : World} {base r : Nat} {t : TypeId} {A : Option Addr} {n c : Nat} {os : List Opt} (h : SO W base r t A n c os) (h1 : t ≠ 5) (h2 : t ≠ 162) (j : Nat) (v : Value) : SO (W.setCell ⟨r, j, none⟩ v) base r t A n c os := by
  obtain ⟨h3, cs, h4⟩ := h
  exact ⟨h3.apart (grownBy_setCell _ _ _) (fun j e => by cases e; exact ⟨h4.notOf h1, h4.notOf h2⟩), _, h4.set_ j v⟩
theorem SO.below {W W' : World} {base r : Nat} {t : TypeId} {A : Option Addr} {n c : Nat} {os : List Opt} (h : SO W base r t A n c os) (hb : Below W.heap.size W W') : SO W' base r t A n c os := by
  obtain ⟨h3, cs, h4⟩ := h
  exact ⟨h3.below hb, cs, h4.below hb⟩
structure TcC (w : World) (k kB D : Nat) (os : List Opt) (W : World) : Prop where
  s : ∃ OA oc, Blk W (k + 1) #[.int .u16 0, .int .u16 0, .int .u32 0, .int .u32 0, .int .u8 0, .int .u16 0, .int .u16 0, .slice OA os.length oc, .slice none 0 0] 131 ∧ OsO W w.heap.size OA os.length oc os
  e : Blk W (k + 1 + 1) #[.int .i64 3] 28
  b : ∃ v, Blk W kB #[v] 25
  d : NoCells W (D + 1)
theorem TcC.below {w : World} {k kB D : Nat} {os : List Opt} {W W' : World} (h : TcC w k kB D os W) (hb : Below W.heap.size W W') : TcC w k kB D os W' := by
  obtain ⟨⟨OA, oc, h1, h2⟩, h3, ⟨v, h4⟩, h5⟩ := h
  exact ⟨⟨OA, oc, h1.below hb, h2.below hb⟩, h3.below hb, ⟨v, h4.below hb⟩, h5.below hb⟩
theorem TcC.put {w : World} {k kB D : Nat} {os : List Opt} {W : World} (h : TcC w k kB D os W) (o : Obj) (ho : o.isCells = false) : TcC w k kB D os (W.putObj (D + 1) o) := by
  obtain ⟨⟨OA, oc, k1, k2⟩, k3, ⟨v, k4⟩, k5⟩ := h
  exact ⟨⟨OA, oc, k1.put k5 o, k2.apart (grownBy_putObj' _ _ _) (fun j e => by cases e; exact ⟨k5.notOf _, k5.notOf _⟩)⟩, k3.put k5 o, ⟨v, k4.put k5 o⟩, k5.put _ _ ho⟩
end Go.Proofs.Ytjhgcnoijajffaa
namespace Go.Proofs.Ytjhgcnoijajffaa
open Go.RowKit
set_option linter.unusedVariables false
set_option linter.unusedSimpArgs false
set_option maxHeartbeats 4000000

set_option maxRecDepth 100000
structure Msg where
  ty : Int
  code : Int
  rest : Int
  dat : List UInt8
structure Msg.Ok (m : Msg) : Prop where
  ty : 0 ≤ m.ty ∧ m.ty ≤ 255
  code : 0 ≤ m.code ∧ m.code ≤ 255
  rest : 0 ≤ m.rest ∧ m.rest ≤ 4294967295

structure Frm where
  call : Int
  hs : Bool
  ha : Bool
  seq : Int
  ack : Int
  dat : List UInt8
structure Frm.Ok (f : Frm) : Prop where
  call : 0 ≤ f.call ∧ f.call ≤ 65535
  seq : 0 ≤ f.seq ∧ f.seq ≤ 4294967295
  ack : 0 ≤ f.ack ∧ f.ack ≤ 4294967295





end Go.Proofs.Ytjhgcnoijajffaa
namespace Go.Proofs.Ytjhgcnoijajffaa
open Go.RowKit Go.MapKept
set_option linter.unusedVariables false
set_option linter.unusedSimpArgs false
set_option maxHeartbeats 4000000
set_option maxRecDepth 100000
def wayT : Value := .agg #[.func (.func 49) #[] #[], .func (.func 48) #[] #[]]
def wayU : Value := .agg #[.func (.func 50) #[] #[], .func (.func 48) #[] #[]]
def wayI : Value := .agg #[.func (.func 51) #[] #[], .func (.func 52) #[] #[]]
def wayG : Value := .agg #[.func (.func 53) #[] #[], .func (.func 54) #[] #[]]
def kn : Nat → Array MapEntry
  | 0 => #[]
  | 1 => #[⟨.int .u8 6, wayT, 0⟩]
  | 2 => #[⟨.int .u8 6, wayT, 0⟩, ⟨.int .u8 17, wayU, 1⟩]
  | 3 => #[⟨.int .u8 6, wayT, 0⟩, ⟨.int .u8 17, wayU, 1⟩, ⟨.int .u8 1, wayI, 2⟩]
  | _ => #[⟨.int .u8 6, wayT, 0⟩, ⟨.int .u8 17, wayU, 1⟩, ⟨.int .u8 1, wayI, 2⟩, ⟨.int .u8 47, wayG, 3⟩]
theorem push_setK {α : Type} (h : Array α) (x y : α) : (h.push x).setIfInBounds h.size y = h.push y := by
  apply Array.ext_getElem?
  intro i
  simp only [Array.getElem?_setIfInBounds, Array.getElem?_push, Array.size_push]
  by_cases e : i = h.size
  · simp [e]
  · simp [e, Ne.symm e]
theorem run_insertK {w : World} {es es' : Array MapEntry} {c : Nat} (k : Int) (v : Value) (h : Instr.findNow (.int .u8) (.int .u8 k) es.toList 0 = some none) (he : es.push ⟨.int .u8 k, v, c⟩ = es') :
    (Instr.mapUpdate 71 (.map (some w.heap.size)) (.int .u8 k) v).run Try.prog (w.alloc (.map es c)) = .ok () (w.alloc (.map es' (c + 1))) := by
  have hb : (w.alloc (.map es c)).heap[w.heap.size]? = some (.map es c) := (heap_alloc w _).1
  have ht := Try.underlying71
  have hk := Try.underlying5
  have hkey : IsKey (.int .u8) (.int .u8 k) := rfl
  subst he
  simp [Instr.mapUpdate, run_underlying ht, MapKept.run_getObj_map hb, run_checkKey hk hkey, run_findKey hk h, run_setObj_map _ hb, Result.andThen]
  show ({ w with heap := (w.heap.push _).setIfInBounds w.heap.size _ } : World) = _
  rw [push_setK]
  rfl
theorem known_any (w : World) :
    Calls Try.prog 22 #[] w fun e w' => e = .returned (.map (some w.heap.size)) ∧ w' = w.alloc (.map (kn 4) 4) := by
  have h0 : (Instr.makeMap 71 none).run Try.prog w = .ok (.map (some w.heap.size)) (w.alloc (.map (kn 0) 0)) := rfl
  have h1 := run_insertK (w := w) (es := kn 0) (es' := kn 1) (c := 0) 6 wayT rfl rfl
  have h2 := run_insertK (w := w) (es := kn 1) (es' := kn 2) (c := 1) 17 wayU rfl rfl
  have h3 := run_insertK (w := w) (es := kn 2) (es' := kn 3) (c := 2) 1 wayI rfl rfl
  have h4 := run_insertK (w := w) (es := kn 3) (es' := kn 4) (c := 3) 47 wayG rfl rfl
  unfold wayT at h1; unfold wayU at h2; unfold wayI at h3; unfold wayG at h4
  go_enter Try.func22, Try.ntmps22
  go_wp2_with fail
  go_ret
  exact ⟨rfl, rfl⟩
def knB (t : Int) : Bool := t == 6 || t == 17 || t == 1 || t == 47
def knV (t : Int) : Value := if t = 6 then wayT else if t = 17 then wayU else if t = 1 then wayI else if t = 47 then wayG else .agg #[.nilFunc, .nilFunc]
theorem run_known {W : World} {r : Nat} (h : W.heap[r]? = some (.map (kn 4) 4)) (t : Int) :
    (Instr.lookup 71 (.map (some r)) (.int .u8 t) true).run Try.prog W = .ok (.tuple #[knV t, .bool (knB t)]) W := by
  have ht := Try.underlying71
  have hk := Try.underlying5
  have hkey : IsKey (.int .u8) (.int .u8 t) := rfl
  have hz : (zeroValue 69).run Try.prog W = .ok (.agg #[.nilFunc, .nilFunc]) W := by rfl
  have hemp : (kn 4).isEmpty = false := rfl
  by_cases h6 : t = 6
  · subst h6
    have hf : Instr.findNow (.int .u8) (.int .u8 6) (kn 4).toList 0 = some (some (0, wayT)) := rfl
    simp [Instr.lookup, run_underlying ht, MapKept.run_getObj_map h, run_checkKey hk hkey, run_findKey hk hf, Result.andThen, knV, knB]
  by_cases h17 : t = 17
  · subst h17
    have hf : Instr.findNow (.int .u8) (.int .u8 17) (kn 4).toList 0 = some (some (1, wayU)) := rfl
    simp [Instr.lookup, run_underlying ht, MapKept.run_getObj_map h, run_checkKey hk hkey, run_findKey hk hf, Result.andThen, knV, knB]
  by_cases h1 : t = 1
  · subst h1
    have hf : Instr.findNow (.int .u8) (.int .u8 1) (kn 4).toList 0 = some (some (2, wayI)) := rfl
    simp [Instr.lookup, run_underlying ht, MapKept.run_getObj_map h, run_checkKey hk hkey, run_findKey hk hf, Result.andThen, knV, knB]
  by_cases h47 : t = 47
  · subst h47
    have hf : Instr.findNow (.int .u8) (.int .u8 47) (kn 4).toList 0 = some (some (3, wayG)) := rfl
    simp [Instr.lookup, run_underlying ht, MapKept.run_getObj_map h, run_checkKey hk hkey, run_findKey hk hf, Result.andThen, knV, knB]
  have hf : Instr.findNow (.int .u8) (.int .u8 t) (kn 4).toList 0 = some none := by
    simp [kn, Instr.findNow, Instr.sameNow, beq_eq_false_iff_ne.2 h6, beq_eq_false_iff_ne.2 h17, beq_eq_false_iff_ne.2 h1, beq_eq_false_iff_ne.2 h47]
  simp [Instr.lookup, run_underlying ht, MapKept.run_getObj_map h, run_checkKey hk hkey, run_findKey hk hf, Result.andThen, knV, knB, hz, h6, h17, h1, h47]
structure PtPost (w : World) (a b E : Int) (e : Ending) (w' : World) : Prop where
  out : e = .returned (.tuple #[.agg #[.int .u16 a, .int .u16 b], .int .i64 E]) ∧ Below w.heap.size w w'
theorem pudp_any (p : Pkt) (hp : p.Ok) (A1 : Option Addr) (n1 c1 : Nat) (A2 : Option Addr) (n2 c2 : Nat) (w : World) (k2 : Bs w A2 n2 c2 p.dat) :
    Calls Try.prog 50 #[(.agg #[.int .u8 (p).tos, .int .u16 (p).id, .bool (p).keep, .int .u8 (p).ttl, .int .u8 (p).proto, .int .u32 (p).src, .int .u32 (p).dst, .slice A1 n1 c1, .slice A2 n2 c2])] w (PtPost w (udD p).src (udD p).dst (udE p)) := by
  have ht := fun W (h : Bs W A2 n2 c2 p.dat) => udp_any p hp A1 n1 c1 A2 n2 c2 W h
  obtain ⟨s, hs⟩ : ∃ s, udD p = s := ⟨_, rfl⟩
  obtain ⟨E, hE⟩ : ∃ s, udE p = s := ⟨_, rfl⟩
  rw [hs, hE] at ht
  rw [hs, hE]
  clear hs hE
  obtain ⟨k, hk, w1, hw1, P1, Z1, R1⟩ := nwI2 w #[.int .u8 (p).tos, .int .u16 (p).id, .bool (p).keep, .int .u8 (p).ttl, .int .u8 (p).proto, .int .u32 (p).src, .int .u32 (p).dst, .slice A1 n1 c1, .slice A2 n2 c2] 27 #[.int .u16 0, .int .u16 0] 74
  have Pc1 := P1.cell
  have Zc1 := Z1.cell
  have Pl1 := P1.lt
  have Zl1 := Z1.lt
  have x1 := (k2).below R1
  go_enter Try.func50, Try.ntmps50
  go_wp2_with (go_at_call 17; ((with_reducible refine (ht w1 x1).mono ?_); rintro e u2 ⟨⟨DA, dn, dc, rfl, -, hB2⟩⟩); (obtain ⟨w2, hw2, V2, kS2, hkS2, S2⟩ := nw1 u2 #[.int .u16 (s).src, .int .u16 (s).dst, .bool (s).bare, .slice DA dn dc] 32); have Sc2 := S2.cell; have T2 := below_then hB2 V2; have P2 := P1.below T2; have Pc2 := P2.cell; clear Pc1; have Z2 := Z1.below T2; have Zc2 := Z2.cell; clear Zc1; have x2 := x1.below T2; have R2 := below_then R1 T2)
  obtain ⟨wf, hwf, Sf⟩ := store2 Z2 (.int .u16 s.src) (.int .u16 s.dst)
  rw [hwf]
  have pf := Sf.blk.cell
  exact bodyPost_ret (by simp [results, Try.results50, go_sem, pf]) rfl ⟨⟨rfl, Sf.bel R2 (by omega)⟩⟩
structure TtPost (w : World) (T : Tup) (E : Int) (e : Ending) (w' : World) : Prop where
  out : e = .returned (.tuple #[(.agg #[.int .u8 (T).proto, .int .u32 (T).src, .int .u32 (T).dst, .int .u16 (T).sp, .int .u16 (T).dp]), .int .i64 E]) ∧ Below w.heap.size w w'
def tuP (p : Pkt) (a b E : Int) : Tup := if E ≠ 0 then zT else ⟨p.proto, p.src, p.dst, a, b⟩
theorem tupled_any (p : Pkt) (A1 : Option Addr) (n1 c1 : Nat) (A2 : Option Addr) (n2 c2 : Nat) (a b E : Int) (w : World) :
    Calls Try.prog 23 #[(.agg #[.int .u8 (p).tos, .int .u16 (p).id, .bool (p).keep, .int .u8 (p).ttl, .int .u8 (p).proto, .int .u32 (p).src, .int .u32 (p).dst, .slice A1 n1 c1, .slice A2 n2 c2]), .agg #[.int .u16 a, .int .u16 b], .int .i64 E] w (TtPost w (tuP p a b E) E) := by
  by_cases h0 : E = 0
  · subst h0
    go_enter Try.func23, Try.ntmps23
    go_wp2_with fail
    exact bodyPost_ret (v := .tuple #[(.agg #[.int .u8 ((⟨p.proto, p.src, p.dst, a, b⟩ : Tup)).proto, .int .u32 ((⟨p.proto, p.src, p.dst, a, b⟩ : Tup)).src, .int .u32 ((⟨p.proto, p.src, p.dst, a, b⟩ : Tup)).dst, .int .u16 ((⟨p.proto, p.src, p.dst, a, b⟩ : Tup)).sp, .int .u16 ((⟨p.proto, p.src, p.dst, a, b⟩ : Tup)).dp]), .int .i64 0]) (by simp [results, Try.results23, go_sem]) rfl ⟨⟨rfl, by (repeat (first | with_reducible exact Below.refl _ _ | with_reducible refine below_drew ?_ | with_reducible refine below_drewN ?_ _ | with_reducible refine below_alloc ?_ (Nat.le_refl _) _ | with_reducible refine Below.setCell ?_ (by first | exact Nat.le_refl _ | (simp only []; omega)) _ | with_reducible assumption))⟩⟩
  · have h0b : (E != 0) = true := by simpa using h0
    have hz : tuP p a b E = zT := by unfold tuP; rw [if_pos h0]
    rw [hz]
    clear h0 hz
    go_enter Try.func23, Try.ntmps23
    go_wp2_with fail
    exact bodyPost_ret (v := .tuple #[(.agg #[.int .u8 (zT).proto, .int .u32 (zT).src, .int .u32 (zT).dst, .int .u16 (zT).sp, .int .u16 (zT).dp]), .int .i64 E]) (by simp [results, Try.results23, go_sem, zT]) rfl ⟨⟨rfl, by (repeat (first | with_reducible exact Below.refl _ _ | with_reducible refine below_drew ?_ | with_reducible refine below_drewN ?_ _ | with_reducible refine below_alloc ?_ (Nat.le_refl _) _ | with_reducible refine Below.setCell ?_ (by first | exact Nat.le_refl _ | (simp only []; omega)) _ | with_reducible assumption))⟩⟩
set_option maxHeartbeats 8000000
def isKn : World → Value → Prop := fun w v => ∃ r, v = .map (some r) ∧ w.heap[r]? = some (.map (kn 4) 4)
theorem st_isKn : ∀ w w' v, isKn w v → Below w.heap.size w w' → isKn w' v := fun w w' v ⟨r, h, k⟩ hb => ⟨r, h, by
  have := hb.block r (by
    rcases Nat.lt_or_ge r w.heap.size with h1 | h1
    · exact h1
    · rw [Array.getElem?_eq_none h1] at k; cases k)
  rw [this]; exact k⟩
theorem ret_isKn {wo : World} : ∃ v, Ending.returned (.map (some wo.heap.size)) = .returned v ∧ isKn (wo.alloc (.map (kn 4) 4)) v ∧ Below wo.heap.size wo (wo.alloc (.map (kn 4) 4)) := ⟨_, rfl, ⟨_, rfl, (heap_alloc wo _).1⟩, (Below.refl _ _).alloc (Nat.le_refl _) _⟩
theorem of_udp_ (p : Pkt) (A1 : Option Addr) (n1 c1 : Nat) (A2 : Option Addr) (n2 c2 : Nat) (w : World) (k2 : Bs w A2 n2 c2 p.dat) (hpr : p.proto = 17) (a b E : Int)
    (ht : ∀ W, Bs W A2 n2 c2 p.dat → Calls Try.prog 50 #[(.agg #[.int .u8 (p).tos, .int .u16 (p).id, .bool (p).keep, .int .u8 (p).ttl, .int .u8 (p).proto, .int .u32 (p).src, .int .u32 (p).dst, .slice A1 n1 c1, .slice A2 n2 c2])] W (PtPost W a b E)) :
    Calls Try.prog 6 #[(.agg #[.int .u8 (p).tos, .int .u16 (p).id, .bool (p).keep, .int .u8 (p).ttl, .int .u8 (p).proto, .int .u32 (p).src, .int .u32 (p).dst, .slice A1 n1 c1, .slice A2 n2 c2])] w (TtPost w (tuP p a b E) E) := by
  have hrun : ∀ (W : World) (r : Nat), W.heap[r]? = some (.map (kn 4) 4) → (Instr.lookup 71 (.map (some r)) (.int .u8 p.proto) true).run Try.prog W = .ok (.tuple #[.agg #[.func (.func 50) #[] #[], .func (.func 48) #[] #[]], .bool true]) W := fun W r h => by
    have := run_known h p.proto
    rw [show knV p.proto = .agg #[.func (.func 50) #[] #[], .func (.func 48) #[] #[]] from by rw [hpr]; rfl, show knB p.proto = true from by rw [hpr]; rfl] at this
    exact this
  clear hpr
  have htu := fun W => tupled_any p A1 n1 c1 A2 n2 c2 a b E W
  obtain ⟨T, hT'⟩ : ∃ T, tuP p a b E = T := ⟨_, rfl⟩
  rw [hT'] at htu
  rw [hT']
  clear hT'
  obtain ⟨k, hk, w1, hw1, P1, Z1, R1⟩ := nwI2 w #[.int .u8 (p).tos, .int .u16 (p).id, .bool (p).keep, .int .u8 (p).ttl, .int .u8 (p).proto, .int .u32 (p).src, .int .u32 (p).dst, .slice A1 n1 c1, .slice A2 n2 c2] 27 #[.int .u8 0, .int .u32 0, .int .u32 0, .int .u16 0, .int .u16 0] 34
  have Pc1 := P1.cell
  have Zc1 := Z1.cell
  have Pl1 := P1.lt
  have Zl1 := Z1.lt
  have x1 := (k2).below R1
  go_enter Try.func6, Try.ntmps6
  go_wp2_with fail
  refine region_z 8 6 (by kernel_rfl) (by kernel_rfl) (fun _ _ _ _ _ h => h) ?_; (iterate 8 (first | (apply ObsK.skip (by rfl)) | (apply ObsK.v (by rfl); (intro wo hT; (repeat (first | (intro v hv; ((obtain ⟨r, rfl, hm⟩ := hv; have hlk := hrun _ r hm))) | (intro _ _ k; try have hcv := cv k))); (have pc := (P1.below hT).cell; have hsz : w1.heap.size ≤ wo.heap.size := hT.size); refine Goes.mk ?_; go_simp; first | exact goes_v | exact goes_b (by assumption) | exact goes_new hsz | (refine goes_enter ?_; first | (go_at_call 22; ((with_reducible refine (known_any wo).mono ?_); rintro e w9 ⟨rfl, rfl⟩); exact ret_isKn)))) | (apply ObsK.b (by rfl); (intro wo hT; (repeat (first | (intro v hv; ((obtain ⟨r, rfl, hm⟩ := hv; have hlk := hrun _ r hm))) | (intro _ _ k; try have hcv := cv k))); (have pc := (P1.below hT).cell; have hsz : w1.heap.size ≤ wo.heap.size := hT.size); refine Goes.mk ?_; go_simp; first | exact goes_v | exact goes_b (by assumption) | exact goes_new hsz | (refine goes_enter ?_; first | (go_at_call 22; ((with_reducible refine (known_any wo).mono ?_); rintro e w9 ⟨rfl, rfl⟩); exact ret_isKn)))) | (apply ObsK.p (q := isKn) (by rfl) st_isKn; (intro wo hT; (repeat (first | (intro v hv; ((obtain ⟨r, rfl, hm⟩ := hv; have hlk := hrun _ r hm))) | (intro _ _ k; try have hcv := cv k))); (have pc := (P1.below hT).cell; have hsz : w1.heap.size ≤ wo.heap.size := hT.size); refine Goes.mk ?_; go_simp; first | exact goes_v | exact goes_b (by assumption) | exact goes_new hsz | (refine goes_enter ?_; first | (go_at_call 22; ((with_reducible refine (known_any wo).mono ?_); rintro e w9 ⟨rfl, rfl⟩); exact ret_isKn)))) | (apply ObsK.p (q := isNew w1.heap.size #[.nilFunc, .nilFunc] 69) (by rfl) st_isNew; (intro wo hT; (repeat (first | (intro v hv; ((obtain ⟨r, rfl, hm⟩ := hv; have hlk := hrun _ r hm))) | (intro _ _ k; try have hcv := cv k))); (have pc := (P1.below hT).cell; have hsz : w1.heap.size ≤ wo.heap.size := hT.size); refine Goes.mk ?_; go_simp; first | exact goes_v | exact goes_b (by assumption) | exact goes_new hsz | (refine goes_enter ?_; first | (go_at_call 22; ((with_reducible refine (known_any wo).mono ?_); rintro e w9 ⟨rfl, rfl⟩); exact ret_isKn)))))); refine ObsK.nil ?_; intro wz hBz; simp only [finOn, List.drop_succ_cons, List.drop_zero, List.drop_nil]
  rintro _ ⟨gS, rfl, hS, S2⟩ _ ⟨m, rfl, -⟩
  go_simp
  obtain ⟨wq, hwq, Sq⟩ := store2 S2 (.func (.func 50) #[] #[]) (.func (.func 48) #[] #[])
  have hBq := Sq.bel hBz hS
  have cS2 := S2.cell
  have hsf : ∀ (W : World) (a : Addr) (fn : Fn) (m : Mode), (store a (.func fn #[] #[]) m).run Try.prog W = stored Try.prog W a (.func fn #[] #[]) m := fun W a fn m => run_store _ W a _ m rfl
  have S2 := Sq.blk
  have Sc2 := S2.cell
  have P2 := P1.below hBq
  have Pc2 := P2.cell
  clear Pc1
  have Z2 := Z1.below hBq
  have Zc2 := Z2.cell
  clear Zc1
  have x2 := x1.below hBq
  have R2 := below_then R1 hBq
  go_wp2_with (first
    | (go_at_call 50; ((with_reducible refine (ht wq x2).mono ?_); rintro e u3 ⟨⟨rfl, hB3⟩⟩); (obtain ⟨w3, hw3, V3, kQ3, hkQ3, Q3⟩ := nw1 u3 #[.int .u16 a, .int .u16 b] 74); have Qc3 := Q3.cell; have T3 := below_then hB3 V3; have P3 := P2.below T3; have Pc3 := P3.cell; clear Pc2; have Z3 := Z2.below T3; have Zc3 := Z3.cell; clear Zc2; have S3 := S2.below T3; have Sc3 := S3.cell; clear Sc2; have x3 := x2.below T3; have R3 := below_then R2 T3)
    | (go_at_call 23; ((with_reducible refine (htu w3).mono ?_); rintro e w4 ⟨⟨rfl, hB4⟩⟩); have P4 := P3.below hB4; have Pc4 := P4.cell; clear Pc3; have Z4 := Z3.below hB4; have Zc4 := Z4.cell; clear Zc3; have S4 := S3.below hB4; have Sc4 := S4.cell; clear Sc3; have Q4 := Q3.below hB4; have Qc4 := Q4.cell; clear Qc3; have x4 := x3.below hB4; have R4 := below_then R3 hB4))
  obtain ⟨wf, hwf, Sf⟩ := store5 Z4 (.int .u8 T.proto) (.int .u32 T.src) (.int .u32 T.dst) (.int .u16 T.sp) (.int .u16 T.dp)
  rw [hwf]
  have pf := Sf.blk.cell
  exact bodyPost_ret (v := .tuple #[(.agg #[.int .u8 (T).proto, .int .u32 (T).src, .int .u32 (T).dst, .int .u16 (T).sp, .int .u16 (T).dp]), .int .i64 E]) (by simp [results, Try.results6, go_sem, pf]) rfl ⟨⟨rfl, Sf.bel R4 (by omega)⟩⟩
theorem of_udp (p : Pkt) (hp : p.Ok) (A1 : Option Addr) (n1 c1 : Nat) (A2 : Option Addr) (n2 c2 : Nat) (w : World) (k2 : Bs w A2 n2 c2 p.dat) (hpr : p.proto = 17) :
    Calls Try.prog 6 #[(.agg #[.int .u8 (p).tos, .int .u16 (p).id, .bool (p).keep, .int .u8 (p).ttl, .int .u8 (p).proto, .int .u32 (p).src, .int .u32 (p).dst, .slice A1 n1 c1, .slice A2 n2 c2])] w (TtPost w (tuP p (udD p).src (udD p).dst (udE p)) (udE p)) :=
  of_udp_ p A1 n1 c1 A2 n2 c2 w k2 hpr _ _ _ (fun W h => pudp_any p hp A1 n1 c1 A2 n2 c2 W h)
end Go.Proofs.Ytjhgcnoijajffaa
namespace Go.Proofs.Ytjhgcnoijajffaa
open Go.RowKit
set_option linter.unusedVariables false
set_option linter.unusedSimpArgs false
set_option maxRecDepth 100000
structure FlOk (Q : Pkt) (d : Dgm) (P : Pkt) : Prop where
  E : dbE Q d = 0
  form : P = { Q with proto := 17, dat := dS Q d }
  uE : udE P = 0
  uD : udD P = d
  tu : tuP P d.src d.dst 0 = ⟨17, Q.src, Q.dst, d.src, d.dst⟩
  len : P.dat.length = 8 + d.dat.length
theorem flow {Q : Pkt} (ho : Q.opt = []) {d : Dgm} (hd : d.Ok) (hl : d.dat.length ≤ 60000) : FlOk Q d (dbP Q d) := by
  have E : dbE Q d = 0 := by
    unfold dbE wiE
    rw [ho, if_neg (by simp), if_neg (by simp; omega)]
  have F := (db_form E).1
  obtain ⟨b1, b2, -, -⟩ := db_back hd E
  refine ⟨E, F, b1, b2, ?_, ?_⟩
  · unfold tuP; rw [F, if_neg (by simp)]
  · rw [F]; exact dS_len _ _
theorem FlOk.ok {Q : Pkt} {d : Dgm} {P : Pkt} (h : FlOk Q d P) (hq : Q.Ok) : P.Ok := by
  rw [h.form]
  exact ⟨hq.1, hq.2, hq.3, by simp, hq.5, hq.6⟩
set_option maxHeartbeats 8000000
theorem fl_build {Q : Pkt} (hQ : Q.Ok) (ho : Q.opt = []) {d : Dgm} (hd : d.Ok) (hl : d.dat = []) (W : World) :
    Calls Try.prog 5 #[(.agg #[.int .u8 (Q).tos, .int .u16 (Q).id, .bool (Q).keep, .int .u8 (Q).ttl, .int .u8 (Q).proto, .int .u32 (Q).src, .int .u32 (Q).dst, .slice none 0 0, .slice none 0 0]), (.agg #[.int .u16 (d).src, .int .u16 (d).dst, .bool (d).bare, .slice none 0 0])] W (WiPost W (dbP Q d) 0) := by
  have h := dbuild_any Q hQ none 0 0 none 0 0 d hd none 0 0 W (by rw [ho]; exact Bs.none_ _) (by rw [hl]; exact Bs.none_ _) (by omega)
  rw [(flow ho hd (by rw [hl]; simp)).E] at h
  exact h
theorem fl_of {Q : Pkt} (hQ : Q.Ok) {d : Dgm} {P : Pkt} (F : FlOk Q d P) (A1 : Option Addr) (n1 c1 : Nat) (A2 : Option Addr) (n2 c2 : Nat) (W : World) (k2 : Bs W A2 n2 c2 P.dat) :
    Calls Try.prog 6 #[(.agg #[.int .u8 (P).tos, .int .u16 (P).id, .bool (P).keep, .int .u8 (P).ttl, .int .u8 (P).proto, .int .u32 (P).src, .int .u32 (P).dst, .slice A1 n1 c1, .slice A2 n2 c2])] W (TtPost W ⟨17, Q.src, Q.dst, d.src, d.dst⟩ 0) := by
  have h := of_udp P (F.ok hQ) A1 n1 c1 A2 n2 c2 W k2 (by rw [F.form])
  rw [F.uE, F.uD, F.tu] at h
  exact h
theorem rnew_any (w : World) : Calls Try.prog 11 #[] w fun e w' => ∃ k, e = .returned (.pointer (some ⟨k, 0, none⟩)) ∧ w.heap.size ≤ k ∧ Blk w' k #[.slice none 0 0] 93 ∧ Below w.heap.size w w' := by
  obtain ⟨k, hk⟩ : ∃ k, w.heap.size = k := ⟨_, rfl⟩
  go_enter Try.func11, Try.ntmps11
  go_wp2_with fail
  refine bodyPost_ret (v := .pointer (some ⟨k, 0, none⟩)) (by simp [results, Try.results11, go_sem]) rfl ?_
  exact ⟨k, rfl, by omega, blk_new w _ _ k hk, bw1 rfl⟩
theorem mask_any (w : World) : Calls Try.prog 34 #[.int .i64 8] w fun e w' => e = .returned (.int .u32 4278190080) ∧ Below w.heap.size w w' := by
  go_enter Try.func34, Try.ntmps34
  go_wp2_with fail
  go_ret
  exact ⟨by first | rfl | decide, Below.refl _ _⟩
theorem right0_any (w : World) : Calls Try.prog 29 #[.agg #[.int .i64 1, .int .u8 0, .int .u32 167772160, .int .i64 8, .int .u32 16909060, .int .u16 0, .int .u32 0, .int .u16 0]] w fun e w' => e = .returned (.bool true) ∧ Below w.heap.size w w' := by
  obtain ⟨k, hk, w1, hw1, K1, R1⟩ := nwI1 w #[.int .i64 1, .int .u8 0, .int .u32 167772160, .int .i64 8, .int .u32 16909060, .int .u16 0, .int .u32 0, .int .u16 0] 51
  have Kc1 := K1.cell
  have Kl1 := K1.lt
  go_enter Try.func29, Try.ntmps29
  go_wp2_with fail
  refine region_txt 33 (by kernel_rfl) (by kernel_rfl) ?_; (iterate 33 (first | (apply ObsK.skip (by rfl)) | (apply ObsK.v (by rfl); (intro wo hT; (repeat (first | (intro _ _ k; try have hcv := cv k))); (have kco := (K1.below hT).cell); refine Goes.mk ?_; go_simp; first | exact goes_v | exact goes_b (by assumption) | (refine goes_enter ?_; first | (go_at_call 34; ((with_reducible refine (mask_any wo).mono ?_); rintro e w5 ⟨rfl, hB5⟩); exact ret_v hB5)))) | (apply ObsK.b (by rfl); (intro wo hT; (repeat (first | (intro _ _ k; try have hcv := cv k))); (have kco := (K1.below hT).cell); refine Goes.mk ?_; go_simp; first | exact goes_v | exact goes_b (by assumption) | (refine goes_enter ?_; first | (go_at_call 34; ((with_reducible refine (mask_any wo).mono ?_); rintro e w5 ⟨rfl, hB5⟩); exact ret_v hB5)))))); refine ObsK.nil ?_; intro wz hBz; simp only [finOn, List.drop_succ_cons, List.drop_zero, List.drop_nil]
  go_simp
  go_wp2_with fail
  go_ret
  exact ⟨rfl, by first | exact below_then R1 hBz | (rw [← hk] ; exact below_then R1 hBz)⟩
theorem rindex_any (x : Value) (w : World) : Calls Try.prog 58 #[.slice none 0 0, .agg #[.int .i64 1, .int .u8 0, .int .u32 167772160, .int .i64 8, .int .u32 16909060, .int .u16 0, .int .u32 0, .int .u16 0]] w fun e w' => e = .returned (.int .i64 (-1)) ∧ Below w.heap.size w w' := by
  obtain ⟨k, hk, w1, hw1, K1, R1⟩ := nwI1 w #[.int .i64 1, .int .u8 0, .int .u32 167772160, .int .i64 8, .int .u32 16909060, .int .u16 0, .int .u32 0, .int .u16 0] 51
  have Kc1 := K1.cell
  have Kl1 := K1.lt
  go_enter Try.func58, Try.ntmps58
  go_wp2_with fail
  go_loopw [8] (fun i wr => i = .int .i64 0 ∧ wr = w1) (fun _ _ => 0)
  case atStart => exact ⟨rfl, rfl⟩
  case round =>
    obtain ⟨rfl, rfl⟩ := hrel
    go_wp2_with fail
    go_ret
    exact ⟨rfl, by first | exact R1 | (rw [← hk] ; exact R1)⟩
theorem rhas_any (w : World) : Calls Try.prog 30 #[.slice none 0 0, .agg #[.int .i64 1, .int .u8 0, .int .u32 167772160, .int .i64 8, .int .u32 16909060, .int .u16 0, .int .u32 0, .int .u16 0]] w fun e w' => e = .returned (.bool false) ∧ Below w.heap.size w w' := by
  obtain ⟨k, hk, w1, hw1, K1, R1⟩ := nwI1 w #[.int .i64 1, .int .u8 0, .int .u32 167772160, .int .i64 8, .int .u32 16909060, .int .u16 0, .int .u32 0, .int .u16 0] 51
  have Kc1 := K1.cell
  have Kl1 := K1.lt
  go_enter Try.func30, Try.ntmps30
  go_wp2_with (go_at_call 58; ((with_reducible refine (rindex_any .nilFunc w1).mono ?_); rintro e w2 ⟨rfl, hB2⟩))
  go_ret
  exact ⟨rfl, by first | exact below_then R1 hB2 | (rw [← hk] ; exact below_then R1 hB2)⟩
structure RulC (w : World) (g : Nat) : Prop where
  c0 : w.cell? ⟨g, 0, none⟩ = some (.int .i64 1)
  c1 : w.cell? ⟨g, 1, none⟩ = some (.int .u8 0)
  c2 : w.cell? ⟨g, 2, none⟩ = some (.int .u32 167772160)
  c3 : w.cell? ⟨g, 3, none⟩ = some (.int .i64 8)
  c4 : w.cell? ⟨g, 4, none⟩ = some (.int .u32 16909060)
  c5 : w.cell? ⟨g, 5, none⟩ = some (.int .u16 0)
  c6 : w.cell? ⟨g, 6, none⟩ = some (.int .u32 0)
  c7 : w.cell? ⟨g, 7, none⟩ = some (.int .u16 0)
theorem RulC.below {w w' : World} {g : Nat} (h : RulC w g) (hb : Below w.heap.size w w') : RulC w' g := by
  have k : ∀ j x, w.cell? ⟨g, j, none⟩ = some x → w'.cell? ⟨g, j, none⟩ = some x := fun j x e => (hb.cell (World.block_lt_of_cell? w _ e)).trans e
  exact ⟨k _ _ h.c0, k _ _ h.c1, k _ _ h.c2, k _ _ h.c3, k _ _ h.c4, k _ _ h.c5, k _ _ h.c6, k _ _ h.c7⟩
theorem radd_any (kr : Nat) (w : World) (T : Blk w kr #[.slice none 0 0] 93) :
    Calls Try.prog 13 #[.pointer (some ⟨kr, 0, none⟩), .agg #[.int .i64 1, .int .u8 0, .int .u32 167772160, .int .i64 8, .int .u32 16909060, .int .u16 0, .int .u32 0, .int .u16 0]] w fun e w' => ∃ g c, e = .returned (.int .i64 0) ∧ Sto w kr w' #[.slice (some ⟨g, 0, none⟩) 1 c] 93 ∧ RulC w' g ∧ g < w'.heap.size := by
  obtain ⟨k, hk, w1, hw1, K1, R1⟩ := nwI1 w #[.int .i64 1, .int .u8 0, .int .u32 167772160, .int .i64 8, .int .u32 16909060, .int .u16 0, .int .u32 0, .int .u16 0] 51
  have Kc1 := K1.cell
  have Kl1 := K1.lt
  have T1 := T.below R1
  have T1c := T1.cell
  have tl := T.lt
  obtain ⟨ii, hi, hz, hs, hb⟩ := info_parts (show (Try.prog.info? 51).map (fun i => (i.zero, i.size, i.bytes)) = some (some (.agg #[.int .i64 0, .int .u8 0, .int .u32 0, .int .i64 0, .int .u32 0, .int .u16 0, .int .u32 0, .int .u16 0]), 8, 40) from by kernel_rfl)
  go_enter Try.func13, Try.ntmps13
  go_wp2_with (go_at_call 29; ((with_reducible refine (right0_any w1).mono ?_); rintro e w2 ⟨rfl, hB2⟩); have K2 := K1.below hB2; have T2 := T1.below hB2; have K2c := K2.cell; have T2c := T2.cell; have R2 := below_then R1 hB2)
  refine region_txt 6 (by kernel_rfl) (by kernel_rfl) ?_; (iterate 6 (first | (apply ObsK.skip (by rfl)) | (apply ObsK.v (by rfl); (intro wo hT; (repeat (first | (intro _ _ k; try have hcv := cv k))); (have kco := (K2.below hT).cell; have tco := (T2.below hT).cell); refine Goes.mk ?_; go_simp; first | exact goes_v | exact goes_b (by assumption) | (refine goes_enter ?_; first | (go_at_call 30; ((with_reducible refine (rhas_any wo).mono ?_); rintro e w5 ⟨rfl, hB5⟩); exact ret_v hB5)))) | (apply ObsK.b (by rfl); (intro wo hT; (repeat (first | (intro _ _ k; try have hcv := cv k))); (have kco := (K2.below hT).cell; have tco := (T2.below hT).cell); refine Goes.mk ?_; go_simp; first | exact goes_v | exact goes_b (by assumption) | (refine goes_enter ?_; first | (go_at_call 30; ((with_reducible refine (rhas_any wo).mono ?_); rintro e w5 ⟨rfl, hB5⟩); exact ret_v hB5)))))); refine ObsK.nil ?_; intro wz hBz; simp only [finOn, List.drop_succ_cons, List.drop_zero, List.drop_nil]
  go_simp
  obtain ⟨w3, rfl⟩ : ∃ W, W = wz := ⟨_, rfl⟩
  have K3 := K2.below hBz
  have T3 := T2.below hBz
  have R3 := below_then R2 hBz
  have K3c := K3.cell
  have T3c := T3.cell
  clear hBz K2 T2 R2 K1 T1 hw1 K2c T2c T1c Kc1
  go_wp2_with fail
  refine region_txt 10 (by kernel_rfl) (by kernel_rfl) ?_; (iterate 10 (first | (apply ObsK.skip (by rfl)) | (apply ObsK.p (q := isApp w3.heap.size #[.int .i64 1, .int .u8 0, .int .u32 167772160, .int .i64 8, .int .u32 16909060, .int .u16 0, .int .u32 0, .int .u16 0] 51) (by rfl) st_isApp; (intro wo hT; (repeat (first | (intro v hv; ((obtain ⟨gl, rfl, Ll⟩ := hv))) | (intro _ _ k; try have hcv := cv k))); (have kco := (K3.below hT).cell; have tco := (T3.below hT).cell; have hsz := hT.size); refine Goes.mk ?_; first | (exact goes_appNil Ll _ _ 91 rfl rfl rfl Try.underlying91 hi hz (by rw [hs]; rfl) (by omega) hsz) | (go_simp; first | exact goes_v | exact goes_b (by assumption) | exact goes_lit1 | (refine goes_enter ?_; first | fail)))) | (apply ObsK.p (q := isLit #[.int .i64 1, .int .u8 0, .int .u32 167772160, .int .i64 8, .int .u32 16909060, .int .u16 0, .int .u32 0, .int .u16 0] 51) (by rfl) st_isLit; (intro wo hT; (repeat (first | (intro v hv; ((obtain ⟨gl, rfl, Ll⟩ := hv))) | (intro _ _ k; try have hcv := cv k))); (have kco := (K3.below hT).cell; have tco := (T3.below hT).cell; have hsz := hT.size); refine Goes.mk ?_; first | (exact goes_appNil Ll _ _ 91 rfl rfl rfl Try.underlying91 hi hz (by rw [hs]; rfl) (by omega) hsz) | (go_simp; first | exact goes_v | exact goes_b (by assumption) | exact goes_lit1 | (refine goes_enter ?_; first | fail)))) | (apply ObsK.v (by rfl); (intro wo hT; (repeat (first | (intro v hv; ((obtain ⟨gl, rfl, Ll⟩ := hv))) | (intro _ _ k; try have hcv := cv k))); (have kco := (K3.below hT).cell; have tco := (T3.below hT).cell; have hsz := hT.size); refine Goes.mk ?_; first | (exact goes_appNil Ll _ _ 91 rfl rfl rfl Try.underlying91 hi hz (by rw [hs]; rfl) (by omega) hsz) | (go_simp; first | exact goes_v | exact goes_b (by assumption) | exact goes_lit1 | (refine goes_enter ?_; first | fail)))) | (apply ObsK.b (by rfl); (intro wo hT; (repeat (first | (intro v hv; ((obtain ⟨gl, rfl, Ll⟩ := hv))) | (intro _ _ k; try have hcv := cv k))); (have kco := (K3.below hT).cell; have tco := (T3.below hT).cell; have hsz := hT.size); refine Goes.mk ?_; first | (exact goes_appNil Ll _ _ 91 rfl rfl rfl Try.underlying91 hi hz (by rw [hs]; rfl) (by omega) hsz) | (go_simp; first | exact goes_v | exact goes_b (by assumption) | exact goes_lit1 | (refine goes_enter ?_; first | fail)))))); refine ObsK.nil ?_; intro wz hBz; simp only [finOn, List.drop_succ_cons, List.drop_zero, List.drop_nil]
  rintro v71 ⟨ga, ca, xa, rfl, hga, La⟩ v70 ⟨gl, rfl, Ll⟩
  go_simp
  have Tz := T3.below hBz
  have Tzc := Tz.cell
  have t3l := T3.lt
  obtain ⟨w10, hw10, S10⟩ := store1 Tz 0 (.slice (some ⟨ga, 0, none⟩) 1 ca)
  go_wp2_with fail
  go_ret
  have L10 := S10.other (by omega) La
  have ce := L10.cell.1
  have cf : ∀ j v, (#[.int .i64 1, .int .u8 0, .int .u32 167772160, .int .i64 8, .int .u32 16909060, .int .u16 0, .int .u32 0, .int .u16 0] : Array Value)[j]? = some v → w10.cell? ⟨ga, j, none⟩ = some v := fun j v h => by
    rw [ce, Array.getElem?_append_left (Array.getElem?_eq_some_iff.1 h).1]; exact h
  have Rz := below_then R3 hBz
  refine ⟨ga, ca, rfl, ⟨S10.blk, fun b hB => S10.bel (b.trans (Rz.mono (by have := b.size; omega))) hB, fun b ha => S10.bs (b.below Rz) ha, fun hk b => S10.other hk (b.below Rz), fun b ha => S10.own (b.below Rz) ha⟩, ⟨cf 0 _ rfl, cf 1 _ rfl, cf 2 _ rfl, cf 3 _ rfl, cf 4 _ rfl, cf 5 _ rfl, cf 6 _ rfl, cf 7 _ rfl⟩, L10.lt⟩
end Go.Proofs.Ytjhgcnoijajffaa
namespace Go.Proofs.Ytjhgcnoijajffaa
open Go.RowKit Go.Shelf
set_option linter.unusedVariables false
set_option linter.unusedSimpArgs false
attribute [local go_sem] Oper.semAt_some
set_option linter.unusedVariables false
set_option linter.unusedSimpArgs false
set_option linter.unusedSimpArgs false
set_option maxHeartbeats 8000000
set_option maxRecDepth 100000
theorem and_top8 (m : Nat) : m &&& 4278190080 = (m / 16777216 % 256) * 16777216 := by
  apply Nat.eq_of_testBit_eq
  intro i
  rw [Nat.testBit_and, show (4278190080 : Nat) = (2 ^ 8 - 1) * 2 ^ 24 from rfl, Nat.testBit_mul_two_pow, show (16777216 : Nat) = 2 ^ 24 from rfl, Nat.testBit_mul_two_pow, Nat.testBit_two_pow_sub_one, show (256 : Nat) = 2 ^ 8 from rfl, Nat.testBit_mod_two_pow, Nat.testBit_div_two_pow]
  by_cases h : 24 ≤ i
  · simp [h]
    exact Bool.and_comm _ _
  · simp [h]
theorem and_net {m : Int} (h0 : 0 ≤ m) (h1 : m ≤ 65535) : bits .and .u32 (167772160 + m) 4278190080 = 167772160 := by
  obtain ⟨a, ha⟩ := Int.eq_ofNat_of_zero_le (a := 167772160 + m) (by omega)
  rw [ha]
  have e1 : (IntKind.u32.bits : Nat) = 32 := rfl
  have e2 : a % 4294967296 = a := Nat.mod_eq_of_lt (by omega)
  have e3 := and_top8 a
  have e4 : a / 16777216 % 256 = 10 := by omega
  rw [e4] at e3
  unfold bits
  simp [e1, e2, e3, IntKind.wrap, IntKind.signed]
theorem masq1_any (m : Int) (h0 : 0 ≤ m) (h1 : m ≤ 65535) (ks : Nat) (w : World) (K : Blk w ks #[.int .u32 (167772160 + m)] 22) : Calls Try.prog 33 #[.agg #[.int .i64 1, .int .u8 0, .int .u32 167772160, .int .i64 8, .int .u32 16909060, .int .u16 0, .int .u32 0, .int .u16 0], .pointer (some ⟨ks, 0, none⟩)] w fun e w' => e = .returned (.bool true) ∧ Below w.heap.size w w' := by
  have ha := and_net h0 h1
  obtain ⟨s, hs⟩ : ∃ s, 167772160 + m = s := ⟨_, rfl⟩
  rw [hs] at ha K
  have hs0 : 0 ≤ s ∧ s ≤ 4294967295 := by omega
  obtain ⟨q0, q1⟩ := hs0
  clear hs h0 h1
  obtain ⟨k, hk, w1, hw1, U1, R1⟩ := nwI1 w #[.int .i64 1, .int .u8 0, .int .u32 167772160, .int .i64 8, .int .u32 16909060, .int .u16 0, .int .u32 0, .int .u16 0] 51
  have Uc1 := U1.cell
  have Ul1 := U1.lt
  have K1 := K.below R1
  go_enter Try.func33, Try.ntmps33
  go_wp2_with fail
  refine region_txt 8 (by kernel_rfl) (by kernel_rfl) ?_; (iterate 8 (first | (apply ObsK.skip (by rfl)) | (apply ObsK.v (by rfl); (intro wo hT; (repeat (first | (intro _ _ k; try have hcv := cv k))); (have kco := (K1.below hT).cell; have uco := (U1.below hT).cell); refine Goes.mk ?_; go_simp; first | exact goes_v | exact goes_b (by assumption) | (refine goes_enter ?_; first | (go_at_call 34; ((with_reducible refine (mask_any wo).mono ?_); rintro e w5 ⟨rfl, hB5⟩); exact ret_v hB5)))) | (apply ObsK.b (by rfl); (intro wo hT; (repeat (first | (intro _ _ k; try have hcv := cv k))); (have kco := (K1.below hT).cell; have uco := (U1.below hT).cell); refine Goes.mk ?_; go_simp; first | exact goes_v | exact goes_b (by assumption) | (refine goes_enter ?_; first | (go_at_call 34; ((with_reducible refine (mask_any wo).mono ?_); rintro e w5 ⟨rfl, hB5⟩); exact ret_v hB5)))))); refine ObsK.nil ?_; intro wz hBz; simp only [finOn, List.drop_succ_cons, List.drop_zero, List.drop_nil]
  go_simp
  go_wp2_with fail
  go_ret
  exact ⟨rfl, by first | exact below_then R1 hBz | (rw [← hk] ; exact below_then R1 hBz)⟩
theorem ofk_any (kr : Nat) (w : World) : Calls Try.prog 32 #[.pointer (some ⟨kr, 0, none⟩), .int .i64 1] w fun e w' => e = .returned (.func (.func 59) #[] #[.pointer (some ⟨w.heap.size, 0, none⟩), .pointer (some ⟨w.heap.size + 1, 0, none⟩)]) ∧ w' = (w.alloc (.cells #[.pointer (some ⟨kr, 0, none⟩)] 44)).alloc (.cells #[.int .i64 1] 49) := by
  go_enter Try.func32, Try.ntmps32
  go_wp2_with fail
  go_ret
  exact ⟨rfl, rfl⟩
theorem of1_in (D ka kb kr g c : Nat) (w : World) (I : Nat → World → Prop) (Ix : Code → Nat → World → Prop) (R : World → Prop) (Rx : Code → World → Prop)
    (hI1 : ∀ W, ¬ I 1 W) (hIa : ∀ W o, I 0 W → I 0 (W.alloc o)) (hR : ∀ W W', R W → KeepsFrom D W W' → R W')
    (hY : ∀ W, I 0 W → R W → YieldAt Fence.wide 1 Try.prog (D + 1) #[.agg #[.int .i64 1, .int .u8 0, .int .u32 167772160, .int .i64 8, .int .u32 16909060, .int .u16 0, .int .u32 0, .int .u16 0]] W (roundSaid 1 I Ix R Rx)) (W1 : World)
    (KA : Blk W1 ka #[.pointer (some ⟨kr, 0, none⟩)] 44) (KB : Blk W1 kb #[.int .i64 1] 49) (KR : Blk W1 kr #[.slice (some ⟨g, 0, none⟩) 1 c] 93) (C : RulC W1 g) (h0 : I 0 W1) (hR0 : R W1) :
    CallsIn Fence.wide 2 Try.prog 59 (#[.func (.yield (D + 1)) #[] #[]] ++ #[.pointer (some ⟨ka, 0, none⟩), .pointer (some ⟨kb, 0, none⟩)]) W1 (iterEnd (fun _ => False) I Ix R Rx) := by
  have hka := KA.cell
  have hkb := KB.cell
  have hkr := KR.cell
  obtain ⟨c0, c1, c2, c3, c4, c5, c6, c7⟩ := C
  have la := KA.lt
  have lb := KB.lt
  have lr := KR.lt
  refine callsIn_of_wp Try.func59 rfl trivial ?_ rfl
  simp only [Try.ntmps59, List.size_toArray, List.length_cons, List.length_nil, Nat.reduceAdd, Nat.reduceSub, Array.replicate_succ, Array.replicate_zero, List.push_toArray, List.append_toArray, List.nil_append, List.cons_append]
  gi_wp2
  gi_loopw [13] (fun i wr => i = .int .i64 0 ∧ wr = W1) (fun _ _ => 0)
  case atStart => exact ⟨rfl, rfl⟩
  case round =>
    obtain ⟨rfl, rfl⟩ := hrel
    obtain ⟨W2, hW2, V2, kX, hkX, X2⟩ := nw1 wr #[.int .i64 1, .int .u8 0, .int .u32 167772160, .int .i64 8, .int .u32 16909060, .int .u16 0, .int .u32 0, .int .u16 0] 51
    have hI2 : I 0 W2 := by rw [← hW2]; exact hIa _ _ h0
    have hR2 : R W2 := by rw [← hW2]; exact hR _ _ hR0 (keeps_alloc _ _)
    obtain ⟨fn, tmps, assign, body, hy, hB⟩ := hY W2 hI2 hR2
    have x2c := X2.cell
    have i5 := X2.idle (j := 5) (v := .int .u16 0) rfl
    have i6 := X2.idle (j := 6) (v := .int .u32 0) rfl
    have i7 := X2.idle (j := 7) (v := .int .u16 0) rfl
    have hkb2 := (KB.below V2).cell
    gi_wp2
    refine hB.mono ?_
    rintro e W3 (⟨rfl, hi, -⟩ | ⟨rfl, cc, hix, hrx⟩)
    · exact (hI1 _ hi).elim
    · gi_wp2
      go_end0
      exact ⟨⟨_, rfl⟩, .inr ⟨cc, 1, hix, hrx⟩⟩
end Go.Proofs.Ytjhgcnoijajffaa
namespace Go.Proofs.Ytjhgcnoijajffaa
open Go.RowKit Go.Shelf
set_option linter.unusedVariables false
set_option linter.unusedSimpArgs false
attribute [local go_sem] Oper.semAt_some
set_option linter.unusedVariables false
set_option linter.unusedSimpArgs false
set_option maxHeartbeats 8000000
set_option maxRecDepth 100000
theorem store8 {W : World} {r : Nat} {c0 c1 c2 c3 c4 c5 c6 c7 : Value} {t : TypeId} (R : Blk W r #[c0, c1, c2, c3, c4, c5, c6, c7] t) (v0 v1 v2 v3 v4 v5 v6 v7 : Value) :
    ∃ wf, ((((((((W.setCell ⟨r, 0, none⟩ v0).setCell ⟨r, 1, none⟩ v1).setCell ⟨r, 2, none⟩ v2).setCell ⟨r, 3, none⟩ v3).setCell ⟨r, 4, none⟩ v4).setCell ⟨r, 5, none⟩ v5).setCell ⟨r, 6, none⟩ v6).setCell ⟨r, 7, none⟩ v7) = wf ∧ Sto W r wf #[v0, v1, v2, v3, v4, v5, v6, v7] t := by
  have h := ((((((((Sto.nil R).set 0 v0).set 1 v1).set 2 v2).set 3 v3).set 4 v4).set 5 v5).set 6 v6).set 7 v7
  simp only [List.setIfInBounds_toArray, List.set_cons_zero, List.set_cons_succ] at h
  exact ⟨_, rfl, h⟩
theorem first_any (m : Int) (h0 : 0 ≤ m) (h1 : m ≤ 65535) (ka kb ks kr g c : Nat) (w : World) (KA : Blk w ka #[.pointer (some ⟨kr, 0, none⟩)] 44) (KB : Blk w kb #[.int .i64 1] 49) (KR : Blk w kr #[.slice (some ⟨g, 0, none⟩) 1 c] 93) (C : RulC w g) (KS : Blk w ks #[.int .u32 (167772160 + m)] 22) :
    Calls Try.prog 31 #[.func (.func 59) #[] #[.pointer (some ⟨ka, 0, none⟩), .pointer (some ⟨kb, 0, none⟩)], .func (.func 33) #[] #[.pointer (some ⟨ks, 0, none⟩)]] w fun e w' => e = .returned (.tuple #[.agg #[.int .i64 1, .int .u8 0, .int .u32 167772160, .int .i64 8, .int .u32 16909060, .int .u16 0, .int .u32 0, .int .u16 0], .bool true]) ∧ Below w.heap.size w w' := by
  refine (callsIn_wide (n := 3)).1 ?_
  refine callsIn_of_wp_marks Try.func31 rfl trivial ?_ rfl
  simp only [Try.ntmps31, List.size_toArray, List.length_cons, List.length_nil, Nat.reduceAdd, Nat.reduceSub, Array.replicate_succ, Array.replicate_zero, List.push_toArray, List.append_toArray, List.nil_append, List.cons_append]
  obtain ⟨k, hk, W0, hW0, A0, Z0, O0, R0⟩ := nwI3 w #[.func (.func 33) #[] #[.pointer (some ⟨ks, 0, none⟩)]] 98 #[.int .i64 0, .int .u8 0, .int .u32 0, .int .i64 0, .int .u32 0, .int .u16 0, .int .u32 0, .int .u16 0] 51 #[.bool false] 4
  gi_wp2
  obtain ⟨D, hD⟩ : ∃ D, W0.heap.size = D := ⟨_, rfl⟩
  have hkD : k + 3 ≤ D := by rw [← hD, ← hW0]; simp; omega
  obtain ⟨IF, hIF⟩ : ∃ IF : World → Prop, IF = fun W => Below w.heap.size w W ∧ Blk W k #[.func (.func 33) #[] #[.pointer (some ⟨ks, 0, none⟩)]] 98 ∧ Blk W (k + 1) #[.int .i64 0, .int .u8 0, .int .u32 0, .int .i64 0, .int .u32 0, .int .u16 0, .int .u32 0, .int .u16 0] 51 ∧ Blk W (k + 1 + 1) #[.bool false] 4 := ⟨_, rfl⟩
  have hIFb : ∀ W W', IF W → Below W.heap.size W W' → IF W' := fun W W' h hb => by
    rw [hIF] at h ⊢
    exact ⟨below_then h.1 hb, h.2.1.below hb, h.2.2.1.below hb, h.2.2.2.below hb⟩
  have hIFp : ∀ W o, IF W → IF (W.putObj (D + 1) o) := fun W o h => by
    rw [hIF] at h ⊢
    exact ⟨below_putObj h.1 (by omega) _, ⟨(World.putObj_heap_other (by omega)).trans h.2.1.rd⟩, ⟨(World.putObj_heap_other (by omega)).trans h.2.2.1.rd⟩, ⟨(World.putObj_heap_other (by omega)).trans h.2.2.2.rd⟩⟩
  refine range_law2 rfl (by omega) (gf := 59) (lb := #[.pointer (some ⟨ka, 0, none⟩), .pointer (some ⟨kb, 0, none⟩)]) rfl trivial (enters_of Try.func59 (by kernel_rfl) rfl)
    (fun _ : Unit => #[.agg #[.int .i64 1, .int .u8 0, .int .u32 167772160, .int .i64 8, .int .u32 16909060, .int .u16 0, .int .u32 0, .int .u16 0]]) (fun _ => rfl) (fun _ _ => 1) 0 (fun _ : Nat => False)
    (fun s W => s = 0 ∧ IF W) (fun c _ W => c = .ret ∧ Below w.heap.size w W ∧ Blk W (k + 1) #[.int .i64 1, .int .u8 0, .int .u32 167772160, .int .i64 8, .int .u32 16909060, .int .u16 0, .int .u32 0, .int .u16 0] 51 ∧ Blk W (k + 1 + 1) #[.bool true] 4) (fun s _ => s = 0)
    (fun _ _ b W => IF W ∧ ∃ kx, b = { tmps := #[.func (.func 59) #[] #[.pointer (some ⟨ka, 0, none⟩), .pointer (some ⟨kb, 0, none⟩)], .func (.func 33) #[] #[.pointer (some ⟨ks, 0, none⟩)], undef, .pointer (some ⟨k, 0, none⟩), .pointer (some ⟨k + 1, 0, none⟩), .pointer (some ⟨k + 1 + 1, 0, none⟩), .pointer (some ⟨kx, 0, none⟩), .func (.func 59) #[] #[.pointer (some ⟨ka, 0, none⟩), .pointer (some ⟨kb, 0, none⟩)], .agg #[.int .i64 1, .int .u8 0, .int .u32 167772160, .int .i64 8, .int .u32 16909060, .int .u16 0, .int .u32 0, .int .u16 0], undef, undef, undef, undef, undef], defers := [] } ∧ Blk W kx #[.int .i64 1, .int .u8 0, .int .u32 167772160, .int .i64 8, .int .u32 16909060, .int .u16 0, .int .u32 0, .int .u16 0] 51 ∧ D + 2 ≤ kx)
    ?hI ?hIx ?hJ ?h0 ?hassign ?hbody ?hiter ?hdone ?hstop
  all_goals rw [hD] at *
  case hI => exact fun s W o _ h => ⟨h.1, hIFp _ _ h.2⟩
  case hIx =>
    rintro c s W o _ ⟨a, b, d, e⟩
    exact ⟨a, below_putObj b (by omega) _, ⟨(World.putObj_heap_other (by omega)).trans d.rd⟩, ⟨(World.putObj_heap_other (by omega)).trans e.rd⟩⟩
  case hJ =>
    rintro s x a W o _ ⟨a1, kx, a2, a3, a4⟩
    exact ⟨hIFp _ _ a1, kx, a2, ⟨(World.putObj_heap_other (by omega)).trans a3.rd⟩, a4⟩
  case h0 =>
    intro o o' _ _
    have hb' : Below W0.heap.size W0 ((W0.alloc o).alloc o') := ((Below.refl _ W0).alloc (Nat.le_refl _) _).alloc (by simp) _
    refine ⟨rfl, hIFb _ _ ?_ hb'⟩
    rw [hIF]
    exact ⟨R0, A0, Z0, O0⟩
  case hassign =>
    rintro s x W K _ ⟨-, hi⟩ hs hK
    obtain ⟨W2, hW2, V2, kX, hkX, X2⟩ := nw1 W #[.int .i64 1, .int .u8 0, .int .u32 167772160, .int .i64 8, .int .u32 16909060, .int .u16 0, .int .u32 0, .int .u16 0] 51
    have i5 := X2.idle (j := 5) (v := .int .u16 0) rfl
    have i6 := X2.idle (j := 6) (v := .int .u32 0) rfl
    have i7 := X2.idle (j := 7) (v := .int .u16 0) rfl
    have x2c := X2.cell
    dsimp only
    gi_wp2
    refine hK _ W2 (by rw [← hW2]; exact keeps_alloc _ _) ?_
    exact ⟨hIFb _ _ hi V2, kX, rfl, X2, by omega⟩
  case hbody =>
    rintro s x b W _ ⟨hi, kx, rfl, X, hkx⟩ hz
    rw [hIF] at hi
    obtain ⟨hB, HA, HZ, HO⟩ := hi
    have ac := HA.cell
    have xc := X.cell
    have KSw := KS.below hB
    gi_wp2_with (refine ⟨trivial, ?_⟩; gi_at_call 33; refine (CallsIn.inRound (D + 1) (callsIn_wide.2 (masq1_any m h0 h1 ks W KSw))).mono ?_; rintro e w4 ⟨rfl, hB4⟩; have X4 := X.below hB4; have Z4 := HZ.below hB4; have O4 := HO.below hB4; have x4c := X4.cell; have z4c := Z4.cell; have o4c := O4.cell; (obtain ⟨w5, hw5, S5⟩ := store8 Z4 (.int .i64 1) (.int .u8 0) (.int .u32 167772160) (.int .i64 8) (.int .u32 16909060) (.int .u16 0) (.int .u32 0) (.int .u16 0)); have O5 := S5.other (by omega) O4; have o5c := O5.cell; (obtain ⟨w6, hw6, S6⟩ := store1 O5 0 (.bool true)))
    have kp : KeepsFrom D w4 w6 := by
      rw [← hw6, ← hw5]
      iterate 9 (refine KeepsFrom.trans ?_ (keeps_setCell _ _ _))
      exact KeepsFrom.refl _ _
    exact ⟨(keeps_below hB4).trans kp, rfl, S6.bel (S5.bel (below_then hB hB4) (by omega)) (by omega), S6.other (by omega) S5.blk, S6.blk⟩
  case hiter =>
    intro R Rx W1 hRk hRs hY i0 hR0 hz
    have hb1 : Below w.heap.size w W1 := by have := i0.2; rw [hIF] at this; exact this.1
    exact of1_in D ka kb kr g c w _ _ R Rx (fun W h => by have := h.1; omega) (fun W o h => ⟨h.1, hIFb _ _ h.2 ((Below.refl _ W).alloc (Nat.le_refl _) _)⟩) hRk (fun W h r => hY 0 () W rfl h r) W1 (KA.below hb1) (KB.below hb1) (KR.below hb1) (C.below hb1) i0 hR0
  case hdone => exact fun _ _ h => h.elim
  case hstop =>
    rintro cc s W ⟨rfl, hB, HZ, HO⟩ hK
    have zc := HZ.cell
    have oc := HO.cell
    have zp : ∀ o, Blk (W.putObj D o) (k + 1) #[.int .i64 1, .int .u8 0, .int .u32 167772160, .int .i64 8, .int .u32 16909060, .int .u16 0, .int .u32 0, .int .u16 0] 51 := fun o => ⟨(World.putObj_heap_other (by omega)).trans HZ.rd⟩
    have op : ∀ o, Blk (W.putObj D o) (k + 1 + 1) #[.bool true] 4 := fun o => ⟨(World.putObj_heap_other (by omega)).trans HO.rd⟩
    have zpc := fun o => (zp o).cell
    have opc := fun o => (op o).cell
    gi_wp2
    refine ⟨by simp, .inl ⟨_, _, rfl, run_takeDeferred hK, ?_⟩⟩
    refine ⟨.tuple #[.agg #[.int .i64 1, .int .u8 0, .int .u32 167772160, .int .i64 8, .int .u32 16909060, .int .u16 0, .int .u32 0, .int .u16 0], .bool true], ?_, rfl, ?_⟩
    · simp [results, Try.results31, go_sem, zpc, opc]
    · rw [← hk]
      exact below_putObj hB (by omega) _
theorem masq_any (m : Int) (h0 : 0 ≤ m) (h1 : m ≤ 65535) (kr g c : Nat) (w : World) (KR : Blk w kr #[.slice (some ⟨g, 0, none⟩) 1 c] 93) (C : RulC w g) :
    Calls Try.prog 14 #[.pointer (some ⟨kr, 0, none⟩), .int .u32 (167772160 + m)] w fun e w' => e = .returned (.tuple #[.agg #[.int .i64 1, .int .u8 0, .int .u32 167772160, .int .i64 8, .int .u32 16909060, .int .u16 0, .int .u32 0, .int .u16 0], .bool true]) ∧ Below w.heap.size w w' := by
  have hf := fun ka kb ks W KA KB KR C KS => first_any m h0 h1 ka kb ks kr g c W KA KB KR C KS
  obtain ⟨s, hs⟩ : ∃ s, 167772160 + m = s := ⟨_, rfl⟩
  rw [hs] at hf ⊢
  clear hs h0 h1
  obtain ⟨k, hk, w1, hw1, S1, Z1, R1⟩ := nwI2 w #[.int .u32 s] 22 #[.int .i64 0, .int .u8 0, .int .u32 0, .int .i64 0, .int .u32 0, .int .u16 0, .int .u32 0, .int .u16 0] 51
  have KR1 := KR.below R1
  have C1 := C.below R1
  have z1l := Z1.lt
  go_enter Try.func14, Try.ntmps14
  obtain ⟨w2, hw2, V2, k2, hk2, A2⟩ := nw1 w1 #[.pointer (some ⟨kr, 0, none⟩)] 44
  obtain ⟨w3, hw3, V3, k3, hk3, B3⟩ := nw1 w2 #[.int .i64 1] 49
  have A3 := A2.below V3
  have R3 := below_then (below_then R1 V2) V3
  have KR3 := KR.below R3
  have C3 := C.below R3
  have S3 := (S1.below V2).below V3
  have Z3 := (Z1.below V2).below V3
  have e23 : w1.heap.size + 1 = k3 := by rw [← hk3, ← hw2]; simp
  have ho : Calls Try.prog 32 #[.pointer (some ⟨kr, 0, none⟩), .int .i64 1] w1 fun e w' => e = .returned (.func (.func 59) #[] #[.pointer (some ⟨k2, 0, none⟩), .pointer (some ⟨k3, 0, none⟩)]) ∧ w' = w3 := by
    refine (ofk_any kr w1).mono ?_
    rintro e w' ⟨rfl, rfl⟩
    rw [hk2, ← hw3, ← hw2, ← hk3, ← hw2]
    refine ⟨?_, rfl⟩
    simp [hk2]
  clear hw2 hw3 hk2 hk3 e23
  go_wp2_with (first
    | (go_at_call 32; ((with_reducible refine (ho).mono ?_); rintro e w9 ⟨rfl, rfl⟩))
    | (go_at_call 31; ((with_reducible refine (hf k2 k3 k w9 A3 B3 KR3 C3 S3).mono ?_); rintro e w4 ⟨rfl, hB4⟩); have Z4 := Z3.below hB4; have z4c := Z4.cell; (obtain ⟨w5, hw5, S5⟩ := store8 Z4 (.int .i64 1) (.int .u8 0) (.int .u32 167772160) (.int .i64 8) (.int .u32 16909060) (.int .u16 0) (.int .u32 0) (.int .u16 0))))
  have pf := S5.blk.cell
  exact bodyPost_ret (v := .tuple #[.agg #[.int .i64 1, .int .u8 0, .int .u32 167772160, .int .i64 8, .int .u32 16909060, .int .u16 0, .int .u32 0, .int .u16 0], .bool true]) (by simp [results, Try.results14, go_sem, pf]) rfl ⟨rfl, S5.bel (below_then R3 hB4) (by omega)⟩
end Go.Proofs.Ytjhgcnoijajffaa
namespace Go.Proofs.Ytjhgcnoijajffaa
open Go.RowKit Go.Shelf
set_option linter.unusedVariables false
set_option linter.unusedSimpArgs false
set_option maxHeartbeats 8000000
set_option maxRecDepth 100000
theorem z97_drop : Try.zeroCells97.toList.drop 2 = List.replicate 1024 (.int .u64 0) := by kernel_rfl
theorem z97_size : Try.zeroCells97.size = 1026 := by kernel_rfl
structure PoolC (pc : Array Value) : Prop where
  lo : pc[0]? = some (.int .i64 2000)
  hi : pc[1]? = some (.int .i64 2009)
  bits : ∀ q, q < 1024 → pc[2 + q]? = some (.int .u64 0)
theorem poolC_new : PoolC ((Try.zeroCells97.setIfInBounds 0 (.int .i64 2000)).setIfInBounds 1 (.int .i64 2009)) := by
  have hs := z97_size
  have hd := z97_drop
  obtain ⟨A, hA⟩ : ∃ A, Try.zeroCells97 = A := ⟨_, rfl⟩
  rw [hA] at hs hd ⊢
  clear hA
  refine ⟨?_, ?_, fun q hq => ?_⟩
  · rw [Array.getElem?_setIfInBounds, if_neg (by omega), Array.getElem?_setIfInBounds, if_pos rfl, if_pos (by omega)]
  · rw [Array.getElem?_setIfInBounds, if_pos rfl, if_pos (by rw [Array.size_setIfInBounds]; omega)]
  · rw [Array.getElem?_setIfInBounds, if_neg (by omega), Array.getElem?_setIfInBounds, if_neg (by omega)]
    have h : (A.toList.drop 2)[q]? = some (.int .u64 0) := by
      rw [hd, List.getElem?_replicate, if_pos hq]
    rw [List.getElem?_drop] at h
    simpa using h
theorem pnew_any (w : World) : Calls Try.prog 12 #[.int .u16 2000, .int .u16 2009] w fun e w' => ∃ k pc, e = .returned (.pointer (some ⟨k, 0, none⟩)) ∧ w.heap.size ≤ k ∧ Blk w' k pc 97 ∧ PoolC pc ∧ Below w.heap.size w w' := by
  obtain ⟨k, hk⟩ : ∃ k, w.heap.size = k := ⟨_, rfl⟩
  go_enter Try.func12, Try.ntmps12
  go_wp2_with fail
  refine bodyPost_ret (v := .pointer (some ⟨k, 0, none⟩)) (by simp [results, Try.results12, go_sem]) rfl ?_
  exact ⟨k, _, rfl, by omega, blk_new w _ _ k hk, poolC_new, bw1 rfl⟩
theorem phas_any (n : Int) (h0 : 2000 ≤ n) (h1 : n ≤ 2009) (kp : Nat) (pc : Array Value) (hp : PoolC pc) (w : World) (P : Blk w kp pc 97) : Calls Try.prog 76 #[.pointer (some ⟨kp, 0, none⟩), .int .u16 n] w fun e w' => e = .returned (.bool false) ∧ Below w.heap.size w w' := by
  have c33 := (P.cell.1 33).trans (hp.bits 31 (by omega))
  have pl := P.lt
  have hq : n.tdiv 64 = 31 := by rw [Int.tdiv_eq_ediv_of_nonneg (by omega)]; omega
  have hm : n.tmod 64 = n - 1984 := by rw [Int.tmod_eq_emod_of_nonneg (by omega)]; omega
  clear hp
  go_enter Try.func76, Try.ntmps76
  go_wp2_with fail
  go_ret
  exact ⟨rfl, Below.refl _ _⟩
theorem free1_any (n : Int) (h0 : 2000 ≤ n) (h1 : n ≤ 2009) (kp : Nat) (pc : Array Value) (hp : PoolC pc) (w : World) (P : Blk w kp pc 97) : Calls Try.prog 60 #[.pointer (some ⟨kp, 0, none⟩), .int .i64 n, .int .i64 1] w fun e w' => e = .returned (.bool true) ∧ Below w.heap.size w w' := by
  have hh := fun W P => phas_any n h0 h1 kp pc hp W P
  have hlo := hp.lo
  have hhi := hp.hi
  have hw : n % 65536 = n := by omega
  clear hp
  go_enter Try.func60, Try.ntmps60
  go_wp2_with fail
  go_loopw [9] (fun i wr => ∃ j : Nat, j ≤ 1 ∧ i = .int .i64 (j : Int) ∧ Below w.heap.size w wr) (fun i _ => 1 - (intOf i).toNat)
  case atStart => exact ⟨0, by omega, rfl, Below.refl _ _⟩
  case round =>
    obtain ⟨j, hj, rfl, Bj⟩ := hrel
    have Pj := P.below Bj
    have cl := (Pj.cell.1 0).trans hlo
    have ch := (Pj.cell.1 1).trans hhi
    by_cases hlt : j = 0
    · subst hlt
      go_wp2_with (go_at_call 76; ((with_reducible refine (hh wr Pj).mono ?_); rintro e w4 ⟨rfl, hB4⟩))
      exact ⟨⟨1, by omega, by go_num, below_then Bj hB4⟩, by simp [intOf]⟩
    · obtain rfl : j = 1 := by omega
      go_wp2_with fail
      go_ret
      exact ⟨rfl, Bj⟩
theorem free0_any (n : Int) (h0 : 0 ≤ n) (h1 : n ≤ 65535) (hn : ¬ (2000 ≤ n ∧ n ≤ 2009)) (kp : Nat) (pc : Array Value) (hp : PoolC pc) (w : World) (P : Blk w kp pc 97) : Calls Try.prog 60 #[.pointer (some ⟨kp, 0, none⟩), .int .i64 n, .int .i64 1] w fun e w' => e = .returned (.bool false) ∧ Below w.heap.size w w' := by
  have hlo := hp.lo
  have hhi := hp.hi
  clear hp
  go_enter Try.func60, Try.ntmps60
  go_wp2_with fail
  go_loopw [9] (fun i wr => i = .int .i64 0 ∧ wr = w) (fun i _ => 0)
  case atStart => exact ⟨rfl, rfl⟩
  case round =>
    obtain ⟨rfl, rfl⟩ := hrel
    have cl := (P.cell.1 0).trans hlo
    have ch := (P.cell.1 1).trans hhi
    rcases (show n < 2000 ∨ n ≥ 2000 by omega) with h | h
    · go_wp2_with fail
      go_ret
      exact ⟨rfl, Below.refl _ _⟩
    · have h' : n > 2009 := by omega
      go_wp2_with fail
      go_ret
      exact ⟨rfl, Below.refl _ _⟩
theorem all_any (kp : Nat) (w : World) : Calls Try.prog 61 #[.pointer (some ⟨kp, 0, none⟩), .int .i64 1] w fun e w' => e = .returned (.func (.func 77) #[] #[.pointer (some ⟨w.heap.size, 0, none⟩), .pointer (some ⟨w.heap.size + 1, 0, none⟩)]) ∧ w' = (w.alloc (.cells #[.pointer (some ⟨kp, 0, none⟩)] 46)).alloc (.cells #[.int .i64 1] 3) := by
  go_enter Try.func61, Try.ntmps61
  go_wp2_with fail
  go_ret
  exact ⟨rfl, rfl⟩
theorem all1_in (D ka kb kp : Nat) (pc : Array Value) (hp : PoolC pc) (w : World) (I : Nat → World → Prop) (Ix : Code → Nat → World → Prop) (R : World → Prop) (Rx : Code → World → Prop)
    (hI1 : ∀ W, ¬ I 1 W) (hIb : ∀ W W', I 0 W → Below W.heap.size W W' → I 0 W') (hR : ∀ W W', R W → KeepsFrom D W W' → R W')
    (hY : ∀ W, I 0 W → R W → YieldAt Fence.wide 1 Try.prog (D + 1) #[.int .i64 2000] W (roundSaid 1 I Ix R Rx)) (W1 : World)
    (KA : Blk W1 ka #[.pointer (some ⟨kp, 0, none⟩)] 46) (KB : Blk W1 kb #[.int .i64 1] 3) (P : Blk W1 kp pc 97) (h0 : I 0 W1) (hR0 : R W1) :
    CallsIn Fence.wide 2 Try.prog 77 (#[.func (.yield (D + 1)) #[] #[]] ++ #[.pointer (some ⟨ka, 0, none⟩), .pointer (some ⟨kb, 0, none⟩)]) W1 (iterEnd (fun _ => False) I Ix R Rx) := by
  have hka := KA.cell
  have hkb := KB.cell
  have cl := (P.cell.1 0).trans hp.lo
  have ch := (P.cell.1 1).trans hp.hi
  have hf := fun W P => free1_any 2000 (by omega) (by omega) kp pc hp W P
  refine callsIn_of_wp Try.func77 rfl trivial ?_ rfl
  simp only [Try.ntmps77, List.size_toArray, List.length_cons, List.length_nil, Nat.reduceAdd, Nat.reduceSub, Array.replicate_succ, Array.replicate_zero, List.push_toArray, List.append_toArray, List.nil_append, List.cons_append]
  gi_wp2
  gi_loopw [4] (fun i wr => i = .int .i64 2000 ∧ wr = W1) (fun _ _ => 0)
  case atStart => exact ⟨rfl, rfl⟩
  case round =>
    obtain ⟨rfl, rfl⟩ := hrel
    gi_wp2_with (refine ⟨trivial, ?_⟩; gi_at_call 60; refine (callsIn_wide.2 (hf wr P)).mono ?_; rintro e w4 ⟨rfl, hB4⟩; have hI2 := hIb _ _ h0 hB4; have hR2 := hR _ _ hR0 (keeps_below hB4); obtain ⟨fn, tmps, assign, body, hy, hB⟩ := hY w4 hI2 hR2)
    refine hB.mono ?_
    rintro e W3 (⟨rfl, hi, -⟩ | ⟨rfl, cc, hix, hrx⟩)
    · exact (hI1 _ hi).elim
    · gi_wp2
      go_end0
      exact ⟨⟨_, rfl⟩, .inr ⟨cc, 1, hix, hrx⟩⟩
attribute [local go_sem] Oper.semAt_some
set_option linter.unusedVariables false
set_option linter.unusedSimpArgs false
set_option linter.unusedSimpArgs false
set_option maxHeartbeats 8000000
set_option maxRecDepth 100000
structure Fr (w : World) (r : Nat) (w' : World) : Prop where
  bel : ∀ {B w0}, Below B w0 w → B ≤ r → Below B w0 w'
  other : ∀ {k cs' t'}, k ≠ r → Blk w k cs' t' → Blk w' k cs' t'
theorem Sto.fr {W : World} {r : Nat} {wf : World} {cs : Array Value} {t : TypeId} (h : Sto W r wf cs t) : Fr W r wf := ⟨fun a b => h.bel a b, fun a b => h.other a b⟩
theorem Fr.put {W : World} {r : Nat} {wf : World} (h : Fr W r wf) {D : Nat} (hD : W.heap.size ≤ D) (hr : r < W.heap.size) (o : Obj) : Fr W r (wf.putObj D o) :=
  ⟨fun b hB => below_putObj (h.bel b hB) (by omega) o, fun hk b => ⟨(World.putObj_heap_other (by have := b.lt; omega)).trans (h.other hk b).rd⟩⟩
structure TkPost (w : World) (kp : Nat) (n : Int) (e : Ending) (w' : World) : Prop where
  out : e = .returned (.tuple #[.int .u16 n, .int .i64 0]) ∧ Fr w kp w'
theorem take1_any (n : Int) (h0 : 2000 ≤ n) (h1 : n ≤ 2009) (kp : Nat) (pc : Array Value) (hp : PoolC pc) (w : World) (P : Blk w kp pc 97) :
    Calls Try.prog 35 #[.pointer (some ⟨kp, 0, none⟩), .int .i64 n, .int .i64 1] w (TkPost w kp n) := by
  have hf := fun W P => free1_any n h0 h1 kp pc hp W P
  have c33 := hp.bits 31 (by omega)
  have pl := P.lt
  have hq : n.tdiv 64 = 31 := by rw [Int.tdiv_eq_ediv_of_nonneg (by omega)]; omega
  have hm : n.tmod 64 = n - 1984 := by rw [Int.tmod_eq_emod_of_nonneg (by omega)]; omega
  have h1t : n.tmod 1 = 0 := by rw [Int.tmod_eq_emod_of_nonneg (by omega)]; omega
  have hw : n % 65536 = n := by omega
  have hnz : ¬ n = 0 := by omega
  have hnzb : (n == 0) = false := by simpa using hnz
  have e31 : IntKind.i64.wrap 31 = 31 := IntWalk.i64_in _ (by omega)
  have e31n : (31 : Int).toNat = 31 := rfl
  clear hp
  go_enter Try.func35, Try.ntmps35
  obtain ⟨w1, hw1, V1, kf, hkf, F1⟩ := nw1 w #[.int .i64 0] 3
  have f1c := F1.cell
  have i0 := F1.idle (j := 0) (v := .int .i64 0) rfl
  have hne : kf ≠ kp := by omega
  go_wp2_with (go_at_call 60; ((with_reducible refine (hf w1 (P.below V1)).mono ?_); rintro e w4 ⟨rfl, hB4⟩); have F4 := F1.below hB4; have f4c := F4.cell; (obtain ⟨w5, hw5, S5⟩ := store1 F4 0 (.int .i64 n)); have F5 := S5.blk; have f5c : (∀ j, w5.cell? ⟨kf, j, none⟩ = #[.int .i64 n][j]?) ∧ (∀ j, w5.frozen? ⟨kf, j, none⟩ = false) := F5.cell)
  have B5 : Below w.heap.size w w5 := S5.bel (below_then V1 hB4) (by omega)
  have SP := (Sto.nil P).more B5
  have SF : Blk w5 kf #[.int .i64 n] 3 := F5
  clear F1 f1c f4c f5c F5 S5 hw1 F4
  go_loopw [10] (fun i wr => (i = .int .i64 n ∧ wr = w5) ∨ (i = .int .i64 (n + 1) ∧ Blk wr kf #[.int .i64 n] 3 ∧ ∃ pc', Sto w kp wr pc' 97)) (fun i _ => (n + 1 - intOf i).toNat)
  case atStart => exact .inl ⟨rfl, rfl⟩
  case round =>
    rcases hrel with ⟨rfl, rfl⟩ | ⟨rfl, Fr, pc', Sr⟩
    · have fc := SF.cell
      have fl := SF.lt
      have p33 := (SP.blk.cell.1 33).trans c33
      go_wp2_with fail
      refine region_txt 14 (by kernel_rfl) (by kernel_rfl) ?_; (iterate 14 (first | (apply ObsK.skip (by rfl)) | (apply ObsK.v (by rfl); (intro wo hT; (repeat (first | (intro _ _ k; try have hcv := cv k))); (have pco := (hT.cell (World.block_lt_of_cell? _ _ p33)).trans p33); refine Goes.mk ?_; go_simp; first | exact goes_v | exact goes_b (by assumption) | (refine goes_enter ?_; first | fail))) | (apply ObsK.b (by rfl); (intro wo hT; (repeat (first | (intro _ _ k; try have hcv := cv k))); (have pco := (hT.cell (World.block_lt_of_cell? _ _ p33)).trans p33); refine Goes.mk ?_; go_simp; first | exact goes_v | exact goes_b (by assumption) | (refine goes_enter ?_; first | fail))))); refine ObsK.nil ?_; intro wz hBz; simp only [finOn, List.drop_succ_cons, List.drop_zero, List.drop_nil]
      go_simp
      have Sz := SP.more hBz
      have z33 := (Sz.blk.cell.1 33).trans c33
      have zf := Sz.blk.cell.2
      have Fz := SF.below hBz
      have kne : kp ≠ kf := fun e => hne e.symm
      go_wp2_with fail
      exact ⟨.inr ⟨rfl, Fz.far ⟨kp, 33, none⟩ kne _, _, Sz.set 33 _⟩, by simp [intOf]; omega⟩
    · have fc := Fr.cell
      go_wp2_with fail
      exact bodyPost_ret (v := .tuple #[.int .u16 n, .int .i64 0]) (by simp [results, Try.results35, go_sem]) rfl ⟨⟨rfl, Sr.fr⟩⟩
end Go.Proofs.Ytjhgcnoijajffaa
namespace Go.Proofs.Ytjhgcnoijajffaa
open Go.RowKit Go.Shelf
set_option linter.unusedVariables false
set_option linter.unusedSimpArgs false
attribute [local go_sem] Oper.semAt_some
set_option linter.unusedVariables false
set_option linter.unusedSimpArgs false
set_option linter.unusedSimpArgs false
set_option maxHeartbeats 8000000
set_option maxRecDepth 100000
theorem setc_far2 {W : World} {p : Addr} {v : Value} {b : Nat} (h : p.block ≠ b) : (W.setCell p v).heap[b]? = W.heap[b]? := by
  unfold World.setCell
  simp [Array.getElem?_modify, h]
theorem take0_any (n : Int) (h0 : 0 ≤ n) (h1 : n ≤ 65535) (hn : ¬ (2000 ≤ n ∧ n ≤ 2009)) (kp : Nat) (pc : Array Value) (hp : PoolC pc) (w : World) (P : Blk w kp pc 97) :
    Calls Try.prog 35 #[.pointer (some ⟨kp, 0, none⟩), .int .i64 n, .int .i64 1] w (TkPost w kp 2000) := by
  have hf := fun W P => free0_any n h0 h1 hn kp pc hp W P
  have c33 := hp.bits 31 (by omega)
  have pl := P.lt
  have h1t : n.tmod 1 = 0 := by rw [Int.tmod_eq_emod_of_nonneg (by omega)]; omega
  have e31 : IntKind.i64.wrap 31 = 31 := IntWalk.i64_in _ (by omega)
  have e31n : (31 : Int).toNat = 31 := rfl
  clear h0 h1 hn
  refine (callsIn_wide (n := 3)).1 ?_
  refine callsIn_of_wp_marks Try.func35 rfl trivial ?_ rfl
  simp only [Try.ntmps35, List.size_toArray, List.length_cons, List.length_nil, Nat.reduceAdd, Nat.reduceSub, Array.replicate_succ, Array.replicate_zero, List.push_toArray, List.append_toArray, List.nil_append, List.cons_append]
  obtain ⟨w1, hw1, V1, kf, hkf, F1⟩ := nw1 w #[.int .i64 0] 3
  have f1c := F1.cell
  have i0 := F1.idle (j := 0) (v := .int .i64 0) rfl
  have hne : kf ≠ kp := by omega
  gi_wp2_with (first
    | (refine ⟨trivial, ?_⟩; gi_at_call 60; refine (callsIn_wide.2 (hf w1 (P.below V1))).mono ?_; rintro e w4 ⟨rfl, hB4⟩)
    | (refine ⟨trivial, ?_⟩; gi_at_call 61; refine (callsIn_wide.2 (all_any kp w4)).mono ?_; rintro e w5 ⟨rfl, hw5⟩))
  clear hw5
  obtain ⟨ka, hka, W0, hW0, KA, KB, R40⟩ := nwI2 w4 #[.pointer (some ⟨kp, 0, none⟩)] 46 #[.int .i64 1] 3
  rw [hka, hW0]
  obtain ⟨kb, hkb⟩ : ∃ kb, ka + 1 = kb := ⟨_, rfl⟩
  rw [hkb] at KB ⊢
  have B4 : Below w.heap.size w w4 := below_then V1 hB4
  have R0 := below_then B4 R40
  have F0 := (F1.below hB4).below R40
  obtain ⟨D, hD⟩ : ∃ D, W0.heap.size = D := ⟨_, rfl⟩
  have hkD : kf < D ∧ ka < D ∧ kb < D ∧ w.heap.size ≤ D := by have := F0.lt; have := KA.lt; have := KB.lt; have := R0.size; omega
  have hkw : w.heap.size ≤ kf := by omega
  clear hW0 hB4 R40 i0 f1c hw1 hkf hka hkb
  refine range_law2 rfl (by omega) (gf := 77) (lb := #[.pointer (some ⟨ka, 0, none⟩), .pointer (some ⟨kb, 0, none⟩)]) rfl trivial (enters_of Try.func77 (by kernel_rfl) rfl)
    (fun _ : Unit => #[.int .i64 2000]) (fun _ => rfl) (fun _ _ => 1) 0 (fun _ : Nat => False)
    (fun s W => s = 0 ∧ Below w.heap.size w W ∧ Blk W kf #[.int .i64 0] 3 ∧ Blk W ka #[.pointer (some ⟨kp, 0, none⟩)] 46 ∧ Blk W kb #[.int .i64 1] 3) (fun c _ W => c = .exit 0 ∧ Below w.heap.size w W ∧ Blk W kf #[.int .i64 2000] 3) (fun s _ => s = 0)
    (fun _ _ b W => b = { tmps := #[.pointer (some ⟨kp, 0, none⟩), .int .i64 n, .int .i64 1, undef, undef, undef, .int .u16 0, .int .i64 0, .pointer (some ⟨kf, 0, none⟩), .int .i64 2000, undef, .pointer (some ⟨kp, 0, none⟩), .bool false, .int .i64 n, .int .i64 1, .int .i64 0, .bool true, .bool true, .pointer (some ⟨kp, 0, none⟩), .int .i64 n, .int .i64 1, .bool false, .bool false, undef, .pointer (some ⟨kp, 0, none⟩), .int .i64 1, .func (.func 77) #[] #[.pointer (some ⟨ka, 0, none⟩), .pointer (some ⟨kb, 0, none⟩)], .int .i64 2000, undef, undef, undef, undef, undef, undef, undef, undef, undef, undef, undef, undef, undef, undef, undef, undef, undef, undef, undef, undef, undef, undef, undef, undef, undef, undef, undef], defers := [] } ∧ Below w.heap.size w W ∧ Blk W kf #[.int .i64 0] 3)
    ?hI ?hIx ?hJ ?h0 ?hassign ?hbody ?hiter ?hdone ?hstop
  all_goals rw [hD] at *
  case hI =>
    rintro s W o _ ⟨a, b, c, d, e⟩
    exact ⟨a, below_putObj b (by omega) _, ⟨(World.putObj_heap_other (by omega)).trans c.rd⟩, ⟨(World.putObj_heap_other (by omega)).trans d.rd⟩, ⟨(World.putObj_heap_other (by omega)).trans e.rd⟩⟩
  case hIx =>
    rintro c s W o _ ⟨a, b, d⟩
    exact ⟨a, below_putObj b (by omega) _, ⟨(World.putObj_heap_other (by omega)).trans d.rd⟩⟩
  case hJ =>
    rintro s x a W o _ ⟨a1, a2, a3⟩
    exact ⟨a1, below_putObj a2 (by omega) _, ⟨(World.putObj_heap_other (by omega)).trans a3.rd⟩⟩
  case h0 =>
    intro o o' _ _
    have hb' : Below W0.heap.size W0 ((W0.alloc o).alloc o') := ((Below.refl _ W0).alloc (Nat.le_refl _) _).alloc (by simp) _
    exact ⟨rfl, below_then R0 hb', F0.below hb', KA.below hb', KB.below hb'⟩
  case hassign =>
    rintro s x W K _ ⟨-, i1, i2, -, -⟩ hs hK
    dsimp only
    gi_wp2
    exact hK _ _ (KeepsFrom.refl _ _) ⟨rfl, i1, i2⟩
  case hbody =>
    rintro s x b W _ ⟨rfl, hB, HF⟩ hz
    have fc := HF.cell
    obtain ⟨w6, hw6, S6⟩ := store1 HF 0 (.int .i64 2000)
    gi_wp2
    exact ⟨by rw [← hw6]; exact keeps_setCell _ _ _, rfl, S6.bel hB (by omega), S6.blk⟩
  case hiter =>
    intro R Rx W1 hRk hRs hY i0 hR0 hz
    exact all1_in D ka kb kp pc hp w _ _ R Rx (fun W h => by have := h.1; omega) (fun W W' h hb => ⟨h.1, below_then h.2.1 hb, h.2.2.1.below hb, h.2.2.2.1.below hb, h.2.2.2.2.below hb⟩) hRk (fun W h r => hY 0 () W rfl h r) W1 i0.2.2.2.1 i0.2.2.2.2 (P.below i0.2.1) i0 hR0
  case hdone => exact fun _ _ h => h.elim
  case hstop =>
    rintro cc s W ⟨rfl, hB, HF⟩ hK
    have fc := HF.cell
    have PW := P.below hB
    have SP := (Sto.nil P).more hB
    have hkD2 := hkD.2.2.2
    have kne : kp ≠ kf := fun e => hne e.symm
    have kpD : kp ≠ D := by omega
    gi_wp2
    refine wpIn_wide.2 ?_
    go_loopw [10] (fun i wr => (i = .int .i64 2000 ∧ wr = W) ∨ (i = .int .i64 2001 ∧ Blk wr kf #[.int .i64 2000] 3 ∧ wr.heap[D]? = some (.deferred (some [])) ∧ ∃ pc', Sto w kp wr pc' 97)) (fun i _ => (2001 - intOf i).toNat)
    case atStart => exact .inl ⟨rfl, rfl⟩
    case round =>
      rcases hrel with ⟨rfl, rfl⟩ | ⟨rfl, Fr', hK', pc', Sr⟩
      · have p33 := (SP.blk.cell.1 33).trans c33
        go_wp2_with fail
        refine region_txt 14 (by kernel_rfl) (by kernel_rfl) ?_; (iterate 14 (first | (apply ObsK.skip (by rfl)) | (apply ObsK.v (by rfl); (intro wo hT; (repeat (first | (intro _ _ k; try have hcv := cv k))); (have pco := (hT.cell (World.block_lt_of_cell? _ _ p33)).trans p33); refine Goes.mk ?_; go_simp; first | exact goes_v | exact goes_b (by assumption) | (refine goes_enter ?_; first | fail))) | (apply ObsK.b (by rfl); (intro wo hT; (repeat (first | (intro _ _ k; try have hcv := cv k))); (have pco := (hT.cell (World.block_lt_of_cell? _ _ p33)).trans p33); refine Goes.mk ?_; go_simp; first | exact goes_v | exact goes_b (by assumption) | (refine goes_enter ?_; first | fail))))); refine ObsK.nil ?_; intro wz hBz; simp only [finOn, List.drop_succ_cons, List.drop_zero, List.drop_nil]
        go_simp
        have Sz := SP.more hBz
        have z33 := (Sz.blk.cell.1 33).trans c33
        have zf := Sz.blk.cell.2
        have Fz := HF.below hBz
        have hKz : wz.heap[D]? = some (.deferred (some [])) := (hBz.block D (Array.getElem?_eq_some_iff.1 hK).1).trans hK
        have hKs : ∀ v, (wz.setCell ⟨kp, 33, none⟩ v).heap[D]? = some (.deferred (some [])) := fun v => (setc_far2 kpD).trans hKz
        go_wp2_with fail
        exact ⟨.inr ⟨rfl, Fz.far ⟨kp, 33, none⟩ kne _, hKs _, _, Sz.set 33 _⟩, by simp [intOf]⟩
      · have fc' := Fr'.cell
        go_wp2_with fail
        gi_wp2
        refine ⟨by simp, .inl ⟨_, _, rfl, run_takeDeferred hK', ?_⟩⟩
        refine ⟨.tuple #[.int .u16 2000, .int .i64 0], ?_, ⟨⟨rfl, Sr.fr.put hkD2 pl _⟩⟩⟩
        simp [results, Try.results35, go_sem]
theorem take_any (n : Int) (h0 : 0 ≤ n) (h1 : n ≤ 65535) (kp : Nat) (pc : Array Value) (hp : PoolC pc) (w : World) (P : Blk w kp pc 97) :
    Calls Try.prog 15 #[.pointer (some ⟨kp, 0, none⟩), .int .u16 n] w fun e w' => ∃ m, 2000 ≤ m ∧ m ≤ 2009 ∧ e = .returned (.tuple #[.int .u16 m, .int .i64 0]) ∧ Fr w kp w' := by
  have ht : ∃ m, 2000 ≤ m ∧ m ≤ 2009 ∧ Calls Try.prog 35 #[.pointer (some ⟨kp, 0, none⟩), .int .i64 n, .int .i64 1] w (TkPost w kp m) := by
    by_cases h : 2000 ≤ n ∧ n ≤ 2009
    · exact ⟨n, h.1, h.2, take1_any n h.1 h.2 kp pc hp w P⟩
    · exact ⟨2000, by omega, by omega, take0_any n h0 h1 h kp pc hp w P⟩
  obtain ⟨m, m0, m1, ht⟩ := ht
  go_enter Try.func15, Try.ntmps15
  go_wp2_with (go_at_call 35; ((with_reducible refine (ht).mono ?_); rintro e w4 ⟨⟨rfl, hF⟩⟩))
  exact bodyPost_ret (v := .tuple #[.int .u16 m, .int .i64 0]) (by simp [results, Try.results15, go_sem]) rfl ⟨m, m0, m1, rfl, hF⟩
end Go.Proofs.Ytjhgcnoijajffaa
namespace Go.Proofs.Ytjhgcnoijajffaa
open Go.RowKit
set_option linter.unusedVariables false
set_option linter.unusedSimpArgs false
set_option maxHeartbeats 8000000
set_option maxRecDepth 100000
def udW (p : Pkt) (t : Tup) : Dgm := { udD p with src := t.sp, dst := t.dp }
theorem udW_ok (p : Pkt) {t : Tup} (h : t.Ok) : (udW p t).Ok := ⟨h.sp, h.dp⟩
theorem chudp_any (p : Pkt) (hp : p.Ok) (t : Tup) (ht : t.Ok) (A1 : Option Addr) (n1 c1 : Nat) (A2 : Option Addr) (n2 c2 : Nat) (q : Pkt) (hq : q.Ok) (B1 : Option Addr) (m1 d1 : Nat) (B2 : Option Addr) (m2 d2 : Nat) (w : World) (k2 : Bs w A2 n2 c2 p.dat) (j1 : Bs w B1 m1 d1 q.opt) (h7 : n2 ≤ 140737488351232) :
    Calls Try.prog 37 #[.agg #[.int .u8 p.tos, .int .u16 p.id, .bool p.keep, .int .u8 p.ttl, .int .u8 p.proto, .int .u32 p.src, .int .u32 p.dst, .slice A1 n1 c1, .slice A2 n2 c2, .int .u8 t.proto, .int .u32 t.src, .int .u32 t.dst, .int .u16 t.sp, .int .u16 t.dp], (.agg #[.int .u8 (q).tos, .int .u16 (q).id, .bool (q).keep, .int .u8 (q).ttl, .int .u8 (q).proto, .int .u32 (q).src, .int .u32 (q).dst, .slice B1 m1 d1, .slice B2 m2 d2])] w (WiPost w (dbP q (udW p t)) (dbE q (udW p t))) := by
  have ct := fun W (h : Bs W A2 n2 c2 p.dat) => udp_any p hp A1 n1 c1 A2 n2 c2 W h
  have hdl : (udD p).dat.length ≤ 140737488351232 := by
    have := k2.len
    unfold udD
    split
    · unfold rdD; simp only [List.length_drop]; omega
    · simp [zD]
  have cb : ∀ W DA dn dc, Bs W B1 m1 d1 q.opt → Bs W DA dn dc (udD p).dat → dn ≤ 140737488351232 → Calls Try.prog 5 #[(.agg #[.int .u8 (q).tos, .int .u16 (q).id, .bool (q).keep, .int .u8 (q).ttl, .int .u8 (q).proto, .int .u32 (q).src, .int .u32 (q).dst, .slice B1 m1 d1, .slice B2 m2 d2]), .agg #[.int .u16 t.sp, .int .u16 t.dp, .bool (udD p).bare, .slice DA dn dc]] W (WiPost W (dbP q (udW p t)) (dbE q (udW p t))) :=
    fun W DA dn dc a c d => dbuild_any q hq B1 m1 d1 B2 m2 d2 (udW p t) (udW_ok p ht) DA dn dc W a c d
  obtain ⟨s, hs⟩ : ∃ s, udD p = s := ⟨_, rfl⟩
  obtain ⟨F, hF⟩ : ∃ s, udE p = s := ⟨_, rfl⟩
  rw [hs] at hdl
  rw [hs, hF] at ct
  rw [hs] at cb
  clear hs hF hp hq ht
  obtain ⟨Q, hQ⟩ : ∃ x, dbP q (udW p t) = x := ⟨_, rfl⟩
  obtain ⟨E, hE⟩ : ∃ x, dbE q (udW p t) = x := ⟨_, rfl⟩
  rw [hQ, hE] at cb
  rw [hQ, hE]
  clear hQ hE
  obtain ⟨k, hk, w1, hw1, C1, P1, Z1, R1⟩ := nwI3 w #[.int .u8 p.tos, .int .u16 p.id, .bool p.keep, .int .u8 p.ttl, .int .u8 p.proto, .int .u32 p.src, .int .u32 p.dst, .slice A1 n1 c1, .slice A2 n2 c2, .int .u8 t.proto, .int .u32 t.src, .int .u32 t.dst, .int .u16 t.sp, .int .u16 t.dp] 107 #[.int .u8 (q).tos, .int .u16 (q).id, .bool (q).keep, .int .u8 (q).ttl, .int .u8 (q).proto, .int .u32 (q).src, .int .u32 (q).dst, .slice B1 m1 d1, .slice B2 m2 d2] 27 #[.int .u8 0, .int .u16 0, .bool false, .int .u8 0, .int .u8 0, .int .u32 0, .int .u32 0, .slice none 0 0, .slice none 0 0] 27
  have Cc1 := C1.cell
  have Pc1 := P1.cell
  have Zc1 := Z1.cell
  have Cl1 := C1.lt
  have Pl1 := P1.lt
  have Zl1 := Z1.lt
  have x1 := (k2).below R1
  have y1 := (j1).below R1
  go_enter Try.func37, Try.ntmps37
  go_wp2_with (go_at_call 17; ((with_reducible refine (ct w1 x1).mono ?_); rintro e u2 ⟨⟨DA, dn, dc, rfl, od, hB2⟩⟩); (obtain ⟨w2, hw2, V2, kS2, hkS2, S2⟩ := nw1 u2 #[.int .u16 (s).src, .int .u16 (s).dst, .bool (s).bare, .slice DA dn dc] 32); have Sc2 := S2.cell; have T2 := below_then hB2 V2; have C2 := C1.below T2; have Cc2 := C2.cell; clear Cc1; have P2 := P1.below T2; have Pc2 := P2.cell; clear Pc1; have Z2 := Z1.below T2; have Zc2 := Z2.cell; clear Zc1; have x2 := x1.below T2; have y2 := y1.below T2; have R2 := below_then R1 T2)
  have gS : w1.heap.size ≤ kS2 := by rw [← hkS2]; exact hB2.size
  have gC := C1.lt
  have gP := P1.lt
  have gZ := Z1.lt
  have Xs := S2.set_ 0 (.int .u16 t.sp)
  simp only [List.setIfInBounds_toArray, List.set_cons_zero, List.set_cons_succ] at Xs
  have Xsc := Xs.cell
  have Csc := (C2.far ⟨kS2, 0, none⟩ (by show kS2 ≠ _; omega) (.int .u16 t.sp)).cell
  obtain ⟨w3, hw3, S3⟩ : ∃ wf, ((w2.setCell ⟨kS2, 0, none⟩ (.int .u16 t.sp)).setCell ⟨kS2, 1, none⟩ (.int .u16 t.dp)).drew = wf ∧ Sto w2 kS2 wf #[.int .u16 t.sp, .int .u16 t.dp, .bool s.bare, .slice DA dn dc] 32 := ⟨_, rfl, by
    have := (((Sto.nil S2).set 0 (.int .u16 t.sp)).set 1 (.int .u16 t.dp)).drew
    simp only [List.setIfInBounds_toArray, List.set_cons_zero, List.set_cons_succ] at this
    exact this⟩
  go_region
  clear Xsc Csc Xs
  have B3 : Below u2.heap.size u2 w3 := S3.bel V2 (by omega)
  have B13 : Below w1.heap.size w1 w3 := S3.bel T2 (by omega)
  have od3 := od.bs.below B3
  have hdn : dn ≤ 140737488351232 := by have := od.len; omega
  have Xc3 := S3.blk.cell
  have P3 := P1.below B13
  have Pc3 := P3.cell
  have Z3 := Z1.below B13
  have Zc3 := Z3.cell
  have y3 := y1.below B13
  have R3 := below_then R1 B13
  clear Pc2 Zc2 Cc2 Sc2
  go_wp2_with (go_at_call 5; ((with_reducible refine (cb w3 DA dn dc y3 od3 hdn).mono ?_); rintro e w4 ⟨⟨E1, e1, f1, E2, e2, f2, rfl, o1, o2, hB4⟩⟩); have Z4 := Z3.below hB4; have Zc4 := Z4.cell; have R4 := below_then R3 hB4)
  have zl1 := Z1.lt
  have sz := R3.size
  have zl := Z3.lt
  obtain ⟨wf, hwf, Sf⟩ := store9 Z4 (.int .u8 Q.tos) (.int .u16 Q.id) (.bool Q.keep) (.int .u8 Q.ttl) (.int .u8 Q.proto) (.int .u32 Q.src) (.int .u32 Q.dst) (.slice E1 e1 f1) (.slice E2 e2 f2)
  rw [hwf]
  have pf := Sf.blk.cell
  exact bodyPost_ret (v := .tuple #[(.agg #[.int .u8 (Q).tos, .int .u16 (Q).id, .bool (Q).keep, .int .u8 (Q).ttl, .int .u8 (Q).proto, .int .u32 (Q).src, .int .u32 (Q).dst, .slice E1 e1 f1, .slice E2 e2 f2]), .int .i64 E]) (by simp [results, Try.results37, go_sem, pf]) rfl ⟨⟨E1, e1, f1, E2, e2, f2, rfl, (Sf.own o1 (fun a h => by have := o1.ge a h; omega)).mono (by omega), (Sf.own o2 (fun a h => by have := o2.ge a h; omega)).mono (by omega), Sf.bel R4 (by omega)⟩⟩
end Go.Proofs.Ytjhgcnoijajffaa
namespace Go.Proofs.Ytjhgcnoijajffaa
open Go.RowKit Go.MapKept
set_option linter.unusedVariables false
set_option linter.unusedSimpArgs false
set_option maxHeartbeats 8000000
set_option maxRecDepth 100000
def hm (C : Value) : Nat → Array MapEntry
  | 0 => #[]
  | 1 => #[⟨.int .u8 6, .func (.func 36) #[C] #[], 0⟩]
  | 2 => #[⟨.int .u8 6, .func (.func 36) #[C] #[], 0⟩, ⟨.int .u8 17, .func (.func 37) #[C] #[], 1⟩]
  | 3 => #[⟨.int .u8 6, .func (.func 36) #[C] #[], 0⟩, ⟨.int .u8 17, .func (.func 37) #[C] #[], 1⟩, ⟨.int .u8 1, .func (.func 38) #[C] #[], 2⟩]
  | _ => #[⟨.int .u8 6, .func (.func 36) #[C] #[], 0⟩, ⟨.int .u8 17, .func (.func 37) #[C] #[], 1⟩, ⟨.int .u8 1, .func (.func 38) #[C] #[], 2⟩, ⟨.int .u8 47, .func (.func 39) #[C] #[], 3⟩]
theorem run_insertH {w : World} {es es' : Array MapEntry} {c : Nat} (k : Int) (v : Value) (h : Instr.findNow (.int .u8) (.int .u8 k) es.toList 0 = some none) (he : es.push ⟨.int .u8 k, v, c⟩ = es') :
    (Instr.mapUpdate 109 (.map (some w.heap.size)) (.int .u8 k) v).run Try.prog (w.alloc (.map es c)) = .ok () (w.alloc (.map es' (c + 1))) := by
  have hb : (w.alloc (.map es c)).heap[w.heap.size]? = some (.map es c) := (heap_alloc w _).1
  have ht := Try.underlying109
  have hk := Try.underlying5
  have hkey : IsKey (.int .u8) (.int .u8 k) := rfl
  subst he
  simp [Instr.mapUpdate, run_underlying ht, MapKept.run_getObj_map hb, run_checkKey hk hkey, run_findKey hk h, run_setObj_map _ hb, Result.andThen]
  show ({ w with heap := (w.heap.push _).setIfInBounds w.heap.size _ } : World) = _
  rw [push_setK]
  rfl
theorem setc_far {W : World} {p : Addr} {v : Value} {b : Nat} (h : p.block ≠ b) : (W.setCell p v).heap[b]? = W.heap[b]? := by
  unfold World.setCell
  simp [Array.getElem?_modify, h]
def rwQ (p : Pkt) (t : Tup) : Pkt := { p with src := t.src, dst := t.dst }
theorem rwQ_ok {p : Pkt} (hp : p.Ok) {t : Tup} (ht : t.Ok) : (rwQ p t).Ok := ⟨hp.1, hp.2, hp.3, hp.4, ht.src, ht.dst⟩
theorem rw_udp (p : Pkt) (t : Tup) (A1 : Option Addr) (n1 c1 : Nat) (A2 : Option Addr) (n2 c2 : Nat) (w : World) (k1 : Bs w A1 n1 c1 p.opt) (k2 : Bs w A2 n2 c2 p.dat) (hne : (p.proto != t.proto) = false) (hpr : p.proto = 17) (T : Tup) (ho : ∀ W, Bs W A2 n2 c2 p.dat → Calls Try.prog 6 #[(.agg #[.int .u8 (p).tos, .int .u16 (p).id, .bool (p).keep, .int .u8 (p).ttl, .int .u8 (p).proto, .int .u32 (p).src, .int .u32 (p).dst, .slice A1 n1 c1, .slice A2 n2 c2])] W (TtPost W T 0)) (Q : Pkt) (E : Int)
    (hc : ∀ W, Bs W A1 n1 c1 p.opt → Bs W A2 n2 c2 p.dat → Calls Try.prog 37 #[.agg #[.int .u8 p.tos, .int .u16 p.id, .bool p.keep, .int .u8 p.ttl, .int .u8 p.proto, .int .u32 p.src, .int .u32 p.dst, .slice A1 n1 c1, .slice A2 n2 c2, .int .u8 t.proto, .int .u32 t.src, .int .u32 t.dst, .int .u16 t.sp, .int .u16 t.dp], .agg #[.int .u8 p.tos, .int .u16 p.id, .bool p.keep, .int .u8 p.ttl, .int .u8 p.proto, .int .u32 t.src, .int .u32 t.dst, .slice A1 n1 c1, .slice A2 n2 c2]] W (WiPost W Q E)) : Calls Try.prog 16 #[(.agg #[.int .u8 (p).tos, .int .u16 (p).id, .bool (p).keep, .int .u8 (p).ttl, .int .u8 (p).proto, .int .u32 (p).src, .int .u32 (p).dst, .slice A1 n1 c1, .slice A2 n2 c2]), (.agg #[.int .u8 (t).proto, .int .u32 (t).src, .int .u32 (t).dst, .int .u16 (t).sp, .int .u16 (t).dp])] w (WiPost w Q E) := by
  have hlk : ∀ (W : World) (r : Nat), W.heap[r]? = some (.map (hm (.agg #[.int .u8 p.tos, .int .u16 p.id, .bool p.keep, .int .u8 p.ttl, .int .u8 p.proto, .int .u32 p.src, .int .u32 p.dst, .slice A1 n1 c1, .slice A2 n2 c2, .int .u8 t.proto, .int .u32 t.src, .int .u32 t.dst, .int .u16 t.sp, .int .u16 t.dp]) 4) 4) → (Instr.lookup 109 (.map (some r)) (.int .u8 p.proto) false).run Try.prog W = .ok (.func (.func 37) #[.agg #[.int .u8 p.tos, .int .u16 p.id, .bool p.keep, .int .u8 p.ttl, .int .u8 p.proto, .int .u32 p.src, .int .u32 p.dst, .slice A1 n1 c1, .slice A2 n2 c2, .int .u8 t.proto, .int .u32 t.src, .int .u32 t.dst, .int .u16 t.sp, .int .u16 t.dp]] #[]) W := fun W r h => by
    rw [hpr]
    have ht := Try.underlying109
    have hk := Try.underlying5
    have hkey : IsKey (.int .u8) (.int .u8 17) := rfl
    have hf : Instr.findNow (.int .u8) (.int .u8 17) (hm (.agg #[.int .u8 p.tos, .int .u16 p.id, .bool p.keep, .int .u8 p.ttl, .int .u8 p.proto, .int .u32 p.src, .int .u32 p.dst, .slice A1 n1 c1, .slice A2 n2 c2, .int .u8 t.proto, .int .u32 t.src, .int .u32 t.dst, .int .u16 t.sp, .int .u16 t.dp]) 4).toList 0 = some (some (1, .func (.func 37) #[.agg #[.int .u8 p.tos, .int .u16 p.id, .bool p.keep, .int .u8 p.ttl, .int .u8 p.proto, .int .u32 p.src, .int .u32 p.dst, .slice A1 n1 c1, .slice A2 n2 c2, .int .u8 t.proto, .int .u32 t.src, .int .u32 t.dst, .int .u16 t.sp, .int .u16 t.dp]] #[])) := rfl
    simp [Instr.lookup, run_underlying ht, MapKept.run_getObj_map h, run_checkKey hk hkey, run_findKey hk hf, Result.andThen]
    exact hpr
  clear hpr
  have hmf : ∀ (fn : Fn) (first cap : Array Value) (W : World), (Instr.makeFunc fn first cap).run Try.prog W = .ok (.func fn first cap) W := fun _ _ _ _ => rfl
  obtain ⟨k, hk, w1, hw1, P1, U1, Z1, R1⟩ := nwI3 w #[.int .u8 (p).tos, .int .u16 (p).id, .bool (p).keep, .int .u8 (p).ttl, .int .u8 (p).proto, .int .u32 (p).src, .int .u32 (p).dst, .slice A1 n1 c1, .slice A2 n2 c2] 27 #[.int .u8 (t).proto, .int .u32 (t).src, .int .u32 (t).dst, .int .u16 (t).sp, .int .u16 (t).dp] 34 #[.int .u8 0, .int .u16 0, .bool false, .int .u8 0, .int .u8 0, .int .u32 0, .int .u32 0, .slice none 0 0, .slice none 0 0] 27
  have Pc1 := P1.cell
  have Uc1 := U1.cell
  have Zc1 := Z1.cell
  have Pl1 := P1.lt
  have Ul1 := U1.lt
  have Zl1 := Z1.lt
  have x1 := (k1).below R1
  have y1 := (k2).below R1
  have h0 : ∀ W : World, (Instr.makeMap 109 none).run Try.prog W = .ok (.map (some W.heap.size)) (W.alloc (.map (hm (.agg #[.int .u8 p.tos, .int .u16 p.id, .bool p.keep, .int .u8 p.ttl, .int .u8 p.proto, .int .u32 p.src, .int .u32 p.dst, .slice A1 n1 c1, .slice A2 n2 c2, .int .u8 t.proto, .int .u32 t.src, .int .u32 t.dst, .int .u16 t.sp, .int .u16 t.dp]) 0) 0)) := fun W => rfl
  go_enter Try.func16, Try.ntmps16
  go_wp2_with (go_at_call 6; ((with_reducible refine (ho w1 y1).mono ?_); rintro e u2 ⟨⟨rfl, hB2⟩⟩); (obtain ⟨w2, hw2, V2, kG2, hkG2, G2⟩ := nw1 u2 #[.int .u8 (T).proto, .int .u32 (T).src, .int .u32 (T).dst, .int .u16 (T).sp, .int .u16 (T).dp] 34); have Gc2 := G2.cell; have T2 := below_then hB2 V2; have P2 := P1.below T2; have Pc2 := P2.cell; clear Pc1; have U2 := U1.below T2; have Uc2 := U2.cell; clear Uc1; have Z2 := Z1.below T2; have Zc2 := Z2.cell; clear Zc1; have x2 := x1.below T2; have y2 := y1.below T2; have R2 := below_then R1 T2; (obtain ⟨w3, hw3, V3, kC3, hkC3, C3⟩ := nw1 w2 #[.int .u8 p.tos, .int .u16 p.id, .bool p.keep, .int .u8 p.ttl, .int .u8 p.proto, .int .u32 p.src, .int .u32 p.dst, .slice A1 n1 c1, .slice A2 n2 c2, .int .u8 t.proto, .int .u32 t.src, .int .u32 t.dst, .int .u16 t.sp, .int .u16 t.dp] 107); have Cc3 := C3.cell; have P3 := P2.below V3; have Pc3 := P3.cell; have U3 := U2.below V3; have Uc3 := U3.cell; have Z3 := Z2.below V3; have Zc3 := Z3.cell; have G3 := G2.below V3; have Gc3 := G3.cell; have x3 := x2.below V3; have y3 := y2.below V3; have R3 := below_then R2 V3; have h1 := run_insertH (w := w3) (es := hm (.agg #[.int .u8 p.tos, .int .u16 p.id, .bool p.keep, .int .u8 p.ttl, .int .u8 p.proto, .int .u32 p.src, .int .u32 p.dst, .slice A1 n1 c1, .slice A2 n2 c2, .int .u8 t.proto, .int .u32 t.src, .int .u32 t.dst, .int .u16 t.sp, .int .u16 t.dp]) 0) (es' := hm (.agg #[.int .u8 p.tos, .int .u16 p.id, .bool p.keep, .int .u8 p.ttl, .int .u8 p.proto, .int .u32 p.src, .int .u32 p.dst, .slice A1 n1 c1, .slice A2 n2 c2, .int .u8 t.proto, .int .u32 t.src, .int .u32 t.dst, .int .u16 t.sp, .int .u16 t.dp]) 1) (c := 0) 6 (.func (.func 36) #[.agg #[.int .u8 p.tos, .int .u16 p.id, .bool p.keep, .int .u8 p.ttl, .int .u8 p.proto, .int .u32 p.src, .int .u32 p.dst, .slice A1 n1 c1, .slice A2 n2 c2, .int .u8 t.proto, .int .u32 t.src, .int .u32 t.dst, .int .u16 t.sp, .int .u16 t.dp]] #[]) rfl rfl; have h2 := run_insertH (w := w3) (es := hm (.agg #[.int .u8 p.tos, .int .u16 p.id, .bool p.keep, .int .u8 p.ttl, .int .u8 p.proto, .int .u32 p.src, .int .u32 p.dst, .slice A1 n1 c1, .slice A2 n2 c2, .int .u8 t.proto, .int .u32 t.src, .int .u32 t.dst, .int .u16 t.sp, .int .u16 t.dp]) 1) (es' := hm (.agg #[.int .u8 p.tos, .int .u16 p.id, .bool p.keep, .int .u8 p.ttl, .int .u8 p.proto, .int .u32 p.src, .int .u32 p.dst, .slice A1 n1 c1, .slice A2 n2 c2, .int .u8 t.proto, .int .u32 t.src, .int .u32 t.dst, .int .u16 t.sp, .int .u16 t.dp]) 2) (c := 1) 17 (.func (.func 37) #[.agg #[.int .u8 p.tos, .int .u16 p.id, .bool p.keep, .int .u8 p.ttl, .int .u8 p.proto, .int .u32 p.src, .int .u32 p.dst, .slice A1 n1 c1, .slice A2 n2 c2, .int .u8 t.proto, .int .u32 t.src, .int .u32 t.dst, .int .u16 t.sp, .int .u16 t.dp]] #[]) rfl rfl; have h3 := run_insertH (w := w3) (es := hm (.agg #[.int .u8 p.tos, .int .u16 p.id, .bool p.keep, .int .u8 p.ttl, .int .u8 p.proto, .int .u32 p.src, .int .u32 p.dst, .slice A1 n1 c1, .slice A2 n2 c2, .int .u8 t.proto, .int .u32 t.src, .int .u32 t.dst, .int .u16 t.sp, .int .u16 t.dp]) 2) (es' := hm (.agg #[.int .u8 p.tos, .int .u16 p.id, .bool p.keep, .int .u8 p.ttl, .int .u8 p.proto, .int .u32 p.src, .int .u32 p.dst, .slice A1 n1 c1, .slice A2 n2 c2, .int .u8 t.proto, .int .u32 t.src, .int .u32 t.dst, .int .u16 t.sp, .int .u16 t.dp]) 3) (c := 2) 1 (.func (.func 38) #[.agg #[.int .u8 p.tos, .int .u16 p.id, .bool p.keep, .int .u8 p.ttl, .int .u8 p.proto, .int .u32 p.src, .int .u32 p.dst, .slice A1 n1 c1, .slice A2 n2 c2, .int .u8 t.proto, .int .u32 t.src, .int .u32 t.dst, .int .u16 t.sp, .int .u16 t.dp]] #[]) rfl rfl; have h4 := run_insertH (w := w3) (es := hm (.agg #[.int .u8 p.tos, .int .u16 p.id, .bool p.keep, .int .u8 p.ttl, .int .u8 p.proto, .int .u32 p.src, .int .u32 p.dst, .slice A1 n1 c1, .slice A2 n2 c2, .int .u8 t.proto, .int .u32 t.src, .int .u32 t.dst, .int .u16 t.sp, .int .u16 t.dp]) 3) (es' := hm (.agg #[.int .u8 p.tos, .int .u16 p.id, .bool p.keep, .int .u8 p.ttl, .int .u8 p.proto, .int .u32 p.src, .int .u32 p.dst, .slice A1 n1 c1, .slice A2 n2 c2, .int .u8 t.proto, .int .u32 t.src, .int .u32 t.dst, .int .u16 t.sp, .int .u16 t.dp]) 4) (c := 3) 47 (.func (.func 39) #[.agg #[.int .u8 p.tos, .int .u16 p.id, .bool p.keep, .int .u8 p.ttl, .int .u8 p.proto, .int .u32 p.src, .int .u32 p.dst, .slice A1 n1 c1, .slice A2 n2 c2, .int .u8 t.proto, .int .u32 t.src, .int .u32 t.dst, .int .u16 t.sp, .int .u16 t.dp]] #[]) rfl rfl; have Ca := fun o => (C3.alloc o).cell; (obtain ⟨w4, hw4⟩ : ∃ W, w3.alloc (.map (hm (.agg #[.int .u8 p.tos, .int .u16 p.id, .bool p.keep, .int .u8 p.ttl, .int .u8 p.proto, .int .u32 p.src, .int .u32 p.dst, .slice A1 n1 c1, .slice A2 n2 c2, .int .u8 t.proto, .int .u32 t.src, .int .u32 t.dst, .int .u16 t.sp, .int .u16 t.dp]) 4) 4) = W := ⟨_, rfl⟩); have P4 : Blk w4 k #[.int .u8 (p).tos, .int .u16 (p).id, .bool (p).keep, .int .u8 (p).ttl, .int .u8 (p).proto, .int .u32 (p).src, .int .u32 (p).dst, .slice A1 n1 c1, .slice A2 n2 c2] 27 := (by rw [← hw4]; exact P3.alloc _); have Pc4 := P4.cell; have U4 : Blk w4 (k + 1) #[.int .u8 (t).proto, .int .u32 (t).src, .int .u32 (t).dst, .int .u16 (t).sp, .int .u16 (t).dp] 34 := (by rw [← hw4]; exact U3.alloc _); have Uc4 := U4.cell; have Z4 : Blk w4 (k + 1 + 1) #[.int .u8 0, .int .u16 0, .bool false, .int .u8 0, .int .u8 0, .int .u32 0, .int .u32 0, .slice none 0 0, .slice none 0 0] 27 := (by rw [← hw4]; exact Z3.alloc _); have M4 : w4.heap[w3.heap.size]? = some (.map (hm (.agg #[.int .u8 p.tos, .int .u16 p.id, .bool p.keep, .int .u8 p.ttl, .int .u8 p.proto, .int .u32 p.src, .int .u32 p.dst, .slice A1 n1 c1, .slice A2 n2 c2, .int .u8 t.proto, .int .u32 t.src, .int .u32 t.dst, .int .u16 t.sp, .int .u16 t.dp]) 4) 4) := (by rw [← hw4]; exact (heap_alloc w3 _).1); have V4 : Below w3.heap.size w3 w4 := (by first | exact bw1 hw4 | exact bw2 hw4 | exact bw3 hw4 | exact bw4 hw4))
  have gk := Z3.lt
  have Xs := P4.set_ 5 (.int .u32 t.src)
  simp only [List.setIfInBounds_toArray, List.set_cons_zero, List.set_cons_succ] at Xs
  have Xsc := Xs.cell
  have Usc := (U4.far ⟨k, 5, none⟩ (by show k ≠ k + 1; omega) (.int .u32 t.src)).cell
  obtain ⟨w5, hw5, S5⟩ : ∃ wf, ((w4.setCell ⟨k, 5, none⟩ (.int .u32 t.src)).setCell ⟨k, 6, none⟩ (.int .u32 t.dst)).drew = wf ∧ Sto w4 k wf #[.int .u8 p.tos, .int .u16 p.id, .bool p.keep, .int .u8 p.ttl, .int .u8 p.proto, .int .u32 t.src, .int .u32 t.dst, .slice A1 n1 c1, .slice A2 n2 c2] 27 := ⟨_, rfl, by
    have := (((Sto.nil P4).set 5 (.int .u32 t.src)).set 6 (.int .u32 t.dst)).drew
    simp only [List.setIfInBounds_toArray, List.set_cons_zero, List.set_cons_succ] at this
    exact this⟩
  have M5 : w5.heap[w3.heap.size]? = some (.map (hm (.agg #[.int .u8 p.tos, .int .u16 p.id, .bool p.keep, .int .u8 p.ttl, .int .u8 p.proto, .int .u32 p.src, .int .u32 p.dst, .slice A1 n1 c1, .slice A2 n2 c2, .int .u8 t.proto, .int .u32 t.src, .int .u32 t.dst, .int .u16 t.sp, .int .u16 t.dp]) 4) 4) := by
    rw [← hw5]
    show ((w4.setCell ⟨k, 5, none⟩ (.int .u32 t.src)).setCell ⟨k, 6, none⟩ (.int .u32 t.dst)).heap[w3.heap.size]? = _
    rw [setc_far (by show k ≠ _; omega), setc_far (by show k ≠ _; omega)]
    exact M4
  have hl5 := hlk _ _ M5
  go_region
  clear Xsc Usc Xs Ca h0 h1 h2 h3 h4 hlk
  have R5 : Below w.heap.size w w5 := S5.bel (below_then R3 V4) (by omega)
  have x5 := k1.below R5
  have y5 := k2.below R5
  have P5 := S5.blk
  have Pc5 := P5.cell
  have Z5 := S5.other (by omega) Z4
  have Zc5 := Z5.cell
  go_wp2_with (go_at_call 37; ((with_reducible refine (hc w5 x5 y5).mono ?_); rintro e w6 ⟨⟨C1, e1, f1, C2, e2, f2, rfl, o1, o2, hB6⟩⟩); have Z6 := Z5.below hB6; have Zc6 := Z6.cell; have R6 := below_then R5 hB6)
  obtain ⟨wf, hwf, Sf⟩ := store9 Z6 (.int .u8 Q.tos) (.int .u16 Q.id) (.bool Q.keep) (.int .u8 Q.ttl) (.int .u8 Q.proto) (.int .u32 Q.src) (.int .u32 Q.dst) (.slice C1 e1 f1) (.slice C2 e2 f2)
  rw [hwf]
  have pf := Sf.blk.cell
  have zl := Z5.lt
  have sz := R5.size
  exact bodyPost_ret (v := .tuple #[(.agg #[.int .u8 (Q).tos, .int .u16 (Q).id, .bool (Q).keep, .int .u8 (Q).ttl, .int .u8 (Q).proto, .int .u32 (Q).src, .int .u32 (Q).dst, .slice C1 e1 f1, .slice C2 e2 f2]), .int .i64 E]) (by simp [results, Try.results16, go_sem, pf]) rfl ⟨⟨C1, e1, f1, C2, e2, f2, rfl, (Sf.own o1 (fun a h => by have := o1.ge a h; omega)).mono (by omega), (Sf.own o2 (fun a h => by have := o2.ge a h; omega)).mono (by omega), Sf.bel R6 (by omega)⟩⟩
end Go.Proofs.Ytjhgcnoijajffaa
namespace Go.Proofs.Ytjhgcnoijajffaa
open Go.RowKit
set_option linter.unusedVariables false
set_option linter.unusedSimpArgs false
set_option maxHeartbeats 8000000
set_option maxRecDepth 100000
theorem fl_buildD {Q : Pkt} (hQ : Q.Ok) (ho : Q.opt = []) {d : Dgm} (hd : d.Ok) (hl : d.dat.length ≤ 60000) (DA : Option Addr) (dn dc : Nat) (W : World) (kd : Bs W DA dn dc d.dat) :
    Calls Try.prog 5 #[(.agg #[.int .u8 (Q).tos, .int .u16 (Q).id, .bool (Q).keep, .int .u8 (Q).ttl, .int .u8 (Q).proto, .int .u32 (Q).src, .int .u32 (Q).dst, .slice none 0 0, .slice none 0 0]), (.agg #[.int .u16 (d).src, .int .u16 (d).dst, .bool (d).bare, .slice DA dn dc])] W (WiPost W (dbP Q d) 0) := by
  have h := dbuild_any Q hQ none 0 0 none 0 0 d hd DA dn dc W (by rw [ho]; exact Bs.none_ _) kd (by have := kd.len; omega)
  rw [(flow ho hd hl).E] at h
  exact h
theorem fl_rwok {Q : Pkt} (ho : Q.opt = []) {d : Dgm} (hl : d.dat.length ≤ 60000) {P : Pkt} (F : FlOk Q d P) {t : Tup} (ht : t.Ok) : FlOk (rwQ P t) ⟨t.sp, t.dp, d.bare, d.dat⟩ (dbP (rwQ P t) ⟨t.sp, t.dp, d.bare, d.dat⟩) :=
  flow (by unfold rwQ; rw [F.form]; exact ho) ⟨ht.sp, ht.dp⟩ hl
theorem fl_rw {Q : Pkt} (hQ : Q.Ok) (ho : Q.opt = []) {d : Dgm} (hl : d.dat.length ≤ 60000) {P : Pkt} (F : FlOk Q d P) {t : Tup} (ht : t.Ok) (h17 : t.proto = 17) (A1 : Option Addr) (n1 c1 : Nat) (A2 : Option Addr) (n2 c2 : Nat) (w : World) (k1 : Bs w A1 n1 c1 P.opt) (k2 : Bs w A2 n2 c2 P.dat) :
    Calls Try.prog 16 #[(.agg #[.int .u8 (P).tos, .int .u16 (P).id, .bool (P).keep, .int .u8 (P).ttl, .int .u8 (P).proto, .int .u32 (P).src, .int .u32 (P).dst, .slice A1 n1 c1, .slice A2 n2 c2]), (.agg #[.int .u8 (t).proto, .int .u32 (t).src, .int .u32 (t).dst, .int .u16 (t).sp, .int .u16 (t).dp])] w (WiPost w (dbP (rwQ P t) ⟨t.sp, t.dp, d.bare, d.dat⟩) 0) := by
  have hP := F.ok hQ
  have hp17 : P.proto = 17 := by rw [F.form]
  have n2m : n2 ≤ 140737488351232 := by have := k2.len; have := F.len; omega
  have hud : udW P t = ⟨t.sp, t.dp, d.bare, d.dat⟩ := by unfold udW; rw [F.uD]
  have h := rw_udp P t A1 n1 c1 A2 n2 c2 w k1 k2 (by rw [hp17, h17]; rfl) hp17 _ (fun W k => fl_of hQ F A1 n1 c1 A2 n2 c2 W k) _ _ (fun W x y => chudp_any P hP t ht A1 n1 c1 A2 n2 c2 (rwQ P t) (rwQ_ok hP ht) A1 n1 c1 A2 n2 c2 W y x n2m)
  rw [hud, (fl_rwok ho hl F ht).E] at h
  exact h
theorem fl_parse {Q : Pkt} (hQ : Q.Ok) {d : Dgm} {P : Pkt} (F : FlOk Q d P) (A1 : Option Addr) (n1 c1 : Nat) (A2 : Option Addr) (n2 c2 : Nat) (W : World) (k2 : Bs W A2 n2 c2 P.dat) :
    Calls Try.prog 17 #[(.agg #[.int .u8 (P).tos, .int .u16 (P).id, .bool (P).keep, .int .u8 (P).ttl, .int .u8 (P).proto, .int .u32 (P).src, .int .u32 (P).dst, .slice A1 n1 c1, .slice A2 n2 c2])] W (DgPost W d 0) := by
  have h := udp_any P (F.ok hQ) A1 n1 c1 A2 n2 c2 W k2
  rw [F.uE, F.uD] at h
  exact h
theorem topMasks_walk (w : World) (host : Int) (h0 : 0 ≤ host) (h1 : host ≤ 65535) (server : Int) (s0 : 0 ≤ server) (s1 : server ≤ 4294967295) (a : Int) (a0 : 0 ≤ a) (a1 : a ≤ 65535) (b : Int) (b0 : 0 ≤ b) (b1 : b ≤ 65535) :
    Calls Try.prog 4 #[.int .u16 host, .int .u32 server, .agg #[.int .u16 a, .int .u16 b]] w fun e w' => e = .returned (.bool true) ∧ Below w.heap.size w w' := by
  have cm := fun kr g c W T C => masq_any host h0 h1 kr g c W T C
  obtain ⟨src, hsrc⟩ : ∃ s, 167772160 + host = s := ⟨_, rfl⟩
  rw [hsrc] at cm
  have r0 : 0 ≤ src ∧ src ≤ 4294967295 := by omega
  have q1 : (⟨0, 0, false, 0, 0, src, server, [], []⟩ : Pkt).Ok := ⟨by simp, by simp, by simp, by simp, r0, ⟨s0, s1⟩⟩
  have q2 : (⟨0, 0, false, 0, 0, server, 16909060, [], []⟩ : Pkt).Ok := ⟨by simp, by simp, by simp, by simp, ⟨s0, s1⟩, by simp⟩
  have e1 : (⟨a, b, false, [97, 115, 107]⟩ : Dgm).Ok := ⟨⟨a0, a1⟩, ⟨b0, b1⟩⟩
  have ca := fun DA dn dc W kd => fl_buildD q1 rfl e1 (by simp) DA dn dc W kd
  have F1 := flow (Q := ⟨0, 0, false, 0, 0, src, server, [], []⟩) rfl e1 (by simp)
  obtain ⟨Pa, hPa⟩ : ∃ P, dbP ⟨0, 0, false, 0, 0, src, server, [], []⟩ ⟨a, b, false, [97, 115, 107]⟩ = P := ⟨_, rfl⟩
  rw [hPa] at ca F1
  have cc := fun A1 n1 c1 A2 n2 c2 W k => fl_of q1 F1 A1 n1 c1 A2 n2 c2 W k
  have tm : ∀ m, 2000 ≤ m → m ≤ 2009 → (⟨17, 16909060, server, m, b⟩ : Tup).Ok := fun m x y => ⟨by simp, by simp, ⟨s0, s1⟩, by simp; omega, ⟨b0, b1⟩⟩
  have t2 : (⟨17, server, src, b, a⟩ : Tup).Ok := ⟨by simp, ⟨s0, s1⟩, r0, ⟨b0, b1⟩, ⟨a0, a1⟩⟩
  have qa := F1.ok q1
  have cr := fun m x y A1 n1 c1 A2 n2 c2 W k1 k2 => fl_rw q1 rfl (by simp) F1 (tm m x y) rfl A1 n1 c1 A2 n2 c2 W k1 k2
  have F2 := fun m x y => fl_rwok (Q := ⟨0, 0, false, 0, 0, src, server, [], []⟩) rfl (by simp) F1 (tm m x y)
  have q3 := fun m x y => rwQ_ok qa (tm m x y)
  have cs := fun m x y A1 n1 c1 A2 n2 c2 W k => fl_of (q3 m x y) (F2 m x y) A1 n1 c1 A2 n2 c2 W k
  have cp := fun m x y A1 n1 c1 A2 n2 c2 W k => fl_parse (q3 m x y) (F2 m x y) A1 n1 c1 A2 n2 c2 W k
  have hdm : ∀ m, 2000 ≤ m → m ≤ 2009 → (⟨b, m, false, []⟩ : Dgm).Ok := fun m x y => ⟨⟨b0, b1⟩, by simp; omega⟩
  have cb := fun m x y W => fl_build q2 rfl (hdm m x y) rfl W
  have F3 := fun m x y => flow (Q := ⟨0, 0, false, 0, 0, server, 16909060, [], []⟩) rfl (hdm m x y) (by simp)
  have ch := fun m x y A1 n1 c1 A2 n2 c2 W k1 k2 => fl_rw q2 rfl (by simp) (F3 m x y) t2 rfl A1 n1 c1 A2 n2 c2 W k1 k2
  have F4 := fun m x y => fl_rwok (Q := ⟨0, 0, false, 0, 0, server, 16909060, [], []⟩) rfl (by simp) (F3 m x y) t2
  have q4 := fun m x y => rwQ_ok ((F3 m x y).ok q2) t2
  have ct := fun m x y A1 n1 c1 A2 n2 c2 W k => fl_of (q4 m x y) (F4 m x y) A1 n1 c1 A2 n2 c2 W k
  obtain ⟨Pq, hPq⟩ : ∃ f : Int → Pkt, ∀ m, dbP (rwQ Pa ⟨17, 16909060, server, m, b⟩) ⟨m, b, false, [97, 115, 107]⟩ = f m := ⟨_, fun _ => rfl⟩
  obtain ⟨Pb, hPb⟩ : ∃ f : Int → Pkt, ∀ m, dbP ⟨0, 0, false, 0, 0, server, 16909060, [], []⟩ ⟨b, m, false, []⟩ = f m := ⟨_, fun _ => rfl⟩
  obtain ⟨Ph, hPh⟩ : ∃ f : Int → Pkt, ∀ m, dbP (rwQ (Pb m) ⟨17, server, src, b, a⟩) ⟨b, a, false, []⟩ = f m := ⟨_, fun _ => rfl⟩
  dsimp only [rwQ] at cr cs cp ch ct cb ca cc hPq hPh
  simp only [hPq, hPb, hPh] at cr cs cp ch ct cb
  have crv := fun W => rev_any ⟨17, src, server, a, b⟩ W
  simp only [revT] at crv
  have hstr : str [97, 115, 107] = { data := #[97, 115, 107] } := rfl
  have hlit : ∀ W : World, Bs (W.alloc (.cells #[.int .u8 97, .int .u8 115, .int .u8 107] 5 (3, 4))) (some ⟨W.heap.size, 0, none⟩) 3 3 [97, 115, 107] := fun W => by
    have hc : ∀ j : Nat, (W.alloc (.cells #[.int .u8 97, .int .u8 115, .int .u8 107] 5 (3, 4))).cell? ⟨W.heap.size, j, none⟩ = (#[.int .u8 97, .int .u8 115, .int .u8 107] : Array Value)[j]? := fun j => World.cell?_alloc_mark W _ _ _ j
    refine ⟨rfl, Nat.le_refl _, by omega, (fun h => by cases h), fun _ => ⟨W.heap.size, 0, rfl, fun j hj => ?_⟩⟩
    rw [Nat.zero_add, hc]
    rcases (show j = 0 ∨ j = 1 ∨ j = 2 by omega) with rfl | rfl | rfl <;> rfl
  have hconv : ∀ W : World, (convert 25 25 (.slice (some ⟨W.heap.size, 0, none⟩) 3 3)).run Try.prog (W.alloc (.cells #[.int .u8 97, .int .u8 115, .int .u8 107] 5)) = .ok (.slice (some ⟨W.heap.size, 0, none⟩) 3 3) (W.alloc (.cells #[.int .u8 97, .int .u8 115, .int .u8 107] 5 (3, 4))) := fun W => Lib.run_convert_bytes_const W 25 5 #[.int .u8 97, .int .u8 115, .int .u8 107] 3 3 Try.underlying25 Try.underlying5
  clear q1 q2 e1 F1 qa F2 q3 hdm F3 F4 q4 hPa hPq hPb hPh tm t2
  obtain ⟨k, hk, w1, hw1, L1, R1⟩ := nwI1 w #[.int .u16 a, .int .u16 b] 24
  have Lc1 := L1.cell
  have Ll1 := L1.lt
  go_enter Try.func4, Try.ntmps4
  go_wp2_with (first
    | (go_at_call 11; ((with_reducible refine (rnew_any w1).mono ?_); rintro e w2 ⟨kr, rfl, hkr, T2, hB2⟩); have L2 := L1.below hB2; have R2 := below_then R1 hB2)
    | (go_at_call 12; ((with_reducible refine (pnew_any w2).mono ?_); rintro e w3 ⟨kp, pc, rfl, hkp, P3, hpc, hB3⟩); have T3 := T2.below hB3; have L3 := L2.below hB3; have R3 := below_then R2 hB3; have krl := T2.lt; have l1 := L1.lt; have l2 := L2.lt)
    | (go_at_call 13; ((with_reducible refine (radd_any kr w3 T3).mono ?_); rintro e w4 ⟨g, c, rfl, S4, C4, hg4⟩); have P4 := S4.other (by omega) P3; have L4 := S4.other (by omega) L3; have R4 := S4.bel R3 (by omega))
    | (go_at_call 14; ((with_reducible refine (cm kr g c w4 S4.blk C4).mono ?_); rintro e u5 ⟨rfl, hB5⟩); (obtain ⟨w5, hw5, V5, kX, hkX, X5⟩ := nw1 u5 #[.int .i64 1, .int .u8 0, .int .u32 167772160, .int .i64 8, .int .u32 16909060, .int .u16 0, .int .u32 0, .int .u16 0] 51); have i5 := X5.idle (j := 5) (v := .int .u16 0) rfl; have i6 := X5.idle (j := 6) (v := .int .u32 0) rfl; have i7 := X5.idle (j := 7) (v := .int .u16 0) rfl; have x5c := X5.cell; have P5 := (P4.below hB5).below V5; have L5 := (L4.below hB5).below V5; have l5c := L5.cell; have p4l := (P4.below hB5).lt; have R5 := below_then (below_then R4 hB5) V5)
    | (go_at_call 15; ((with_reducible refine (take_any a a0 a1 kp pc hpc w5 P5).mono ?_); rintro e w6 ⟨m, m0, m1, rfl, F6⟩); have L6 := F6.other (by omega) L5; have X6 := F6.other (by omega) X5; have R6 := F6.bel R5 (by omega); have l6c := L6.cell; have x6c := X6.cell; (obtain ⟨kA, hkA⟩ : ∃ k, w6.heap.size = k := ⟨_, rfl⟩); (obtain ⟨wL, hwL⟩ : ∃ W, w6.alloc (.cells #[.int .u8 97, .int .u8 115, .int .u8 107] 5) = W := ⟨_, rfl⟩); (obtain ⟨w7, hw7⟩ : ∃ W, w6.alloc (.cells #[.int .u8 97, .int .u8 115, .int .u8 107] 5 (3, 4)) = W := ⟨_, rfl⟩); have V7 : Below w6.heap.size w6 w7 := bw1 hw7; have hcv := hconv w6; rw [hwL, hw7, hkA] at hcv; have L7 := L6.below V7; have X7 := X6.below V7; have Xc7 := X7.cell; have Lc7 := L7.cell; have R7 := below_then R6 V7; have y7 : Bs w7 (some ⟨kA, 0, none⟩) 3 3 [97, 115, 107] := (by rw [← hw7, ← hkA]; exact hlit w6))
    | (go_at_call 5; ((with_reducible refine (ca (some ⟨kA, 0, none⟩) 3 3 w7 y7).mono ?_); rintro e u8 ⟨⟨C1, e1, f1, C2, e2, f2, rfl, o1, o2, hB8⟩⟩); (obtain ⟨w8, hw8, V8, kP8, hkP8, P8⟩ := nw1 u8 #[.int .u8 (Pa).tos, .int .u16 (Pa).id, .bool (Pa).keep, .int .u8 (Pa).ttl, .int .u8 (Pa).proto, .int .u32 (Pa).src, .int .u32 (Pa).dst, .slice C1 e1 f1, .slice C2 e2 f2] 27); have Pc8 := P8.cell; have T8 := below_then hB8 V8; have x8 := (o1.bs).below V8; have z8 := (o2.bs).below V8; have L8 := L7.below T8; have Lc8 := L8.cell; clear Lc7; have X8 := X7.below T8; have Xc8 := X8.cell; clear Xc7; have y8 := y7.below T8; have R8 := below_then R7 T8)
    | (go_at_call 6; ((with_reducible refine (cc C1 e1 f1 C2 e2 f2 w8 z8).mono ?_); rintro e u9 ⟨⟨rfl, hB9⟩⟩); (obtain ⟨w9, hw9, V9, kA9, hkA9, A9⟩ := nw1 u9 #[.int .u8 17, .int .u32 src, .int .u32 server, .int .u16 a, .int .u16 b] 34); have Ac9 := A9.cell; have T9 := below_then hB9 V9; have L9 := L8.below T9; have Lc9 := L9.cell; clear Lc8; have X9 := X8.below T9; have Xc9 := X9.cell; clear Xc8; have P9 := P8.below T9; have Pc9 := P9.cell; clear Pc8; have y9 := y8.below T9; have x9 := x8.below T9; have z9 := z8.below T9; have R9 := below_then R8 T9; (obtain ⟨w10, hw10, V10, kO10, hkO10, O10⟩ := nw1 w9 #[.int .u8 17, .int .u32 16909060, .int .u32 server, .int .u16 m, .int .u16 b] 34); have Oc10 := O10.cell; have L10 := L9.below V10; have Lc10 := L10.cell; have X10 := X9.below V10; have Xc10 := X10.cell; have P10 := P9.below V10; have Pc10 := P10.cell; have A10 := A9.below V10; have Ac10 := A10.cell; have y10 := y9.below V10; have x10 := x9.below V10; have z10 := z9.below V10; have R10 := below_then R9 V10; have xl9 : kX < kO10 := (by rw [← hkO10]; exact X9.lt); have al9 : kA9 < kO10 := (by rw [← hkO10]; exact A9.lt); have pl9 : kP8 < kO10 := (by rw [← hkO10]; exact P9.lt); have xne : kX ≠ kO10 := (by omega); have xc4 : (w9.alloc (.cells #[.int .u8 17, .int .u32 src, .int .u32 server, .int .u16 a, .int .u16 b] 34)).cell? ⟨kX, 4, none⟩ = some (.int .u32 16909060) := (X9.alloc _).cell.1 4)
    | (go_at_call 16; ((with_reducible refine (cr m m0 m1 C1 e1 f1 C2 e2 f2 w10 x10 z10).mono ?_); rintro e u11 ⟨⟨D1, g1, i1, D2, g2, i2, rfl, o3, o4, hB11⟩⟩); (obtain ⟨w11, hw11, V11, kQ11, hkQ11, Q11⟩ := nw1 u11 #[.int .u8 (Pq m).tos, .int .u16 (Pq m).id, .bool (Pq m).keep, .int .u8 (Pq m).ttl, .int .u8 (Pq m).proto, .int .u32 (Pq m).src, .int .u32 (Pq m).dst, .slice D1 g1 i1, .slice D2 g2 i2] 27); have Qc11 := Q11.cell; have T11 := below_then hB11 V11; have v11 := (o4.bs).below V11; have L11 := L10.below T11; have Lc11 := L11.cell; clear Lc10; have X11 := X10.below T11; have Xc11 := X11.cell; clear Xc10; have P11 := P10.below T11; have Pc11 := P11.cell; clear Pc10; have A11 := A10.below T11; have Ac11 := A11.cell; clear Ac10; have O11 := O10.below T11; have Oc11 := O11.cell; clear Oc10; have y11 := y10.below T11; have x11 := x10.below T11; have z11 := z10.below T11; have R11 := below_then R10 T11)
    | (go_at_call 6; ((with_reducible refine (cs m m0 m1 D1 g1 i1 D2 g2 i2 w11 v11).mono ?_); rintro e u12 ⟨⟨rfl, hB12⟩⟩); (obtain ⟨w12, hw12, V12, kY12, hkY12, Y12⟩ := nw1 u12 #[.int .u8 17, .int .u32 16909060, .int .u32 server, .int .u16 m, .int .u16 b] 34); have Yc12 := Y12.cell; have T12 := below_then hB12 V12; have L12 := L11.below T12; have Lc12 := L12.cell; clear Lc11; have X12 := X11.below T12; have Xc12 := X12.cell; clear Xc11; have P12 := P11.below T12; have Pc12 := P12.cell; clear Pc11; have A12 := A11.below T12; have Ac12 := A12.cell; clear Ac11; have O12 := O11.below T12; have Oc12 := O12.cell; clear Oc11; have Q12 := Q11.below T12; have Qc12 := Q12.cell; clear Qc11; have y12 := y11.below T12; have x12 := x11.below T12; have z12 := z11.below T12; have v12 := v11.below T12; have R12 := below_then R11 T12)
    | (go_at_call 17; ((with_reducible refine (cp m m0 m1 D1 g1 i1 D2 g2 i2 w12 v12).mono ?_); rintro e u13 ⟨⟨G1, j1, l1', rfl, o5, hB13⟩⟩); (obtain ⟨w13, hw13, V13, kD13, hkD13, D13⟩ := nw1 u13 #[.int .u16 m, .int .u16 b, .bool false, .slice G1 j1 l1'] 32); have Dc13 := D13.cell; have T13 := below_then hB13 V13; have d13 := ((show Bs u13 G1 j1 l1' [97, 115, 107] from o5.bs)).below V13; have L13 := L12.below T13; have Lc13 := L13.cell; clear Lc12; have X13 := X12.below T13; have Xc13 := X13.cell; clear Xc12; have P13 := P12.below T13; have Pc13 := P13.cell; clear Pc12; have A13 := A12.below T13; have Ac13 := A13.cell; clear Ac12; have O13 := O12.below T13; have Oc13 := O13.cell; clear Oc12; have Q13 := Q12.below T13; have Qc13 := Q13.cell; clear Qc12; have Y13 := Y12.below T13; have Yc13 := Y13.cell; clear Yc12; have y13 := y12.below T13; have x13 := x12.below T13; have z13 := z12.below T13; have v13 := v12.below T13; have R13 := below_then R12 T13; have hcv2 := cv d13; rw [hstr] at hcv2)
    | (go_at_call 5; ((with_reducible refine (cb m m0 m1 w13).mono ?_); rintro e u14 ⟨⟨E1, k1, n1, E2, k2, n2, rfl, o6, o7, hB14⟩⟩); (obtain ⟨w14, hw14, V14, kB14, hkB14, B14⟩ := nw1 u14 #[.int .u8 (Pb m).tos, .int .u16 (Pb m).id, .bool (Pb m).keep, .int .u8 (Pb m).ttl, .int .u8 (Pb m).proto, .int .u32 (Pb m).src, .int .u32 (Pb m).dst, .slice E1 k1 n1, .slice E2 k2 n2] 27); have Bc14 := B14.cell; have T14 := below_then hB14 V14; have s14 := (o6.bs).below V14; have t14 := (o7.bs).below V14; have L14 := L13.below T14; have Lc14 := L14.cell; clear Lc13; have X14 := X13.below T14; have Xc14 := X14.cell; clear Xc13; have P14 := P13.below T14; have Pc14 := P14.cell; clear Pc13; have A14 := A13.below T14; have Ac14 := A14.cell; clear Ac13; have O14 := O13.below T14; have Oc14 := O14.cell; clear Oc13; have Q14 := Q13.below T14; have Qc14 := Q14.cell; clear Qc13; have Y14 := Y13.below T14; have Yc14 := Y14.cell; clear Yc13; have D14 := D13.below T14; have Dc14 := D14.cell; clear Dc13; have y14 := y13.below T14; have x14 := x13.below T14; have z14 := z13.below T14; have v14 := v13.below T14; have d14 := d13.below T14; have R14 := below_then R13 T14))
  clear P14 Q14 O14 Y14 D14 X14 L14 Pc14 Qc14 Oc14 Yc14 Dc14 Xc14 Lc14 x14 z14 v14 d14 y14 cr cs cp cb ca cc
  refine region_z 8 6 (by kernel_rfl) (by kernel_rfl) (fun _ _ _ _ _ h => h) ?_; (iterate 8 (first | (apply ObsK.skip (by rfl)) | (apply ObsK.v (by rfl); (intro wo hT; (repeat (first | (intro v hv; ((obtain ⟨H1, y1, z1, H2, y2, z2, rfl, p1, p2⟩ := hv))) | (intro _ _ k; try have hcv := cv k))); (have bco := (B14.below hT).cell; have aco := (A14.below hT).cell; have so := s14.below hT; have tq := t14.below hT; have hsz : w14.heap.size ≤ wo.heap.size := hT.size); refine Goes.mk ?_; go_simp; first | exact goes_v | exact goes_b (by assumption) | (first | exact goes_tup (by assumption) (by assumption) | exact goes_pk (by assumption) (by assumption) | exact goes_new hsz) | (refine goes_enter ?_; first | (go_at_call 7; ((with_reducible refine (crv wo).mono ?_); rintro e wr ⟨rfl, hBr⟩); exact ret_v hBr) | (go_at_call 16; ((with_reducible refine (ch m m0 m1 E1 k1 n1 E2 k2 n2 wo so tq).mono ?_); rintro e wr ⟨⟨H1, y1, z1, H2, y2, z2, rfl, p1, p2, hBr⟩⟩); exact ret_tup (p1.mono hsz) (p2.mono hsz) hBr)))) | (apply ObsK.b (by rfl); (intro wo hT; (repeat (first | (intro v hv; ((obtain ⟨H1, y1, z1, H2, y2, z2, rfl, p1, p2⟩ := hv))) | (intro _ _ k; try have hcv := cv k))); (have bco := (B14.below hT).cell; have aco := (A14.below hT).cell; have so := s14.below hT; have tq := t14.below hT; have hsz : w14.heap.size ≤ wo.heap.size := hT.size); refine Goes.mk ?_; go_simp; first | exact goes_v | exact goes_b (by assumption) | (first | exact goes_tup (by assumption) (by assumption) | exact goes_pk (by assumption) (by assumption) | exact goes_new hsz) | (refine goes_enter ?_; first | (go_at_call 7; ((with_reducible refine (crv wo).mono ?_); rintro e wr ⟨rfl, hBr⟩); exact ret_v hBr) | (go_at_call 16; ((with_reducible refine (ch m m0 m1 E1 k1 n1 E2 k2 n2 wo so tq).mono ?_); rintro e wr ⟨⟨H1, y1, z1, H2, y2, z2, rfl, p1, p2, hBr⟩⟩); exact ret_tup (p1.mono hsz) (p2.mono hsz) hBr)))) | (apply ObsK.p (q := isTup w14.heap.size (Ph m) 0) (by rfl) st_isTup; (intro wo hT; (repeat (first | (intro v hv; ((obtain ⟨H1, y1, z1, H2, y2, z2, rfl, p1, p2⟩ := hv))) | (intro _ _ k; try have hcv := cv k))); (have bco := (B14.below hT).cell; have aco := (A14.below hT).cell; have so := s14.below hT; have tq := t14.below hT; have hsz : w14.heap.size ≤ wo.heap.size := hT.size); refine Goes.mk ?_; go_simp; first | exact goes_v | exact goes_b (by assumption) | (first | exact goes_tup (by assumption) (by assumption) | exact goes_pk (by assumption) (by assumption) | exact goes_new hsz) | (refine goes_enter ?_; first | (go_at_call 7; ((with_reducible refine (crv wo).mono ?_); rintro e wr ⟨rfl, hBr⟩); exact ret_v hBr) | (go_at_call 16; ((with_reducible refine (ch m m0 m1 E1 k1 n1 E2 k2 n2 wo so tq).mono ?_); rintro e wr ⟨⟨H1, y1, z1, H2, y2, z2, rfl, p1, p2, hBr⟩⟩); exact ret_tup (p1.mono hsz) (p2.mono hsz) hBr)))) | (apply ObsK.p (q := isPk w14.heap.size (Ph m)) (by rfl) st_isPk; (intro wo hT; (repeat (first | (intro v hv; ((obtain ⟨H1, y1, z1, H2, y2, z2, rfl, p1, p2⟩ := hv))) | (intro _ _ k; try have hcv := cv k))); (have bco := (B14.below hT).cell; have aco := (A14.below hT).cell; have so := s14.below hT; have tq := t14.below hT; have hsz : w14.heap.size ≤ wo.heap.size := hT.size); refine Goes.mk ?_; go_simp; first | exact goes_v | exact goes_b (by assumption) | (first | exact goes_tup (by assumption) (by assumption) | exact goes_pk (by assumption) (by assumption) | exact goes_new hsz) | (refine goes_enter ?_; first | (go_at_call 7; ((with_reducible refine (crv wo).mono ?_); rintro e wr ⟨rfl, hBr⟩); exact ret_v hBr) | (go_at_call 16; ((with_reducible refine (ch m m0 m1 E1 k1 n1 E2 k2 n2 wo so tq).mono ?_); rintro e wr ⟨⟨H1, y1, z1, H2, y2, z2, rfl, p1, p2, hBr⟩⟩); exact ret_tup (p1.mono hsz) (p2.mono hsz) hBr)))) | (apply ObsK.p (q := isNew w14.heap.size #[.int .u8 0, .int .u16 0, .bool false, .int .u8 0, .int .u8 0, .int .u32 0, .int .u32 0, .slice none 0 0, .slice none 0 0] 27) (by rfl) st_isNew; (intro wo hT; (repeat (first | (intro v hv; ((obtain ⟨H1, y1, z1, H2, y2, z2, rfl, p1, p2⟩ := hv))) | (intro _ _ k; try have hcv := cv k))); (have bco := (B14.below hT).cell; have aco := (A14.below hT).cell; have so := s14.below hT; have tq := t14.below hT; have hsz : w14.heap.size ≤ wo.heap.size := hT.size); refine Goes.mk ?_; go_simp; first | exact goes_v | exact goes_b (by assumption) | (first | exact goes_tup (by assumption) (by assumption) | exact goes_pk (by assumption) (by assumption) | exact goes_new hsz) | (refine goes_enter ?_; first | (go_at_call 7; ((with_reducible refine (crv wo).mono ?_); rintro e wr ⟨rfl, hBr⟩); exact ret_v hBr) | (go_at_call 16; ((with_reducible refine (ch m m0 m1 E1 k1 n1 E2 k2 n2 wo so tq).mono ?_); rintro e wr ⟨⟨H1, y1, z1, H2, y2, z2, rfl, p1, p2, hBr⟩⟩); exact ret_tup (p1.mono hsz) (p2.mono hsz) hBr)))))); refine ObsK.nil ?_; intro wz hBz; simp only [finOn, List.drop_succ_cons, List.drop_zero, List.drop_nil]
  rintro _ ⟨gS, rfl, hS, S2⟩ _ ⟨H1, y1, z1, H2, y2, z2, rfl, p1, p2⟩ _ ⟨_, _, _, _, _, _, -⟩ _ ⟨_, _, _, _, _, _, -⟩
  go_simp
  have h77 : 27 ≠ 5 := by decide
  have al14 := A14.lt
  obtain ⟨wq, hwq, Sq⟩ := store9 S2 (.int .u8 (Ph m).tos) (.int .u16 (Ph m).id) (.bool (Ph m).keep) (.int .u8 (Ph m).ttl) (.int .u8 (Ph m).proto) (.int .u32 (Ph m).src) (.int .u32 (Ph m).dst) (.slice H1 y1 z1) (.slice H2 y2 z2)
  have Rq : Below w.heap.size w wq := Sq.bel (below_then R14 hBz) (by have := R14.size; omega)
  have cS2 := S2.cell
  have cSq := Sq.blk.cell
  have Aq := Sq.other (by omega) (A14.below hBz)
  have aqc := Aq.cell
  have kq := (Sq.own p2 (fun a e => p2.ne_blk S2 h77 a.block (by rw [e]; rfl))).bs
  clear Bc14 Ac14 B14 A14 s14 t14 ch
  go_wp2_with (go_at_call 6; ((with_reducible refine (ct m m0 m1 H1 y1 z1 H2 y2 z2 wq kq).mono ?_); rintro e u16 ⟨⟨rfl, hB16⟩⟩); (obtain ⟨w16, hw16, V16, kV, hkV, V17⟩ := nw1 u16 #[.int .u8 17, .int .u32 server, .int .u32 src, .int .u16 b, .int .u16 a] 34); have A17 := (Aq.below hB16).below V16; have R17 := below_then (below_then Rq hB16) V16)
  refine region_txt 22 (by kernel_rfl) (by kernel_rfl) ?_; (iterate 22 (first | (apply ObsK.skip (by rfl)) | (apply ObsK.v (by rfl); (intro wo hT; (repeat (first | (intro _ _ k; try have hcv := cv k))); (have vco := (V17.below hT).cell; have aco := (A17.below hT).cell); refine Goes.mk ?_; go_simp; first | exact goes_v | exact goes_b (by assumption) | (refine goes_enter ?_; first | (go_at_call 7; ((with_reducible refine (crv wo).mono ?_); rintro e wr ⟨rfl, hBr⟩); exact ret_v hBr)))) | (apply ObsK.b (by rfl); (intro wo hT; (repeat (first | (intro _ _ k; try have hcv := cv k))); (have vco := (V17.below hT).cell; have aco := (A17.below hT).cell); refine Goes.mk ?_; go_simp; first | exact goes_v | exact goes_b (by assumption) | (refine goes_enter ?_; first | (go_at_call 7; ((with_reducible refine (crv wo).mono ?_); rintro e wr ⟨rfl, hBr⟩); exact ret_v hBr)))))); refine ObsK.nil ?_; intro wz hBz; simp only [finOn, List.drop_succ_cons, List.drop_zero, List.drop_nil]
  go_simp
  go_wp2_with fail
  go_ret
  exact ⟨rfl, below_then R17 hBz⟩
end Go.Proofs.Ytjhgcnoijajffaa
namespace Go.Proofs.Ytjhgcnoijajffaa
open Go.ChangeShapes Go.WideShapes Go.ChangeAt Go.RowKit
set_option linter.unusedVariables false
set_option linter.unusedSimpArgs false
theorem own_knob : ownKnob Try.prog.godebug = none := by kernel_rfl
theorem laid_out : laidOutB Try.prog = true := by kernel_rfl
section
variable {H : Type} {enc : TypeId × Value → H} {P : Program} {w : World} {base : Nat} {held : Bool} {spare : Nat → Bool}
theorem open_arr {r : Reach} {b0 : Nat} {t e : TypeId} {k : IntKind} {n : Nat} {v : Value} {d : DataW H} {ps : List MemPlace} (ht : P.underlying t = some (.array n e)) (he : P.underlying e = some (.int k)) (hc : P.cellsOf e = 1) (hn : P.cellsOf t = n)
    (hval : Value.okWide P w r b0 t v) (hd : DataW.Trod enc P w base spare held t v d ps) :
    ∃ f : Nat → Int, v = .agg ((List.range n).map fun i => Value.int k (f i)).toArray ∧ ∀ i, i < n → (Lit.int k (f i)).wf = true := by
  unfold Value.okWide at hval
  rw [ht] at hval
  obtain ⟨cs, rfl, hcs, _⟩ := hval
  obtain ⟨fuel, hf⟩ := hd
  obtain ⟨xs, m, rfl, hx, hl, hxl, hi⟩ := DataW.trod_array ht hf
  have key : ∀ i, i < n → ∃ a, cs[i]? = some (.int k a) ∧ (Lit.int k a).wf = true := by
    intro i hin
    have h1 := hi i hin
    rw [List.getElem?_eq_getElem (by omega), hc] at h1
    obtain ⟨a, h2, _, hw⟩ := DataW.trod_int he h1
    have h3 : (((Value.agg cs).cells.toList.drop (i * 1)).take 1)[0]? = some (.int k a) := by rw [h2]; rfl
    refine ⟨a, ?_, hw⟩
    simpa [Value.cells, List.getElem?_take, List.getElem?_drop] using h3
  refine ⟨fun i => if h : i < n then (key i h).choose else 0, ?_, fun i hin => by simp only [dif_pos hin]; exact (key i hin).choose_spec.2⟩
  congr 1
  apply Array.ext_getElem?
  intro i
  by_cases hin : i < n
  · rw [(key i hin).choose_spec.1]
    simp [hin]
  · rw [Array.getElem?_eq_none (by omega)]
    simp [hin]
theorem args_stay : ∀ {ts : List TypeId} {vs : List Value} {ds : List (DataW H)} {ps : List MemPlace} {W W' : World}, laidOutB P = true → ts.all (fun t => P.readableRec t && decide (t < P.types.size)) = true →
    DataW.TrodAll enc P W 0 (fun _ => true) true ts vs ds ps → Below W.heap.size W W' → DataW.TrodAll enc P W' 0 (fun b => decide (b < W.heap.size)) true ts vs ds ps
  | [], vs, ds, ps, W, W', _, _, h, _ => by
    obtain ⟨rfl, rfl, rfl⟩ := trodAll_nil h
    exact trodAll_mk0
  | t :: ts, vs, ds, ps, W, W', hl, hr, h, hb => by
    simp only [List.all_cons, Bool.and_eq_true, decide_eq_true_eq] at hr
    obtain ⟨v, vs', d, ds', p, q, rfl, rfl, rfl, h1, h2⟩ := trodAll_cons h
    have hlt : ∀ x ∈ p, x.block < W.heap.size := by obtain ⟨m, hm⟩ := h1; exact DataW.trod_lt m _ _ _ hm
    exact trodAll_cons_mk (Below.trod hl hr.1.1 hr.1.2 h1 hb hlt) (args_stay hl (by simpa using hr.2) h2 hb)
theorem law_post {f : Func} {s : ChangeSpec} {W W' : World} {args : Array Value} {ds : List (DataW H)} {before : List MemPlace} {tb : TypeId} (hb' : P.underlying tb = some .bool) (hres : f.resultTypes = #[tb]) (hl : laidOutB P = true)
    (hr : f.params.toList.all (fun t => P.readableRec t && decide (t < P.types.size)) = true) (hvars : s.vars = [])
    (hfn : s.fn H (ds ++ []) = { results := [.lit (.bool true)], args := ds }) (hW : DataW.Whole enc P f.params.toList s.vars false W args.toList ds [] before) (hb : Below W.heap.size W W') :
    s.post enc P f false true false false W args (.bool true) W' := by
  have hW2 := hW
  obtain ⟨p, q, hA, hV, rfl, hfz, hnd⟩ := hW
  rw [hvars] at hV
  obtain ⟨_, rfl⟩ := trodVars_none hV
  refine ⟨_, _, _, [], p, [], hW2, ?_, ?_, ?_, hb.frame _, fun h => by cases h⟩
  · rw [hfn, hres]
    exact trodAll_mk1 (shut_bool hb' _)
  · rw [hfn]
    exact args_stay hl hr hA hb
  · rw [hfn, hvars]
    rfl
end
end Go.Proofs.Ytjhgcnoijajffaa
