/- Parts of the proofs of this seat, laid together. -/
import Derived.Test.YtjjhnjkmoogloaaRows
import Derived.WalkKit
import Derived.ProofKit
import Derived.OpenShut
import Derived.ChangeOld
import Derived.Below
import Derived.SizedLaws
import Derived.JoinedCond
import Derived.Deep.Fields
import Derived.Test.YtjjhnjkmoogloaaSa2
namespace Go.Proofs.Ytjjhnjkmoogloaa
open Go.RowKit
set_option linter.unusedVariables false
set_option linter.unusedSimpArgs false
set_option maxHeartbeats 1000000
def aftY (ops : Array Oper) (l : Nat) : Nat → Nat → Bool
  | 0, _ => false
  | f + 1, j => match ops[j]? with
    | some o => o.after.any fun e => Region.binds .any e && (e.on == l || aftY ops l f e.on)
    | none => false
def lastY (ops : Array Oper) (exs : List Nat) (i : Nat) : Bool := lastX exs i || match exs.getLast? with
  | some l => aftY ops l 40 i
  | none => false
theorem aftY_out {ops : Array Oper} {listed : Array Bool} (hd : ∀ i o, ops[i]? = some o → listed.getD i false = true → ∀ e ∈ o.after, Region.binds .any e = true → listed.getD e.on false = true) {l : Nat} :
    ∀ f j, aftY ops l f j = true → listed.getD j false = true → listed.getD l false = true
  | 0, _, h, _ => by cases h
  | f + 1, j, h, hj => by
    unfold aftY at h
    cases ho : ops[j]? with
    | none => rw [ho] at h; cases h
    | some o =>
      rw [ho] at h
      simp only [Array.any_eq_true, Bool.and_eq_true, Bool.or_eq_true, beq_iff_eq] at h
      obtain ⟨q, hq, hb, hh⟩ := h
      have := hd j o ho hj _ (Array.getElem_mem hq) hb
      rcases hh with e | hh
      · rw [← e]; exact this
      · exact aftY_out hd f _ hh this
theorem lastY_out {ops : Array Oper} {listed : Array Bool} (hd : ∀ i o, ops[i]? = some o → listed.getD i false = true → ∀ e ∈ o.after, Region.binds .any e = true → listed.getD e.on false = true) {exs : List Nat} {j : Nat} (h : lastY ops exs j = true)
    (hj : listed.getD j false = true) : ∃ j', lastX exs j' = true ∧ listed.getD j' false = true := by
  unfold lastY at h
  rw [Bool.or_eq_true] at h
  rcases h with h | h
  · exact ⟨j, h, hj⟩
  · cases hl : exs.getLast? with
    | none => rw [hl] at h; cases h
    | some l =>
      rw [hl] at h
      exact ⟨l, by unfold lastX; rw [hl]; simp, aftY_out hd _ _ h hj⟩
def ObsY (P : Program) (ops : Array Oper) (a0 : Act) (w0 : World) (g : Nat) (J : Nat → World → Prop) (exs : List Nat) (fin : List (Tmp × Kd) → Prop) : Nat → Nat → List (Tmp × Kd) → List Oper → Prop
  | _, _, ks, [] => fin ks
  | i, c, ks, o :: rest => ∃ K t, o.dst = some t ∧ (K.Ok ∧ (lastY ops exs i = true ∨ K.OkX g)) ∧ Ob1X P ops a0 w0 g J c (exs.elem i) ks o K ∧ ObsY P ops a0 w0 g J exs fin (i + 1) (bif exs.elem i then c + 1 else c) ((t, K) :: ks) rest
section
variable {P : Program} {ops : Array Oper} {a0 : Act} {w0 : World} {g : Nat} {J : Nat → World → Prop} {exs : List Nat} {fin : List (Tmp × Kd) → Prop} {i c : Nat} {ks : List (Tmp × Kd)} {rest : List Oper}
  {t : Tmp} {op : Op} {ty : TypeId} {pos : String} {after : Array Edge} {gd : Option (Nat × Bool)}
theorem ObsY.v {x : Value} (hx : exs.elem i = false) (hg : wantK ops ks gd = some true) (ho : ∀ W, w0.grownBy W (some g) → leanOn ks W op.operands.toList (Goes P (.v x) ⟨some t, op, ty, pos, after, gd⟩ W) a0)
    (hr : ObsY P ops a0 w0 g J exs fin (i + 1) c ((t, .v x) :: ks) rest) : ObsY P ops a0 w0 g J exs fin i c ks (⟨some t, op, ty, pos, after, gd⟩ :: rest) :=
  ⟨.v x, t, rfl, ⟨trivial, .inr trivial⟩, .inl ⟨hx, hg, ho⟩, by rw [hx]; exact hr⟩
theorem ObsY.p {q : World → Value → Prop} (hx : exs.elem i = false) (hg : wantK ops ks gd = some true) (hkb : ∀ w w' v, q w v → Below w.heap.size w w' → q w' v) (hk : ∀ w w' v, q w v → w.grownBy w' (some g) → q w' v) (ho : ∀ W, w0.grownBy W (some g) → leanOn ks W op.operands.toList (Goes P (.p q) ⟨some t, op, ty, pos, after, gd⟩ W) a0)
    (hr : ObsY P ops a0 w0 g J exs fin (i + 1) c ((t, .p q) :: ks) rest) : ObsY P ops a0 w0 g J exs fin i c ks (⟨some t, op, ty, pos, after, gd⟩ :: rest) :=
  ⟨.p q, t, rfl, ⟨hkb, .inr hk⟩, .inl ⟨hx, hg, ho⟩, by rw [hx]; exact hr⟩
theorem ObsY.ev {x : Value} (hx : exs.elem i = true) (hg : wantK ops ks gd = some true) (ho : ∀ W, w0.grownBy W (some g) → J c W → leanOn ks W op.operands.toList (GoesX P (.v x) g (J (c + 1)) ⟨some t, op, ty, pos, after, gd⟩ W) a0)
    (hr : ObsY P ops a0 w0 g J exs fin (i + 1) (c + 1) ((t, .v x) :: ks) rest) : ObsY P ops a0 w0 g J exs fin i c ks (⟨some t, op, ty, pos, after, gd⟩ :: rest) :=
  ⟨.v x, t, rfl, ⟨trivial, .inr trivial⟩, .inr (.inl ⟨hx, hg, ho⟩), by rw [hx]; exact hr⟩
theorem ObsY.ap {q : World → Value → Prop} (hx : exs.elem i = false) (hg : wantK ops ks gd = some true) (hl : lastY ops exs i = true) (hkb : ∀ w w' v, q w v → Below w.heap.size w w' → q w' v) (ho : ∀ W, w0.grownBy W (some g) → leanOn ks W op.operands.toList (Goes P (.p q) ⟨some t, op, ty, pos, after, gd⟩ W) a0)
    (hr : ObsY P ops a0 w0 g J exs fin (i + 1) c ((t, .p q) :: ks) rest) : ObsY P ops a0 w0 g J exs fin i c ks (⟨some t, op, ty, pos, after, gd⟩ :: rest) :=
  ⟨.p q, t, rfl, ⟨hkb, .inl hl⟩, .inl ⟨hx, hg, ho⟩, by rw [hx]; exact hr⟩
theorem ObsY.ep {q : World → Value → Prop} (hx : exs.elem i = true) (hg : wantK ops ks gd = some true) (hl : lastY ops exs i = true) (hkb : ∀ w w' v, q w v → Below w.heap.size w w' → q w' v) (ho : ∀ W, w0.grownBy W (some g) → J c W → leanOn ks W op.operands.toList (GoesX P (.p q) g (J (c + 1)) ⟨some t, op, ty, pos, after, gd⟩ W) a0)
    (hr : ObsY P ops a0 w0 g J exs fin (i + 1) (c + 1) ((t, .p q) :: ks) rest) : ObsY P ops a0 w0 g J exs fin i c ks (⟨some t, op, ty, pos, after, gd⟩ :: rest) :=
  ⟨.p q, t, rfl, ⟨hkb, .inl hl⟩, .inr (.inl ⟨hx, hg, ho⟩), by rw [hx]; exact hr⟩
theorem ObsY.skip (hx : exs.elem i = false) (hg : wantK ops ks gd = some false) (hr : ObsY P ops a0 w0 g J exs fin (i + 1) c ((t, .v undef) :: ks) rest) : ObsY P ops a0 w0 g J exs fin i c ks (⟨some t, op, ty, pos, after, gd⟩ :: rest) :=
  ⟨.v undef, t, rfl, ⟨trivial, .inr trivial⟩, .inr (.inr ⟨hx, hg, rfl⟩), by rw [hx]; exact hr⟩
theorem ObsY.nil (h : fin ks) : ObsY P ops a0 w0 g J exs fin i c ks [] := h
end
theorem ObsY.out {P : Program} {ops : Array Oper} {a0 : Act} {w0 : World} {g : Nat} {J : Nat → World → Prop} {exs : List Nat} {fin : List (Tmp × Kd) → Prop} : ∀ {l : List Oper} {i0 : Nat} {ks : List (Tmp × Kd)}, ObsY P ops a0 w0 g J exs fin i0 (czX exs i0) ks l →
    ∃ Ks : Nat → Kd, ∃ kz : Nat → List (Tmp × Kd), kz 0 = ks ∧ fin (kz l.length) ∧ ∀ i o, l[i]? = some o → ∃ t, o.dst = some t ∧ ((Ks i).Ok ∧ (lastY ops exs (i0 + i) = true ∨ (Ks i).OkX g)) ∧ Ob1X P ops a0 w0 g J (czX exs (i0 + i)) (exs.elem (i0 + i)) (kz i) o (Ks i) ∧ kz (i + 1) = (t, Ks i) :: kz i
  | [], i0, ks, h => ⟨fun _ => .v undef, fun _ => ks, rfl, h, fun i o ho => by simp at ho⟩
  | o :: rest, i0, ks, ⟨K, t, hd, hk, hob, hr⟩ => by
    have hr' : ObsY P ops a0 w0 g J exs fin (i0 + 1) (czX exs (i0 + 1)) ((t, K) :: ks) rest := hr
    obtain ⟨Ks, kz, h0, hf, hall⟩ := ObsY.out hr'
    refine ⟨fun i => match i with | 0 => K | i + 1 => Ks i, fun i => match i with | 0 => ks | i + 1 => kz i, rfl, hf, fun i o' ho' => ?_⟩
    cases i with
    | zero =>
      simp only [List.getElem?_cons_zero, Option.some.injEq] at ho'
      subst ho'
      exact ⟨t, hd, hk, hob, h0⟩
    | succ i =>
      have := hall i o' (by simpa using ho')
      rw [show i0 + 1 + i = i0 + (i + 1) from by omega] at this
      exact this
section
variable {P : Program} {Q : Exit → Act → World → Prop}
theorem regionXZ {id : Nat} {l : List Oper} {a : Act} {w : World} (m z : Nat) (exs : List Nat) (g : Nat) (J : Nat → World → Prop) (hm : P.follows .mixedOrders = true) (hchk : regZ l.toArray m z a.tmps.size = true) (hQ : ∀ (t : Tmp) v c a w, Q (.panic c) (Act.put a (some t) v) w → Q (.panic c) a w) (hzx : exs.elem z = false) (hex : exB l.toArray m exs = true)
    (hJ0 : J 0 w) (hJs : ∀ c W W', J c W → Below W.heap.size W W' → J c W')
    (hobs : ObsY P l.toArray a w g J exs (fun ks => ∀ W, w.grownBy W (some g) → J exs.length W → finOn W ks (fun a' => wpList P l.toArray Q (l.drop m) a' W) a) 0 0 [] (l.take m)) :
    (Code.region id l.toArray true).wp P Q a w := by
  have R := regZ_out hchk
  obtain ⟨ops, hops⟩ : ∃ ops, l.toArray = ops := ⟨_, rfl⟩
  have hl' : l = ops.toList := by rw [← hops]
  rw [hops] at hobs R hex ⊢
  rw [hl'] at hobs
  clear hops hl' hchk
  have hex' : ∀ q, q < exs.length → exs.getD q 0 < m ∧ czX exs (exs.getD q 0) = q ∧ (q = 0 ∨ ∃ o, ops[exs.getD q 0]? = some o ∧ hasOn o (exs.getD (q - 1) 0) = true) := by
    intro q hq
    have h := (List.all_eq_true.1 hex) q (List.mem_range.2 hq)
    simp only [Bool.and_eq_true, decide_eq_true_eq, beq_iff_eq, Bool.or_eq_true] at h
    refine ⟨h.1.1, h.1.2, h.2.imp (fun h => h) fun h2 => ?_⟩
    cases ho : ops[exs.getD q 0]? with
    | none => rw [ho] at h2; cases h2
    | some o => rw [ho] at h2; exact ⟨o, rfl, h2⟩
  have hidx : ∀ i, exs.elem i = true → ∃ q, q < exs.length ∧ exs.getD q 0 = i := by
    intro i hi
    obtain ⟨q, hq, e⟩ := List.mem_iff_getElem.1 (List.elem_iff.1 hi)
    exact ⟨q, hq, by rw [List.getD_eq_getElem?_getD, List.getElem?_eq_getElem hq]; exact e⟩
  have hmemE : ∀ q, q < exs.length → exs.elem (exs.getD q 0) = true := by
    intro q hq
    rw [List.elem_iff, List.getD_eq_getElem?_getD, List.getElem?_eq_getElem hq]
    exact List.getElem_mem hq
  obtain ⟨Ks, kz, hz0, hfin, hall⟩ := ObsY.out (i0 := 0) hobs
  simp only [Nat.zero_add] at hall
  have hmlen : (ops.toList.take m).length = m := by simp [R.le]
  rw [hmlen] at hfin
  have hat : ∀ i o, i < m → ops[i]? = some o → (ops.toList.take m)[i]? = some o := fun i o hi ho => by
    rw [List.getElem?_take, if_pos hi]; simpa using ho
  have hta : ∀ i o, (ops.toList.take m)[i]? = some o → i < m ∧ ops[i]? = some o := fun i o ho => by
    rw [List.getElem?_take] at ho
    split at ho
    · exact ⟨‹_›, by simpa using ho⟩
    · cases ho
  have hall2 : ∀ i o, (ops.toList.take m)[i]? = some o → ∃ t, o.dst = some t ∧ kz (i + 1) = (t, Ks i) :: kz i := fun i o ho => by
    obtain ⟨t, h1, _, _, h2⟩ := hall i o ho
    exact ⟨t, h1, h2⟩
  have hmem : ∀ i, i ≤ m → ∀ t K, (t, K) ∈ kz i → ∃ j, j < i ∧ dstOf ops j = some t ∧ K = Ks j := fun i hi t K hm => by
    obtain ⟨j, o, h1, h2, h3, h4⟩ := kz_mem hz0 hall2 i (by omega) t K hm
    obtain ⟨_, ho⟩ := hta j o h2
    exact ⟨j, h1, by unfold dstOf; rw [ho]; exact h3, h4⟩
  refine wp_region_any hm ?_
  have hd : ∀ i o, ops[i]? = some o → dstOf ops i = o.dst := fun i o ho => by unfold dstOf; rw [ho]; rfl
  have hend : ∀ (listed : Array Bool) (a' : Act) (w' : World), RInvX ops a w Ks m g J exs listed a' w' → (∀ j, j < m → listed.getD j false = true) → wpList P ops Q (ops.toList.drop m) a' w' := by
    intro listed a' w' hI hlst
    have HJX : J exs.length w' := by
      obtain ⟨c, hc, hq, hj⟩ := hI.cnt
      have : c = exs.length := by
        rcases Nat.lt_or_ge c exs.length with hlt | hge
        · have h1 := hq c hlt
          rw [hlst _ (hex' c hlt).1] at h1
          simp at h1
        · omega
      rw [← this]; exact hj
    obtain ⟨b, hb, e1, e2, e3, e4⟩ := finOn.out (a' := a') (hfin w' hI.ext HJX) hI.size.symm (fun t K hm => by
      obtain ⟨j, hj, hdj, rfl⟩ := hmem m (Nat.le_refl _) t K hm
      obtain ⟨o, ho, hod⟩ := dstOf_some hdj
      obtain ⟨s, hs, hsn, _⟩ := R.main j o hj ho
      rw [hod] at hs
      injection hs with hs
      subst hs
      exact ⟨by rw [hI.size]; exact hsn, hI.val j t hj (hlst j hj) hdj⟩)
    have : b = a' := by
      cases b with
      | mk bt bd =>
        cases a' with
        | mk at' ad =>
          simp only at e1 e2 e3 e4
          have hdf : bd = ad := by rw [e2]; exact hI.defers.symm
          have htm : bt = at' := by
            apply Array.ext
            · rw [e1]; exact hI.size.symm
            · intro t t1 t2
              have : bt.getD t undef = at'.getD t undef := by
                by_cases hx : ∃ K, (t, K) ∈ kz m
                · exact e4 t hx
                · rw [e3 t (fun K hm => hx ⟨K, hm⟩)]
                  refine (hI.other t fun j hj hdj => hx ?_).symm
                  obtain ⟨o, ho, hod⟩ := dstOf_some hdj
                  exact ⟨Ks j, kz_all hall2 m (by omega) j o t hj (hat j o hj ho) hod⟩
              simpa only [Array.getD_eq_getD_getElem?, Array.getElem?_eq_getElem t1, Array.getElem?_eq_getElem t2, Option.getD_some] using this
          subst hdf htm
          rfl
    rw [this] at hb
    exact hb
  have key : ∀ (fuel : Nat) (listed : Array Bool) (a' : Act) (w' : World), RInvX ops a w Ks m g J exs listed a' w' → (∀ i, m ≤ i → i < ops.size → listed.getD i false = false) →
      ((List.range ops.size).filter fun i => !listed.getD i true).length ≤ fuel → wpAny P .any ops Q fuel listed a' w' := by
    intro fuel
    have hprefix : ∀ (listed : Array Bool), listed.size = ops.size → (∀ j, j < m → listed.getD j false = true) → (∀ i, m ≤ i → i < ops.size → listed.getD i false = false) → ∀ i, i < ops.size → listed.getD i false = decide (i < m) := by
      intro listed hs h1 h2 i hi
      by_cases e : i < m
      · rw [h1 i e]; simp [e]
      · rw [h2 i (by omega) hi]; simp [e]
    induction fuel with
    | zero =>
      intro listed a' w' hI hno hc
      have h0 : ((List.range ops.size).filter fun i => !listed.getD i true) = [] := List.eq_nil_of_length_eq_zero (by omega)
      have hal : ∀ i, i < ops.size → listed.getD i false = true := by
        intro i hi
        rw [List.filter_eq_nil_iff] at h0
        have := h0 i (List.mem_range.2 hi)
        rw [← getD_ff (by rw [hI.lsize]; exact hi)]
        simpa using this
      have hms : m = ops.size := by
        rcases Nat.lt_or_ge m ops.size with hlt | hge
        · have := hno m (Nat.le_refl _) hlt
          rw [hal m hlt] at this
          cases this
        · have := R.le; omega
      have := hend listed a' w' hI (fun j hj => hal j (by omega))
      rw [hms] at this
      have hdr : ops.toList.drop ops.size = [] := by simp
      rw [hdr] at this
      refine ⟨?_, this⟩
      unfold Region.ready
      rw [List.filter_eq_nil_iff] at h0 ⊢
      intro i hi
      have := h0 i hi
      simp only [Bool.not_eq_true] at this ⊢
      rw [this]
      rfl
    | succ fuel ih =>
      intro listed a' w' hI hno hc
      by_cases hdone : ∀ j, j < m → listed.getD j false = true
      · refine tail_anyZ R (fuel + 1) m listed a' w' (Nat.le_refl _) R.le hI.lsize (hprefix listed hI.lsize hdone hno) ?_ (hend listed a' w' hI hdone)
        have hlen : ops.size - m ≤ ((List.range ops.size).filter fun i => !listed.getD i true).length := by
          have hsub : (List.range ops.size).filter (fun i => decide (m ≤ i)) = (List.range ops.size).filter fun i => !listed.getD i true := by
            apply List.filter_congr
            intro i hi
            have hi := List.mem_range.1 hi
            rw [getD_ff (by rw [hI.lsize]; exact hi), hprefix listed hI.lsize hdone hno i hi]
            by_cases e : i < m <;> simp [e] <;> omega
          rw [← hsub]
          have : ∀ N, m ≤ N → ((List.range N).filter fun i => decide (m ≤ i)).length = N - m := by
            intro N hN
            induction N with
            | zero => simp
            | succ N ihN =>
              rw [List.range_succ, List.filter_append, List.length_append]
              by_cases e : m ≤ N
              · rw [ihN e]; simp [e]; omega
              · have : m = N + 1 := by omega
                subst this
                have : (List.range N).filter (fun i => decide (N + 1 ≤ i)) = [] := by
                  rw [List.filter_eq_nil_iff]
                  intro i hi
                  have := List.mem_range.1 hi
                  simp; omega
                rw [this]
                simp
          rw [this _ R.le]
          exact Nat.le_refl _
        omega
      · by_cases hzz : ∀ j, j < m → j ≠ z → listed.getD j false = true
        · have zlt := R.zlt
          have zs : z < ops.size := by have := R.le; omega
          have hlz : listed.getD z false = false := by
            cases hlz : listed.getD z false with
            | false => rfl
            | true => exact absurd (fun j hj => by by_cases e : j = z; · rw [e]; exact hlz
                                                   · exact hzz j hj e) hdone
          have hlst : listed = lateL m z ops.size := by
            apply Array.ext
            · rw [hI.lsize]; simp [lateL]
            · intro q q1 q2
              have qs : q < ops.size := by rw [← hI.lsize]; exact q1
              have e1 : listed[q] = listed.getD q false := by simp [Array.getD_eq_getD_getElem?, Array.getElem?_eq_getElem q1]
              rw [e1]
              simp only [lateL, Array.getElem_ofFn]
              by_cases qm : q < m
              · by_cases qz : q = z
                · subst qz; rw [hlz]; simp
                · rw [hzz q qm qz]; simp [qm, qz]
              · rw [hno q (by omega) qs]; simp [qm]
          have ho : ops[z]? = some ops[z] := Array.getElem?_eq_getElem zs
          obtain ⟨o, hoo⟩ : ∃ o, ops[z] = o := ⟨_, rfl⟩
          rw [hoo] at ho
          have hnl' : listed.getD z true = false := by rw [getD_ff (by rw [hI.lsize]; exact zs)]; exact hlz
          have hrd0 : z ∈ Region.ready .any ops listed := by have := R.rdy; rw [← hlst] at this; simpa using this
          obtain ⟨_, o', ho', haf⟩ := mem_ready.1 hrd0
          rw [ho] at ho'
          injection ho' with ho'
          subst ho'
          obtain ⟨hext, hgn⟩ := R.ext o ho
          have him := zlt
          have his := zs
          have hsi : z < listed.size := by rw [hI.lsize]; exact zs
          obtain ⟨t, ht, htn, hne, hsel, hrd, hgd⟩ := R.main z o him ho
          obtain ⟨t', ht', hok, hob, hkz⟩ := hall z o (hat z o him ho)
          have hon : ∀ j, hasOn o j = true → listed.getD j false = true := fun j hj => by
            obtain ⟨e, he, heo, heb⟩ := hasOn_mem hj
            rw [← heo]
            exact haf e he heb
          have hnext : ∀ v w'', (Ks z).holds w'' v → w'.grownBy w'' (some g) → (∀ j, j < m → listed.getD j false = true → ∀ u, (Ks j).holds w' u → (Ks j).holds w'' u) → (∃ c, c ≤ exs.length ∧ (∀ q, q < exs.length → (listed.setIfInBounds z true).getD (exs.getD q 0) false = decide (q < c)) ∧ J c w'') → wpAny P .any ops Q fuel (listed.setIfInBounds z true) (a'.put o.dst v) w'' := by
            intro v w'' hv hb hkeep hcn
            refine ih _ _ _ ⟨by simpa using hI.lsize, ?_, ?_, ext_trans hI.ext hb, hcn, ?_, ?_, ?_⟩ ?_ ?_
            · rw [ht]; exact hI.defers
            · rw [ht]; simpa [Act.put] using hI.size
            · intro s hs
              have hst : s ≠ t := fun e => hs z him (by rw [hd z _ ho, ht, e])
              rw [ht, put_getD (by rw [hI.size]; exact htn), if_neg hst]
              exact hI.other s hs
            · intro j s hjm hj hdj
              rw [getD_set hsi] at hj
              rw [ht, put_getD (by rw [hI.size]; exact htn)]
              by_cases e : j = z
              · subst e
                have : s = t := by rw [hd j _ ho, ht] at hdj; injection hdj with hdj; exact hdj.symm
                rw [if_pos this]
                exact hv
              · rw [if_neg e] at hj
                have hst : s ≠ t := fun e2 => e (dst_injZ R hjm him hdj (by rw [hd z _ ho, ht, e2]))
                rw [if_neg hst]
                exact hkeep j hjm hj _ (hI.val j s hjm hj hdj)
            · intro q oq hq hlq e he hb
              rw [getD_set hsi] at hlq ⊢
              by_cases e1 : q = z
              · subst e1
                rw [ho] at hq
                injection hq with hq
                subst hq
                split
                · rfl
                · exact haf e he hb
              · rw [if_neg e1] at hlq
                split
                · rfl
                · exact hI.down q oq hq hlq e he hb
            · intro q hq hqs
              rw [getD_set hsi, if_neg (by omega)]
              exact hno q hq hqs
            · have hnl : (!listed.getD z true) = true := by rw [hnl']; rfl
              have hlt : ((List.range ops.size).filter fun k => !(listed.setIfInBounds z true).getD k true).length < ((List.range ops.size).filter fun k => !listed.getD k true).length := by
                have hsub : ((List.range ops.size).filter fun k => !(listed.setIfInBounds z true).getD k true) = (((List.range ops.size).filter fun k => !listed.getD k true).filter fun k => k != z) := by
                  rw [List.filter_filter]
                  apply List.filter_congr
                  intro k _
                  rw [getD_set hsi]
                  by_cases e : k = z
                  · subst e; simp
                  · simp [e]
                rw [hsub]
                exact List.length_filter_lt_length_iff_exists.2 ⟨z, List.mem_filter.2 ⟨List.mem_range.2 his, hnl⟩, by simp⟩
              omega
          have hlook : ∀ s K, lookK (kz z) s = some K → ∃ j, j < z ∧ dstOf ops j = some s ∧ K = Ks j := fun s K hK => hmem z (by omega) s K (lookK_some hK)
          have hokj : ∀ j, j < m → (Ks j).Ok ∧ (lastY ops exs j = true ∨ (Ks j).OkX g) := by
            intro j hj
            have hjs : j < ops.size := by have := R.le; omega
            obtain ⟨_, _, h1, _⟩ := hall j ops[j] (hat j _ hj (Array.getElem?_eq_getElem hjs))
            exact h1
          have hkN : ∀ w'', Below w'.heap.size w' w'' → ∀ j, j < m → listed.getD j false = true → ∀ u, (Ks j).holds w' u → (Ks j).holds w'' u := fun w'' hB j hj _ u hu => Kd.keep (hokj j hj).1 hu hB
          have hcntN : exs.elem z = false → ∀ w'', Below w'.heap.size w' w'' → ∃ c, c ≤ exs.length ∧ (∀ q, q < exs.length → (listed.setIfInBounds z true).getD (exs.getD q 0) false = decide (q < c)) ∧ J c w'' := by
            intro hx w'' hB
            obtain ⟨c, hc, hq, hj⟩ := hI.cnt
            refine ⟨c, hc, fun q hql => ?_, hJs c _ _ hj hB⟩
            rw [getD_set hsi, if_neg (fun e => by have h1 := hmemE q hql; rw [e, hx] at h1; cases h1)]
            exact hq q hql
          have hgo : ∀ W, w.grownBy W (some g) → leanOn (kz z) W o.op.operands.toList (Goes P (Ks z) o W) a := by
            rcases hob with ⟨_, _, hgo⟩ | ⟨hxx, _, _⟩ | ⟨_, hwk, _⟩
            · exact hgo
            · rw [hzx] at hxx; cases hxx
            · rw [hgn] at hwk; cases hwk
          obtain ⟨b, hb, b1, b2, b3, b4⟩ := leanOn.out (a' := a') (hgo w' hI.ext) hI.size.symm (fun s K hs hK => by
            obtain ⟨j, hj, hdj, rfl⟩ := hlook s K hK
            obtain ⟨o2, ho2, hod2⟩ := dstOf_some hdj
            obtain ⟨s2, hs2, hsn, _⟩ := R.main j o2 (by omega) ho2
            rw [hod2] at hs2
            injection hs2 with hs2
            subst hs2
            obtain ⟨ha, _⟩ := hrd s (by simpa using hs) j (by omega) hdj
            exact ⟨by rw [hI.size]; exact hsn, hI.val j s (by omega) (hon j ha) hdj⟩)
          have heq : execOp a'.eval o = execOp b.eval o := by
            refine execOp_congr o (fun cs bb hc => by rw [hc] at hsel; cases hsel) fun x hx => ?_
            cases x with
            | tmp s =>
              show a'.tmps.getD s undef = b.tmps.getD s undef
              by_cases hks : ∃ K, lookK (kz z) s = some K
              · obtain ⟨K, hK⟩ := hks
                exact (b4 s ⟨K, hK, by simpa using hx⟩).symm
              · have ho2 : ∀ j, j < m → dstOf ops j ≠ some s := by
                  intro j hj hdj
                  obtain ⟨_, hji⟩ := hrd s hx j hj hdj
                  obtain ⟨oj, hoj, hdoj⟩ := dstOf_some hdj
                  have := kz_all hall2 z (by omega) j oj s hji (hat j oj hj hoj) hdoj
                  cases hl : lookK (kz z) s with
                  | some K => exact hks ⟨K, hl⟩
                  | none => exact lookK_none hl _ this
                have e0 := hI.other s ho2
                rcases b3 s with e | e
                · rw [e, e0]
                · exact e.symm
            | const _ => rfl
            | global _ => rfl
            | func _ => rfl
          have hgoes := hb.out
          have hy : ∃ v, (∀ w, (execOp b.eval o).run P w = .ok (.value v) w) ∧ (Ks z).holds w' v := by
            rcases extract_ways (P := P) (ρ := b.eval) hext with ⟨v, hall'⟩ | hnone
            · rw [hall' w'] at hgoes
              exact ⟨v, hall', hgoes.1⟩
            · exfalso
              cases hr : (execOp b.eval o).run P w' with
              | ok n w'' => exact hnone _ _ _ hr
              | halt x w'' => rw [hr] at hgoes; exact hgoes.elim
          obtain ⟨v, hrun, hv⟩ := hy
          refine wpAny_take ho R.nosel (by rw [hlst]; exact R.free) (by rw [hlst]; exact R.rdy) (fun c a w h => hQ t _ c a w (by rw [← ht]; exact h)) (v := v) (.inl ⟨by unfold Region.wanted; rw [hgn], fun w => by rw [heq]; exact hrun w⟩) ?_
          exact hnext v w' hv (ext_refl _ _) (hkN w' (Below.refl _ _)) (hcntN hzx w' (Below.refl _ _))
        · refine ⟨fun hr => ?_, fun i hi => ?_⟩
          · exfalso
            refine hdone ?_
            intro j
            induction j using Nat.strongRecOn with
            | _ j ihj =>
              intro hj
              cases hlj : listed.getD j false with
              | true => rfl
              | false =>
                exfalso
                have hjs : j < ops.size := by have := R.le; omega
                have hmem : j ∈ Region.ready .any ops listed := by
                  rw [mem_ready]
                  refine ⟨by rw [getD_ff (by rw [hI.lsize]; exact hjs)]; exact hlj, ops[j], Array.getElem?_eq_getElem hjs, fun e he hb => ?_⟩
                  have := R.down j _ (Array.getElem?_eq_getElem hjs) e he hb
                  exact ihj _ this (by omega)
                rw [hr] at hmem
                cases hmem
          · have hi0 := hi
            rw [mem_ready] at hi
            obtain ⟨hnl', o, ho, haf⟩ := hi
            have his : i < ops.size := (Array.getElem?_eq_some_iff.1 ho).1
            have hsi : i < listed.size := by rw [hI.lsize]; exact his
            have him : i < m := by
              rcases Nat.lt_or_ge i m with hlt | hge
              · exact hlt
              · exact absurd (fun j hj hjz => all_beforeZ R hI.down hge ho haf (i - j - 1) j (by omega) hjz) hzz
            obtain ⟨t, ht, htn, hne, hsel, hrd, hgd⟩ := R.main i o him ho
            obtain ⟨t', ht', hok, hob, hkz⟩ := hall i o (hat i o him ho)
            have hon : ∀ j, hasOn o j = true → listed.getD j false = true := fun j hj => by
              obtain ⟨e, he, heo, heb⟩ := hasOn_mem hj
              rw [← heo]
              exact haf e he heb
            have hnext : ∀ v w'', (Ks i).holds w'' v → w'.grownBy w'' (some g) → (∀ j, j < m → listed.getD j false = true → ∀ u, (Ks j).holds w' u → (Ks j).holds w'' u) → (∃ c, c ≤ exs.length ∧ (∀ q, q < exs.length → (listed.setIfInBounds i true).getD (exs.getD q 0) false = decide (q < c)) ∧ J c w'') → wpAny P .any ops Q fuel (listed.setIfInBounds i true) (a'.put o.dst v) w'' := by
              intro v w'' hv hb hkeep hcn
              refine ih _ _ _ ⟨by simpa using hI.lsize, ?_, ?_, ext_trans hI.ext hb, hcn, ?_, ?_, ?_⟩ ?_ ?_
              · rw [ht]; exact hI.defers
              · rw [ht]; simpa [Act.put] using hI.size
              · intro s hs
                have hst : s ≠ t := fun e => hs i him (by rw [hd i _ ho, ht, e])
                rw [ht, put_getD (by rw [hI.size]; exact htn), if_neg hst]
                exact hI.other s hs
              · intro j s hjm hj hdj
                rw [getD_set hsi] at hj
                rw [ht, put_getD (by rw [hI.size]; exact htn)]
                by_cases e : j = i
                · subst e
                  have : s = t := by rw [hd j _ ho, ht] at hdj; injection hdj with hdj; exact hdj.symm
                  rw [if_pos this]
                  exact hv
                · rw [if_neg e] at hj
                  have hst : s ≠ t := fun e2 => e (dst_injZ R hjm him hdj (by rw [hd i _ ho, ht, e2]))
                  rw [if_neg hst]
                  exact hkeep j hjm hj _ (hI.val j s hjm hj hdj)
              · intro q oq hq hlq e he hb
                rw [getD_set hsi] at hlq ⊢
                by_cases e1 : q = i
                · subst e1
                  rw [ho] at hq
                  injection hq with hq
                  subst hq
                  split
                  · rfl
                  · exact haf e he hb
                · rw [if_neg e1] at hlq
                  split
                  · rfl
                  · exact hI.down q oq hq hlq e he hb
              · intro q hq hqs
                rw [getD_set hsi, if_neg (by omega)]
                exact hno q hq hqs
              · have hnl : (!listed.getD i true) = true := by rw [hnl']; rfl
                have hlt : ((List.range ops.size).filter fun k => !(listed.setIfInBounds i true).getD k true).length < ((List.range ops.size).filter fun k => !listed.getD k true).length := by
                  have hsub : ((List.range ops.size).filter fun k => !(listed.setIfInBounds i true).getD k true) = (((List.range ops.size).filter fun k => !listed.getD k true).filter fun k => k != i) := by
                    rw [List.filter_filter]
                    apply List.filter_congr
                    intro k _
                    rw [getD_set hsi]
                    by_cases e : k = i
                    · subst e; simp
                    · simp [e]
                  rw [hsub]
                  exact List.length_filter_lt_length_iff_exists.2 ⟨i, List.mem_filter.2 ⟨List.mem_range.2 his, hnl⟩, by simp⟩
                omega
            have hlook : ∀ s K, lookK (kz i) s = some K → ∃ j, j < i ∧ dstOf ops j = some s ∧ K = Ks j := fun s K hK => hmem i (by omega) s K (lookK_some hK)
            have hokj : ∀ j, j < m → (Ks j).Ok ∧ (lastY ops exs j = true ∨ (Ks j).OkX g) := by
              intro j hj
              have hjs : j < ops.size := by have := R.le; omega
              obtain ⟨_, _, h1, _⟩ := hall j ops[j] (hat j _ hj (Array.getElem?_eq_getElem hjs))
              exact h1
            have hkN : ∀ w'', Below w'.heap.size w' w'' → ∀ j, j < m → listed.getD j false = true → ∀ u, (Ks j).holds w' u → (Ks j).holds w'' u := fun w'' hB j hj _ u hu => Kd.keep (hokj j hj).1 hu hB
            have hcntN : exs.elem i = false → ∀ w'', Below w'.heap.size w' w'' → ∃ c, c ≤ exs.length ∧ (∀ q, q < exs.length → (listed.setIfInBounds i true).getD (exs.getD q 0) false = decide (q < c)) ∧ J c w'' := by
              intro hx w'' hB
              obtain ⟨c, hc, hq, hj⟩ := hI.cnt
              refine ⟨c, hc, fun q hql => ?_, hJs c _ _ hj hB⟩
              rw [getD_set hsi, if_neg (fun e => by have h1 := hmemE q hql; rw [e, hx] at h1; cases h1)]
              exact hq q hql
            unfold wpOp
            rw [ho]
            rcases hob with ⟨hxx, hwk, hgo⟩ | ⟨hxx, hwk, hgo⟩ | ⟨hxx, hwk, hskip⟩
            · have hw : Region.wanted o (yielded ops a'.tmps) = true := by
                unfold Region.wanted
                cases hg : o.guard with
                | none => rfl
                | some gb =>
                  obtain ⟨g, b⟩ := gb
                  rw [hg] at hwk
                  unfold wantK at hwk
                  simp only at hwk
                  cases hdg : dstOf ops g with
                  | none => rw [hdg] at hwk; cases hwk
                  | some s =>
                    rw [hdg] at hwk
                    cases hlk : lookK (kz i) s with
                    | none => simp only [hlk] at hwk; cases hwk
                    | some K =>
                      simp only [hlk] at hwk
                      split at hwk
                      · rename_i hKe
                        injection hKe with hKe
                        subst hKe
                        rename_i c
                        obtain ⟨j, hj, hdj, hKj⟩ := hlook s _ hlk
                        obtain ⟨hong, hgi⟩ := hgd g b hg
                        obtain rfl := dst_injZ R (by omega) (by omega) hdj hdg
                        have hv := hI.val j s (by omega) (hon j hong) hdj
                        rw [← hKj] at hv
                        have hy : yielded ops a'.tmps j = some c := by
                          have hv' : a'.tmps.getD s undef = .bool c := hv
                          unfold yielded
                          unfold dstOf at hdj
                          rw [hdj]
                          rw [Array.getD_eq_getD_getElem?] at hv'
                          cases hx : a'.tmps[s]? with
                          | none => rw [hx] at hv'; exact absurd hv' (by simp [undef])
                          | some x =>
                            rw [hx] at hv'
                            simp only [Option.getD_some] at hv'
                            subst hv'
                            simp [hx]
                        simp only [hy]
                        injection hwk
                      · cases hwk
              simp only [hw, if_true]
              refine .inl ?_
              obtain ⟨b, hb, b1, b2, b3, b4⟩ := leanOn.out (a' := a') (hgo w' hI.ext) hI.size.symm (fun s K hs hK => by
                obtain ⟨j, hj, hdj, rfl⟩ := hlook s K hK
                obtain ⟨o2, ho2, hod2⟩ := dstOf_some hdj
                obtain ⟨s2, hs2, hsn, _⟩ := R.main j o2 (by omega) ho2
                rw [hod2] at hs2
                injection hs2 with hs2
                subst hs2
                obtain ⟨ha, _⟩ := hrd s (by simpa using hs) j (by omega) hdj
                exact ⟨by rw [hI.size]; exact hsn, hI.val j s (by omega) (hon j ha) hdj⟩)
              have heq : execOp a'.eval o = execOp b.eval o := by
                refine execOp_congr o (fun cs bb hc => by rw [hc] at hsel; cases hsel) fun x hx => ?_
                cases x with
                | tmp s =>
                  show a'.tmps.getD s undef = b.tmps.getD s undef
                  by_cases hks : ∃ K, lookK (kz i) s = some K
                  · obtain ⟨K, hK⟩ := hks
                    exact (b4 s ⟨K, hK, by simpa using hx⟩).symm
                  · have ho2 : ∀ j, j < m → dstOf ops j ≠ some s := by
                      intro j hj hdj
                      obtain ⟨_, hji⟩ := hrd s hx j hj hdj
                      obtain ⟨oj, hoj, hdoj⟩ := dstOf_some hdj
                      have := kz_all hall2 i (by omega) j oj s hji (hat j oj hj hoj) hdoj
                      cases hl : lookK (kz i) s with
                      | some K => exact hks ⟨K, hl⟩
                      | none => exact lookK_none hl _ this
                    have e0 := hI.other s ho2
                    rcases b3 s with e | e
                    · rw [e, e0]
                    · exact e.symm
                | const _ => rfl
                | global _ => rfl
                | func _ => rfl
              have hgoes := hb.out
              unfold Oper.wp
              rw [heq]
              generalize (execOp b.eval o).run P w' = r at hgoes
              cases r with
              | ok n w'' =>
                cases n <;> simp only [OpGoes] at hgoes <;> try exact hgoes.elim
                case value v => exact hnext v w'' hgoes.1 (ext_below hgoes.2) (hkN _ hgoes.2) (hcntN hxx _ hgoes.2)
                case enter f args =>
                  refine Calls.mono hgoes ?_
                  rintro e w3 ⟨v, rfl, hv, hb⟩
                  exact hnext v w3 hv (ext_below hb) (hkN _ hb) (hcntN hxx _ hb)
              | halt x w'' => exact hgoes.elim
            · obtain ⟨q, hql, hqe⟩ := hidx i hxx
              obtain ⟨c, hc, hqs, hj⟩ := hI.cnt
              obtain ⟨hq1, hq2, hq3⟩ := hex' q hql
              have hqc : q = c := by
                have h1 := hqs q hql
                rw [hqe, ← getD_ff hsi, hnl'] at h1
                have h2 : ¬ q < c := by simpa using h1.symm
                rcases hq3 with h3 | ⟨o3, ho3, hh3⟩
                · omega
                · rw [hqe, ho] at ho3
                  injection ho3 with ho3
                  subst ho3
                  have h4 := hon _ hh3
                  by_cases h0 : q = 0
                  · omega
                  · rw [hqs (q - 1) (by omega)] at h4
                    have : q - 1 < c := by simpa using h4
                    omega
              rw [hqe] at hq2
              rw [hq2, hqc] at hgo
              have hkE : ∀ w'', w'.grownBy w'' (some g) → ∀ j, j < m → listed.getD j false = true → ∀ u, (Ks j).holds w' u → (Ks j).holds w'' u := by
                intro w'' hE j hjm hjl u hu
                rcases (hokj j hjm).2 with h1 | h1
                · exfalso
                  obtain ⟨j', h1, hjl⟩ := lastY_out hI.down h1 hjl
                  have hlast : j' = exs.getD (exs.length - 1) 0 := by
                    unfold lastX at h1
                    rw [List.getLast?_eq_getElem?, List.getElem?_eq_getElem (by omega)] at h1
                    rw [List.getD_eq_getElem?_getD, List.getElem?_eq_getElem (by omega)]
                    simp only [beq_iff_eq] at h1
                    exact h1.symm
                  rw [hlast, hqs _ (by omega)] at hjl
                  have : exs.length - 1 < c := by simpa using hjl
                  omega
                · exact Kd.keepX h1 hu hE
              have hcntE : ∀ w'', J (c + 1) w'' → ∃ c, c ≤ exs.length ∧ (∀ q, q < exs.length → (listed.setIfInBounds i true).getD (exs.getD q 0) false = decide (q < c)) ∧ J c w'' := by
                intro w'' hj2
                refine ⟨c + 1, by omega, fun p hp => ?_, hj2⟩
                rw [getD_set hsi]
                by_cases e : exs.getD p 0 = i
                · have hp2 := (hex' p hp).2.1
                  rw [e, hq2] at hp2
                  rw [if_pos e]
                  have : p < c + 1 := by omega
                  simp [this]
                · rw [if_neg e, hqs p hp]
                  have hpq : p ≠ q := fun h => e (by rw [h]; exact hqe)
                  by_cases hpc : p < c
                  · simp [hpc, Nat.lt_succ_of_lt hpc]
                  · have : ¬ p < c + 1 := by omega
                    simp [hpc, this]
              have hw : Region.wanted o (yielded ops a'.tmps) = true := by
                unfold Region.wanted
                cases hg : o.guard with
                | none => rfl
                | some gb =>
                  obtain ⟨g, b⟩ := gb
                  rw [hg] at hwk
                  unfold wantK at hwk
                  simp only at hwk
                  cases hdg : dstOf ops g with
                  | none => rw [hdg] at hwk; cases hwk
                  | some s =>
                    rw [hdg] at hwk
                    cases hlk : lookK (kz i) s with
                    | none => simp only [hlk] at hwk; cases hwk
                    | some K =>
                      simp only [hlk] at hwk
                      split at hwk
                      · rename_i hKe
                        injection hKe with hKe
                        subst hKe
                        rename_i c
                        obtain ⟨j, hj, hdj, hKj⟩ := hlook s _ hlk
                        obtain ⟨hong, hgi⟩ := hgd g b hg
                        obtain rfl := dst_injZ R (by omega) (by omega) hdj hdg
                        have hv := hI.val j s (by omega) (hon j hong) hdj
                        rw [← hKj] at hv
                        have hy : yielded ops a'.tmps j = some c := by
                          have hv' : a'.tmps.getD s undef = .bool c := hv
                          unfold yielded
                          unfold dstOf at hdj
                          rw [hdj]
                          rw [Array.getD_eq_getD_getElem?] at hv'
                          cases hx : a'.tmps[s]? with
                          | none => rw [hx] at hv'; exact absurd hv' (by simp [undef])
                          | some x =>
                            rw [hx] at hv'
                            simp only [Option.getD_some] at hv'
                            subst hv'
                            simp [hx]
                        simp only [hy]
                        injection hwk
                      · cases hwk
              simp only [hw, if_true]
              refine .inl ?_
              obtain ⟨b, hb, b1, b2, b3, b4⟩ := leanOn.out (a' := a') (hgo w' hI.ext hj) hI.size.symm (fun s K hs hK => by
                obtain ⟨j, hj, hdj, rfl⟩ := hlook s K hK
                obtain ⟨o2, ho2, hod2⟩ := dstOf_some hdj
                obtain ⟨s2, hs2, hsn, _⟩ := R.main j o2 (by omega) ho2
                rw [hod2] at hs2
                injection hs2 with hs2
                subst hs2
                obtain ⟨ha, _⟩ := hrd s (by simpa using hs) j (by omega) hdj
                exact ⟨by rw [hI.size]; exact hsn, hI.val j s (by omega) (hon j ha) hdj⟩)
              have heq : execOp a'.eval o = execOp b.eval o := by
                refine execOp_congr o (fun cs bb hc => by rw [hc] at hsel; cases hsel) fun x hx => ?_
                cases x with
                | tmp s =>
                  show a'.tmps.getD s undef = b.tmps.getD s undef
                  by_cases hks : ∃ K, lookK (kz i) s = some K
                  · obtain ⟨K, hK⟩ := hks
                    exact (b4 s ⟨K, hK, by simpa using hx⟩).symm
                  · have ho2 : ∀ j, j < m → dstOf ops j ≠ some s := by
                      intro j hj hdj
                      obtain ⟨_, hji⟩ := hrd s hx j hj hdj
                      obtain ⟨oj, hoj, hdoj⟩ := dstOf_some hdj
                      have := kz_all hall2 i (by omega) j oj s hji (hat j oj hj hoj) hdoj
                      cases hl : lookK (kz i) s with
                      | some K => exact hks ⟨K, hl⟩
                      | none => exact lookK_none hl _ this
                    have e0 := hI.other s ho2
                    rcases b3 s with e | e
                    · rw [e, e0]
                    · exact e.symm
                | const _ => rfl
                | global _ => rfl
                | func _ => rfl
              have hgoes := hb.out
              unfold Oper.wp
              rw [heq]
              generalize (execOp b.eval o).run P w' = r at hgoes
              cases r with
              | ok n w'' =>
                cases n <;> simp only [OpGoes] at hgoes <;> try exact hgoes.elim
                case value v => exact hnext v w'' hgoes.1 hgoes.2.1 (hkE _ hgoes.2.1) (hcntE _ hgoes.2.2)
                case enter f args =>
                  refine Calls.mono hgoes ?_
                  rintro e w3 ⟨v, rfl, hv, hb, hj3⟩
                  exact hnext v w3 hv hb (hkE _ hb) (hcntE _ hj3)
              | halt x w'' => exact hgoes.elim
            · have hw : Region.wanted o (yielded ops a'.tmps) = false := by
                unfold Region.wanted
                cases hg : o.guard with
                | none => rw [hg] at hwk; cases hwk
                | some gb =>
                  obtain ⟨g, b⟩ := gb
                  rw [hg] at hwk
                  unfold wantK at hwk
                  simp only at hwk
                  cases hdg : dstOf ops g with
                  | none => rw [hdg] at hwk; cases hwk
                  | some s =>
                    rw [hdg] at hwk
                    cases hlk : lookK (kz i) s with
                    | none => simp only [hlk] at hwk; cases hwk
                    | some K =>
                      simp only [hlk] at hwk
                      split at hwk
                      · rename_i hKe
                        injection hKe with hKe
                        subst hKe
                        rename_i c
                        obtain ⟨j, hj, hdj, hKj⟩ := hlook s _ hlk
                        obtain ⟨hong, hgi⟩ := hgd g b hg
                        obtain rfl := dst_injZ R (by omega) (by omega) hdj hdg
                        have hv := hI.val j s (by omega) (hon j hong) hdj
                        rw [← hKj] at hv
                        have hy : yielded ops a'.tmps j = some c := by
                          have hv' : a'.tmps.getD s undef = .bool c := hv
                          unfold yielded
                          unfold dstOf at hdj
                          rw [hdj]
                          rw [Array.getD_eq_getD_getElem?] at hv'
                          cases hx : a'.tmps[s]? with
                          | none => rw [hx] at hv'; exact absurd hv' (by simp [undef])
                          | some x =>
                            rw [hx] at hv'
                            simp only [Option.getD_some] at hv'
                            subst hv'
                            simp [hx]
                        simp only [hy]
                        injection hwk
                      · cases hwk
              simp only [hw]
              exact hnext _ _ (by rw [hskip]; rfl) (ext_refl _ _) (hkN _ (Below.refl _ _)) (hcntN hxx _ (Below.refl _ _))
  refine key ops.size _ a _ ⟨by simp, rfl, rfl, ext_below (Below.drew (Below.refl _ _)), ⟨0, Nat.zero_le _, fun q _ => by simp [Array.getD_eq_getD_getElem?, Array.getElem?_replicate]; split <;> simp, hJs 0 _ _ hJ0 (Below.drew (Below.refl _ _))⟩, fun _ _ => rfl, fun j t _ hj => ?_, fun i o _ hj => ?_⟩ ?_ ?_
  · exfalso
    revert hj
    simp only [Array.getD_eq_getD_getElem?, Array.getElem?_replicate]
    split <;> simp
  · exfalso
    revert hj
    simp only [Array.getD_eq_getD_getElem?, Array.getElem?_replicate]
    split <;> simp
  · intro i _ hi
    simp [Array.getD_eq_getD_getElem?, Array.getElem?_replicate, hi]
  · exact Nat.le_trans (List.length_filter_le _ _) (by simp)
end
set_option maxHeartbeats 4000000
set_option maxRecDepth 100000
def dL (d : Dgm) : List UInt8 := ([] ++ twos [d.src, d.dst, (8 + (d.dat.length : Int)) % 65536, 0]) ++ d.dat
def dZ (p : Pkt) (d : Dgm) : Int := if psum p 17 (dL d) = 0 then 65535 else psum p 17 (dL d)
def dS (p : Pkt) (d : Dgm) : List UInt8 := if d.bare then dL d else put16 (dL d) 6 (dZ p d)
def dbE (p : Pkt) (d : Dgm) : Int := wiE p (8 + d.dat.length)
def dbP (p : Pkt) (d : Dgm) : Pkt := withP p 17 (dS p d)
theorem dL_len (d : Dgm) : (dL d).length = 8 + d.dat.length := by simp [dL, twos, two]; omega
theorem dS_len (p : Pkt) (d : Dgm) : (dS p d).length = 8 + d.dat.length := by
  unfold dS; split
  · exact dL_len d
  · rw [put16_length, dL_len]
theorem sx_isNew {g B : Nat} {cs : Array Value} {t : TypeId} (hg : g < B) : ∀ w w' v, isNew B cs t w v → w.grownBy w' (some g) → isNew B cs t w' v := fun _ _ _ ⟨b, e, h, k⟩ hE => ⟨b, e, h, k.ext hE (by omega)⟩
theorem dbuild_any (p : Pkt) (hp : p.Ok) (X1 : Option Addr) (m1 j1 : Nat) (X2 : Option Addr) (m2 j2 : Nat) (s : Dgm) (hs : s.Ok) (DA : Option Addr) (dn dc : Nat) (w : World) (k1 : Bs w X1 m1 j1 p.opt) (kd : Bs w DA dn dc s.dat)
    (hdn : dn ≤ 140737488351232) : Calls Try.prog 20 #[(.agg #[.int .u8 (p).tos, .int .u16 (p).id, .bool (p).keep, .int .u8 (p).ttl, .int .u8 (p).proto, .int .u32 (p).src, .int .u32 (p).dst, .slice X1 m1 j1, .slice X2 m2 j2]), (.agg #[.int .u16 (s).src, .int .u16 (s).dst, .bool (s).bare, .slice DA dn dc])] w (WiPost w (dbP p s) (dbE p s)) := by
  obtain ⟨⟨a0, a1⟩, ⟨d0, d1⟩⟩ := hs
  have hTs : 75 ≠ 5 := by decide
  have h77 : 26 ≠ 5 := by decide
  have h78 : 37 ≠ 5 := by decide
  have ld := kd.len
  obtain ⟨z, hz⟩ : ∃ z : Int, (8 + (dn : Int)) % 65536 = z := ⟨_, rfl⟩
  have z0 : 0 ≤ z := by omega
  have z1 : z ≤ 65535 := by omega
  obtain ⟨y, hy⟩ : ∃ y : Int, 8 + (dn : Int) = y := ⟨_, rfl⟩
  have hw8 : IntKind.i64.wrap (8 + (dn : Int)) = y := by rw [IntKind.wrap_i64]; omega
  have hwy : IntKind.u16.wrap y = z := by rw [IntKind.wrap_u16]; omega
  have HL : Hid (([] ++ twos [s.src, s.dst, z, 0]) ++ s.dat = dL s) := by unfold Hid dL; rw [ld, hz]
  have HN : Hid ((dL s).length = 8 + dn) := by unfold Hid; rw [dL_len, ld]
  have HLD := Lib.hid ld
  have HY := Lib.hid hy
  clear ld hz hy
  obtain ⟨k, hk, w1, hw1, P1, S1, Z1, H1, R1⟩ := nwI4 w #[.int .u8 (p).tos, .int .u16 (p).id, .bool (p).keep, .int .u8 (p).ttl, .int .u8 (p).proto, .int .u32 (p).src, .int .u32 (p).dst, .slice X1 m1 j1, .slice X2 m2 j2] 26 #[.int .u16 (s).src, .int .u16 (s).dst, .bool (s).bare, .slice DA dn dc] 37 #[.int .u8 0, .int .u16 0, .bool false, .int .u8 0, .int .u8 0, .int .u32 0, .int .u32 0, .slice none 0 0, .slice none 0 0] 26 #[.slice none 0 0] 75
  have Pc1 := P1.cell
  have Sc1 := S1.cell
  have Zc1 := Z1.cell
  have Hc1 := H1.cell
  have Pl1 := P1.lt
  have Sl1 := S1.lt
  have Zl1 := Z1.lt
  have Hl1 := H1.lt
  go_enter Try.func20, Try.ntmps20
  obtain ⟨g2, hg2⟩ : ∃ g : Nat, w1.heap.size = g := ⟨_, rfl⟩
  obtain ⟨v1, hv1⟩ : ∃ W, w1.alloc (.cells #[.int .u16 s.src, .int .u16 s.dst, .int .u16 z, .int .u16 0] 22) = W := ⟨_, rfl⟩
  have G2 : Blk v1 g2 (u16s [s.src, s.dst, z, 0]) 22 := by rw [← hv1]; exact blk_new w1 _ _ _ hg2
  have Vv : Below w1.heap.size w1 v1 := by first | exact bw1 hv1 | exact bw2 hv1 | exact bw3 hv1 | exact bw4 hv1
  have hk1 : w.heap.size ≤ k := Nat.le_of_eq hk
  have hk2 : k ≤ w.heap.size := Nat.le_of_eq hk.symm
  have zs1 := Vv.size
  have rs1 := R1.size
  have h2 := htwo_any w.heap.size w.heap.size (k + 1 + 1 + 1) #[.slice none 0 0] 75 none 0 0 [] g2 4 4 [s.src, s.dst, z, 0] rfl (by omega) v1 (H1.below Vv) rfl (own_nil _ _ _) (by omega) G2 (by intro x hx; simp at hx; omega) hTs (by omega) (by omega) (Nat.le_refl _) (by omega) (by omega)
  go_wp2_with (go_at_call 45; ((with_reducible refine (h2).mono ?_); rintro e w2 hpost); (obtain ⟨rfl, A2, n2, c2, H2, O2, B2, K2⟩ := hpost.out); simp only [List.setIfInBounds_toArray, List.set_cons_zero] at H2)
  have u2 : n2 = 8 := by rw [← O2.len]; simp [twos, two]
  subst u2
  have R2 := (R1.trans (Vv.mono (by omega))).trans B2
  have P2 := K2 k _ _ h77 (by omega) (P1.below Vv)
  have S2 := K2 (k + 1) _ _ h78 (by omega) (S1.below Vv)
  have Z2 := K2 (k + 1 + 1) _ _ h77 (by omega) (Z1.below Vv)
  obtain ⟨ga, rfl, gb, gl⟩ := O2.ptr (by omega)
  have nP := O2.ne_blk P2 h77 ga rfl
  have nS := O2.ne_blk S2 h78 ga rfl
  have nZ := O2.ne_blk Z2 h77 ga rfl
  have nH := O2.ne_blk H2 hTs ga rfl
  obtain ⟨E, hE'⟩ : ∃ E, dbE p s = E := ⟨_, rfl⟩
  obtain ⟨P, hP⟩ : ∃ P, P = withP p 17 (dL s) := ⟨_, rfl⟩
  have hw2 := fun W A n c k1 k3 hb => swith_all p X1 m1 j1 X2 m2 j2 17 (([] ++ twos [s.src, s.dst, z, 0]) ++ s.dat) P E (by rw [HL.out, dL_len]; exact hE') (by rw [HL.out]; exact hP) w.heap.size A n c W k1 k3 hb
  have HE := Lib.hid hE'
  have HP := Lib.hid hP
  have rs2 := R2.size
  clear hE' hP H1 P1 S1 Z1 Pc1 Sc1 Zc1 Hc1 Pl1 Sl1 Zl1 Hl1 R1 rs1 zs1 Vv G2 hg2 hv1 hw1 hk hpost h2 B2 K2
  refine regionXZ 13 11 [7] ga (fun c W => match c with | 0 => Own W w.heap.size 5 (some ⟨ga, 0, none⟩) 8 c2 ([] ++ twos [s.src, s.dst, z, 0]) | _ + 1 => True) (by kernel_rfl) (by kernel_rfl) (fun _ _ _ _ _ h => h) (by kernel_rfl) (by kernel_rfl) O2 (fun c W W' hj hb => by cases c with | zero => exact Own.below hj hb | succ n => trivial) ?_; (iterate 13 (first | (apply ObsY.skip (by rfl) (by rfl)) | (apply ObsY.v (by rfl) (by rfl); (intro wo hE; (repeat (first | (intro v hv; ((first | (obtain ⟨A7, n7, c7, rfl, o7⟩ := hv) | (obtain ⟨D1, g1, h1', D2, g2', h2', rfl, o13, o14⟩ := hv)))) | (intro _ _ k; try have hcv := cv k))); (have pco := (P2.ext hE (Ne.symm nP)).cell; have sco := (S2.ext hE (Ne.symm nS)).cell; have hco := (H2.ext hE (Ne.symm nH)).cell; have Ro := below_ext R2 hE gb rs2; have xo := k1.below Ro; have yo := kd.below Ro; have hsz := hE.size); refine Goes.mk ?_; first | (exact goes_appX _ _ rfl rfl hj (fun k e => by simp [Value.ownBlock] at e; exact e.symm) rfl yo (by omega) (by omega) (fun _ => trivial)) | (go_simp; first | exact goes_v | (first | exact goes_tup (by assumption) (by assumption) | exact goes_pk (by assumption) (by assumption) | exact goes_new hsz) | (refine goes_enter ?_; first | (go_at_call 48; ((with_reducible refine (hw2 wo A7 n7 c7 xo o7 (by omega)).mono ?_); rintro e w9 ⟨D1, g1, h1', D2, g2', h2', rfl, o13, o14, hB9⟩); exact ret_tup (P := P) o13 o14 hB9))))) | (apply ObsY.p (q := isNew w2.heap.size #[.int .u8 0, .int .u16 0, .bool false, .int .u8 0, .int .u8 0, .int .u32 0, .int .u32 0, .slice none 0 0, .slice none 0 0] 26) (by rfl) (by rfl) st_isNew (sx_isNew gl); (intro wo hE; (repeat (first | (intro v hv; ((first | (obtain ⟨A7, n7, c7, rfl, o7⟩ := hv) | (obtain ⟨D1, g1, h1', D2, g2', h2', rfl, o13, o14⟩ := hv)))) | (intro _ _ k; try have hcv := cv k))); (have pco := (P2.ext hE (Ne.symm nP)).cell; have sco := (S2.ext hE (Ne.symm nS)).cell; have hco := (H2.ext hE (Ne.symm nH)).cell; have Ro := below_ext R2 hE gb rs2; have xo := k1.below Ro; have yo := kd.below Ro; have hsz := hE.size); refine Goes.mk ?_; first | (exact goes_appX _ _ rfl rfl hj (fun k e => by simp [Value.ownBlock] at e; exact e.symm) rfl yo (by omega) (by omega) (fun _ => trivial)) | (go_simp; first | exact goes_v | (first | exact goes_tup (by assumption) (by assumption) | exact goes_pk (by assumption) (by assumption) | exact goes_new hsz) | (refine goes_enter ?_; first | (go_at_call 48; ((with_reducible refine (hw2 wo A7 n7 c7 xo o7 (by omega)).mono ?_); rintro e w9 ⟨D1, g1, h1', D2, g2', h2', rfl, o13, o14, hB9⟩); exact ret_tup (P := P) o13 o14 hB9))))) | (apply ObsY.ev (by rfl) (by rfl); (intro wo hE hj; (repeat (first | (intro v hv; ((first | (obtain ⟨A7, n7, c7, rfl, o7⟩ := hv) | (obtain ⟨D1, g1, h1', D2, g2', h2', rfl, o13, o14⟩ := hv)))) | (intro _ _ k; try have hcv := cv k))); (have pco := (P2.ext hE (Ne.symm nP)).cell; have sco := (S2.ext hE (Ne.symm nS)).cell; have hco := (H2.ext hE (Ne.symm nH)).cell; have Ro := below_ext R2 hE gb rs2; have xo := k1.below Ro; have yo := kd.below Ro; have hsz := hE.size); refine GoesX.mk ?_; first | (exact goes_appX _ _ rfl rfl hj (fun k e => by simp [Value.ownBlock] at e; exact e.symm) rfl yo (by omega) (by omega) (fun _ => trivial)) | (go_simp; first | exact goes_v | (first | exact goes_tup (by assumption) (by assumption) | exact goes_pk (by assumption) (by assumption) | exact goes_new hsz) | (refine goes_enter ?_; first | (go_at_call 48; ((with_reducible refine (hw2 wo A7 n7 c7 xo o7 (by omega)).mono ?_); rintro e w9 ⟨D1, g1, h1', D2, g2', h2', rfl, o13, o14, hB9⟩); exact ret_tup (P := P) o13 o14 hB9))))) | (apply ObsY.ep (q := isW w.heap.size (([] ++ twos [s.src, s.dst, z, 0]) ++ s.dat)) (by rfl) (by rfl) (by rfl) st_isW; (intro wo hE hj; (repeat (first | (intro v hv; ((first | (obtain ⟨A7, n7, c7, rfl, o7⟩ := hv) | (obtain ⟨D1, g1, h1', D2, g2', h2', rfl, o13, o14⟩ := hv)))) | (intro _ _ k; try have hcv := cv k))); (have pco := (P2.ext hE (Ne.symm nP)).cell; have sco := (S2.ext hE (Ne.symm nS)).cell; have hco := (H2.ext hE (Ne.symm nH)).cell; have Ro := below_ext R2 hE gb rs2; have xo := k1.below Ro; have yo := kd.below Ro; have hsz := hE.size); refine GoesX.mk ?_; first | (exact goes_appX _ _ rfl rfl hj (fun k e => by simp [Value.ownBlock] at e; exact e.symm) rfl yo (by omega) (by omega) (fun _ => trivial)) | (go_simp; first | exact goes_v | (first | exact goes_tup (by assumption) (by assumption) | exact goes_pk (by assumption) (by assumption) | exact goes_new hsz) | (refine goes_enter ?_; first | (go_at_call 48; ((with_reducible refine (hw2 wo A7 n7 c7 xo o7 (by omega)).mono ?_); rintro e w9 ⟨D1, g1, h1', D2, g2', h2', rfl, o13, o14, hB9⟩); exact ret_tup (P := P) o13 o14 hB9))))) | (apply ObsY.ep (q := isTup w.heap.size P E) (by rfl) (by rfl) (by rfl) st_isTup; (intro wo hE hj; (repeat (first | (intro v hv; ((first | (obtain ⟨A7, n7, c7, rfl, o7⟩ := hv) | (obtain ⟨D1, g1, h1', D2, g2', h2', rfl, o13, o14⟩ := hv)))) | (intro _ _ k; try have hcv := cv k))); (have pco := (P2.ext hE (Ne.symm nP)).cell; have sco := (S2.ext hE (Ne.symm nS)).cell; have hco := (H2.ext hE (Ne.symm nH)).cell; have Ro := below_ext R2 hE gb rs2; have xo := k1.below Ro; have yo := kd.below Ro; have hsz := hE.size); refine GoesX.mk ?_; first | (exact goes_appX _ _ rfl rfl hj (fun k e => by simp [Value.ownBlock] at e; exact e.symm) rfl yo (by omega) (by omega) (fun _ => trivial)) | (go_simp; first | exact goes_v | (first | exact goes_tup (by assumption) (by assumption) | exact goes_pk (by assumption) (by assumption) | exact goes_new hsz) | (refine goes_enter ?_; first | (go_at_call 48; ((with_reducible refine (hw2 wo A7 n7 c7 xo o7 (by omega)).mono ?_); rintro e w9 ⟨D1, g1, h1', D2, g2', h2', rfl, o13, o14, hB9⟩); exact ret_tup (P := P) o13 o14 hB9))))) | (apply ObsY.ep (q := isPk w.heap.size P) (by rfl) (by rfl) (by rfl) st_isPk; (intro wo hE hj; (repeat (first | (intro v hv; ((first | (obtain ⟨A7, n7, c7, rfl, o7⟩ := hv) | (obtain ⟨D1, g1, h1', D2, g2', h2', rfl, o13, o14⟩ := hv)))) | (intro _ _ k; try have hcv := cv k))); (have pco := (P2.ext hE (Ne.symm nP)).cell; have sco := (S2.ext hE (Ne.symm nS)).cell; have hco := (H2.ext hE (Ne.symm nH)).cell; have Ro := below_ext R2 hE gb rs2; have xo := k1.below Ro; have yo := kd.below Ro; have hsz := hE.size); refine GoesX.mk ?_; first | (exact goes_appX _ _ rfl rfl hj (fun k e => by simp [Value.ownBlock] at e; exact e.symm) rfl yo (by omega) (by omega) (fun _ => trivial)) | (go_simp; first | exact goes_v | (first | exact goes_tup (by assumption) (by assumption) | exact goes_pk (by assumption) (by assumption) | exact goes_new hsz) | (refine goes_enter ?_; first | (go_at_call 48; ((with_reducible refine (hw2 wo A7 n7 c7 xo o7 (by omega)).mono ?_); rintro e w9 ⟨D1, g1, h1', D2, g2', h2', rfl, o13, o14, hB9⟩); exact ret_tup (P := P) o13 o14 hB9))))) | (apply ObsY.ep (q := isNew w2.heap.size #[.int .u8 0, .int .u16 0, .bool false, .int .u8 0, .int .u8 0, .int .u32 0, .int .u32 0, .slice none 0 0, .slice none 0 0] 26) (by rfl) (by rfl) (by rfl) st_isNew; (intro wo hE hj; (repeat (first | (intro v hv; ((first | (obtain ⟨A7, n7, c7, rfl, o7⟩ := hv) | (obtain ⟨D1, g1, h1', D2, g2', h2', rfl, o13, o14⟩ := hv)))) | (intro _ _ k; try have hcv := cv k))); (have pco := (P2.ext hE (Ne.symm nP)).cell; have sco := (S2.ext hE (Ne.symm nS)).cell; have hco := (H2.ext hE (Ne.symm nH)).cell; have Ro := below_ext R2 hE gb rs2; have xo := k1.below Ro; have yo := kd.below Ro; have hsz := hE.size); refine GoesX.mk ?_; first | (exact goes_appX _ _ rfl rfl hj (fun k e => by simp [Value.ownBlock] at e; exact e.symm) rfl yo (by omega) (by omega) (fun _ => trivial)) | (go_simp; first | exact goes_v | (first | exact goes_tup (by assumption) (by assumption) | exact goes_pk (by assumption) (by assumption) | exact goes_new hsz) | (refine goes_enter ?_; first | (go_at_call 48; ((with_reducible refine (hw2 wo A7 n7 c7 xo o7 (by omega)).mono ?_); rintro e w9 ⟨D1, g1, h1', D2, g2', h2', rfl, o13, o14, hB9⟩); exact ret_tup (P := P) o13 o14 hB9))))) | (apply ObsY.ap (q := isW w.heap.size (([] ++ twos [s.src, s.dst, z, 0]) ++ s.dat)) (by rfl) (by rfl) (by kernel_rfl) st_isW; (intro wo hE; (repeat (first | (intro v hv; ((first | (obtain ⟨A7, n7, c7, rfl, o7⟩ := hv) | (obtain ⟨D1, g1, h1', D2, g2', h2', rfl, o13, o14⟩ := hv)))) | (intro _ _ k; try have hcv := cv k))); (have pco := (P2.ext hE (Ne.symm nP)).cell; have sco := (S2.ext hE (Ne.symm nS)).cell; have hco := (H2.ext hE (Ne.symm nH)).cell; have Ro := below_ext R2 hE gb rs2; have xo := k1.below Ro; have yo := kd.below Ro; have hsz := hE.size); refine Goes.mk ?_; first | (exact goes_appX _ _ rfl rfl hj (fun k e => by simp [Value.ownBlock] at e; exact e.symm) rfl yo (by omega) (by omega) (fun _ => trivial)) | (go_simp; first | exact goes_v | (first | exact goes_tup (by assumption) (by assumption) | exact goes_pk (by assumption) (by assumption) | exact goes_new hsz) | (refine goes_enter ?_; first | (go_at_call 48; ((with_reducible refine (hw2 wo A7 n7 c7 xo o7 (by omega)).mono ?_); rintro e w9 ⟨D1, g1, h1', D2, g2', h2', rfl, o13, o14, hB9⟩); exact ret_tup (P := P) o13 o14 hB9))))) | (apply ObsY.ap (q := isTup w.heap.size P E) (by rfl) (by rfl) (by kernel_rfl) st_isTup; (intro wo hE; (repeat (first | (intro v hv; ((first | (obtain ⟨A7, n7, c7, rfl, o7⟩ := hv) | (obtain ⟨D1, g1, h1', D2, g2', h2', rfl, o13, o14⟩ := hv)))) | (intro _ _ k; try have hcv := cv k))); (have pco := (P2.ext hE (Ne.symm nP)).cell; have sco := (S2.ext hE (Ne.symm nS)).cell; have hco := (H2.ext hE (Ne.symm nH)).cell; have Ro := below_ext R2 hE gb rs2; have xo := k1.below Ro; have yo := kd.below Ro; have hsz := hE.size); refine Goes.mk ?_; first | (exact goes_appX _ _ rfl rfl hj (fun k e => by simp [Value.ownBlock] at e; exact e.symm) rfl yo (by omega) (by omega) (fun _ => trivial)) | (go_simp; first | exact goes_v | (first | exact goes_tup (by assumption) (by assumption) | exact goes_pk (by assumption) (by assumption) | exact goes_new hsz) | (refine goes_enter ?_; first | (go_at_call 48; ((with_reducible refine (hw2 wo A7 n7 c7 xo o7 (by omega)).mono ?_); rintro e w9 ⟨D1, g1, h1', D2, g2', h2', rfl, o13, o14, hB9⟩); exact ret_tup (P := P) o13 o14 hB9))))) | (apply ObsY.ap (q := isPk w.heap.size P) (by rfl) (by rfl) (by kernel_rfl) st_isPk; (intro wo hE; (repeat (first | (intro v hv; ((first | (obtain ⟨A7, n7, c7, rfl, o7⟩ := hv) | (obtain ⟨D1, g1, h1', D2, g2', h2', rfl, o13, o14⟩ := hv)))) | (intro _ _ k; try have hcv := cv k))); (have pco := (P2.ext hE (Ne.symm nP)).cell; have sco := (S2.ext hE (Ne.symm nS)).cell; have hco := (H2.ext hE (Ne.symm nH)).cell; have Ro := below_ext R2 hE gb rs2; have xo := k1.below Ro; have yo := kd.below Ro; have hsz := hE.size); refine Goes.mk ?_; first | (exact goes_appX _ _ rfl rfl hj (fun k e => by simp [Value.ownBlock] at e; exact e.symm) rfl yo (by omega) (by omega) (fun _ => trivial)) | (go_simp; first | exact goes_v | (first | exact goes_tup (by assumption) (by assumption) | exact goes_pk (by assumption) (by assumption) | exact goes_new hsz) | (refine goes_enter ?_; first | (go_at_call 48; ((with_reducible refine (hw2 wo A7 n7 c7 xo o7 (by omega)).mono ?_); rintro e w9 ⟨D1, g1, h1', D2, g2', h2', rfl, o13, o14, hB9⟩); exact ret_tup (P := P) o13 o14 hB9))))) | (apply ObsY.ap (q := isNew w2.heap.size #[.int .u8 0, .int .u16 0, .bool false, .int .u8 0, .int .u8 0, .int .u32 0, .int .u32 0, .slice none 0 0, .slice none 0 0] 26) (by rfl) (by rfl) (by kernel_rfl) st_isNew; (intro wo hE; (repeat (first | (intro v hv; ((first | (obtain ⟨A7, n7, c7, rfl, o7⟩ := hv) | (obtain ⟨D1, g1, h1', D2, g2', h2', rfl, o13, o14⟩ := hv)))) | (intro _ _ k; try have hcv := cv k))); (have pco := (P2.ext hE (Ne.symm nP)).cell; have sco := (S2.ext hE (Ne.symm nS)).cell; have hco := (H2.ext hE (Ne.symm nH)).cell; have Ro := below_ext R2 hE gb rs2; have xo := k1.below Ro; have yo := kd.below Ro; have hsz := hE.size); refine Goes.mk ?_; first | (exact goes_appX _ _ rfl rfl hj (fun k e => by simp [Value.ownBlock] at e; exact e.symm) rfl yo (by omega) (by omega) (fun _ => trivial)) | (go_simp; first | exact goes_v | (first | exact goes_tup (by assumption) (by assumption) | exact goes_pk (by assumption) (by assumption) | exact goes_new hsz) | (refine goes_enter ?_; first | (go_at_call 48; ((with_reducible refine (hw2 wo A7 n7 c7 xo o7 (by omega)).mono ?_); rintro e w9 ⟨D1, g1, h1', D2, g2', h2', rfl, o13, o14, hB9⟩); exact ret_tup (P := P) o13 o14 hB9))))))); refine ObsY.nil ?_; intro wz hEz hJz; simp only [finOn, List.drop_succ_cons, List.drop_zero, List.drop_nil]
  rintro v12 ⟨gq, rfl, hgq, Q⟩ v10 ⟨D1, g1, h1', D2, g2', h2', rfl, O13, O14⟩ v9 hv9 v8 hv8 v7 hv7
  go_simp
  clear hv9 hv8 hv7
  have Q7 := Q.cell
  have Z7 := Z2.ext hEz (Ne.symm nZ)
  have S7 := S2.ext hEz (Ne.symm nS)
  have R7 := below_ext R2 hEz gb rs2
  have qneZ : k + 1 + 1 ≠ gq := by have := Z2.lt; omega
  have qneS : k + 1 ≠ gq := by have := S2.lt; omega
  obtain ⟨wf, hwf, Sf⟩ := store9 Q (.int .u8 P.tos) (.int .u16 P.id) (.bool P.keep) (.int .u8 P.ttl) (.int .u8 P.proto) (.int .u32 P.src) (.int .u32 P.dst) (.slice D1 g1 h1') (.slice D2 g2' h2')
  have Qf := Sf.blk
  have Zf := Sf.other qneZ Z7
  have Sgf := Sf.other qneS S7
  have Of := Sf.own O13 (fun a e => O13.ne_blk Q h77 a.block (by rw [e]; rfl))
  have Df := Sf.own O14 (fun a e => O14.ne_blk Q h77 a.block (by rw [e]; rfl))
  have Rf := Sf.bel R7 (by omega)
  have qcf := Qf.cell
  have zcf := Zf.cell
  have scf := Sgf.cell
  clear Sf O13 O14
  by_cases hE0 : E = 0
  · subst hE0
    rcases Bool.eq_false_or_eq_true s.bare with hb | hb
    · have HPP : Hid (dbP p s = P) := by unfold Hid dbP dS; rw [hb, if_pos rfl]; exact HP.out.symm
      clear hw2
      go_wp2_with fail
      obtain ⟨wh, hwh, Sh⟩ := store9 Zf (.int .u8 P.tos) (.int .u16 P.id) (.bool P.keep) (.int .u8 P.ttl) (.int .u8 P.proto) (.int .u32 P.src) (.int .u32 P.dst) (.slice D1 g1 h1') (.slice D2 g2' h2')
      rw [hwh]
      have ph := Sh.blk.cell
      have Oh := Sh.own Of (fun a e => Of.ne_blk Zf h77 a.block (by rw [e]; rfl))
      have Dh := Sh.own Df (fun a e => Df.ne_blk Zf h77 a.block (by rw [e]; rfl))
      exact bodyPost_ret (v := .tuple #[(.agg #[.int .u8 (P).tos, .int .u16 (P).id, .bool (P).keep, .int .u8 (P).ttl, .int .u8 (P).proto, .int .u32 (P).src, .int .u32 (P).dst, .slice D1 g1 h1', .slice D2 g2' h2']), .int .i64 0]) (by simp [results, Try.results20, go_sem, ph]) rfl (by rw [HE.out, HPP.out]; exact ⟨⟨D1, g1, h1', D2, g2', h2', rfl, Oh, Dh, Sh.bel Rf (by omega)⟩⟩)
    · have hp1 : P = { p with proto := 17, dat := dL s } := by rw [HP.out]; unfold withP; rw [dL_len, show wiE p (8 + s.dat.length) = 0 from HE.out, if_pos rfl]
      have HPP : Hid (dbP p s = { p with proto := 17, dat := dS p s }) := by unfold Hid dbP withP; rw [dS_len, show wiE p (8 + s.dat.length) = 0 from HE.out, if_pos rfl]
      clear HP hw2
      subst hp1
      have hp' : ({ p with proto := 17, dat := dL s } : Pkt).Ok := by
        obtain ⟨e1, e2, e3, e4, e5, e6⟩ := hp
        exact ⟨e1, e2, e3, ⟨by show (0 : Int) ≤ 17; omega, by show (17 : Int) ≤ 255; omega⟩, e5, e6⟩
      have Dfb := Df.bs
      have g1b : g2' ≤ 140737488400000 := by
        have h1 := Df.len
        have h2 : (dL s).length = g2' := h1
        rw [HN.out] at h2
        omega
      obtain ⟨zz, hzz⟩ : ∃ z, psum p 17 (dL s) = z := ⟨_, rfl⟩
      have zz0 : 0 ≤ zz := by rw [← hzz]; exact csum_lo _
      have zz1 : zz ≤ 65535 := by rw [← hzz]; exact csum_hi _
      have hsum : ∀ W, Bs W D2 g2' h2' (dL s) → Calls Try.prog 51 #[(.agg #[.int .u8 ({ p with proto := 17, dat := dL s }).tos, .int .u16 ({ p with proto := 17, dat := dL s }).id, .bool ({ p with proto := 17, dat := dL s }).keep, .int .u8 ({ p with proto := 17, dat := dL s }).ttl, .int .u8 ({ p with proto := 17, dat := dL s }).proto, .int .u32 ({ p with proto := 17, dat := dL s }).src, .int .u32 ({ p with proto := 17, dat := dL s }).dst, .slice D1 g1 h1', .slice D2 g2' h2']), .int .u8 17, .slice D2 g2' h2'] W fun e w' => e = .returned (.int .u16 zz) ∧ Below W.heap.size W w' := fun W bo => by
        have := ssum_any { p with proto := 17, dat := dL s } hp' D1 g1 h1' D2 g2' h2' 17 (by omega) (by omega) D2 g2' h2' (dL s) W bo g1b
        rw [← hzz]
        exact this
      clear hp' hp
      by_cases hz0 : zz = 0
      · subst hz0
        have HS : Hid (put16 (dL s) 6 65535 = dS p s) := by unfold Hid dS dZ; rw [hb, hzz]; rfl
        clear hzz
        go_wp2_with (first
        | (go_at_call 51; ((with_reducible refine (hsum wf Dfb).mono ?_); rintro e w8 ⟨rfl, hB8⟩); have Q8 := Qf.below hB8; have Z8 := Zf.below hB8; have O8 := Of.below hB8; have D8b := Dfb.below hB8; have R8 := Rf.trans (hB8.mono Rf.size); have q8 := Q8.cell)
        | (go_at_call 50; ((with_reducible refine (put16_any D2 g2' h2' (dL s) 6 65535 (by omega) (by omega) w8 D8b).mono ?_); rintro e w9 ⟨A9, c9, rfl, O9, hB9⟩); rw [HS.out] at O9; have Q9 := Q8.below hB9; have q9 := Q9.cell; have Z9 := Z8.below hB9; have OP9 := O8.below hB9; have R9 := R8.trans (hB9.mono R8.size); have O9' := O9.mono R8.size; (obtain ⟨wg, hwg, Sg⟩ := store1 Q9 8 (.slice A9 g2' c9)); simp only [List.setIfInBounds_toArray, List.set_cons_zero, List.set_cons_succ] at Sg; have qg := Sg.blk.cell; have Zg := Sg.other qneZ Z9; have zg := Zg.cell; have Og := Sg.own OP9 (fun a e => OP9.ne_blk Q9 h77 a.block (by rw [e]; rfl)); have Dg := Sg.own O9' (fun a e => O9'.ne_blk Q9 h77 a.block (by rw [e]; rfl)); have Rg := Sg.bel R9 (by omega)))
        obtain ⟨wh, hwh, Sh⟩ := store9 Zg (.int .u8 p.tos) (.int .u16 p.id) (.bool p.keep) (.int .u8 p.ttl) (.int .u8 17) (.int .u32 p.src) (.int .u32 p.dst) (.slice D1 g1 h1') (.slice A9 g2' c9)
        rw [hwh]
        have ph := Sh.blk.cell
        have Oh := Sh.own Og (fun a e => Og.ne_blk Zg h77 a.block (by rw [e]; rfl))
        have Dh := Sh.own Dg (fun a e => Dg.ne_blk Zg h77 a.block (by rw [e]; rfl))
        exact bodyPost_ret (v := .tuple #[.agg #[.int .u8 p.tos, .int .u16 p.id, .bool p.keep, .int .u8 p.ttl, .int .u8 17, .int .u32 p.src, .int .u32 p.dst, .slice D1 g1 h1', .slice A9 g2' c9], .int .i64 0]) (by simp [results, Try.results20, go_sem, ph]) rfl (by rw [HE.out, HPP.out]; exact ⟨⟨D1, g1, h1', A9, g2', c9, rfl, Oh, Dh, Sh.bel Rg (by omega)⟩⟩)
      · have HS : Hid (put16 (dL s) 6 zz = dS p s) := by unfold Hid dS dZ; rw [hb, hzz, if_neg hz0]; rfl
        have z0b : (zz == 0) = false := by simpa using hz0
        clear hzz
        go_wp2_with (first
        | (go_at_call 51; ((with_reducible refine (hsum wf Dfb).mono ?_); rintro e w8 ⟨rfl, hB8⟩); have Q8 := Qf.below hB8; have Z8 := Zf.below hB8; have O8 := Of.below hB8; have D8b := Dfb.below hB8; have R8 := Rf.trans (hB8.mono Rf.size); have q8 := Q8.cell)
        | (go_at_call 50; ((with_reducible refine (put16_any D2 g2' h2' (dL s) 6 zz zz0 zz1 w8 D8b).mono ?_); rintro e w9 ⟨A9, c9, rfl, O9, hB9⟩); rw [HS.out] at O9; have Q9 := Q8.below hB9; have q9 := Q9.cell; have Z9 := Z8.below hB9; have OP9 := O8.below hB9; have R9 := R8.trans (hB9.mono R8.size); have O9' := O9.mono R8.size; (obtain ⟨wg, hwg, Sg⟩ := store1 Q9 8 (.slice A9 g2' c9)); simp only [List.setIfInBounds_toArray, List.set_cons_zero, List.set_cons_succ] at Sg; have qg := Sg.blk.cell; have Zg := Sg.other qneZ Z9; have zg := Zg.cell; have Og := Sg.own OP9 (fun a e => OP9.ne_blk Q9 h77 a.block (by rw [e]; rfl)); have Dg := Sg.own O9' (fun a e => O9'.ne_blk Q9 h77 a.block (by rw [e]; rfl)); have Rg := Sg.bel R9 (by omega)))
        obtain ⟨wh, hwh, Sh⟩ := store9 Zg (.int .u8 p.tos) (.int .u16 p.id) (.bool p.keep) (.int .u8 p.ttl) (.int .u8 17) (.int .u32 p.src) (.int .u32 p.dst) (.slice D1 g1 h1') (.slice A9 g2' c9)
        rw [hwh]
        have ph := Sh.blk.cell
        have Oh := Sh.own Og (fun a e => Og.ne_blk Zg h77 a.block (by rw [e]; rfl))
        have Dh := Sh.own Dg (fun a e => Dg.ne_blk Zg h77 a.block (by rw [e]; rfl))
        exact bodyPost_ret (v := .tuple #[.agg #[.int .u8 p.tos, .int .u16 p.id, .bool p.keep, .int .u8 p.ttl, .int .u8 17, .int .u32 p.src, .int .u32 p.dst, .slice D1 g1 h1', .slice A9 g2' c9], .int .i64 0]) (by simp [results, Try.results20, go_sem, ph]) rfl (by rw [HE.out, HPP.out]; exact ⟨⟨D1, g1, h1', A9, g2', c9, rfl, Oh, Dh, Sh.bel Rg (by omega)⟩⟩)
  · have HPP : Hid (dbP p s = P) := by
      have h1 : wiE p (8 + s.dat.length) ≠ 0 := by rw [show wiE p (8 + s.dat.length) = E from HE.out]; exact hE0
      unfold Hid dbP withP
      rw [dS_len, if_neg h1, HP.out]
      unfold withP
      rw [dL_len, if_neg h1]
    have e0 : (E == 0) = false := by simpa using hE0
    have e1 : decide (E = 0) = false := by simpa using hE0
    clear hw2
    go_wp2_with fail
    obtain ⟨wh, hwh, Sh⟩ := store9 Zf (.int .u8 P.tos) (.int .u16 P.id) (.bool P.keep) (.int .u8 P.ttl) (.int .u8 P.proto) (.int .u32 P.src) (.int .u32 P.dst) (.slice D1 g1 h1') (.slice D2 g2' h2')
    rw [hwh]
    have ph := Sh.blk.cell
    have Oh := Sh.own Of (fun a e => Of.ne_blk Zf h77 a.block (by rw [e]; rfl))
    have Dh := Sh.own Df (fun a e => Df.ne_blk Zf h77 a.block (by rw [e]; rfl))
    exact bodyPost_ret (v := .tuple #[(.agg #[.int .u8 (P).tos, .int .u16 (P).id, .bool (P).keep, .int .u8 (P).ttl, .int .u8 (P).proto, .int .u32 (P).src, .int .u32 (P).dst, .slice D1 g1 h1', .slice D2 g2' h2']), .int .i64 E]) (by simp [results, Try.results20, go_sem, ph]) rfl (by rw [HE.out, HPP.out]; exact ⟨⟨D1, g1, h1', D2, g2', h2', rfl, Oh, Dh, Sh.bel Rf (by omega)⟩⟩)
def s03 : Seg := ⟨1, 0, 0, 0, 0, 0, 0, [⟨1, []⟩, ⟨1, []⟩, ⟨5, [0, 0, 0, 1, 0, 0, 0, 2]⟩], []⟩
def p03 : Pkt := ⟨0, 0, false, 0, 6, 0, 0, [], [0, 1, 0, 0, 0, 0, 0, 0, 0, 0, 0, 0, 128, 0, 0, 0, 121, 202, 0, 0, 1, 1, 5, 10, 0, 0, 0, 1, 0, 0, 0, 2]⟩
theorem s03_ok : s03.Ok := ⟨by decide, by decide, by decide, by decide, by decide, by decide, by decide, fun o h => by
  simp only [s03, List.mem_cons, List.not_mem_nil, or_false] at h
  rcases h with rfl | rfl | rfl <;> exact ⟨by decide⟩⟩
theorem p03_ok : p03.Ok := ⟨by decide, by decide, by decide, by decide, by decide, by decide⟩
theorem OwnG.at1 {w : World} {base : Nat} {e : TypeId} {A : Option Addr} {n c : Nat} {xs : List Value} (h : OwnG w base e 1 A n c xs) (hn : 0 < n) : ∃ g, A = some ⟨g, 0, none⟩ ∧ n ≤ c ∧ ∀ j v, xs[j]? = some v → w.cell? ⟨g, j, none⟩ = some v := by
  rcases h.row.2 with ⟨hv, h0⟩ | ⟨g, cap, cur, hv, _, hg, hnc, hcm, hcs, htake⟩
  · injection hv with h1 h2 h3
    omega
  · injection hv with h1 h2 h3
    subst h1 h3
    refine ⟨g, rfl, hnc, fun q v hq => ?_⟩
    rw [cell_of_row w g q cur e (0, 0) hg]
    rw [← htake, List.getElem?_take] at hq
    split at hq
    · simpa using hq
    · cases hq
theorem live03_any (w : World) : Calls Try.prog 16 #[] w fun e w' => e = .returned (.bool true) ∧ Below w.heap.size w w' := by
  have cb : ∀ W OA, Os W OA 3 3 s03.opts → Calls Try.prog 18 #[.agg #[.int .u8 0, .int .u16 0, .bool false, .int .u8 0, .int .u8 0, .int .u32 0, .int .u32 0, .slice none 0 0, .slice none 0 0], .agg #[.int .u16 1, .int .u16 0, .int .u32 0, .int .u32 0, .int .u8 0, .int .u16 0, .int .u16 0, .slice OA 3 3, .slice none 0 0]] W fun e w' => ∃ B1 m1 d1 B2 d2, e = .returned (.tuple #[.agg #[.int .u8 0, .int .u16 0, .bool false, .int .u8 0, .int .u8 6, .int .u32 0, .int .u32 0, .slice B1 m1 d1, .slice B2 32 d2], .int .i64 0]) ∧ Own w' W.heap.size 5 B2 32 d2 p03.dat ∧ Below W.heap.size W w' := fun W OA K => by
    have hh := sbuild_any zP ⟨by decide, by decide, by decide, by decide, by decide, by decide⟩ none 0 0 none 0 0 s03 s03_ok OA 3 3 none 0 0 W (Bs.none_ _) K (Bs.none_ _) (by omega)
    refine hh.mono fun e w' hq => ?_
    obtain ⟨B1, m1, d1, B2, m2, d2, rfl, -, h2, h3⟩ := hq.out
    have e1 : sbP zP s03 = p03 := by kernel_rfl
    have e2 : sbE zP s03 = 0 := by kernel_rfl
    rw [e1] at h2 ⊢
    rw [e2]
    have h4 : m2 = 32 := h2.len.symm
    subst h4
    exact ⟨B1, m1, d1, B2, d2, rfl, h2, h3⟩
  have ct : ∀ W B1 m1 d1 B2 d2, Bs W B2 32 d2 p03.dat → Calls Try.prog 14 #[.agg #[.int .u8 0, .int .u16 0, .bool false, .int .u8 0, .int .u8 6, .int .u32 0, .int .u32 0, .slice B1 m1 d1, .slice B2 32 d2]] W fun e w' => ∃ OA oc DA dn dc, e = .returned (.tuple #[(.agg #[.int .u16 (s03).src, .int .u16 (s03).dst, .int .u32 (s03).seq, .int .u32 (s03).ack, .int .u8 (s03).flags, .int .u16 (s03).win, .int .u16 (s03).urg, .slice OA 3 oc, .slice DA dn dc]), .int .i64 0]) ∧ Os w' OA 3 oc s03.opts ∧ Below W.heap.size W w' := fun W B1 m1 d1 B2 d2 K => by
    have hh := tcp_any p03 p03_ok B1 m1 d1 B2 32 d2 W K (by omega)
    refine hh.mono fun e w' hq => ?_
    obtain ⟨OA, on, oc, DA, dn, dc, rfl, h1, -, -, h3⟩ := hq.out
    have e1 : tcS p03 = s03 := by kernel_rfl
    have e2 : tcE p03 = 0 := by kernel_rfl
    rw [e1] at h1 ⊢
    rw [e2]
    have h4 : on = 3 := h1.len.symm
    subst h4
    exact ⟨OA, oc, DA, dn, dc, rfl, h1.os (by omega) s03_ok.opts, h3⟩
  have cu : ∀ W, Calls Try.prog 20 #[.agg #[.int .u8 0, .int .u16 0, .bool false, .int .u8 0, .int .u8 0, .int .u32 0, .int .u32 0, .slice none 0 0, .slice none 0 0], .agg #[.int .u16 7, .int .u16 0, .bool false, .slice none 0 0]] W fun e w' => ∃ B1 m1 d1 B2 d2, e = .returned (.tuple #[.agg #[.int .u8 0, .int .u16 0, .bool false, .int .u8 0, .int .u8 17, .int .u32 0, .int .u32 0, .slice B1 m1 d1, .slice B2 8 d2], .int .i64 0]) ∧ Below W.heap.size W w' := fun W => by
    have hh := dbuild_any zP ⟨by decide, by decide, by decide, by decide, by decide, by decide⟩ none 0 0 none 0 0 ⟨7, 0, false, []⟩ ⟨by decide, by decide⟩ none 0 0 W (Bs.none_ _) (Bs.none_ _) (by omega)
    refine hh.mono fun e w' hq => ?_
    obtain ⟨B1, m1, d1, B2, m2, d2, rfl, -, h2, h3⟩ := hq.out
    have e1 : dbP zP ⟨7, 0, false, []⟩ = ⟨0, 0, false, 0, 17, 0, 0, [], dS zP ⟨7, 0, false, []⟩⟩ := by kernel_rfl
    have e2 : dbE zP ⟨7, 0, false, []⟩ = 0 := by kernel_rfl
    rw [e1] at h2 ⊢
    rw [e2]
    have h4 := h2.len
    rw [dS_len] at h4
    have h5 : m2 = 8 := by simpa using h4.symm
    subst h5
    exact ⟨B1, m1, d1, B2, d2, rfl, h3⟩
  have ck : ∀ W OA oc DA dn dc, Os W OA 3 oc s03.opts → Calls Try.prog 23 #[(.agg #[.int .u16 (s03).src, .int .u16 (s03).dst, .int .u32 (s03).seq, .int .u32 (s03).ack, .int .u8 (s03).flags, .int .u16 (s03).win, .int .u16 (s03).urg, .slice OA 3 oc, .slice DA dn dc])] W fun e w' => ∃ g c, e = .returned (.slice (some ⟨g, 0, none⟩) 2 c) ∧ w'.cell? ⟨g, 1, none⟩ = some (.int .u32 2) ∧ Below W.heap.size W w' := fun W OA oc DA dn dc K => by
    have hh := sacks_any s03 OA 3 oc DA dn dc W K
    refine hh.mono fun e w' hq => ?_
    obtain ⟨A, n, c, rfl, h1, h3⟩ := hq.out
    have e1 : sks s03 = [1, 2] := by kernel_rfl
    rw [e1] at h1
    have h4 : n = 2 := by have := h1.len; simp [u32L] at this; omega
    subst h4
    obtain ⟨g, rfl, _, hc⟩ := h1.at1 (by omega)
    exact ⟨g, c, rfl, hc 1 _ rfl, h3⟩
  obtain ⟨k, hk⟩ : ∃ k : Nat, w.heap.size = k := ⟨_, rfl⟩
  obtain ⟨w1, hw1⟩ : ∃ W, ((w.alloc (.cells #[.int .u8 0, .int .u8 0, .int .u8 0, .int .u8 1, .int .u8 0, .int .u8 0, .int .u8 0, .int .u8 2] 5)).alloc (.cells #[.int .u8 1, .slice none 0 0, .int .u8 1, .slice none 0 0, .int .u8 5, .slice (some ⟨k, 0, none⟩) 8 8] 66)) = W := ⟨_, rfl⟩
  have R1 : Below w.heap.size w w1 := by first | exact bw1 hw1 | exact bw2 hw1 | exact bw3 hw1 | exact bw4 hw1
  have K1 : Os w1 (some ⟨k + 1, 0, none⟩) 3 3 s03.opts := by
    have b0 : Blk w1 (k + 1) #[.int .u8 1, .slice none 0 0, .int .u8 1, .slice none 0 0, .int .u8 5, .slice (some ⟨k, 0, none⟩) 8 8] 66 := by rw [← hw1]; exact blk_new _ _ _ _ (by simp [hk])
    have b1 : Bs w1 (some ⟨k, 0, none⟩) 8 8 [0, 0, 0, 1, 0, 0, 0, 2] := by
      rw [← hw1]
      exact (bs_litk (W := w) [0, 0, 0, 1, 0, 0, 0, 2] 8 hk rfl (by omega)).alloc _
    have bc := b0.cell.1
    refine ⟨rfl, by omega, by omega, (fun h => by cases h), s03_ok.opts, fun _ => ⟨k + 1, 0, rfl, fun j hj => ?_⟩⟩
    have : j = 0 ∨ j = 1 ∨ j = 2 := by omega
    rcases this with rfl | rfl | rfl
    · exact ⟨bc 0, none, 0, 0, bc 1, Bs.none_ _⟩
    · exact ⟨bc 2, none, 0, 0, bc 3, Bs.none_ _⟩
    · exact ⟨bc 4, _, _, _, bc 5, b1⟩
  go_enter Try.func16, Try.ntmps16
  go_wp2_with (first
    | (go_at_call 18; ((with_reducible refine (cb w1 _ K1).mono ?_); rintro e u2 ⟨B1, m1, d1, B2, d2, rfl, O2, hB2⟩); (obtain ⟨w2, hw2, V2, kP2, hkP2, P2⟩ := nw1 u2 #[.int .u8 0, .int .u16 0, .bool false, .int .u8 0, .int .u8 6, .int .u32 0, .int .u32 0, .slice B1 m1 d1, .slice B2 32 d2] 26); have Pc2 := P2.cell; have T2 := below_then hB2 V2; have x2 := (O2.bs).below V2; have R2 := below_then R1 T2)
    | (go_at_call 14; ((with_reducible refine (ct w2 B1 m1 d1 B2 d2 x2).mono ?_); rintro e u3 ⟨OA, oc, DA, dn, dc, rfl, K3, hB3⟩); (obtain ⟨w3, hw3, V3, kS3, hkS3, S3⟩ := nw1 u3 #[.int .u16 (s03).src, .int .u16 (s03).dst, .int .u32 (s03).seq, .int .u32 (s03).ack, .int .u8 (s03).flags, .int .u16 (s03).win, .int .u16 (s03).urg, .slice OA 3 oc, .slice DA dn dc] 29); have Sc3 := S3.cell; have T3 := below_then hB3 V3; have P3 := P2.below T3; have Pc3 := P3.cell; clear Pc2; have x3 := x2.below T3; have R3 := below_then R2 T3; have K33 := K3.below V3)
    | (go_at_call 20; ((with_reducible refine (cu w3).mono ?_); rintro e u4 ⟨C1, e1, f1, C2, f2, rfl, hB4⟩); (obtain ⟨w4, hw4, V4, kD4, hkD4, D4⟩ := nw1 u4 #[.int .u8 0, .int .u16 0, .bool false, .int .u8 0, .int .u8 17, .int .u32 0, .int .u32 0, .slice C1 e1 f1, .slice C2 8 f2] 26); have Dc4 := D4.cell; have T4 := below_then hB4 V4; have P4 := P3.below T4; have Pc4 := P4.cell; clear Pc3; have S4 := S3.below T4; have Sc4 := S4.cell; clear Sc3; have x4 := x3.below T4; have R4 := below_then R3 T4; have K34 := K33.below T4)
    | (go_at_call 23; ((with_reducible refine (ck w4 OA oc DA dn dc K34).mono ?_); rintro e w5 ⟨g, c, rfl, hc5, hB5⟩); have P5 := P4.below hB5; have Pc5 := P5.cell; clear Pc4; have S5 := S4.below hB5; have Sc5 := S5.cell; clear Sc4; have D5 := D4.below hB5; have Dc5 := D5.cell; clear Dc4; have x5 := x4.below hB5; have R5 := below_then R4 hB5))
  go_ret
  exact ⟨rfl, R5⟩
structure BsX (w : World) (g z : Nat) (B : Option Addr) (m d : Nat) (l : List UInt8) : Prop where
  bs : Bs w B m d l
  far : 0 < m → ∀ a, B = some a → a.block ≠ g ∧ a.block ≠ z
section
variable {w w' : World} {g z : Nat} {B : Option Addr} {m d : Nat} {l : List UInt8}
theorem BsX.below (h : BsX w g z B m d l) (hb : Below w.heap.size w w') : BsX w' g z B m d l := ⟨h.bs.below hb, h.far⟩
theorem BsX.set_ (h : BsX w g z B m d l) (p : Addr) (hp : p.block = g ∨ p.block = z) (v : Value) : BsX (w.setCell p v) g z B m d l := by
  refine ⟨⟨h.bs.len, h.bs.cap, h.bs.max, h.bs.nil, fun hn => ?_⟩, h.far⟩
  obtain ⟨b, o, e, hc⟩ := h.bs.rd hn
  have hf := h.far hn ⟨b, o, none⟩ e
  exact ⟨b, o, e, fun j hj => (World.cell?_setCell_far w p ⟨b, o + j, none⟩ v (fun e2 => by
    rcases hp with hp | hp
    · exact hf.1 (e2.symm.trans hp)
    · exact hf.2 (e2.symm.trans hp))).trans (hc j hj)⟩
theorem BsX.sto {wf : World} {cs : Array Value} {t : TypeId} (h : BsX w g z B m d l) (hs : Sto w z wf cs t) : BsX wf g z B m d l := by
  refine ⟨⟨h.bs.len, h.bs.cap, h.bs.max, h.bs.nil, fun hn => ?_⟩, h.far⟩
  exact (hs.bs h.bs (fun a e => (h.far hn a e).2)).rd hn
theorem BsX.own {base : Nat} (h : Own w base 5 B m d l) (hg : g < base) (hz : z < base) : BsX w g z B m d l :=
  ⟨h.bs, fun _ a e => by have := h.ge a e; omega⟩
theorem BsX.old (h : Bs w B m d l) (hb : Below w.heap.size w w') (hg : w.heap.size ≤ g) (hz : w.heap.size ≤ z) : BsX w' g z B m d l :=
  ⟨h.below hb, fun hn a e => by
    obtain ⟨b, o, e', hc⟩ := h.rd hn
    have := World.block_lt_of_cell? w _ (hc 0 hn)
    rw [e'] at e
    injection e with e
    rw [← e]
    simp only at this ⊢
    omega⟩
end
structure Row (w0 w : World) (base : Nat) (A : Option Addr) (n c : Nat) (os : List Opt) : Prop where
  len : os.length = n
  cap : n ≤ c
  nil : A = none → c = 0
  rd : 0 < n → ∃ g cur, A = some ⟨g, 0, none⟩ ∧ base ≤ g ∧ Blk w g cur 66 ∧ ∀ j, j < n → cur[j * 2]? = some (.int .u8 (os.getD j zO).kind) ∧ ∃ B m d, cur[j * 2 + 1]? = some (.slice B m d) ∧ Bs w0 B m d (os.getD j zO).dat
theorem Row.none_ (w0 w : World) (base : Nat) : Row w0 w base none 0 0 [] := ⟨rfl, Nat.le_refl _, fun _ => rfl, fun h => by omega⟩
theorem Row.below {w0 w w' : World} {base : Nat} {A : Option Addr} {n c : Nat} {os : List Opt} (h : Row w0 w base A n c os) (hb : Below w.heap.size w w') : Row w0 w' base A n c os :=
  ⟨h.len, h.cap, h.nil, fun hn => by
    obtain ⟨g, cur, e, hg, hB, hj⟩ := h.rd hn
    exact ⟨g, cur, e, hg, hB.below hb, hj⟩⟩
theorem Row.mono {w0 w : World} {base b' : Nat} {A : Option Addr} {n c : Nat} {os : List Opt} (h : Row w0 w base A n c os) (hb : b' ≤ base) : Row w0 w b' A n c os :=
  ⟨h.len, h.cap, h.nil, fun hn => by
    obtain ⟨g, cur, e, hg, hB, hj⟩ := h.rd hn
    exact ⟨g, cur, e, by omega, hB, hj⟩⟩
theorem Row.sto {w0 w wf : World} {r base : Nat} {A : Option Addr} {n c : Nat} {os : List Opt} {cs : Array Value} {t : TypeId} (h : Row w0 w base A n c os) (hs : Sto w r wf cs t) (hr : r < base) : Row w0 wf base A n c os :=
  ⟨h.len, h.cap, h.nil, fun hn => by
    obtain ⟨g, cur, e, hg, hB, hj⟩ := h.rd hn
    exact ⟨g, cur, e, hg, hs.other (by omega) hB, hj⟩⟩
def isRow (w0 : World) (B n : Nat) (os : List Opt) : World → Value → Prop := fun W v => ∃ A c, v = .slice A n c ∧ Row w0 W B A n c os
theorem st_isRow {w0 : World} {B n : Nat} {os : List Opt} : ∀ w w' v, isRow w0 B n os w v → Below w.heap.size w w' → isRow w0 B n os w' v := fun _ _ _ ⟨A, c, e, k⟩ hb => ⟨A, c, e, k.below hb⟩
structure RowG (w : World) (g z : Nat) (cur : Array Value) (n : Nat) (os : List Opt) : Prop where
  blk : Blk w g cur 66
  at_ : ∀ j, j < n → cur[j * 2]? = some (.int .u8 (os.getD j zO).kind) ∧ ∃ B m d, cur[j * 2 + 1]? = some (.slice B m d) ∧ BsX w g z B m d (os.getD j zO).dat
theorem getD_set_opt {os : List Opt} {i : Nat} {v : Opt} (h : i < os.length) (j : Nat) : (os.set i v).getD j zO = if j = i then v else os.getD j zO := by
  simp only [List.getD_eq_getElem?_getD, List.getElem?_set]
  by_cases e : j = i
  · subst e; simp [h]
  · rw [if_neg (fun h => e h.symm), if_neg e]
theorem RowG.put {w : World} {g z : Nat} {cur : Array Value} {n : Nat} {os : List Opt} (h : RowG w g z cur n os) (hl : os.length = n) {i : Nat} (hi : i < n) {B : Option Addr} {m d : Nat} {l : List UInt8} (hB : BsX w g z B m d l) :
    RowG (w.setCell ⟨g, i * 2 + 1, none⟩ (.slice B m d)) g z (cur.setIfInBounds (i * 2 + 1) (.slice B m d)) n (os.set i ⟨(os.getD i zO).kind, l⟩) := by
  refine ⟨h.blk.set_ _ _, fun j hj => ?_⟩
  obtain ⟨h1, B', m', d', h2, h3⟩ := h.at_ j hj
  rw [getD_set_opt (by omega)]
  by_cases e : j = i
  · subst e
    rw [if_pos rfl]
    refine ⟨?_, B, m, d, ?_, hB.set_ _ (.inl rfl) _⟩
    · rw [Array.getElem?_setIfInBounds, if_neg (by omega)]; exact h1
    · rw [Array.getElem?_setIfInBounds, if_pos rfl, if_pos]
      exact (Array.getElem?_eq_some_iff.1 h2).1
  · rw [if_neg e]
    refine ⟨?_, B', m', d', ?_, h3.set_ _ (.inl rfl) _⟩
    · rw [Array.getElem?_setIfInBounds, if_neg (by omega)]; exact h1
    · rw [Array.getElem?_setIfInBounds, if_neg (by omega)]; exact h2
theorem opt_eta (o : Opt) : (⟨o.kind, o.dat⟩ : Opt) = o := rfl
theorem set_self_opt {os : List Opt} {i : Nat} (h : i < os.length) : os.set i ⟨(os.getD i zO).kind, (os.getD i zO).dat⟩ = os := by
  rw [opt_eta, show os.getD i zO = os[i] from by simp [List.getD_eq_getElem?_getD, List.getElem?_eq_getElem h], List.set_getElem_self]
theorem RowG.again {w : World} {g z : Nat} {cur : Array Value} {n : Nat} {os : List Opt} (h : RowG w g z cur n os) (hl : os.length = n) {i : Nat} (hi : i < n) {B : Option Addr} {m d : Nat} (hB : BsX w g z B m d (os.getD i zO).dat) :
    RowG (w.setCell ⟨g, i * 2 + 1, none⟩ (.slice B m d)) g z (cur.setIfInBounds (i * 2 + 1) (.slice B m d)) n os := by
  have h2 := h.put hl hi hB
  have e : os.set i ⟨(os.getD i zO).kind, (os.getD i zO).dat⟩ = os := by
    rw [opt_eta, show os.getD i zO = os[i] from by simp [List.getD_eq_getElem?_getD, List.getElem?_eq_getElem (show i < os.length by omega)], List.set_getElem_self]
  rw [e] at h2
  exact h2
theorem Row.g {w0 w : World} {base : Nat} {A : Option Addr} {n c : Nat} {os : List Opt} (h : Row w0 w base A n c os) (hn : 0 < n) (hB : Below w0.heap.size w0 w) {z : Nat} (hz : w0.heap.size ≤ z) (hb : w0.heap.size ≤ base) : ∃ g cur, A = some ⟨g, 0, none⟩ ∧ base ≤ g ∧ RowG w g z cur n os := by
  obtain ⟨g, cur, e, hg, hk, hj⟩ := h.rd hn
  refine ⟨g, cur, e, hg, hk, fun j hjn => ?_⟩
  obtain ⟨h1, B, m, d, h2, h3⟩ := hj j hjn
  exact ⟨h1, B, m, d, h2, BsX.old h3 hB (by omega) hz⟩
theorem RowG.below {w w' : World} {g z : Nat} {cur : Array Value} {n : Nat} {os : List Opt} (h : RowG w g z cur n os) (hb : Below w.heap.size w w') : RowG w' g z cur n os :=
  ⟨h.blk.below hb, fun j hj => by
    obtain ⟨h1, B, m, d, h2, h3⟩ := h.at_ j hj
    exact ⟨h1, B, m, d, h2, h3.below hb⟩⟩
theorem RowG.sto {w wf : World} {g z : Nat} {cur : Array Value} {n : Nat} {os : List Opt} {cs : Array Value} {t : TypeId} (h : RowG w g z cur n os) (hs : Sto w z wf cs t) (hz : g ≠ z) : RowG wf g z cur n os :=
  ⟨hs.other hz h.blk, fun j hj => by
    obtain ⟨h1, B, m, d, h2, h3⟩ := h.at_ j hj
    exact ⟨h1, B, m, d, h2, h3.sto hs⟩⟩
theorem RowG.os {w : World} {g z : Nat} {cur : Array Value} {n c : Nat} {os : List Opt} (h : RowG w g z cur n os) (hl : os.length = n) (hc : n ≤ c) (hn : n ≤ 4398046511104) (hok : ∀ o ∈ os, o.Ok) : Os w (some ⟨g, 0, none⟩) n c os :=
  ⟨hl, hc, hn, (fun e => by cases e), hok, fun h0 => by
    have hc := h.blk.cell.1
    refine ⟨g, 0, rfl, fun j hjn => ?_⟩
    obtain ⟨h1, B, m, d, h2, h3⟩ := h.at_ j hjn
    rw [Nat.zero_add]
    exact ⟨(hc _).trans h1, B, m, d, (hc _).trans h2, h3.bs⟩⟩
theorem Own.notRow {w : World} {base g z : Nat} {B : Option Addr} {m d : Nat} {l : List UInt8} {cur : Array Value} (h : Own w base 5 B m d l) (hG : Blk w g cur 66) (hz : z < base) : BsX w g z B m d l :=
  ⟨h.bs, fun _ a e => ⟨fun hag => by
    subst e
    rcases h.row.2 with ⟨hv, _⟩ | ⟨g2, cap2, cur2, hv, _, hg2, _⟩
    · injection hv with hv; cases hv
    · injection hv with hv
      injection hv with hv
      subst hv
      simp only at hag
      subst hag
      have := hg2.symm.trans hG.rd
      simp only [Option.some.injEq, Obj.cells.injEq] at this
      exact absurd this.2.1 (by decide), by have := h.ge a e; omega⟩⟩
theorem Os.cells_ {w : World} {b off n c : Nat} {os : List Opt} (h : Os w (some ⟨b, off, none⟩) n c os) : ∃ xs : List Value, xs.length = n * 2 ∧ (∀ (q : Nat) u, xs[q]? = some u → w.cell? ((⟨b, off, none⟩ : Addr).add q) = some u) ∧ (∀ u ∈ xs, u.oneCell' = true) ∧
    ∀ j, j < n → xs[j * 2]? = some (.int .u8 (os.getD j zO).kind) ∧ ∃ B m d, xs[j * 2 + 1]? = some (.slice B m d) ∧ Bs w B m d (os.getD j zO).dat := by
  by_cases h0 : n = 0
  · subst h0
    exact ⟨[], rfl, fun q u h => by simp at h, (fun u h => by cases h), fun j hj => by omega⟩
  obtain ⟨b', off', e, hc⟩ := h.rd (by omega)
  injection e with e
  injection e with e1 e2 e3
  subst e1 e2
  have H : ∀ q, q < n * 2 → ∃ v, w.cell? ⟨b, off + q, none⟩ = some v ∧ v.oneCell' = true := fun q hq => by
    obtain ⟨h1, B, m, d, h2, h3⟩ := hc (q / 2) (by omega)
    rcases Nat.mod_two_eq_zero_or_one q with hm | hm
    · exact ⟨_, by rw [show off + q = off + q / 2 * 2 from by omega]; exact h1, rfl⟩
    · exact ⟨_, by rw [show off + q = off + q / 2 * 2 + 1 from by omega]; exact h2, rfl⟩
  obtain ⟨f, hf⟩ : ∃ f : Nat → Value, f = fun q => (w.cell? ⟨b, off + q, none⟩).getD (.int .u8 0) := ⟨_, rfl⟩
  have Hf : ∀ q, q < n * 2 → w.cell? ⟨b, off + q, none⟩ = some (f q) ∧ (f q).oneCell' = true := fun q hq => by
    obtain ⟨v, h1, h2⟩ := H q hq
    have : f q = v := by rw [hf]; simp only; rw [h1]; rfl
    rw [this]
    exact ⟨h1, h2⟩
  have hx : ∀ q u, ((List.range (n * 2)).map f)[q]? = some u ↔ q < n * 2 ∧ f q = u := fun q u => by
    rw [List.getElem?_map]
    by_cases hq : q < n * 2
    · rw [List.getElem?_range hq]; simp [hq]
    · rw [List.getElem?_eq_none (by simp; omega)]; simp [hq]
  refine ⟨(List.range (n * 2)).map f, by simp, fun q u hu => ?_, fun u hu => ?_, fun j hj => ?_⟩
  · obtain ⟨h1, h2⟩ := (hx q u).1 hu
    have e : ((⟨b, off, none⟩ : Addr).add q) = ⟨b, off + q, none⟩ := by cases q <;> simp [Addr.add]
    rw [e, ← h2]
    exact (Hf q h1).1
  · obtain ⟨q, hq, rfl⟩ := List.mem_map.1 hu
    exact (Hf q (by simpa using hq)).2
  · obtain ⟨h1, B, m, d, h2, h3⟩ := hc j hj
    refine ⟨(hx _ _).2 ⟨by omega, ?_⟩, B, m, d, (hx _ _).2 ⟨by omega, ?_⟩, h3⟩
    · rw [hf]; simp only; rw [h1]; rfl
    · rw [hf]; simp only; rw [show off + (j * 2 + 1) = off + j * 2 + 1 from rfl, h2]; rfl
theorem ownG_lit (w : World) (t : TypeId) (s : Nat) : OwnG (w.alloc (.cells #[] t)) w.heap.size t s (some ⟨w.heap.size, 0, none⟩) 0 0 [] :=
  ⟨by simp, .inr ⟨w.heap.size, 0, #[], rfl, Nat.le_refl _, (Go.MapKept.heap_alloc w _).1, Nat.le_refl _, by simp [maxLen], by simp, by simp⟩⟩
theorem OwnG.row_ {w0 w w' : World} {A : Option Addr} {n c : Nat} {os : List Opt} {xs : List Value} (h : OwnG w' w.heap.size 66 2 A n c xs) (hl : os.length = n)
    (hx : ∀ j, j < n → xs[j * 2]? = some (.int .u8 (os.getD j zO).kind) ∧ ∃ B m d, xs[j * 2 + 1]? = some (.slice B m d) ∧ Bs w0 B m d (os.getD j zO).dat) : Row w0 w' w.heap.size A n c os := by
  rcases h.row.2 with ⟨hv, h0⟩ | ⟨g, cap, cur, hv, hg, hh, hnc, hcm, hcs, htake⟩
  · injection hv with h1 h2 h3
    subst h1 h2 h3
    exact ⟨hl, Nat.le_refl _, fun _ => rfl, fun h => by omega⟩
  · injection hv with h1 h2 h3
    subst h1 h3
    have hc : ∀ q v, xs[q]? = some v → cur[q]? = some v := fun q v hq => by
      rw [← htake, List.getElem?_take] at hq
      split at hq
      · simpa using hq
      · cases hq
    refine ⟨hl, hnc, (fun e => by cases e), fun _ => ⟨g, cur, rfl, hg, ⟨hh⟩, fun j hj => ?_⟩⟩
    obtain ⟨h1, B, m, d, h2, h3⟩ := hx j hj
    exact ⟨hc _ _ h1, B, m, d, hc _ _ h2, h3⟩
theorem info_optn : (Try.prog.info? 66).map (fun i => (i.zero, i.size, i.bytes)) = some (some (.agg #[.int .u8 0, .slice none 0 0]), 2, 32) := by kernel_rfl
theorem clonO_any (A : Option Addr) (n c : Nat) (os : List Opt) (w0 w : World) (K : Os w0 A n c os) (hB0 : Below w0.heap.size w0 w) (h50 : n ≤ 50) :
    Calls Try.prog 59 #[.slice A n c] w fun e w' => ∃ A' c', e = .returned (.slice A' n c') ∧ Row w0 w' w.heap.size A' n c' os ∧ Below w.heap.size w w' := by
  have hnil := fun W => Lib.run_eql_slice_nil (P := Try.prog) W 27 66 A n c 0 0 Try.underlying27
  cases A with
  | none =>
    have h0 := K.nil rfl
    have h1 := K.cap
    obtain rfl : c = 0 := h0
    obtain rfl : n = 0 := by omega
    obtain rfl : os = [] := List.eq_nil_of_length_eq_zero K.len
    go_enter Try.func59, Try.ntmps59
    go_wp2_with fail
    go_ret
    exact ⟨none, 0, rfl, Row.none_ _ _ _, Below.refl _ _⟩
  | some ad =>
    have mx := K.max
    have hl := K.len
    obtain ⟨b, off, s⟩ := ad
    have hs : 0 < n → s = none := fun hn => by
      obtain ⟨b', o', e, -⟩ := K.rd hn
      injection e with e
      injection e
    obtain ⟨ii, hi, hz, hs', hb'⟩ := info_parts info_optn
    have hcells : ∃ xs : List Value, xs.length = n * 2 ∧ (∀ (q : Nat) u, xs[q]? = some u → w0.cell? ((⟨b, off, s⟩ : Addr).add q) = some u) ∧ (∀ u ∈ xs, u.oneCell' = true) ∧
        ∀ j, j < n → xs[j * 2]? = some (.int .u8 (os.getD j zO).kind) ∧ ∃ B m d, xs[j * 2 + 1]? = some (.slice B m d) ∧ Bs w0 B m d (os.getD j zO).dat := by
      by_cases h0 : n = 0
      · subst h0
        exact ⟨[], rfl, fun q u h => by simp at h, (fun u h => by cases h), fun j hj => by omega⟩
      · have := hs (by omega)
        subst this
        exact K.cells_
    obtain ⟨xs, x1, x2, x3, x4⟩ := hcells
    have x2' : ∀ (q : Nat) u, xs[q]? = some u → w.cell? ((⟨b, off, s⟩ : Addr).add q) = some u := fun q u h => (hB0.cell (World.block_lt_of_cell? w0 _ (x2 q u h))).trans (x2 q u h)
    go_enter Try.func59, Try.ntmps59
    go_wp2_with (at_builtin; refine wpList_appG (w0 := w) _ rfl _ _ _ rfl w.heap.size 66 ii (.agg #[.int .u8 0, .slice none 0 0]) 2 32 Try.underlying27 hi hz hs' hb' rfl (by omega) (by omega) (some ⟨w.heap.size, 0, none⟩) 0 0 [] rfl (ownG_lit w _ 2) ⟨b, off, s⟩ n c xs rfl x1 (fun q u h => (Below.cell ((Below.refl _ w).alloc (Nat.le_refl _) _) (World.block_lt_of_cell? w _ (x2' q u h))).trans (x2' q u h)) x3 ((Below.refl _ w).alloc (Nat.le_refl _) _) (by omega) (by simp) ?_; intro A4 c4 w4 O4 hB4 _ hz4)
    rw [Nat.zero_add] at *
    go_ret
    exact ⟨A4, c4, rfl, OwnG.row_ (by simpa using O4) hl x4, hB4⟩
def putN (d : List UInt8) (es : List Int) : Nat → List UInt8
  | 0 => d
  | k + 1 => put32 (putN d es k) ((4 * k : Nat) : Int) (es.getD k 0)
def wsD (d : List UInt8) (es : List Int) : List UInt8 := putN d es (min es.length 8)
def wsO (os : List Opt) (es : List Int) : List Opt := if skI os < 0 then os else os.set (skI os).toNat ⟨(os.getD (skI os).toNat zO).kind, wsD (os.getD (skI os).toNat zO).dat es⟩
def wsS (s : Seg) (es : List Int) : Seg := { s with opts := wsO s.opts es }
theorem putN_len (d : List UInt8) (es : List Int) (k : Nat) : (putN d es k).length = d.length := by
  induction k with
  | zero => rfl
  | succ k ih => unfold putN; rw [put32_length, ih]
theorem wsD_len (d : List UInt8) (es : List Int) : (wsD d es).length = d.length := putN_len _ _ _
theorem put32_out {l : List UInt8} {k : Nat} {v : Int} (h : l.length < k + 4) : put32 l k v = l := if_neg (by omega)
theorem putN_end {d : List UInt8} {es : List Int} {a : Nat} (h : d.length ≤ 4 * a) : ∀ k, a ≤ k → putN d es k = putN d es a := by
  intro k hk
  induction k with
  | zero => obtain rfl : a = 0 := by omega
            rfl
  | succ k ih =>
    by_cases e : a = k + 1
    · rw [e]
    · conv => lhs; unfold putN
      rw [put32_out (by rw [putN_len]; omega)]
      exact ih (by omega)
theorem get32_far {l : List UInt8} {a b : Nat} {v : Int} (h : a + 4 ≤ l.length) (hf : a + 4 ≤ b ∨ b + 4 ≤ a) : get32 (put32 l b v) a = get32 l a := by
  by_cases hb : b + 4 ≤ l.length
  · have e : ∀ j, a ≤ j → j < a + 4 → bt (put32 l b v) j = bt l j := fun j h1 h2 => bt_put32 hb j (by omega)
    have lp : (put32 l b v).length = l.length := put32_length _ _ _
    rw [get32_in (by omega) (by omega), get32_in (by omega) (by omega), get16_in (l := put32 l b v) (by omega) (by omega), get16_in (l := put32 l b v) (by omega) (by omega), get16_in (l := l) (by omega) (by omega), get16_in (l := l) (by omega) (by omega)]
    rw [show ((a : Int)).toNat = a from by omega, show ((a : Int) + 2).toNat = a + 2 from by omega, e a (by omega) (by omega), e (a + 1) (by omega) (by omega), e (a + 2) (by omega) (by omega), e (a + 2 + 1) (by omega) (by omega)]
  · rw [put32_out (by omega)]
theorem putN_far {d : List UInt8} {es : List Int} {i : Nat} (h : 4 * i + 4 ≤ d.length) : ∀ k, k ≤ i → get32 (putN d es k) ((4 * i : Nat) : Int) = get32 d ((4 * i : Nat) : Int) := by
  intro k hk
  induction k with
  | zero => rfl
  | succ k ih => unfold putN; rw [get32_far (by rw [putN_len]; exact h) (by omega), ih (by omega)]
theorem putN_at {d : List UInt8} {es : List Int} (hes : ∀ x ∈ es, 0 ≤ x ∧ x ≤ 4294967295) {i : Nat} (h : 4 * i + 4 ≤ d.length) : ∀ k, i < k → k ≤ es.length → get32 (putN d es k) ((4 * i : Nat) : Int) = es.getD i 0 := by
  intro k hk hl
  induction k with
  | zero => omega
  | succ k ih =>
    unfold putN
    by_cases e : i = k
    · subst e
      have hx := hes (es.getD i 0) (by rw [List.getD_eq_getElem?_getD, List.getElem?_eq_getElem (by omega)]; exact List.getElem_mem _)
      rw [get32_put32 hx.1 hx.2 (by rw [putN_len]; exact h)]
    · rw [get32_far (by rw [putN_len]; exact h) (by omega), ih (by omega) (by omega)]
theorem put16_same {l : List UInt8} {k : Nat} (h : k + 2 ≤ l.length) : put16 l k (get16 l k) = l := by
  rw [put16_eq h]
  have e := get16_in (l := l) (a := (k : Int)) (by omega) (by omega)
  rw [show ((k : Int)).toNat = k from by omega] at e
  have b0 := bt_lo l k
  have b1 := bt_hi l k
  have c0 := bt_lo l (k + 1)
  have c1 := bt_hi l (k + 1)
  have f : ∀ j (hj : j < l.length) (v : Int), v % 256 = bt l j → ub v = l[j] := fun j hj v hv => by
    have : ((ub v).toNat : Int) = (l[j].toNat : Int) := by
      rw [ub_val, hv]; unfold bt; simp [List.getD_eq_getElem?_getD, List.getElem?_eq_getElem hj]
    exact UInt8.toNat_inj.1 (by omega)
  rw [f k (by omega) _ (by rw [e]; omega), List.set_getElem_self, f (k + 1) (by omega) _ (by rw [e]; omega), List.set_getElem_self]
theorem put32_same {l : List UInt8} {k : Nat} (h : k + 4 ≤ l.length) : put32 l k (get32 l k) = l := by
  have g0 := get16_lo l (k : Int)
  have g1 := get16_hi l (k : Int)
  have g2 := get16_lo l ((k : Int) + 2)
  have g3 := get16_hi l ((k : Int) + 2)
  rw [put32_two h, get32_in (by omega) (by omega), show (get16 l (k : Int) * 65536 + get16 l ((k : Int) + 2)) / 65536 = get16 l (k : Int) from by omega, show (get16 l (k : Int) * 65536 + get16 l ((k : Int) + 2)) % 65536 = get16 l ((k : Int) + 2) from by omega, put16_same (by omega), show ((k : Int) + 2) = ((k + 2 : Nat) : Int) from by omega, put16_same (by omega)]
theorem edg_len (d : List UInt8) (k : Nat) : (edg d k).length = k := by unfold edg; simp
theorem edg_at (d : List UInt8) {k i : Nat} (h : i < k) : (edg d k).getD i 0 = get32 d ((4 * i : Nat) : Int) := by
  unfold edg
  simp [List.getD_eq_getElem?_getD, h]
theorem putN_self {d : List UInt8} {K : Nat} (hK : 4 * K ≤ d.length) : ∀ k, k ≤ K → putN d (edg d K) k = d := by
  intro k hk
  induction k with
  | zero => rfl
  | succ k ih => unfold putN; rw [ih (by omega), edg_at d (by omega), put32_same (by omega)]
theorem isSk_dat {o p : Opt} (hk : o.kind = p.kind) (hd : o.dat.length = p.dat.length) : isSk o = isSk p := by unfold isSk; rw [hk, hd]
theorem isSk_len {o : Opt} (h : isSk o = true) : 0 < o.dat.length ∧ o.dat.length ≤ 32 ∧ o.dat.length % 8 = 0 := by
  unfold isSk at h
  simp only [Bool.and_eq_true, decide_eq_true_eq, beq_iff_eq] at h
  omega
theorem set_getD {os : List Opt} {j : Nat} {v : Opt} (h : j < os.length) (i : Nat) : (os.set j v).getD i zO = if i = j then v else os.getD i zO := by
  simp only [List.getD_eq_getElem?_getD, List.getElem?_set]
  by_cases e : i = j
  · subst e; simp [h]
  · rw [if_neg (fun h => e h.symm), if_neg e]
theorem skI_before {os : List Opt} {j : Nat} (hk : skI os = (j : Nat)) : ∀ i, i < j → isSk (os.getD i zO) = false := by
  intro i hi
  unfold skI at hk
  cases h : os.findIdx? isSk with
  | none => rw [h] at hk; simp at hk
  | some q =>
    rw [h] at hk
    simp only [Int.natCast_inj] at hk
    subst hk
    obtain ⟨h1, h2, h3⟩ := List.findIdx?_eq_some_iff_getElem.1 h
    have := h3 i hi
    simpa [List.getD_eq_getElem?_getD, List.getElem?_eq_getElem (show i < os.length by omega)] using this
theorem wsO_len (os : List Opt) (es : List Int) : (wsO os es).length = os.length := by
  unfold wsO; split <;> simp
theorem skI_ws (os : List Opt) (es : List Int) : skI (wsO os es) = skI os := by
  rcases skI_cases os with h | ⟨j, hj, hk, hs⟩
  · unfold wsO; rw [h, if_pos (by omega), h]
  · have e : wsO os es = os.set j ⟨(os.getD j zO).kind, wsD (os.getD j zO).dat es⟩ := by unfold wsO; rw [hk, if_neg (by omega)]; rfl
    rw [e, hk]
    refine skI_at (by rw [List.length_set]; exact hj) ?_ fun i hi => ?_
    · rw [set_getD hj, if_pos rfl, ← hs]; exact isSk_dat rfl (wsD_len _ _)
    · rw [set_getD hj, if_neg (by omega)]; exact skI_before hk i hi
theorem wsO_self (s : Seg) : wsS s (sks s) = s := by
  unfold wsS
  have : wsO s.opts (sks s) = s.opts := by
    rcases skI_cases s.opts with h | ⟨j, hj, hk, hs⟩
    · unfold wsO; rw [h, if_pos (by omega)]
    · unfold wsO sks
      rw [hk, if_neg (by omega), show ((j : Nat) : Int).toNat = j from rfl]
      obtain ⟨h1, h2, h3⟩ := isSk_len hs
      have : wsD (s.opts.getD j zO).dat (edg (s.opts.getD j zO).dat ((s.opts.getD j zO).dat.length / 4)) = (s.opts.getD j zO).dat := by
        unfold wsD
        exact putN_self (by omega) _ (by rw [edg_len]; omega)
      rw [if_neg (by omega), this, show (Opt.mk (s.opts.getD j zO).kind (s.opts.getD j zO).dat) = s.opts[j] from by simp [List.getD_eq_getElem?_getD, List.getElem?_eq_getElem hj], List.set_getElem_self]
  rw [this]
theorem sks_len (s : Seg) : (sks s).length ≤ 8 := by
  rcases skI_cases s.opts with h | ⟨j, hj, hk, hs⟩
  · unfold sks; rw [h, if_pos (by omega)]; simp
  · unfold sks
    rw [hk, if_neg (by omega), show ((j : Nat) : Int).toNat = j from rfl, edg_len]
    have := isSk_len hs
    omega
theorem sks_ws (s : Seg) (es : List Int) (hes : ∀ x ∈ es, 0 ≤ x ∧ x ≤ 4294967295) : (sks (wsS s es)).length = (sks s).length ∧ ∀ i, i < (sks s).length → (sks (wsS s es)).getD i 0 = if i < es.length then es.getD i 0 else (sks s).getD i 0 := by
  have e0 : (wsS s es).opts = wsO s.opts es := rfl
  rcases skI_cases s.opts with h | ⟨j, hj, hk, hs⟩
  · unfold sks
    rw [e0, skI_ws, h, if_pos (by omega), if_pos (by omega)]
    exact ⟨rfl, fun i hi => absurd hi (by simp)⟩
  · obtain ⟨h1, h2, h3⟩ := isSk_len hs
    have e : wsO s.opts es = s.opts.set j ⟨(s.opts.getD j zO).kind, wsD (s.opts.getD j zO).dat es⟩ := by unfold wsO; rw [hk, if_neg (by omega)]; rfl
    have g : (wsO s.opts es).getD j zO = ⟨(s.opts.getD j zO).kind, wsD (s.opts.getD j zO).dat es⟩ := by rw [e, set_getD hj, if_pos rfl]
    have q1 : sks (wsS s es) = edg (wsD (s.opts.getD j zO).dat es) ((s.opts.getD j zO).dat.length / 4) := by
      unfold sks
      rw [e0, skI_ws, hk, if_neg (by omega), show ((j : Nat) : Int).toNat = j from rfl, g]
      simp only [wsD_len]
    have q2 : sks s = edg (s.opts.getD j zO).dat ((s.opts.getD j zO).dat.length / 4) := by
      unfold sks
      rw [hk, if_neg (by omega)]; rfl
    obtain ⟨d, hd⟩ : ∃ d, (s.opts.getD j zO).dat = d := ⟨_, rfl⟩
    rw [hd] at q1 q2 h1 h2 h3
    rw [q1, q2, edg_len, edg_len]
    refine ⟨rfl, fun i hi => ?_⟩
    rw [edg_at _ hi, edg_at _ hi]
    unfold wsD
    by_cases c : i < es.length
    · rw [if_pos c]; exact putN_at hes (by omega) _ (by omega) (by omega)
    · rw [if_neg c]; exact putN_far (by omega) _ (by omega)
theorem putN_ref {d : List UInt8} {es : List Int} (h2 : d.length ≤ 32) {k : Nat} (hk : k ≤ es.length) (he : k = es.length ∨ d.length ≤ 4 * k) : putN d es k = wsD d es := by
  unfold wsD
  by_cases h8 : es.length ≤ 8
  · rw [Nat.min_eq_left h8]
    rcases he with he | he
    · rw [he]
    · exact (putN_end he _ hk).symm
  · rw [Nat.min_eq_right (by omega)]
    have e8 : putN d es k = putN d es 8 := by
      rcases Nat.lt_or_ge k 8 with h | h
      · exact (putN_end (by omega) 8 (by omega)).symm
      · exact putN_end (by omega) k h
    exact e8
end Go.Proofs.Ytjjhnjkmoogloaa
namespace Go.Proofs.Ytjjhnjkmoogloaa
open Go.ChangeShapes Go.WideShapes Go.ChangeAt Go.RowKit
set_option linter.unusedVariables false
set_option linter.unusedSimpArgs false
theorem own_knob : ownKnob Try.prog.godebug = none := by kernel_rfl
theorem laid_out : laidOutB Try.prog = true := by kernel_rfl
section
variable {H : Type} {enc : TypeId × Value → H} {P : Program} {w : World} {base : Nat} {held : Bool} {spare : Nat → Bool}
theorem open_bs {t e : TypeId} {fuel : Nat} {v : Value} {x : DataW H × List MemPlace} (ht : P.underlying t = some (.slice e)) (he : P.underlying e = some (.int .u8)) (hc : P.cellsOf e = 1)
    (h : DataW.trod enc P w base spare held fuel t [v] = some x) :
    ∃ A n c l, v = .slice A n c ∧ (n ≤ 200000000000000 → Bs w A n c l) ∧ ((x.1 = .nil ∧ n = 0) ∨ ∃ es sp, x.1 = .slice es sp ∧ es.length = n) := by
  rcases open_ints ht he hc h with ⟨hcs, rfl⟩ | ⟨a, len, cap, zs, hcs, _, hl, hm, hz, rfl, hcell, hwz⟩
  · simp only [List.cons.injEq, and_true] at hcs
    subst hcs
    exact ⟨none, 0, 0, [], rfl, fun _ => Bs.none_ w, .inl ⟨rfl, rfl⟩⟩
  · simp only [List.cons.injEq, and_true] at hcs
    subst hcs
    have hzl : len ≤ zs.length := by rw [hz]; split <;> omega
    have hlen : ((zs.take len).map ub).length = len := by simp; omega
    refine ⟨some a, len, cap, (zs.take len).map ub, rfl, fun hn => ⟨hlen, hl, hn, (fun h => by cases h), fun h0 => ?_⟩, .inr ⟨_, _, rfl, by simp [lits]; omega⟩⟩
    obtain ⟨b, off, spot⟩ := a
    have hc0 := hcell 0 (by omega)
    have hspot : spot = none := by simpa [Addr.add] using World.cell?_spot hc0
    subst hspot
    refine ⟨b, off, rfl, fun j hj => ?_⟩
    have h1 := hcell j (by omega)
    have ha : (⟨b, off, none⟩ : Addr).add j = ⟨b, off + j, none⟩ := by unfold Addr.add; split <;> simp_all
    rw [ha] at h1
    rw [h1]
    have hb : 0 ≤ zs.getD j 0 ∧ zs.getD j 0 ≤ 255 := by
      have hmem : zs.getD j 0 ∈ zs := by
        rw [List.getD_eq_getElem?_getD, List.getElem?_eq_getElem (by omega)]
        exact List.getElem_mem _
      simpa [Lit.wf, IntKind.min, IntKind.max, IntKind.signed, IntKind.bits] using hwz _ hmem
    have e : zs.getD j 0 = bt ((zs.take len).map ub) j := by
      have hj' : j < zs.length := by omega
      have e1 : zs.getD j 0 = zs[j] := by rw [List.getD_eq_getElem?_getD, List.getElem?_eq_getElem hj']; rfl
      have e2 : ((zs.take len).map ub).getD j 0 = ub zs[j] := by
        rw [List.getD_eq_getElem?_getD, List.getElem?_map, List.getElem?_take, if_pos hj, List.getElem?_eq_getElem hj']
        rfl
      unfold bt
      rw [e2, ub_val, e1]
      rw [e1] at hb
      omega
    rw [e]
theorem args_stay : ∀ {ts : List TypeId} {vs : List Value} {ds : List (DataW H)} {ps : List MemPlace} {W W' : World}, laidOutB P = true → ts.all (fun t => P.readableRec t && decide (t < P.types.size)) = true →
    DataW.TrodAll enc P W 0 (fun _ => true) true ts vs ds ps → Below W.heap.size W W' → DataW.TrodAll enc P W' 0 (fun b => decide (b < W.heap.size)) true ts vs ds ps
  | [], vs, ds, ps, W, W', _, _, h, _ => by
    obtain ⟨rfl, rfl, rfl⟩ := trodAll_nil h
    exact trodAll_mk0
  | t :: ts, vs, ds, ps, W, W', hl, hr, h, hb => by
    simp only [List.all_cons, Bool.and_eq_true, decide_eq_true_eq] at hr
    obtain ⟨v, vs', d, ds', p, q, rfl, rfl, rfl, h1, h2⟩ := trodAll_cons h
    have hlt : ∀ x ∈ p, x.block < W.heap.size := by obtain ⟨m, hm⟩ := h1; exact DataW.trod_lt m _ _ _ hm
    exact trodAll_cons_mk (Below.trod hl hr.1.1 hr.1.2 h1 hb hlt) (args_stay hl (by simpa using hr.2) h2 hb)
theorem law_post {f : Func} {s : ChangeSpec} {W W' : World} {args : Array Value} {ds : List (DataW H)} {before : List MemPlace} {tb : TypeId} (hb' : P.underlying tb = some .bool) (hres : f.resultTypes = #[tb]) (hl : laidOutB P = true)
    (hr : f.params.toList.all (fun t => P.readableRec t && decide (t < P.types.size)) = true) (hvars : s.vars = [])
    (hfn : s.fn H (ds ++ []) = { results := [.lit (.bool true)], args := ds }) (hW : DataW.Whole enc P f.params.toList s.vars false W args.toList ds [] before) (hb : Below W.heap.size W W') :
    s.post enc P f false true false false W args (.bool true) W' := by
  have hW2 := hW
  obtain ⟨p, q, hA, hV, rfl, hfz, hnd⟩ := hW
  rw [hvars] at hV
  obtain ⟨_, rfl⟩ := trodVars_none hV
  refine ⟨_, _, _, [], p, [], hW2, ?_, ?_, ?_, hb.frame _, fun h => by cases h⟩
  · rw [hfn, hres]
    exact trodAll_mk1 (shut_bool hb' _)
  · rw [hfn]
    exact args_stay hl hr hA hb
  · rw [hfn, hvars]
    rfl
end
end Go.Proofs.Ytjjhnjkmoogloaa
namespace Go.Proofs.Ytjjhnjkmoogloaa
open Go.ChangeShapes Go.WideShapes Go.ChangeAt Go.RowKit Go.Deep
set_option linter.unusedVariables false
set_option linter.unusedSimpArgs false
set_option maxRecDepth 100000
section
variable {H : Type} {enc : TypeId × Value → H} {P : Program} {w : World} {base : Nat} {held : Bool} {spare : Nat → Bool}
theorem open_struct {r : Reach} {b0 : Nat} {t : TypeId} {fs : Array Field} {v : Value} {d : DataW H} {ps : List MemPlace} (hs : P.underlying t = some (.struct fs)) (hone : oneCellFields P fs = true)
    (hv : Value.okWide P w r b0 t v) (h : DataW.Trod enc P w base spare held t v d ps) :
    ∃ (cs : List Value) (xs : List (DataW H × List MemPlace)) (n : Nat), v = .agg cs.toArray ∧ cs.length = P.cellsOf t ∧ d = .agg (xs.map (·.1)) ∧ xs.length = fs.size ∧
      ∀ i f, fs[i]? = some f → DataW.trod enc P w base spare held n f.type ((cs.drop i).take 1) = xs[i]? := by
  obtain ⟨cs, rfl, hsz⟩ := okWide_struct hs hv
  obtain ⟨fuel, hf⟩ := h
  obtain ⟨xs, n, _, hx, hl, hxl, hi⟩ := DataW.trod_struct hs hf
  simp only [Prod.mk.injEq] at hx
  refine ⟨cs.toList, xs, n, by simp, by simpa using hsz, hx.1, hxl, fun i f hfi => ?_⟩
  have h1 := hi i f hfi
  obtain ⟨o, k⟩ := hone_of hone i f hfi
  simpa [Value.cells, o, k] using h1
theorem list9 {α : Type} {l : List α} (h : l.length = 9) : ∃ a b c d e f g i j, l = [a, b, c, d, e, f, g, i, j] := by
  match l, h with
  | [a, b, c, d, e, f, g, i, j], _ => exact ⟨a, b, c, d, e, f, g, i, j, rfl⟩
theorem trod_byte {t : TypeId} {n : Nat} {v : Value} {y : DataW H × List MemPlace} (ht : P.underlying t = some (.int .u8)) (h : DataW.trod enc P w base spare held n t [v] = some y) : ∃ a, v = .int .u8 a ∧ 0 ≤ a ∧ a ≤ 255 := by
  obtain ⟨a, e, -, hw⟩ := DataW.trod_int ht h
  injection e with e
  exact ⟨a, e, by simpa [Lit.wf, IntKind.min, IntKind.max, IntKind.signed, IntKind.bits] using hw⟩
theorem trod_u16 {t : TypeId} {n : Nat} {v : Value} {y : DataW H × List MemPlace} (ht : P.underlying t = some (.int .u16)) (h : DataW.trod enc P w base spare held n t [v] = some y) : ∃ a, v = .int .u16 a ∧ 0 ≤ a ∧ a ≤ 65535 := by
  obtain ⟨a, e, -, hw⟩ := DataW.trod_int ht h
  injection e with e
  exact ⟨a, e, by simpa [Lit.wf, IntKind.min, IntKind.max, IntKind.signed, IntKind.bits] using hw⟩
theorem trod_u32 {t : TypeId} {n : Nat} {v : Value} {y : DataW H × List MemPlace} (ht : P.underlying t = some (.int .u32)) (h : DataW.trod enc P w base spare held n t [v] = some y) : ∃ a, v = .int .u32 a ∧ 0 ≤ a ∧ a ≤ 4294967295 := by
  obtain ⟨a, e, -, hw⟩ := DataW.trod_int ht h
  injection e with e
  exact ⟨a, e, by simpa [Lit.wf, IntKind.min, IntKind.max, IntKind.signed, IntKind.bits] using hw⟩
theorem weights_field {t : TypeId} {fs : Array Field} {parts : List (DataW H)} {j : Nat} {f : Field} {y : DataW H} (hs : P.underlying t = some (.struct fs)) (hsz : ∀ m ∈ (DataW.agg parts).weights P t, m ≤ reachBytes) (hf : fs[j]? = some f) (hy : parts[j]? = some y) :
    ∀ m ∈ y.weights P f.type, m ≤ reachBytes := by
  intro m hm
  refine hsz m ?_
  rw [DataW.weights, hs]
  exact DataW.weights_mem_each (j := j) (by simp [hf]) hy m hm
end
section
variable {H : Type} {enc : TypeId × Value → H} {w : World} {base : Nat} {held : Bool} {spare : Nat → Bool}
end
end Go.Proofs.Ytjjhnjkmoogloaa
namespace Go.Proofs.Ytjjhnjkmoogloaa
open Go.ChangeShapes Go.WideShapes Go.ChangeAt Go.RowKit Go.Deep
set_option linter.unusedVariables false
set_option linter.unusedSimpArgs false
section
variable {H : Type} {enc : TypeId × Value → H} {P : Program} {w : World} {base : Nat} {held : Bool} {spare : Nat → Bool}
theorem slice_smallT {t e : TypeId} {n : Nat} {y : DataW H} (ht : P.underlying t = some (.slice e)) (hb : P.bytesOf e = 1) (hw : ∀ m ∈ y.weights P t, m ≤ reachBytes) (hd : (y = .nil ∧ n = 0) ∨ ∃ es sp, y = .slice es sp ∧ es.length = n) : n ≤ 140737488351232 := by
  rcases hd with ⟨_, h⟩ | ⟨es, sp, rfl, hn⟩
  · omega
  · have h1 := hw ((es.length + sp.length) * P.bytesOf e) (by simp [DataW.weights, ht])
    rw [hb] at h1
    simp only [reachBytes] at h1
    omega
theorem trod_bytesT {t e : TypeId} {n : Nat} {v : Value} {y : DataW H × List MemPlace} (ht : P.underlying t = some (.slice e)) (he : P.underlying e = some (.int .u8)) (hc : P.cellsOf e = 1) (hb : P.bytesOf e = 1)
    (hw : ∀ m ∈ y.1.weights P t, m ≤ reachBytes) (h : DataW.trod enc P w base spare held n t [v] = some y) : ∃ A n c l, v = .slice A n c ∧ Bs w A n c l ∧ n ≤ 140737488351232 := by
  obtain ⟨A, n, c, l, hv, hbs, hd⟩ := open_bs ht he hc h
  have hs := slice_smallT ht hb hw hd
  exact ⟨A, n, c, l, hv, hbs (by omega), hs⟩
theorem open_structT {t : TypeId} {fs : Array Field} {cs : List Value} {n0 : Nat} {x : DataW H × List MemPlace} (hs : P.underlying t = some (.struct fs)) (hone : oneCellFields P fs = true)
    (h : DataW.trod enc P w base spare held n0 t cs = some x) :
    ∃ (xs : List (DataW H × List MemPlace)) (n : Nat), cs.length = P.cellsOf t ∧ x.1 = .agg (xs.map (·.1)) ∧ xs.length = fs.size ∧
      ∀ i f, fs[i]? = some f → DataW.trod enc P w base spare held n f.type ((cs.drop i).take 1) = xs[i]? := by
  obtain ⟨xs, n, _, hx, hl, hxl, hi⟩ := DataW.trod_struct hs h
  refine ⟨xs, n, hl, by rw [hx], hxl, fun i f hfi => ?_⟩
  have h1 := hi i f hfi
  obtain ⟨o, k⟩ := hone_of hone i f hfi
  simpa [o, k] using h1
theorem mem_weightsAll {e : TypeId} : ∀ {ds : List (DataW H)} {j : Nat} {d : DataW H}, ds[j]? = some d → ∀ n ∈ d.weights P e, n ∈ DataW.weightsAll P e ds
  | [], j, d, h, _, _ => by simp at h
  | x :: r, 0, d, h, n, hn => by
    simp only [List.getElem?_cons_zero, Option.some.injEq] at h
    subst h
    simp only [DataW.weightsAll, List.mem_append]
    exact .inl hn
  | x :: r, j + 1, d, h, n, hn => by
    simp only [List.getElem?_cons_succ] at h
    simp only [DataW.weightsAll, List.mem_append]
    exact .inr (mem_weightsAll h n hn)
end
set_option maxRecDepth 100000
theorem list2 {α : Type} {l : List α} (h : l.length = 2) : ∃ a b, l = [a, b] := by
  match l, h with
  | [a, b], _ => exact ⟨a, b, rfl⟩
section
variable {H : Type} {enc : TypeId × Value → H} {w : World} {base : Nat} {held : Bool} {spare : Nat → Bool}
theorem open_optT {cs : List Value} {n0 : Nat} {x : DataW H × List MemPlace} (h : DataW.trod enc Try.prog w base spare held n0 66 cs = some x) (hsz : ∀ m ∈ x.1.weights Try.prog 66, m ≤ reachBytes) :
    ∃ (o : Opt) (A : Option Addr) (n c : Nat), cs = [.int .u8 o.kind, .slice A n c] ∧ o.Ok ∧ Bs w A n c o.dat := by
  have hu := Try.underlying66
  obtain ⟨xs, n, hcl, hx, hxl, hi⟩ := open_structT hu (by kernel_rfl) h
  rw [hx] at hsz
  rw [show (Try.prog.cellsOf 66) = 2 from by kernel_rfl] at hcl
  obtain ⟨v0, v1, rfl⟩ := list2 hcl
  obtain ⟨y0, y1, rfl⟩ := list2 (by simpa using hxl)
  obtain ⟨a0, rfl, b0l, b0h⟩ := trod_byte (t := 5) Try.underlying5 (by simpa using hi 0 _ rfl)
  obtain ⟨A1, n1, c1, l1, rfl, k1, z1⟩ := trod_bytesT (t := 24) Try.underlying24 Try.underlying5 (by kernel_rfl) (by kernel_rfl) (weights_field (j := 1) (y := y1.1) hu hsz rfl (by simp)) (by simpa using hi 1 _ rfl)
  exact ⟨⟨a0, l1⟩, A1, n1, c1, rfl, ⟨⟨b0l, b0h⟩⟩, k1⟩
theorem open_opts {v : Value} {n0 : Nat} {x : DataW H × List MemPlace} (h : DataW.trod enc Try.prog w base spare held n0 27 [v] = some x) (hsz : ∀ m ∈ x.1.weights Try.prog 27, m ≤ reachBytes) :
    ∃ (A : Option Addr) (n c : Nat) (os : List Opt), v = .slice A n c ∧ Os w A n c os := by
  have hu := Try.underlying27
  rcases DataW.trod_slice hu h with ⟨hcs, _⟩ | ⟨a, len, cap, elems, rest, n, _, hcs, rfl, hb, hl, hm, hlen, hel, hsp, hns⟩
  · simp only [List.cons.injEq, and_true] at hcs
    subst hcs
    exact ⟨none, 0, 0, [], rfl, Os.none_ w⟩
  · simp only [List.cons.injEq, and_true] at hcs
    subst hcs
    rw [show (Try.prog.cellsOf 66) = 2 from by kernel_rfl] at hel
    have hw : ∀ (i : Nat) (y : DataW H × List MemPlace), elems[i]? = some y → ∀ m ∈ y.1.weights Try.prog 66, m ≤ reachBytes := fun i y hy m hmem => hsz m (by
      simp only [DataW.weights, hu]
      exact List.mem_cons_of_mem _ (List.mem_append_left _ (mem_weightsAll (d := y.1) (j := i) (by simp [hy]) m hmem)))
    have hn : len ≤ 4398046511104 := by
      have h1 := hsz ((elems.length + rest.length) * Try.prog.bytesOf 66) (by simp [DataW.weights, hu])
      rw [show Try.prog.bytesOf 66 = 32 from by kernel_rfl] at h1
      simp only [reachBytes] at h1
      omega
    have key : ∀ i, i < len → ∃ (o : Opt) (A : Option Addr) (n c : Nat), w.cell? (a.add (i * 2)) = some (.int .u8 o.kind) ∧ w.cell? ((a.add (i * 2)).add 1) = some (.slice A n c) ∧ o.Ok ∧ Bs w A n c o.dat := by
      intro i hi
      have h1 := hel i hi
      rw [List.getElem?_eq_getElem (by omega)] at h1
      obtain ⟨cs, h2, h3⟩ := Option.bind_eq_some_iff.1 h1
      obtain ⟨h4, h5, h6⟩ := World.cells?_some h2
      obtain ⟨o, A, n', c', rfl, ho, hB⟩ := open_optT h3 (hw i _ (List.getElem?_eq_getElem (by omega)))
      have e0 := h6 0 (by omega)
      have e1 := h6 1 (by omega)
      refine ⟨o, A, n', c', ?_, e1, ho, hB⟩
      simpa [Addr.add] using e0
    obtain ⟨f, hf⟩ : ∃ f : Nat → Opt, ∀ i, i < len → ∃ (A : Option Addr) (n c : Nat), w.cell? (a.add (i * 2)) = some (.int .u8 (f i).kind) ∧ w.cell? ((a.add (i * 2)).add 1) = some (.slice A n c) ∧ (f i).Ok ∧ Bs w A n c (f i).dat :=
      Classical.axiomOfChoice (r := fun (i : Nat) (o : Opt) => i < len → ∃ (A : Option Addr) (n c : Nat), w.cell? (a.add (i * 2)) = some (.int .u8 o.kind) ∧ w.cell? ((a.add (i * 2)).add 1) = some (.slice A n c) ∧ o.Ok ∧ Bs w A n c o.dat) (fun i => by
        by_cases hi : i < len
        · obtain ⟨o, h⟩ := key i hi
          exact ⟨o, fun _ => h⟩
        · exact ⟨zO, fun h => absurd h hi⟩)
    clear key
    obtain ⟨b, off, spot⟩ := a
    refine ⟨some ⟨b, off, spot⟩, len, cap, (List.range len).map f, rfl, ⟨by simp, hl, hn, (fun h => by cases h), ?_, fun h0 => ?_⟩⟩
    · intro o ho
      obtain ⟨i, hi, rfl⟩ := List.mem_map.1 ho
      obtain ⟨A, n', c', _, _, h3, _⟩ := hf i (List.mem_range.1 hi)
      exact h3
    · have hspot : spot = none := by
        obtain ⟨A, n', c', e0, _⟩ := hf 0 h0
        simpa [Addr.add] using World.cell?_spot e0
      subst hspot
      refine ⟨b, off, rfl, fun j hj => ?_⟩
      have hg : ((List.range len).map f).getD j zO = f j := by
        rw [List.getD_eq_getElem?_getD, List.getElem?_map, List.getElem?_range hj]
        rfl
      rw [hg]
      obtain ⟨A, n', c', e0, e1, _, e3⟩ := hf j hj
      have ha : (⟨b, off, none⟩ : Addr).add (j * 2) = ⟨b, off + j * 2, none⟩ := by unfold Addr.add; split <;> simp_all
      rw [ha] at e0 e1
      exact ⟨e0, A, n', c', by simpa [Addr.add] using e1, e3⟩
theorem open_seg {r : Reach} {b0 : Nat} {v : Value} {d : DataW H} {ps : List MemPlace} (hval : Value.okWide Try.prog w r b0 29 v) (hd : DataW.Trod enc Try.prog w base spare held 29 v d ps)
    (hsz : ∀ m ∈ d.weights Try.prog 29, m ≤ reachBytes) :
    ∃ (s : Seg) (OA : Option Addr) (on oc : Nat) (A1 : Option Addr) (n1 c1 : Nat), v = (.agg #[.int .u16 (s).src, .int .u16 (s).dst, .int .u32 (s).seq, .int .u32 (s).ack, .int .u8 (s).flags, .int .u16 (s).win, .int .u16 (s).urg, .slice OA on oc, .slice A1 n1 c1]) ∧ s.Ok ∧ Os w OA on oc s.opts ∧ Bs w A1 n1 c1 s.dat ∧ n1 ≤ 140737488351232 := by
  have hu := Try.underlying29
  obtain ⟨cs, xs, n, rfl, hcl, rfl, hxl, hi⟩ := open_struct hu (by kernel_rfl) hval hd
  rw [show (Try.prog.cellsOf 29) = 9 from by kernel_rfl] at hcl
  obtain ⟨v0, v1, v2, v3, v4, v5, v6, v7, v8, rfl⟩ := list9 hcl
  obtain ⟨y0, y1, y2, y3, y4, y5, y6, y7, y8, rfl⟩ := list9 (by simpa using hxl)
  obtain ⟨a0, rfl, b0l, b0h⟩ := trod_u16 (t := 22) Try.underlying22 (by simpa using hi 0 _ rfl)
  obtain ⟨a1, rfl, b1l, b1h⟩ := trod_u16 (t := 22) Try.underlying22 (by simpa using hi 1 _ rfl)
  obtain ⟨a2, rfl, b2l, b2h⟩ := trod_u32 (t := 23) Try.underlying23 (by simpa using hi 2 _ rfl)
  obtain ⟨a3, rfl, b3l, b3h⟩ := trod_u32 (t := 23) Try.underlying23 (by simpa using hi 3 _ rfl)
  obtain ⟨a4, rfl, b4l, b4h⟩ := trod_byte (t := 5) Try.underlying5 (by simpa using hi 4 _ rfl)
  obtain ⟨a5, rfl, b5l, b5h⟩ := trod_u16 (t := 22) Try.underlying22 (by simpa using hi 5 _ rfl)
  obtain ⟨a6, rfl, b6l, b6h⟩ := trod_u16 (t := 22) Try.underlying22 (by simpa using hi 6 _ rfl)
  obtain ⟨OA, on, oc, os, rfl, K⟩ := open_opts (by simpa using hi 7 _ rfl) (weights_field (j := 7) (y := y7.1) hu hsz rfl (by simp))
  obtain ⟨A1, n1, c1, l1, rfl, k1, z1⟩ := trod_bytesT (t := 24) Try.underlying24 Try.underlying5 (by kernel_rfl) (by kernel_rfl) (weights_field (j := 8) (y := y8.1) hu hsz rfl (by simp)) (by simpa using hi 8 _ rfl)
  exact ⟨⟨a0, a1, a2, a3, a4, a5, a6, os, l1⟩, OA, on, oc, A1, n1, c1, rfl, ⟨⟨b0l, b0h⟩, ⟨b1l, b1h⟩, ⟨b2l, b2h⟩, ⟨b3l, b3h⟩, ⟨b4l, b4h⟩, ⟨b5l, b5h⟩, ⟨b6l, b6h⟩, K.ok⟩, K, k1, z1⟩
structure Ws (w : World) (A : Option Addr) (n c : Nat) (l : List Int) : Prop where
  len : l.length = n
  cap : n ≤ c
  max : n ≤ 35184372088832
  nil : A = none → c = 0
  ok : ∀ x ∈ l, 0 ≤ x ∧ x ≤ 4294967295
  rd : 0 < n → ∃ b off, A = some ⟨b, off, none⟩ ∧ ∀ j, j < n → w.cell? ⟨b, off + j, none⟩ = some (.int .u32 (l.getD j 0))
theorem Ws.below {w w' : World} {A : Option Addr} {n c : Nat} {l : List Int} (h : Ws w A n c l) (hb : Below w.heap.size w w') : Ws w' A n c l :=
  ⟨h.len, h.cap, h.max, h.nil, h.ok, fun hn => by
    obtain ⟨b, off, e, hc⟩ := h.rd hn
    exact ⟨b, off, e, fun j hj => (hb.cell (World.block_lt_of_cell? w _ (hc j hj))).trans (hc j hj)⟩⟩
theorem Ws.none_ (w : World) : Ws w none 0 0 [] := ⟨rfl, Nat.zero_le _, by omega, fun _ => rfl, (fun x h => by cases h), fun h => absurd h (by omega)⟩
theorem open_u32s {r : Reach} {b0 : Nat} {v : Value} {d : DataW H} {ps : List MemPlace} (hval : Value.okWide Try.prog w r b0 45 v) (hd : DataW.Trod enc Try.prog w base spare held 45 v d ps)
    (hsz : ∀ m ∈ d.weights Try.prog 45, m ≤ reachBytes) :
    ∃ (A : Option Addr) (n c : Nat) (l : List Int), v = .slice A n c ∧ Ws w A n c l := by
  have hu := Try.underlying45
  obtain ⟨A0, n0, c0, rfl⟩ := okWide_slice hu hval
  obtain ⟨fuel, hf⟩ := hd
  rcases open_ints hu Try.underlying23 (by kernel_rfl) hf with ⟨hcs, _⟩ | ⟨a, len, cap, zs, hcs, _, hl, hm, hz, hx, hcell, hwz⟩
  · simp only [Value.cells, List.cons.injEq, and_true] at hcs
    exact ⟨none, 0, 0, [], by simpa using hcs, Ws.none_ w⟩
  · have hcs' : Value.slice A0 n0 c0 = .slice (some a) len cap := by simpa [Value.cells] using hcs
    rw [hcs']
    injection hx with hx1 hx2
    have hzl : len ≤ zs.length := by rw [hz]; split <;> omega
    have hn : len ≤ 35184372088832 := by
      have h1 := hsz (((lits (H := H) .u32 (zs.take len)).length + (lits (H := H) .u32 (zs.drop len)).length) * Try.prog.bytesOf 23) (by rw [hx1]; simp [DataW.weights, hu])
      rw [show Try.prog.bytesOf 23 = 4 from by kernel_rfl] at h1
      simp only [reachBytes, lits, List.length_map, List.length_take, List.length_drop] at h1
      omega
    obtain ⟨b, off, spot⟩ := a
    refine ⟨some ⟨b, off, spot⟩, len, cap, zs.take len, rfl, ⟨by simp; omega, hl, hn, (fun h => by cases h), fun x hx => ?_, fun h0 => ?_⟩⟩
    · have := hwz x (List.mem_of_mem_take hx)
      simpa [Lit.wf, IntKind.min, IntKind.max, IntKind.signed, IntKind.bits] using this
    · have hspot : spot = none := by
        have := hcell 0 (by omega)
        simpa [Addr.add] using World.cell?_spot this
      subst hspot
      refine ⟨b, off, rfl, fun j hj => ?_⟩
      have h1 := hcell j (by omega)
      have ha : (⟨b, off, none⟩ : Addr).add j = ⟨b, off + j, none⟩ := by unfold Addr.add; split <;> simp_all
      rw [ha] at h1
      rw [h1]
      congr 2
      rw [List.getD_eq_getElem?_getD, List.getD_eq_getElem?_getD, List.getElem?_take, if_pos hj]
end
end Go.Proofs.Ytjjhnjkmoogloaa
namespace Go.Proofs.Ytjjhnjkmoogloaa
open Go.RowKit
set_option linter.unusedVariables false
set_option linter.unusedSimpArgs false
set_option maxHeartbeats 8000000
set_option maxRecDepth 100000
structure WsPost (w : World) (s : Seg) (n : Nat) (e : Ending) (w' : World) : Prop where
  out : ∃ A c B m d, e = .returned (.agg #[.int .u16 (s).src, .int .u16 (s).dst, .int .u32 (s).seq, .int .u32 (s).ack, .int .u8 (s).flags, .int .u16 (s).win, .int .u16 (s).urg, .slice A n c, .slice B m d]) ∧ Os w' A n c s.opts ∧ Bs w' B m d s.dat ∧ Below w.heap.size w w'
theorem wsO_ok {os : List Opt} (h : ∀ o ∈ os, o.Ok) (es : List Int) : ∀ o ∈ wsO os es, o.Ok := by
  unfold wsO
  split
  · exact h
  · intro o ho
    rcases skI_cases os with hk | ⟨j, hj, hk, -⟩
    · omega
    · rw [hk] at ho
      rcases List.mem_or_eq_of_mem_set ho with h1 | h1
      · exact h o h1
      · rw [h1]
        refine ⟨?_⟩
        have := h os[j] (List.getElem_mem hj)
        simpa [List.getD_eq_getElem?_getD, List.getElem?_eq_getElem hj] using this.kind
theorem withS_any (s : Seg) (hs : s.Ok) (OA : Option Addr) (on oc : Nat) (DA : Option Addr) (dn dc : Nat) (EA : Option Addr) (en ec : Nat) (es : List Int) (w : World) (K1 : Os w OA on oc s.opts) (k1 : Bs w DA dn dc s.dat) (E1 : Ws w EA en ec es) (h50 : on ≤ 50) :
    Calls Try.prog 25 #[(.agg #[.int .u16 (s).src, .int .u16 (s).dst, .int .u32 (s).seq, .int .u32 (s).ack, .int .u8 (s).flags, .int .u16 (s).win, .int .u16 (s).urg, .slice OA on oc, .slice DA dn dc]), .slice EA en ec] w (WsPost w (wsS s es) on) := by
  have HOS := Lib.hid (wsO_ok hs.opts es)
  have hso := Lib.hid hs.opts
  have HL1 := Lib.hid K1.len
  have hsk := fun (A : Option Addr) (c : Nat) (os : List Opt) (D : Value) W (K : Os W A on c os) => ssack_any { s with opts := os } A on c D W K
  obtain ⟨os, hos⟩ : ∃ os, s.opts = os := ⟨_, rfl⟩
  obtain ⟨D, hD⟩ : ∃ D, s.dat = D := ⟨_, rfl⟩
  have HW : Hid (wsS s es = { s with opts := wsO os es, dat := D }) := by unfold Hid wsS; rw [hos, hD]
  rw [hos] at K1 HOS HL1 hso
  rw [hD] at k1
  have ld := k1.len
  clear hos hD hs
  obtain ⟨k, hk, w1, hw1, A1, Z1, R1⟩ := nwI2 w #[.int .u16 (s).src, .int .u16 (s).dst, .int .u32 (s).seq, .int .u32 (s).ack, .int .u8 (s).flags, .int .u16 (s).win, .int .u16 (s).urg, .slice OA on oc, .slice DA dn dc] 29 #[.int .u16 0, .int .u16 0, .int .u32 0, .int .u32 0, .int .u8 0, .int .u16 0, .int .u16 0, .slice none 0 0, .slice none 0 0] 29
  have Ac1 := A1.cell
  have Zc1 := Z1.cell
  have Al1 := A1.lt
  have Zl1 := Z1.lt
  have x1 := (k1).below R1
  have K11 := K1.below R1
  go_enter Try.func25, Try.ntmps25
  go_wp2_with fail
  refine region_txt 7 (by kernel_rfl) (by kernel_rfl) ?_; (iterate 7 (first | (apply ObsK.skip (by rfl)) | (apply ObsK.v (by rfl); (intro wo hT; (repeat (first | (intro v hv; (fail)) | (intro _ _ k; try have hcv := cv k))); (have aco := (A1.below hT).cell; have xo := x1.below hT; have hsz := hT.size); refine Goes.mk ?_; go_simp; first | exact goes_v | exact goes_b (by assumption) | (refine goes_enter ?_; first | (go_at_call 59; ((with_reducible refine (clonO_any OA on oc os w wo K1 (below_then R1 hT) h50).mono ?_); rintro e w5 ⟨A5, c5, rfl, r5, hB5⟩); exact ret_p ⟨A5, c5, rfl, r5.mono hsz⟩ hB5) | (go_at_call 40; ((with_reducible refine (clone_any DA dn dc D wo xo).mono ?_); rintro e w5 ⟨A5, c5, rfl, o5, hB5⟩); exact ret_p (own_isW o5 hsz) hB5)))) | (apply ObsK.b (by rfl); (intro wo hT; (repeat (first | (intro v hv; (fail)) | (intro _ _ k; try have hcv := cv k))); (have aco := (A1.below hT).cell; have xo := x1.below hT; have hsz := hT.size); refine Goes.mk ?_; go_simp; first | exact goes_v | exact goes_b (by assumption) | (refine goes_enter ?_; first | (go_at_call 59; ((with_reducible refine (clonO_any OA on oc os w wo K1 (below_then R1 hT) h50).mono ?_); rintro e w5 ⟨A5, c5, rfl, r5, hB5⟩); exact ret_p ⟨A5, c5, rfl, r5.mono hsz⟩ hB5) | (go_at_call 40; ((with_reducible refine (clone_any DA dn dc D wo xo).mono ?_); rintro e w5 ⟨A5, c5, rfl, o5, hB5⟩); exact ret_p (own_isW o5 hsz) hB5)))) | (apply ObsK.p (q := isRow w w1.heap.size on os) (by rfl) st_isRow; (intro wo hT; (repeat (first | (intro v hv; (fail)) | (intro _ _ k; try have hcv := cv k))); (have aco := (A1.below hT).cell; have xo := x1.below hT; have hsz := hT.size); refine Goes.mk ?_; go_simp; first | exact goes_v | exact goes_b (by assumption) | (refine goes_enter ?_; first | (go_at_call 59; ((with_reducible refine (clonO_any OA on oc os w wo K1 (below_then R1 hT) h50).mono ?_); rintro e w5 ⟨A5, c5, rfl, r5, hB5⟩); exact ret_p ⟨A5, c5, rfl, r5.mono hsz⟩ hB5) | (go_at_call 40; ((with_reducible refine (clone_any DA dn dc D wo xo).mono ?_); rintro e w5 ⟨A5, c5, rfl, o5, hB5⟩); exact ret_p (own_isW o5 hsz) hB5)))) | (apply ObsK.p (q := isW w1.heap.size D) (by rfl) st_isW; (intro wo hT; (repeat (first | (intro v hv; (fail)) | (intro _ _ k; try have hcv := cv k))); (have aco := (A1.below hT).cell; have xo := x1.below hT; have hsz := hT.size); refine Goes.mk ?_; go_simp; first | exact goes_v | exact goes_b (by assumption) | (refine goes_enter ?_; first | (go_at_call 59; ((with_reducible refine (clonO_any OA on oc os w wo K1 (below_then R1 hT) h50).mono ?_); rintro e w5 ⟨A5, c5, rfl, r5, hB5⟩); exact ret_p ⟨A5, c5, rfl, r5.mono hsz⟩ hB5) | (go_at_call 40; ((with_reducible refine (clone_any DA dn dc D wo xo).mono ?_); rintro e w5 ⟨A5, c5, rfl, o5, hB5⟩); exact ret_p (own_isW o5 hsz) hB5)))))); refine ObsK.nil ?_; intro wz hBz; simp only [finOn, List.drop_succ_cons, List.drop_zero, List.drop_nil]
  rintro v8 ⟨A8, n8, c8, rfl, O8⟩ v7 ⟨A7, c7, rfl, Q7⟩
  obtain rfl : n8 = dn := by have := O8.len; omega
  go_simp
  have Az := A1.below hBz
  have Zz := Z1.below hBz
  have Rz := below_then R1 hBz
  have kl := A1.lt
  have zl := Z1.lt
  obtain ⟨w2, hw2, S2⟩ : ∃ wf, (wz.setCell ⟨k, 7, none⟩ (.slice A7 on c7)).setCell ⟨k, 8, none⟩ (.slice A8 n8 c8) = wf ∧ Sto wz k wf #[.int .u16 (s).src, .int .u16 (s).dst, .int .u32 (s).seq, .int .u32 (s).ack, .int .u8 (s).flags, .int .u16 (s).win, .int .u16 (s).urg, .slice A7 on c7, .slice A8 n8 c8] 29 := ⟨_, rfl, by
    have h := ((Sto.nil Az).set 7 (.slice A7 on c7)).set 8 (.slice A8 n8 c8)
    simp only [List.setIfInBounds_toArray, List.set_cons_zero, List.set_cons_succ] at h
    exact h⟩
  have A2 := S2.blk
  have Z2 := S2.other (by omega) Zz
  have R2 : Below w.heap.size w w2 := S2.bel Rz (by omega)
  have Q2 := Q7.sto S2 kl
  have O2 := S2.own O8 (fun a e => by have := O8.ge a e; omega)
  have ac2 := A2.cell
  have azc := Az.cell
  clear Q7 O8 Az Zz S2 hw1 K11 x1 Ac1 Zc1
  have hcap := Q2.cap
  rcases Nat.eq_zero_or_pos on with h0 | h0
  · subst h0
    obtain rfl : os = [] := List.eq_nil_of_length_eq_zero HL1.out
    have HE : Hid (wsS s es = { s with opts := [], dat := D }) := by rw [Hid, HW.out]; rfl
    have zr := Z2.lt
    have Z2c := Z2.cell
    have ks := hsk A7 c7 [] (.slice A8 n8 c8) w2 ⟨rfl, Nat.zero_le _, by omega, Q2.nil, (fun o h => by cases h), fun h => by omega⟩
    rw [show skI [] = -1 from rfl] at ks
    go_wp2_with fail
    go_loopw [21] (fun i wr => i = .int .i64 0 ∧ wr = w2) (fun _ _ => 0)
    case atStart => exact ⟨rfl, rfl⟩
    case round =>
      obtain ⟨rfl, rfl⟩ := hrel
      go_wp2_with (go_at_call 57; ((with_reducible refine (ks).mono ?_); rintro e w5 ⟨rfl, hB5⟩); have A5 := A2.below hB5; have Z5 := Z2.below hB5; have a5c := A5.cell; have z5c := Z5.cell; (obtain ⟨wf, hwf, Sf⟩ := store9 Z5 (.int .u16 s.src) (.int .u16 s.dst) (.int .u32 s.seq) (.int .u32 s.ack) (.int .u8 s.flags) (.int .u16 s.win) (.int .u16 s.urg) (.slice A7 0 c7) (.slice A8 n8 c8)))
      have pf := Sf.blk.cell
      refine bodyPost_ret (v := (.agg #[.int .u16 (s).src, .int .u16 (s).dst, .int .u32 (s).seq, .int .u32 (s).ack, .int .u8 (s).flags, .int .u16 (s).win, .int .u16 (s).urg, .slice A7 0 c7, .slice A8 n8 c8])) (by simp [results, Try.results25, go_sem, pf]) rfl ?_
      rw [HE.out]
      exact ⟨⟨A7, c7, A8, n8, c8, rfl, ⟨rfl, Nat.zero_le _, by omega, Q2.nil, (fun o h => by cases h), fun h => by omega⟩, (Sf.own (O2.below hB5) (fun a e => by have := O2.ge a e; omega)).bs, Sf.bel (below_then R2 hB5) (by omega)⟩⟩
  · obtain ⟨g, cur, rfl, hg, G2⟩ := Q2.g (z := k + 1) h0 R2 (by omega) (by omega)
    have X2 := O2.notRow G2.blk (z := k + 1) (by omega)
    clear Q2 O2
    go_wp2_with fail
    go_loopw [21] (fun i wr => ∃ (j : Nat) (cur : Array Value), j ≤ on ∧ i = .int .i64 (j : Int) ∧ RowG wr g (k + 1) cur on os ∧ BsX wr g (k + 1) A8 n8 c8 D ∧ Blk wr k #[.int .u16 (s).src, .int .u16 (s).dst, .int .u32 (s).seq, .int .u32 (s).ack, .int .u8 (s).flags, .int .u16 (s).win, .int .u16 (s).urg, .slice (some ⟨g, 0, none⟩) on c7, .slice A8 n8 c8] 29 ∧ Blk wr (k + 1) #[.int .u16 0, .int .u16 0, .int .u32 0, .int .u32 0, .int .u8 0, .int .u16 0, .int .u16 0, .slice none 0 0, .slice none 0 0] 29 ∧ Below w.heap.size w wr) (fun i _ => on - (intOf i).toNat)
    case atStart => exact ⟨0, cur, by omega, rfl, G2, X2, A2, Z2, R2⟩
    case round =>
      obtain ⟨j, cu2, hj, rfl, Gr, Xr, Ar, Zr, Rr⟩ := hrel
      have ac := Ar.cell
      by_cases hlt : j < on
      · have hji : (j : Int) < on := by omega
        obtain ⟨h1, B, m, d, h2, h3⟩ := Gr.at_ j hlt
        have HJ := Lib.hid (Gr.at_ j hlt)
        have gc := Gr.blk.cell
        have cK := (gc.1 _).trans h1
        have cD := (gc.1 _).trans h2
        obtain ⟨κ, hκ⟩ : ∃ κ, (os.getD j zO).kind = κ := ⟨_, rfl⟩
        obtain ⟨l, hl⟩ : ∃ l, (os.getD j zO).dat = l := ⟨_, rfl⟩
        have Hl := Lib.hid hl
        rw [hκ] at cK
        rw [hl] at h3
        have H2 := Lib.hid h2
        clear h1 h2 hκ hl gc
        obtain ⟨w3, hw3, V3, kO, hkO, O3⟩ := nw1 wr #[.int .u8 κ, .slice B m d] 66
        have A3 := Ar.below V3
        have Z3 := Zr.below V3
        have G3 := Gr.below V3
        have X3 := Xr.below V3
        have b3 := h3.bs.below V3
        have R3 := below_then Rr V3
        have Oc3 := O3.cell
        have Ac3 := A3.cell
        have s3 := V3.size
        have gl := Gr.blk.lt
        have zr := Zr.lt
        clear h3 ac
        go_wp2_with fail
        refine region_txt 8 (by kernel_rfl) (by kernel_rfl) ?_; (iterate 8 (first | (apply ObsK.skip (by rfl)) | (apply ObsK.v (by rfl); (intro wo hT; (repeat (first | (intro v hv; (fail)) | (intro _ _ k; try have hcv := cv k))); (have aco := (A3.below hT).cell; have oco := (O3.below hT).cell; have bo := b3.below hT; have hsz := hT.size); refine Goes.mk ?_; go_simp; first | exact goes_v | exact goes_b (by assumption) | (refine goes_enter ?_; first | (go_at_call 40; ((with_reducible refine (clone_any B m d l wo bo).mono ?_); rintro e w5 ⟨A5, c5, rfl, o5, hB5⟩); exact ret_p (own_isW o5 hsz) hB5)))) | (apply ObsK.b (by rfl); (intro wo hT; (repeat (first | (intro v hv; (fail)) | (intro _ _ k; try have hcv := cv k))); (have aco := (A3.below hT).cell; have oco := (O3.below hT).cell; have bo := b3.below hT; have hsz := hT.size); refine Goes.mk ?_; go_simp; first | exact goes_v | exact goes_b (by assumption) | (refine goes_enter ?_; first | (go_at_call 40; ((with_reducible refine (clone_any B m d l wo bo).mono ?_); rintro e w5 ⟨A5, c5, rfl, o5, hB5⟩); exact ret_p (own_isW o5 hsz) hB5)))) | (apply ObsK.p (q := isW w3.heap.size l) (by rfl) st_isW; (intro wo hT; (repeat (first | (intro v hv; (fail)) | (intro _ _ k; try have hcv := cv k))); (have aco := (A3.below hT).cell; have oco := (O3.below hT).cell; have bo := b3.below hT; have hsz := hT.size); refine Goes.mk ?_; go_simp; first | exact goes_v | exact goes_b (by assumption) | (refine goes_enter ?_; first | (go_at_call 40; ((with_reducible refine (clone_any B m d l wo bo).mono ?_); rintro e w5 ⟨A5, c5, rfl, o5, hB5⟩); exact ret_p (own_isW o5 hsz) hB5)))))); refine ObsK.nil ?_; intro wz hBz; simp only [finOn, List.drop_succ_cons, List.drop_zero, List.drop_nil]
        rintro v9 ⟨A9, n9, c9, rfl, O9⟩
        obtain rfl : n9 = m := by have := O9.len; have := b3.len; omega
        go_simp
        have X9 : BsX wz g (k + 1) A9 n9 c9 l := BsX.own O9 (by omega) (by omega)
        have G4 := G3.below hBz
        have G5 := G4.again HL1.out hlt (by rw [Hl.out]; exact X9)
        have gf := G4.blk.cell.2
        have cD4 := (G4.blk.cell.1 _).trans H2.out
        obtain ⟨w6, hw6⟩ : ∃ W, wz.setCell ⟨g, j * 2 + 1, none⟩ (.slice A9 n9 c9) = W := ⟨_, rfl⟩
        rw [hw6] at G5
        have A6 : Blk w6 k #[.int .u16 (s).src, .int .u16 (s).dst, .int .u32 (s).seq, .int .u32 (s).ack, .int .u8 (s).flags, .int .u16 (s).win, .int .u16 (s).urg, .slice (some ⟨g, 0, none⟩) on c7, .slice A8 n8 c8] 29 := by rw [← hw6]; exact (A3.below hBz).far _ (by show g ≠ k; omega) _
        have Z6 := (Z3.below hBz).far ⟨g, j * 2 + 1, none⟩ (by show g ≠ k + 1; intro e; have := G4.blk.rd; rw [e, (Z3.below hBz).rd] at this; simp at this) (.slice A9 n9 c9)
        rw [hw6] at Z6
        have X6 := (X3.below hBz).set_ ⟨g, j * 2 + 1, none⟩ (.inl rfl) (.slice A9 n9 c9)
        rw [hw6] at X6
        have R6 : Below w.heap.size w w6 := by rw [← hw6]; exact (below_then R3 hBz).setCell (by show w.heap.size ≤ g; omega) _
        go_wp2_with fail
        exact ⟨⟨j + 1, _, by omega, by go_num, G5, X6, A6, Z6, R6⟩, by simp [intOf]; omega⟩
      · obtain rfl : j = on := by omega
        have Kr := Gr.os HL1.out hcap (by omega) hso.out
        have ks := hsk (some ⟨g, 0, none⟩) c7 os (.slice A8 n8 c8) wr Kr
        have zr := Zr.lt
        rcases skI_cases os with hq | ⟨q, hq, hq2, hqs⟩
        · have HE : Hid (wsS s es = { s with opts := os, dat := D }) := by rw [Hid, HW.out]; unfold wsO; rw [hq, if_pos (by omega)]
          rw [hq] at ks
          clear hq
          go_wp2_with (go_at_call 57; ((with_reducible refine (ks).mono ?_); rintro e w5 ⟨rfl, hB5⟩); have A5 := Ar.below hB5; have Z5 := Zr.below hB5; have a5c := A5.cell; have z5c := Z5.cell; (obtain ⟨wf, hwf, Sf⟩ := store9 Z5 (.int .u16 s.src) (.int .u16 s.dst) (.int .u32 s.seq) (.int .u32 s.ack) (.int .u8 s.flags) (.int .u16 s.win) (.int .u16 s.urg) (.slice (some ⟨g, 0, none⟩) j c7) (.slice A8 n8 c8)))
          have pf := Sf.blk.cell
          refine bodyPost_ret (v := (.agg #[.int .u16 (s).src, .int .u16 (s).dst, .int .u32 (s).seq, .int .u32 (s).ack, .int .u8 (s).flags, .int .u16 (s).win, .int .u16 (s).urg, .slice (some ⟨g, 0, none⟩) j c7, .slice A8 n8 c8])) (by simp [results, Try.results25, go_sem, pf]) rfl ?_
          rw [HE.out]
          exact ⟨⟨some ⟨g, 0, none⟩, c7, A8, n8, c8, rfl, ((Gr.below hB5).sto Sf (by omega)).os HL1.out hcap (by omega) hso.out, ((Xr.below hB5).sto Sf).bs, Sf.bel (below_then Rr hB5) (by omega)⟩⟩
        · have HE : Hid (wsS s es = { s with opts := os.set q ⟨(os.getD q zO).kind, putN (os.getD q zO).dat es (min es.length 8)⟩, dat := D }) := by rw [Hid, HW.out]; unfold wsO; rw [hq2, if_neg (by omega)]; rfl
          have h32 := (isSk_len hqs).2.1
          have hqi : (q : Int) < j := by have := HL1.out; omega
          have hq0 : 0 ≤ (q : Int) := by omega
          rw [hq2] at ks
          have HQ := Lib.hid hq
          clear hq hq2 hqs
          have ecap := E1.cap
          obtain ⟨κ, hκ⟩ : ∃ κ, (os.getD q zO).kind = κ := ⟨_, rfl⟩
          obtain ⟨dd, hdd⟩ : ∃ dd, (os.getD q zO).dat = dd := ⟨_, rfl⟩
          have hko := Kr.at_ok (j := q) (by have := HL1.out; have := HQ.out; omega)
          rw [hκ, hdd] at HE
          rw [hκ] at hko
          have HK : Hid (∀ d, ∀ o ∈ os.set q ⟨κ, d⟩, o.Ok) := fun d o ho => by
            rcases List.mem_or_eq_of_mem_set ho with h1 | h1
            · exact hso.out o h1
            · rw [h1]; exact ⟨hko⟩
          have Hκ := Lib.hid hκ
          have Hdd := Lib.hid hdd
          have ecap := E1.cap
          clear hκ hdd hko h32
          by_cases h8 : (en : Int) ≤ 8
          · have ecapi : (en : Int) ≤ ec := by omega
            go_wp2_with (go_at_call 57; ((with_reducible refine (ks).mono ?_); rintro e w5 ⟨rfl, hB5⟩); have A5 := Ar.below hB5; have Z5 := Zr.below hB5; have a5c := A5.cell)
            have G5 := Gr.below hB5
            have X5 := Xr.below hB5
            have R5 := below_then Rr hB5
            clear Gr Xr Ar Zr ks Kr
            go_loopw [45] (fun i wr => ∃ (n : Nat) (cu : Array Value), n ≤ en ∧ i = .int .i64 (n : Int) ∧ RowG wr g (k + 1) cu j (os.set q ⟨κ, putN dd es n⟩) ∧ BsX wr g (k + 1) A8 n8 c8 D ∧ Blk wr k #[.int .u16 (s).src, .int .u16 (s).dst, .int .u32 (s).seq, .int .u32 (s).ack, .int .u8 (s).flags, .int .u16 (s).win, .int .u16 (s).urg, .slice (some ⟨g, 0, none⟩) j c7, .slice A8 n8 c8] 29 ∧ Blk wr (k + 1) #[.int .u16 0, .int .u16 0, .int .u32 0, .int .u32 0, .int .u8 0, .int .u16 0, .int .u16 0, .slice none 0 0, .slice none 0 0] 29 ∧ Below w.heap.size w wr) (fun i _ => en - (intOf i).toNat)
            case atStart => exact ⟨0, cu2, by omega, rfl, by rw [show putN dd es 0 = dd from rfl, ← Hκ.out, ← Hdd.out, set_self_opt HQ.out]; exact G5, X5, A5, Z5, R5⟩
            case round =>
              obtain ⟨n, cu3, hn, rfl, G, X, A, Z, R⟩ := hrel
              have ac := A.cell
              by_cases hlt : n < en
              · have hni : (n : Int) < en := by omega
                have hn8 : (n : Int) < 8 := by omega
                obtain ⟨eb, eo, rfl, hec⟩ := E1.rd (by omega)
                have ce := (R.cell (World.block_lt_of_cell? w _ (hec n (by omega)))).trans (hec n (by omega))
                have hxo := E1.ok (es.getD n 0) (by rw [List.getD_eq_getElem?_getD, List.getElem?_eq_getElem (by have := E1.len; omega)]; exact List.getElem_mem _)
                obtain ⟨x, hx⟩ : ∃ x, es.getD n 0 = x := ⟨_, rfl⟩
                rw [hx] at ce hxo
                obtain ⟨x0, x1⟩ := hxo
                obtain ⟨h1, B, m, d, h2, h3⟩ := G.at_ q (by have := HL1.out; have := HQ.out; omega)
                rw [getD_set_opt HQ.out, if_pos rfl] at h3
                have cD := (G.blk.cell.1 _).trans h2
                have H2 := Lib.hid h2
                have HP : Hid (putN dd es (n + 1) = put32 (putN dd es n) (4 * (n : Int)) x) := by rw [Hid, ← hx]; rfl
                obtain ⟨l, hl⟩ : ∃ l, putN dd es n = l := ⟨_, rfl⟩
                have h3' : BsX wr g (k + 1) B m d l := by rw [← hl]; exact h3
                rw [hl] at HP
                have Hl := Lib.hid hl
                have b3 := h3'.bs
                have gl := G.blk.lt
                have zr := Z.lt
                have hwr : IntKind.i64.wrap (4 * (n : Int)) = 4 * (n : Int) := IntWalk.i64_in _ (by omega)
                clear h1 h2 h3 h3' hx hl hec
                go_wp2_with fail
                refine region_txt 15 (by kernel_rfl) (by kernel_rfl) ?_; (iterate 15 (first | (apply ObsK.skip (by rfl)) | (apply ObsK.v (by rfl); (intro wo hT; (repeat (first | (intro v hv; (fail)) | (intro _ _ k; try have hcv := cv k))); (have aco := (A.below hT).cell; have cDo := (hT.cell (World.block_lt_of_cell? _ _ cD)).trans cD; have bo := b3.below hT; have hsz := hT.size); refine Goes.mk ?_; go_simp; first | exact goes_v | exact goes_b (by assumption) | (refine goes_enter ?_; first | (go_at_call 60; ((with_reducible refine (put32_any B m d l (4 * (n : Int)) x x0 x1 wo bo).mono ?_); rintro e w6 ⟨A6, c6, rfl, o6, hB6⟩); exact ret_p (own_isW o6 hsz) hB6)))) | (apply ObsK.b (by rfl); (intro wo hT; (repeat (first | (intro v hv; (fail)) | (intro _ _ k; try have hcv := cv k))); (have aco := (A.below hT).cell; have cDo := (hT.cell (World.block_lt_of_cell? _ _ cD)).trans cD; have bo := b3.below hT; have hsz := hT.size); refine Goes.mk ?_; go_simp; first | exact goes_v | exact goes_b (by assumption) | (refine goes_enter ?_; first | (go_at_call 60; ((with_reducible refine (put32_any B m d l (4 * (n : Int)) x x0 x1 wo bo).mono ?_); rintro e w6 ⟨A6, c6, rfl, o6, hB6⟩); exact ret_p (own_isW o6 hsz) hB6)))) | (apply ObsK.p (q := isW wr.heap.size (put32 l (4 * (n : Int)) x)) (by rfl) st_isW; (intro wo hT; (repeat (first | (intro v hv; (fail)) | (intro _ _ k; try have hcv := cv k))); (have aco := (A.below hT).cell; have cDo := (hT.cell (World.block_lt_of_cell? _ _ cD)).trans cD; have bo := b3.below hT; have hsz := hT.size); refine Goes.mk ?_; go_simp; first | exact goes_v | exact goes_b (by assumption) | (refine goes_enter ?_; first | (go_at_call 60; ((with_reducible refine (put32_any B m d l (4 * (n : Int)) x x0 x1 wo bo).mono ?_); rintro e w6 ⟨A6, c6, rfl, o6, hB6⟩); exact ret_p (own_isW o6 hsz) hB6)))))); refine ObsK.nil ?_; intro wz hBz; simp only [finOn, List.drop_succ_cons, List.drop_zero, List.drop_nil]
                rintro v9 ⟨A9, n9, c9, rfl, O9⟩
                obtain rfl : n9 = m := by have := O9.len; have := b3.len; rw [put32_length] at *; omega
                go_simp
                have X9 : BsX wz g (k + 1) A9 n9 c9 (put32 l (4 * (n : Int)) x) := BsX.own O9 (by omega) (by omega)
                have Gz := G.below hBz
                have G6 := Gz.put (by rw [List.length_set]; exact HL1.out) (i := q) (by have := HL1.out; have := HQ.out; omega) X9
                rw [getD_set_opt HQ.out, if_pos rfl, List.set_set] at G6
                have gf := Gz.blk.cell.2
                have cD4 := (Gz.blk.cell.1 _).trans H2.out
                obtain ⟨w7, hw7⟩ : ∃ W, wz.setCell ⟨g, q * 2 + 1, none⟩ (.slice A9 n9 c9) = W := ⟨_, rfl⟩
                rw [hw7] at G6
                have A7' : Blk w7 k #[.int .u16 (s).src, .int .u16 (s).dst, .int .u32 (s).seq, .int .u32 (s).ack, .int .u8 (s).flags, .int .u16 (s).win, .int .u16 (s).urg, .slice (some ⟨g, 0, none⟩) j c7, .slice A8 n8 c8] 29 := by rw [← hw7]; exact (A.below hBz).far _ (by show g ≠ k; omega) _
                have Z7 := (Z.below hBz).far ⟨g, q * 2 + 1, none⟩ (by show g ≠ k + 1; omega) (.slice A9 n9 c9)
                have X7 := (X.below hBz).set_ ⟨g, q * 2 + 1, none⟩ (.inl rfl) (.slice A9 n9 c9)
                rw [hw7] at Z7 X7
                have R7 : Below w.heap.size w w7 := by rw [← hw7]; exact (below_then R hBz).setCell (by show w.heap.size ≤ g; omega) _
                go_wp2_with fail
                exact ⟨⟨n + 1, _, by omega, by go_num, by rw [HP.out]; exact G6, X7, A7', Z7, R7⟩, by simp [intOf]; omega⟩
              · obtain rfl : n = en := by omega
                have zr := Z.lt
                have zc := Z.cell
                obtain ⟨wf, hwf, Sf⟩ := store9 Z (.int .u16 s.src) (.int .u16 s.dst) (.int .u32 s.seq) (.int .u32 s.ack) (.int .u8 s.flags) (.int .u16 s.win) (.int .u16 s.urg) (.slice (some ⟨g, 0, none⟩) j c7) (.slice A8 n8 c8)
                go_wp2_with fail
                have pf := Sf.blk.cell
                refine bodyPost_ret (v := (.agg #[.int .u16 (s).src, .int .u16 (s).dst, .int .u32 (s).seq, .int .u32 (s).ack, .int .u8 (s).flags, .int .u16 (s).win, .int .u16 (s).urg, .slice (some ⟨g, 0, none⟩) j c7, .slice A8 n8 c8])) (by simp [results, Try.results25, go_sem, pf]) rfl ?_
                have hmin : min es.length 8 = n := by have := E1.len; omega
                rw [HE.out, hmin]
                exact ⟨⟨some ⟨g, 0, none⟩, c7, A8, n8, c8, rfl, (G.sto Sf (by omega)).os (by rw [List.length_set]; exact HL1.out) hcap (by omega) (HK.out _), (X.sto Sf).bs, Sf.bel R (by omega)⟩⟩
          · have ecapi : (8 : Int) ≤ ec := by omega
            go_wp2_with (go_at_call 57; ((with_reducible refine (ks).mono ?_); rintro e w5 ⟨rfl, hB5⟩); have A5 := Ar.below hB5; have Z5 := Zr.below hB5; have a5c := A5.cell)
            have G5 := Gr.below hB5
            have X5 := Xr.below hB5
            have R5 := below_then Rr hB5
            clear Gr Xr Ar Zr ks Kr
            go_loopw [45] (fun i wr => ∃ (n : Nat) (cu : Array Value), n ≤ 8 ∧ i = .int .i64 (n : Int) ∧ RowG wr g (k + 1) cu j (os.set q ⟨κ, putN dd es n⟩) ∧ BsX wr g (k + 1) A8 n8 c8 D ∧ Blk wr k #[.int .u16 (s).src, .int .u16 (s).dst, .int .u32 (s).seq, .int .u32 (s).ack, .int .u8 (s).flags, .int .u16 (s).win, .int .u16 (s).urg, .slice (some ⟨g, 0, none⟩) j c7, .slice A8 n8 c8] 29 ∧ Blk wr (k + 1) #[.int .u16 0, .int .u16 0, .int .u32 0, .int .u32 0, .int .u8 0, .int .u16 0, .int .u16 0, .slice none 0 0, .slice none 0 0] 29 ∧ Below w.heap.size w wr) (fun i _ => 8 - (intOf i).toNat)
            case atStart => exact ⟨0, cu2, by omega, rfl, by rw [show putN dd es 0 = dd from rfl, ← Hκ.out, ← Hdd.out, set_self_opt HQ.out]; exact G5, X5, A5, Z5, R5⟩
            case round =>
              obtain ⟨n, cu3, hn, rfl, G, X, A, Z, R⟩ := hrel
              have ac := A.cell
              by_cases hlt : n < 8
              · have hni : (n : Int) < 8 := by omega
                have hn8 : (n : Int) < 8 := by omega
                obtain ⟨eb, eo, rfl, hec⟩ := E1.rd (by omega)
                have ce := (R.cell (World.block_lt_of_cell? w _ (hec n (by omega)))).trans (hec n (by omega))
                have hxo := E1.ok (es.getD n 0) (by rw [List.getD_eq_getElem?_getD, List.getElem?_eq_getElem (by have := E1.len; omega)]; exact List.getElem_mem _)
                obtain ⟨x, hx⟩ : ∃ x, es.getD n 0 = x := ⟨_, rfl⟩
                rw [hx] at ce hxo
                obtain ⟨x0, x1⟩ := hxo
                obtain ⟨h1, B, m, d, h2, h3⟩ := G.at_ q (by have := HL1.out; have := HQ.out; omega)
                rw [getD_set_opt HQ.out, if_pos rfl] at h3
                have cD := (G.blk.cell.1 _).trans h2
                have H2 := Lib.hid h2
                have HP : Hid (putN dd es (n + 1) = put32 (putN dd es n) (4 * (n : Int)) x) := by rw [Hid, ← hx]; rfl
                obtain ⟨l, hl⟩ : ∃ l, putN dd es n = l := ⟨_, rfl⟩
                have h3' : BsX wr g (k + 1) B m d l := by rw [← hl]; exact h3
                rw [hl] at HP
                have Hl := Lib.hid hl
                have b3 := h3'.bs
                have gl := G.blk.lt
                have zr := Z.lt
                have hwr : IntKind.i64.wrap (4 * (n : Int)) = 4 * (n : Int) := IntWalk.i64_in _ (by omega)
                clear h1 h2 h3 h3' hx hl hec
                go_wp2_with fail
                refine region_txt 15 (by kernel_rfl) (by kernel_rfl) ?_; (iterate 15 (first | (apply ObsK.skip (by rfl)) | (apply ObsK.v (by rfl); (intro wo hT; (repeat (first | (intro v hv; (fail)) | (intro _ _ k; try have hcv := cv k))); (have aco := (A.below hT).cell; have cDo := (hT.cell (World.block_lt_of_cell? _ _ cD)).trans cD; have bo := b3.below hT; have hsz := hT.size); refine Goes.mk ?_; go_simp; first | exact goes_v | exact goes_b (by assumption) | (refine goes_enter ?_; first | (go_at_call 60; ((with_reducible refine (put32_any B m d l (4 * (n : Int)) x x0 x1 wo bo).mono ?_); rintro e w6 ⟨A6, c6, rfl, o6, hB6⟩); exact ret_p (own_isW o6 hsz) hB6)))) | (apply ObsK.b (by rfl); (intro wo hT; (repeat (first | (intro v hv; (fail)) | (intro _ _ k; try have hcv := cv k))); (have aco := (A.below hT).cell; have cDo := (hT.cell (World.block_lt_of_cell? _ _ cD)).trans cD; have bo := b3.below hT; have hsz := hT.size); refine Goes.mk ?_; go_simp; first | exact goes_v | exact goes_b (by assumption) | (refine goes_enter ?_; first | (go_at_call 60; ((with_reducible refine (put32_any B m d l (4 * (n : Int)) x x0 x1 wo bo).mono ?_); rintro e w6 ⟨A6, c6, rfl, o6, hB6⟩); exact ret_p (own_isW o6 hsz) hB6)))) | (apply ObsK.p (q := isW wr.heap.size (put32 l (4 * (n : Int)) x)) (by rfl) st_isW; (intro wo hT; (repeat (first | (intro v hv; (fail)) | (intro _ _ k; try have hcv := cv k))); (have aco := (A.below hT).cell; have cDo := (hT.cell (World.block_lt_of_cell? _ _ cD)).trans cD; have bo := b3.below hT; have hsz := hT.size); refine Goes.mk ?_; go_simp; first | exact goes_v | exact goes_b (by assumption) | (refine goes_enter ?_; first | (go_at_call 60; ((with_reducible refine (put32_any B m d l (4 * (n : Int)) x x0 x1 wo bo).mono ?_); rintro e w6 ⟨A6, c6, rfl, o6, hB6⟩); exact ret_p (own_isW o6 hsz) hB6)))))); refine ObsK.nil ?_; intro wz hBz; simp only [finOn, List.drop_succ_cons, List.drop_zero, List.drop_nil]
                rintro v9 ⟨A9, n9, c9, rfl, O9⟩
                obtain rfl : n9 = m := by have := O9.len; have := b3.len; rw [put32_length] at *; omega
                go_simp
                have X9 : BsX wz g (k + 1) A9 n9 c9 (put32 l (4 * (n : Int)) x) := BsX.own O9 (by omega) (by omega)
                have Gz := G.below hBz
                have G6 := Gz.put (by rw [List.length_set]; exact HL1.out) (i := q) (by have := HL1.out; have := HQ.out; omega) X9
                rw [getD_set_opt HQ.out, if_pos rfl, List.set_set] at G6
                have gf := Gz.blk.cell.2
                have cD4 := (Gz.blk.cell.1 _).trans H2.out
                obtain ⟨w7, hw7⟩ : ∃ W, wz.setCell ⟨g, q * 2 + 1, none⟩ (.slice A9 n9 c9) = W := ⟨_, rfl⟩
                rw [hw7] at G6
                have A7' : Blk w7 k #[.int .u16 (s).src, .int .u16 (s).dst, .int .u32 (s).seq, .int .u32 (s).ack, .int .u8 (s).flags, .int .u16 (s).win, .int .u16 (s).urg, .slice (some ⟨g, 0, none⟩) j c7, .slice A8 n8 c8] 29 := by rw [← hw7]; exact (A.below hBz).far _ (by show g ≠ k; omega) _
                have Z7 := (Z.below hBz).far ⟨g, q * 2 + 1, none⟩ (by show g ≠ k + 1; omega) (.slice A9 n9 c9)
                have X7 := (X.below hBz).set_ ⟨g, q * 2 + 1, none⟩ (.inl rfl) (.slice A9 n9 c9)
                rw [hw7] at Z7 X7
                have R7 : Below w.heap.size w w7 := by rw [← hw7]; exact (below_then R hBz).setCell (by show w.heap.size ≤ g; omega) _
                go_wp2_with fail
                exact ⟨⟨n + 1, _, by omega, by go_num, by rw [HP.out]; exact G6, X7, A7', Z7, R7⟩, by simp [intOf]; omega⟩
              · obtain rfl : n = 8 := by omega
                have zr := Z.lt
                have zc := Z.cell
                obtain ⟨wf, hwf, Sf⟩ := store9 Z (.int .u16 s.src) (.int .u16 s.dst) (.int .u32 s.seq) (.int .u32 s.ack) (.int .u8 s.flags) (.int .u16 s.win) (.int .u16 s.urg) (.slice (some ⟨g, 0, none⟩) j c7) (.slice A8 n8 c8)
                go_wp2_with fail
                have pf := Sf.blk.cell
                refine bodyPost_ret (v := (.agg #[.int .u16 (s).src, .int .u16 (s).dst, .int .u32 (s).seq, .int .u32 (s).ack, .int .u8 (s).flags, .int .u16 (s).win, .int .u16 (s).urg, .slice (some ⟨g, 0, none⟩) j c7, .slice A8 n8 c8])) (by simp [results, Try.results25, go_sem, pf]) rfl ?_
                have hmin : min es.length 8 = 8 := by have := E1.len; omega
                rw [HE.out, hmin]
                exact ⟨⟨some ⟨g, 0, none⟩, c7, A8, n8, c8, rfl, (G.sto Sf (by omega)).os (by rw [List.length_set]; exact HL1.out) hcap (by omega) (HK.out _), (X.sto Sf).bs, Sf.bel R (by omega)⟩⟩
theorem OsO.away {w : World} {base : Nat} {A : Option Addr} {n c : Nat} {os : List Opt} (h : OsO w base A n c os) {p : Addr} (hp : p.block < base) (v : Value) : OsO (w.setCell p v) base A n c os := by
  obtain ⟨xs, hx, hj⟩ := h.own
  refine ⟨h.len, xs, ⟨ownsRow_setCell_below hx.row hp v⟩, fun j hjn => ?_⟩
  obtain ⟨h1, B, m, d, h2, h3⟩ := hj j hjn
  exact ⟨h1, B, m, d, h2, h3.away p v (fun a e => by have := h3.ge a e; omega)⟩
theorem Blk.belB {w w' : World} {k B : Nat} {cs : Array Value} {ty : TypeId} (h : Blk w k cs ty) (hb : Below B w w') (hk : k < B) : Blk w' k cs ty := ⟨(hb.block k hk).trans h.rd⟩
theorem take_succ_getD {os : List Opt} {j : Nat} (h : j < os.length) : os.take (j + 1) = os.take j ++ [os.getD j zO] := by
  rw [List.take_succ_eq_append_getElem h]
  simp [List.getD_eq_getElem?_getD, List.getElem?_eq_getElem h]
theorem wsO_getD (os : List Opt) (es : List Int) {j : Nat} (hj : j < os.length) : (wsO os es).getD j zO = if ((j : Nat) : Int) = skI os then ⟨(os.getD j zO).kind, wsD (os.getD j zO).dat es⟩ else os.getD j zO := by
  rcases skI_cases os with h | ⟨q, hq, hk, -⟩
  · unfold wsO; rw [h, if_pos (by omega), if_neg (by omega)]
  · unfold wsO
    rw [hk, if_neg (by omega), show ((q : Nat) : Int).toNat = q from rfl, set_getD hq]
    by_cases e : j = q
    · subst e; rw [if_pos rfl, if_pos rfl]
    · rw [if_neg e, if_neg (by omega)]
theorem rwithS_any (s : Seg) (hs : s.Ok) (OA : Option Addr) (on oc : Nat) (DA : Option Addr) (dn dc : Nat) (EA : Option Addr) (en ec : Nat) (es : List Int) (w : World) (K1 : Os w OA on oc s.opts) (k1 : Bs w DA dn dc s.dat) (E1 : Ws w EA en ec es) (h50 : on ≤ 50) :
    Calls Try.prog 26 #[(.agg #[.int .u16 (s).src, .int .u16 (s).dst, .int .u32 (s).seq, .int .u32 (s).ack, .int .u8 (s).flags, .int .u16 (s).win, .int .u16 (s).urg, .slice OA on oc, .slice DA dn dc]), .slice EA en ec] w (WsPost w (wsS s es) on) := by
  have HOS := Lib.hid (wsO_ok hs.opts es)
  have HL1 := Lib.hid K1.len
  have hsk := fun W (K : Os W OA on oc s.opts) => rsack_any s OA on oc (.slice DA dn dc) W K
  obtain ⟨os, hos⟩ : ∃ os, s.opts = os := ⟨_, rfl⟩
  obtain ⟨D, hD⟩ : ∃ D, s.dat = D := ⟨_, rfl⟩
  have HW : Hid (wsS s es = { s with opts := wsO os es, dat := D }) := by unfold Hid wsS; rw [hos, hD]
  rw [hos] at K1 HOS HL1 hsk
  rw [hD] at k1
  have hwl := Lib.hid (wsO_len os es)
  have hdn := k1.max
  obtain ⟨z, hz⟩ : ∃ z, skI os = z := ⟨_, rfl⟩
  rw [hz] at hsk
  have HZ := Lib.hid hz
  clear hos hD hs hz
  obtain ⟨k, hk, w1, hw1, A1, Z1, T1, R1⟩ := nwI3 w #[.int .u16 (s).src, .int .u16 (s).dst, .int .u32 (s).seq, .int .u32 (s).ack, .int .u8 (s).flags, .int .u16 (s).win, .int .u16 (s).urg, .slice OA on oc, .slice DA dn dc] 29 #[.int .u16 0, .int .u16 0, .int .u32 0, .int .u32 0, .int .u8 0, .int .u16 0, .int .u16 0, .slice none 0 0, .slice none 0 0] 29 #[.int .u16 (s).src, .int .u16 (s).dst, .int .u32 (s).seq, .int .u32 (s).ack, .int .u8 (s).flags, .int .u16 (s).win, .int .u16 (s).urg, .slice none 0 0, .slice DA dn dc] 29
  have Ac1 := A1.cell
  have Zc1 := Z1.cell
  have Tc1 := T1.cell
  have Al1 := A1.lt
  have Zl1 := Z1.lt
  have Tl1 := T1.lt
  have x1 := (k1).below R1
  go_enter Try.func26, Try.ntmps26
  go_wp2_with fail
  go_loopw [6] (fun i wr => ∃ (j : Nat) (A' : Option Addr) (c' : Nat), j ≤ on ∧ i = .int .i64 (j : Int) ∧ OsO wr w1.heap.size A' j c' ((wsO os es).take j) ∧ Blk wr k #[.int .u16 (s).src, .int .u16 (s).dst, .int .u32 (s).seq, .int .u32 (s).ack, .int .u8 (s).flags, .int .u16 (s).win, .int .u16 (s).urg, .slice OA on oc, .slice DA dn dc] 29 ∧ Blk wr (k + 1) #[.int .u16 0, .int .u16 0, .int .u32 0, .int .u32 0, .int .u8 0, .int .u16 0, .int .u16 0, .slice none 0 0, .slice none 0 0] 29 ∧ Blk wr (k + 1 + 1) #[.int .u16 (s).src, .int .u16 (s).dst, .int .u32 (s).seq, .int .u32 (s).ack, .int .u8 (s).flags, .int .u16 (s).win, .int .u16 (s).urg, .slice A' j c', .slice DA dn dc] 29 ∧ Below w.heap.size w wr ∧ w1.heap.size ≤ wr.heap.size) (fun i _ => on - (intOf i).toNat)
  case atStart => exact ⟨0, none, 0, by omega, rfl, osO_nil _ _, A1, Z1, T1, R1, Nat.le_refl _⟩
  case round =>
    obtain ⟨j, A', c', hj, rfl, Ok, Ar, Zr, Tr, Rr, s1⟩ := hrel
    obtain ⟨w2, rfl⟩ : ∃ W, W = wr := ⟨_, rfl⟩
    have ac := Ar.cell
    have tc := Tr.cell
    by_cases hlt : j < on
    · have hji : (j : Int) < on := by omega
      obtain ⟨b, off, rfl, hc⟩ := K1.rd (by omega)
      obtain ⟨cK0, B, m, d, cD0, bD⟩ := hc j hlt
      have cK := (Rr.cell (World.block_lt_of_cell? w _ cK0)).trans cK0
      have cD := (Rr.cell (World.block_lt_of_cell? w _ cD0)).trans cD0
      obtain ⟨κ, hκ⟩ : ∃ κ, (os.getD j zO).kind = κ := ⟨_, rfl⟩
      obtain ⟨l, hl⟩ : ∃ l, (os.getD j zO).dat = l := ⟨_, rfl⟩
      rw [hκ] at cK
      rw [hl] at bD
      have Hκ := Lib.hid hκ
      have Hl := Lib.hid hl
      have hml := bD.max
      clear hc cK0 cD0 hκ hl
      obtain ⟨w3, hw3, V3, kO, hkO, O3⟩ := nw1 w2 #[.int .u8 κ, .slice B m d] 66
      have A3 := Ar.below V3
      have T3 := Tr.below V3
      have Z3 := Zr.below V3
      have R3 := below_then Rr V3
      have b3 := bD.below R3
      have Ok3 := Ok.below V3
      have Oc3 := O3.cell
      have Ac3 := A3.cell
      have s3 := V3.size
      have tr := Tr.lt
      have kol := O3.lt
      have kal := A3.lt
      have kcl := Z3.lt
      have ktl := T3.lt
      obtain ⟨ii, hi, hz', hs', hb'⟩ := info_parts info_opt
      have HWJ : Hid ((wsO os es).take (j + 1) = (wsO os es).take j ++ [(wsO os es).getD j zO]) := take_succ_getD (by rw [hwl.out, HL1.out]; exact hlt)
      have HWG := Lib.hid (wsO_getD os es (j := j) (by rw [HL1.out]; exact hlt))
      obtain ⟨xs, hxs, hj2⟩ := Ok3.own
      have Hj := Lib.hid hj2
      have al1 := A1.lt
      have tl1 := T1.lt
      clear hj2
      by_cases hjz : (j : Int) = z
      · have HV : Hid ((wsO os es).getD j zO = ⟨κ, wsD l es⟩) := by rw [Hid, HWG.out, if_pos (by rw [HZ.out]; exact hjz), Hκ.out, Hl.out]
        have hm32 : m ≤ 32 := by
          rcases skI_cases os with h | ⟨q, hq, hk, hqs⟩
          · have := HZ.out; omega
          · have e : q = j := by have := HZ.out; omega
            subst e
            have := (isSk_len hqs).2.1
            rw [Hl.out, bD.len] at this
            exact this
        have hzj : z = (j : Int) := hjz.symm
        rw [hzj] at hsk
        clear hjz hzj
        go_wp2_with (first
          | (at_builtin; refine wpList_append_bs (w0 := w3) _ rfl _ _ _ rfl w3.heap.size 5 Try.underlying24 info_u8 (some ⟨_, 0, none⟩) 0 0 [] rfl (own_litk _ _ (by simp) w3.heap.size 5 [] 0 rfl (by omega) (by omega)) B m d l rfl (b3.alloc _) (by (repeat (first | with_reducible exact Below.refl _ _ | with_reducible refine below_drew ?_ | with_reducible refine below_drewN ?_ _ | with_reducible refine below_alloc ?_ (Nat.le_refl _) _ | with_reducible refine Below.setCell ?_ (by first | exact Nat.le_refl _ | (simp only []; omega)) _ | with_reducible assumption))) (by omega) (by first | exact Nat.le_refl _ | exact Below.size (by (repeat (first | with_reducible exact Below.refl _ _ | with_reducible refine below_drew ?_ | with_reducible refine below_drewN ?_ _ | with_reducible refine below_alloc ?_ (Nat.le_refl _) _ | with_reducible refine Below.setCell ?_ (by first | exact Nat.le_refl _ | (simp only []; omega)) _ | with_reducible assumption))) | omega | (simp <;> omega)) ?_; intro A9 n9 c9 w9 ho9 hB9 _ hz9; have A9' := A3.below hB9; have a9c := A9'.cell)
          | (go_at_call 58; ((with_reducible refine (hsk w9 (K1.below (below_then R3 hB9))).mono ?_); rintro e w5 ⟨rfl, hB5⟩)))
        have n9m : n9 = m := by have h1 := ho9.len; have h2 := b3.len; simp at h1; omega
        subst n9m
        have hel := E1.len
        have hemx := E1.max
        go_loopw [8, 9] (fun dv i wr => ∃ (n : Nat) (A6 : Option Addr) (c6 : Nat), n ≤ en ∧ n ≤ 8 ∧ i = .int .i64 (n : Int) ∧ dv = .slice A6 n9 c6 ∧ Own wr w3.heap.size 5 A6 n9 c6 (putN l es n) ∧ Below w5.heap.size w5 wr) (fun _ i _ => en - (intOf i).toNat)
        case atStart => exact ⟨0, A9, c9, by omega, by omega, rfl, rfl, by show Own w5 _ _ _ _ _ l; simpa using ho9.below hB5, Below.refl _ _⟩
        case round =>
          obtain ⟨n, A6, c6, hn, hn8, rfl, rfl, Od, Bx⟩ := hrel
          have B5 := below_then (below_then hB9 hB5) Bx
          have T5 := T3.below B5
          have t5c := T5.cell
          have O5 := O3.below B5
          have o5c := O5.cell
          have hx5 := hxs.below B5
          have s5 := B5.size
          have BB : Below w1.heap.size w2 wr := (below_then V3 B5).mono s1
          have hwr : IntKind.i64.wrap (4 * (n : Int)) = 4 * (n : Int) := IntWalk.i64_in _ (by omega)
          by_cases h1 : n < en
          · have h1i : (n : Int) < en := by omega
            by_cases h2 : 4 * n < n9
            · have h2i : 4 * (n : Int) < n9 := by omega
              obtain ⟨eb, eo, rfl, hec⟩ := E1.rd (by omega)
              have ce := ((below_then R3 B5).cell (World.block_lt_of_cell? w _ (hec n (by omega)))).trans (hec n (by omega))
              have hxo := E1.ok (es.getD n 0) (by rw [List.getD_eq_getElem?_getD, List.getElem?_eq_getElem (by omega)]; exact List.getElem_mem _)
              obtain ⟨x, hx⟩ : ∃ x, es.getD n 0 = x := ⟨_, rfl⟩
              rw [hx] at ce hxo
              obtain ⟨x0, x1⟩ := hxo
              have HP : Hid (putN l es (n + 1) = put32 (putN l es n) (4 * (n : Int)) x) := by rw [Hid, ← hx]; rfl
              have od := Od.bs
              clear hx hec
              go_wp2_with (go_at_call 61; ((with_reducible refine (rput32_any A6 n9 c6 _ (4 * (n : Int)) x x0 x1 wr od).mono ?_); rintro e w6 ⟨A10, c10, rfl, o10, hB10⟩))
              exact ⟨⟨n + 1, A10, c10, by omega, by omega, by go_num, rfl, by rw [HP.out]; exact o10.mono (by omega), below_then Bx hB10⟩, by simp [intOf]; omega⟩
            · have h2i : ¬ 4 * (n : Int) < n9 := by omega
              have HN : Hid (putN l es n = wsD l es) := putN_ref (by rw [bD.len]; omega) (by omega) (.inr (by rw [bD.len]; omega))
              go_wp2_with (at_builtin; refine wpList_appG (w0 := w2) _ rfl _ _ _ rfl w1.heap.size 66 ii (.agg #[.int .u8 0, .slice none 0 0]) 2 32 Try.underlying27 hi hz' hs' hb' rfl (by omega) (by omega) A' j c' xs rfl (hx5.alloc _) ⟨wr.heap.size, 0, none⟩ 1 1 [.int .u8 κ, .slice A6 n9 c6] rfl rfl (new2 _ _ _ _) (by intro u h; simp at h; rcases h with rfl | rfl <;> rfl) (below_alloc BB (by omega) _) (by omega) (by simp; omega) ?_; intro A7 c7 w7 O7 hB7 hG7 hz7; have T7 := Tr.belB hB7 (by omega); have t7c := T7.cell; (obtain ⟨w8, hw8, S8⟩ := store1 T7 7 (.slice A7 (j + 1) c7)))
              simp only [List.setIfInBounds_toArray, List.set_cons_zero, List.set_cons_succ] at S8
              have OO := ((Ok3.below B5).below ((Below.refl _ wr).alloc (Nat.le_refl _) (.cells #[.int .u8 κ, .slice A6 n9 c6] 66))).snoc (hx5.alloc _) (fun q hq => by obtain ⟨a1, B', m', d', a2, a3⟩ := Hj.out q hq; exact ⟨a1, B', m', d', a2, (a3.below B5).alloc _⟩) hG7 ⟨κ, (putN l es n)⟩ ((Od.alloc _).mono (by omega)) O7
              have OO8 := OO.away (p := ⟨k + 1 + 1, 7, none⟩) (by show k + 1 + 1 < w1.heap.size; omega) (.slice A7 (j + 1) c7)
              rw [hw8] at OO8
              have A8 := S8.other (by omega) (Ar.belB hB7 (by omega))
              have Z8 := S8.other (by omega) (Zr.belB hB7 (by omega))
              have R8 : Below w.heap.size w w8 := S8.bel (Rr.trans (hB7.mono (by omega))) (by omega)
              have s8 : w1.heap.size ≤ w8.heap.size := by rw [← hw8]; simpa [World.setCell] using hz7
              exact ⟨⟨j + 1, A7, c7, by omega, by go_num, by rw [HWJ.out, HV.out, ← HN.out]; exact OO8, A8, Z8, S8.blk, R8, s8⟩, by simp [intOf]; omega⟩
          · have h1i : ¬ (n : Int) < en := by omega
            have HN : Hid (putN l es n = wsD l es) := putN_ref (by rw [bD.len]; omega) (by omega) (.inl (by omega))
            go_wp2_with (at_builtin; refine wpList_appG (w0 := w2) _ rfl _ _ _ rfl w1.heap.size 66 ii (.agg #[.int .u8 0, .slice none 0 0]) 2 32 Try.underlying27 hi hz' hs' hb' rfl (by omega) (by omega) A' j c' xs rfl (hx5.alloc _) ⟨wr.heap.size, 0, none⟩ 1 1 [.int .u8 κ, .slice A6 n9 c6] rfl rfl (new2 _ _ _ _) (by intro u h; simp at h; rcases h with rfl | rfl <;> rfl) (below_alloc BB (by omega) _) (by omega) (by simp; omega) ?_; intro A7 c7 w7 O7 hB7 hG7 hz7; have T7 := Tr.belB hB7 (by omega); have t7c := T7.cell; (obtain ⟨w8, hw8, S8⟩ := store1 T7 7 (.slice A7 (j + 1) c7)))
            simp only [List.setIfInBounds_toArray, List.set_cons_zero, List.set_cons_succ] at S8
            have OO := ((Ok3.below B5).below ((Below.refl _ wr).alloc (Nat.le_refl _) (.cells #[.int .u8 κ, .slice A6 n9 c6] 66))).snoc (hx5.alloc _) (fun q hq => by obtain ⟨a1, B', m', d', a2, a3⟩ := Hj.out q hq; exact ⟨a1, B', m', d', a2, (a3.below B5).alloc _⟩) hG7 ⟨κ, (putN l es n)⟩ ((Od.alloc _).mono (by omega)) O7
            have OO8 := OO.away (p := ⟨k + 1 + 1, 7, none⟩) (by show k + 1 + 1 < w1.heap.size; omega) (.slice A7 (j + 1) c7)
            rw [hw8] at OO8
            have A8 := S8.other (by omega) (Ar.belB hB7 (by omega))
            have Z8 := S8.other (by omega) (Zr.belB hB7 (by omega))
            have R8 : Below w.heap.size w w8 := S8.bel (Rr.trans (hB7.mono (by omega))) (by omega)
            have s8 : w1.heap.size ≤ w8.heap.size := by rw [← hw8]; simpa [World.setCell] using hz7
            exact ⟨⟨j + 1, A7, c7, by omega, by go_num, by rw [HWJ.out, HV.out, ← HN.out]; exact OO8, A8, Z8, S8.blk, R8, s8⟩, by simp [intOf]; omega⟩
      · have hjz' : ((j : Int) == z) = false := by simpa using hjz
        have HV : Hid ((wsO os es).getD j zO = ⟨κ, l⟩) := by rw [Hid, HWG.out, if_neg (by rw [HZ.out]; exact hjz), ← Hκ.out, ← Hl.out]
        go_wp2_with (first
          | (at_builtin; refine wpList_append_bs (w0 := w3) _ rfl _ _ _ rfl w3.heap.size 5 Try.underlying24 info_u8 (some ⟨_, 0, none⟩) 0 0 [] rfl (own_litk _ _ (by simp) w3.heap.size 5 [] 0 rfl (by omega) (by omega)) B m d l rfl (b3.alloc _) (by (repeat (first | with_reducible exact Below.refl _ _ | with_reducible refine below_drew ?_ | with_reducible refine below_drewN ?_ _ | with_reducible refine below_alloc ?_ (Nat.le_refl _) _ | with_reducible refine Below.setCell ?_ (by first | exact Nat.le_refl _ | (simp only []; omega)) _ | with_reducible assumption))) (by omega) (by first | exact Nat.le_refl _ | exact Below.size (by (repeat (first | with_reducible exact Below.refl _ _ | with_reducible refine below_drew ?_ | with_reducible refine below_drewN ?_ _ | with_reducible refine below_alloc ?_ (Nat.le_refl _) _ | with_reducible refine Below.setCell ?_ (by first | exact Nat.le_refl _ | (simp only []; omega)) _ | with_reducible assumption))) | omega | (simp <;> omega)) ?_; intro A9 n9 c9 w9 ho9 hB9 _ hz9; have A9' := A3.below hB9; have a9c := A9'.cell)
          | (go_at_call 58; ((with_reducible refine (hsk w9 (K1.below (below_then R3 hB9))).mono ?_); rintro e w5 ⟨rfl, hB5⟩); have B5 := below_then hB9 hB5; have T5 := T3.below B5; have t5c := T5.cell; have O5 := O3.below B5; have o5c := O5.cell; have hx5 := hxs.below B5; have s5 := B5.size; have BB : Below w1.heap.size w2 w5 := (below_then V3 B5).mono s1)
          | (at_builtin; refine wpList_appG (w0 := w2) _ rfl _ _ _ rfl w1.heap.size 66 ii (.agg #[.int .u8 0, .slice none 0 0]) 2 32 Try.underlying27 hi hz' hs' hb' rfl (by omega) (by omega) A' j c' xs rfl (hx5.alloc _) ⟨w5.heap.size, 0, none⟩ 1 1 [.int .u8 κ, .slice A9 n9 c9] rfl rfl (new2 _ _ _ _) (by intro u h; simp at h; rcases h with rfl | rfl <;> rfl) (below_alloc BB (by omega) _) (by omega) (by simp; omega) ?_; intro A7 c7 w7 O7 hB7 hG7 hz7; have T7 := Tr.belB hB7 (by omega); have t7c := T7.cell; (obtain ⟨w8, hw8, S8⟩ := store1 T7 7 (.slice A7 (j + 1) c7))))
        rw [List.nil_append] at ho9
        simp only [List.setIfInBounds_toArray, List.set_cons_zero, List.set_cons_succ] at S8
        have OO := ((Ok3.below B5).below ((Below.refl _ w5).alloc (Nat.le_refl _) (.cells #[.int .u8 κ, .slice A9 n9 c9] 66))).snoc (hx5.alloc _) (fun q hq => by obtain ⟨a1, B', m', d', a2, a3⟩ := Hj.out q hq; exact ⟨a1, B', m', d', a2, (a3.below B5).alloc _⟩) hG7 ⟨κ, l⟩ (((ho9.below hB5).alloc _).mono (by omega)) O7
        have OO8 := OO.away (p := ⟨k + 1 + 1, 7, none⟩) (by show k + 1 + 1 < w1.heap.size; omega) (.slice A7 (j + 1) c7)
        rw [hw8] at OO8
        have A8 := S8.other (by omega) (Ar.belB hB7 (by omega))
        have Z8 := S8.other (by omega) (Zr.belB hB7 (by omega))
        have R8 : Below w.heap.size w w8 := S8.bel (Rr.trans (hB7.mono (by omega))) (by omega)
        have s8 : w1.heap.size ≤ w8.heap.size := by rw [← hw8]; simpa [World.setCell] using hz7
        exact ⟨⟨j + 1, A7, c7, by omega, by go_num, by rw [HWJ.out, HV.out]; exact OO8, A8, Z8, S8.blk, R8, s8⟩, by simp [intOf]; omega⟩
    · obtain rfl : j = on := by omega
      have k1r := k1.below Rr
      have htk : (wsO os es).take j = wsO os es := List.take_of_length_le (by rw [hwl.out, HL1.out]; exact Nat.le_refl _)
      rw [htk] at Ok
      have zr := Zr.lt
      have tr := Tr.lt
      have al := Ar.lt
      go_wp2_with (at_builtin; refine wpList_append_bs (w0 := w2) _ rfl _ _ _ rfl w2.heap.size 5 Try.underlying24 info_u8 (some ⟨_, 0, none⟩) 0 0 [] rfl (own_litk _ _ (by simp) w2.heap.size 5 [] 0 rfl (by omega) (by omega)) DA dn dc D rfl (k1r.alloc _) (by (repeat (first | with_reducible exact Below.refl _ _ | with_reducible refine below_drew ?_ | with_reducible refine below_drewN ?_ _ | with_reducible refine below_alloc ?_ (Nat.le_refl _) _ | with_reducible refine Below.setCell ?_ (by first | exact Nat.le_refl _ | (simp only []; omega)) _ | with_reducible assumption))) (by omega) (by first | exact Nat.le_refl _ | exact Below.size (by (repeat (first | with_reducible exact Below.refl _ _ | with_reducible refine below_drew ?_ | with_reducible refine below_drewN ?_ _ | with_reducible refine below_alloc ?_ (Nat.le_refl _) _ | with_reducible refine Below.setCell ?_ (by first | exact Nat.le_refl _ | (simp only []; omega)) _ | with_reducible assumption))) | omega | (simp <;> omega)) ?_; intro A9 n9 c9 w9 ho9 hB9 _ hz9; have T9 := Tr.below hB9; have t9c := T9.cell; (obtain ⟨w10, hw10, S10⟩ := store1 T9 8 (.slice A9 n9 c9)); simp only [List.setIfInBounds_toArray, List.set_cons_zero, List.set_cons_succ] at S10; have t10c := S10.blk.cell; have Z10 := S10.other (by omega) (Zr.below hB9); have z10c := Z10.cell; have z10l := Z10.lt; (obtain ⟨wf, hwf, Sf⟩ := store9 Z10 (.int .u16 s.src) (.int .u16 s.dst) (.int .u32 s.seq) (.int .u32 s.ack) (.int .u8 s.flags) (.int .u16 s.win) (.int .u16 s.urg) (.slice A' j c') (.slice A9 n9 c9)))
      have pf := Sf.blk.cell
      refine bodyPost_ret (v := (.agg #[.int .u16 (s).src, .int .u16 (s).dst, .int .u32 (s).seq, .int .u32 (s).ack, .int .u8 (s).flags, .int .u16 (s).win, .int .u16 (s).urg, .slice A' j c', .slice A9 n9 c9])) (by simp [results, Try.results26, go_sem, pf]) rfl ?_
      rw [List.nil_append] at ho9
      have Of : Os wf A' j c' (wsO os es) := by
        have Oo : OsO wf w1.heap.size A' j c' (wsO os es) := by
          rw [← hwf]
          iterate 9 (refine OsO.away ?_ (by show k + 1 < w1.heap.size; omega) _)
          rw [← hw10]
          exact (Ok.below hB9).away (by show k + 1 + 1 < w1.heap.size; omega) _
        exact Oo.os (by omega) HOS.out
      rw [HW.out]
      exact ⟨⟨A', c', A9, n9, c9, rfl, Of, (Sf.own (S10.own ho9 (fun a e => by have := ho9.ge a e; omega)) (fun a e => by have := ho9.ge a e; omega)).bs, Sf.bel (S10.bel (below_then Rr hB9) (by omega)) (by omega)⟩⟩
theorem Os.takeN {w : World} {A : Option Addr} {n c : Nat} {os : List Opt} (h : Os w A n c os) {k : Nat} (hk : k ≤ n) : Os w A k c (os.take k) := by
  have hl := h.len
  refine ⟨by rw [List.length_take]; omega, by have := h.cap; omega, by have := h.max; omega, h.nil, fun o ho => h.ok o (List.mem_of_mem_take ho), fun hn => ?_⟩
  obtain ⟨b, off, e, hc⟩ := h.rd (by omega)
  refine ⟨b, off, e, fun j hj => ?_⟩
  have g : (os.take k).getD j zO = os.getD j zO := by simp [List.getD_eq_getElem?_getD, List.getElem?_take, hj]
  rw [g]
  exact hc j (by omega)
theorem OwnG.ws {w : World} {base : Nat} {A : Option Addr} {n c : Nat} {l : List Int} (h : OwnG w base 23 1 A n c (u32L l)) (hn : n ≤ 8) (hl : ∀ x ∈ l, 0 ≤ x ∧ x ≤ 4294967295) : Ws w A n c l := by
  have hlen : l.length = n := by have := h.len; unfold u32L at this; simpa using this
  rcases h.row.2 with ⟨hv, h0⟩ | ⟨g, cap, cur, hv, hg, hh, hnc, hcm, hcs, htake⟩
  · injection hv with h1 h2 h3
    subst h1 h2 h3
    exact ⟨hlen, Nat.le_refl _, by omega, fun _ => rfl, hl, fun h => by omega⟩
  · injection hv with h1 h2 h3
    subst h1 h3
    refine ⟨hlen, hnc, by omega, (fun h => by cases h), hl, fun _ => ⟨g, 0, rfl, fun j hj => ?_⟩⟩
    rw [Nat.zero_add, cell_of_row w g j cur 23 (0, 0) hh]
    have : (u32L l)[j]? = some (.int .u32 (l.getD j 0)) := by
      unfold u32L
      rw [List.getElem?_map, List.getElem?_eq_getElem (by omega)]
      simp [List.getD_eq_getElem?_getD, List.getElem?_eq_getElem (show j < l.length by omega)]
    rw [← htake, List.getElem?_take] at this
    split at this
    · simpa using this
    · cases this
theorem edg_ok (d : List UInt8) (k : Nat) : ∀ x ∈ edg d k, 0 ≤ x ∧ x ≤ 4294967295 := by
  intro x hx
  unfold edg at hx
  obtain ⟨i, -, rfl⟩ := List.mem_map.1 hx
  exact ⟨get32_lo _ _, get32_hi _ _⟩
theorem sks_ok (s : Seg) : ∀ x ∈ sks s, 0 ≤ x ∧ x ≤ 4294967295 := by
  unfold sks
  split
  · intro x hx; cases hx
  · exact edg_ok _ _
def isG (B : Nat) (l : List Int) : World → Value → Prop := fun W v => ∃ A n c, v = .slice A n c ∧ OwnG W B 23 1 A n c (u32L l)
theorem st_isG {B : Nat} {l : List Int} : ∀ w w' v, isG B l w v → Below w.heap.size w w' → isG B l w' v := fun _ _ _ ⟨A, n, c, e, k⟩ hb => ⟨A, n, c, e, k.below hb⟩
def isSg (q : Seg) (n : Nat) : World → Value → Prop := fun W v => ∃ A c B m d, v = (.agg #[.int .u16 (q).src, .int .u16 (q).dst, .int .u32 (q).seq, .int .u32 (q).ack, .int .u8 (q).flags, .int .u16 (q).win, .int .u16 (q).urg, .slice A n c, .slice B m d]) ∧ Os W A n c q.opts ∧ Bs W B m d q.dat
theorem st_isSg {q : Seg} {n : Nat} : ∀ w w' v, isSg q n w v → Below w.heap.size w w' → isSg q n w' v := fun _ _ _ ⟨A, c, B, m, d, e, k, h⟩ hb => ⟨A, c, B, m, d, e, k.below hb, h.below hb⟩
theorem ss_lo (s : Seg) (hs : s.Ok) (OA : Option Addr) (on oc : Nat) (A1 : Option Addr) (n1 c1 : Nat) (w : World) (K1 : Os w OA on oc s.opts) (k1 : Bs w A1 n1 c1 s.dat) (EA : Option Addr) (en ec : Nat) (es : List Int) (E1 : Ws w EA en ec es) (h50 : on ≤ 50) : Calls Try.prog 7 #[(.agg #[.int .u16 (s).src, .int .u16 (s).dst, .int .u32 (s).seq, .int .u32 (s).ack, .int .u8 (s).flags, .int .u16 (s).win, .int .u16 (s).urg, .slice OA on oc, .slice A1 n1 c1]), .slice EA en ec] w fun e w' => e = .returned (.bool true) ∧ Below w.heap.size w w' := by
  have K5 : Os w OA on oc s.opts := K1
  have hs5 : ({ s with opts := s.opts } : Seg).Ok := ⟨hs.src, hs.dst, hs.seq, hs.ack, hs.flags, hs.win, hs.urg, K5.ok⟩
  have ca := fun W K => sacks_any { s with opts := s.opts } OA on oc A1 n1 c1 W K
  have hlo := sks_ok { s with opts := s.opts }
  have hl8 := sks_len { s with opts := s.opts }
  have cb := fun W K => rsacks_any { s with opts := s.opts } OA on oc A1 n1 c1 W K
  have cc := fun W K k E => withS_any { s with opts := s.opts } hs5 OA on oc A1 n1 c1 EA en ec es W K k E (by omega)
  have cd := fun W K k E => rwithS_any { s with opts := s.opts } hs5 OA on oc A1 n1 c1 EA en ec es W K k E (by omega)
  have ce := fun W X a b Y m d X' b' Y' m' d' h1 h2 h3 h4 => rtsame_any (wsS { s with opts := s.opts } es) (wsS { s with opts := s.opts } es) X a b Y m d X' a b' Y' m' d' W h1 h2 h3 h4
  simp only [sameS_self] at ce
  obtain ⟨l, hl⟩ : ∃ l, sks { s with opts := s.opts } = l := ⟨_, rfl⟩
  obtain ⟨q, hq⟩ : ∃ q, wsS { s with opts := s.opts } es = q := ⟨_, rfl⟩
  rw [hl] at ca cb hlo hl8
  rw [hq] at cc cd ce
  try dsimp only at ca cb cc cd
  obtain ⟨o5, ho5⟩ : ∃ o5, s.opts = o5 := ⟨_, rfl⟩
  rw [ho5] at K5 ca cb cc cd
  clear hl hq hs hs5 ho5
  have cap := K5.cap
  have capi : (on : Int) ≤ oc := by omega
  have h50i : (on : Int) ≤ 50 := by omega
  obtain ⟨k, hk, w1, hw1, A1, R1⟩ := nwI1 w #[.int .u16 (s).src, .int .u16 (s).dst, .int .u32 (s).seq, .int .u32 (s).ack, .int .u8 (s).flags, .int .u16 (s).win, .int .u16 (s).urg, .slice OA on oc, .slice A1 n1 c1] 29
  have Ac1 := A1.cell
  have Al1 := A1.lt
  have x1 := (k1).below R1
  go_enter Try.func7, Try.ntmps7
  go_wp2_with fail
  refine region_txt 4 (by kernel_rfl) (by kernel_rfl) ?_; (iterate 4 (first | (apply ObsK.skip (by rfl)) | (apply ObsK.v (by rfl); (intro wo hT; (repeat (first | (intro v hv; (fail)) | (intro _ _ k; try have hcv := cv k))); (have aco := (A1.below hT).cell; have Ko := K5.below (below_then R1 hT); have hsz := hT.size); refine Goes.mk ?_; go_simp; first | exact goes_v | exact goes_b (by assumption) | (refine goes_enter ?_; first | (go_at_call 23; ((with_reducible refine (ca wo Ko).mono ?_); rintro e w5 ⟨⟨X5, m5, d5, rfl, o5', hB5⟩⟩); exact ret_p ⟨X5, m5, d5, rfl, o5'.mono hsz⟩ hB5) | (go_at_call 24; ((with_reducible refine (cb wo Ko).mono ?_); rintro e w5 ⟨⟨X5, m5, d5, rfl, o5', hB5⟩⟩); exact ret_p ⟨X5, m5, d5, rfl, o5'.mono hsz⟩ hB5)))) | (apply ObsK.b (by rfl); (intro wo hT; (repeat (first | (intro v hv; (fail)) | (intro _ _ k; try have hcv := cv k))); (have aco := (A1.below hT).cell; have Ko := K5.below (below_then R1 hT); have hsz := hT.size); refine Goes.mk ?_; go_simp; first | exact goes_v | exact goes_b (by assumption) | (refine goes_enter ?_; first | (go_at_call 23; ((with_reducible refine (ca wo Ko).mono ?_); rintro e w5 ⟨⟨X5, m5, d5, rfl, o5', hB5⟩⟩); exact ret_p ⟨X5, m5, d5, rfl, o5'.mono hsz⟩ hB5) | (go_at_call 24; ((with_reducible refine (cb wo Ko).mono ?_); rintro e w5 ⟨⟨X5, m5, d5, rfl, o5', hB5⟩⟩); exact ret_p ⟨X5, m5, d5, rfl, o5'.mono hsz⟩ hB5)))) | (apply ObsK.p (q := isG w1.heap.size l) (by rfl) st_isG; (intro wo hT; (repeat (first | (intro v hv; (fail)) | (intro _ _ k; try have hcv := cv k))); (have aco := (A1.below hT).cell; have Ko := K5.below (below_then R1 hT); have hsz := hT.size); refine Goes.mk ?_; go_simp; first | exact goes_v | exact goes_b (by assumption) | (refine goes_enter ?_; first | (go_at_call 23; ((with_reducible refine (ca wo Ko).mono ?_); rintro e w5 ⟨⟨X5, m5, d5, rfl, o5', hB5⟩⟩); exact ret_p ⟨X5, m5, d5, rfl, o5'.mono hsz⟩ hB5) | (go_at_call 24; ((with_reducible refine (cb wo Ko).mono ?_); rintro e w5 ⟨⟨X5, m5, d5, rfl, o5', hB5⟩⟩); exact ret_p ⟨X5, m5, d5, rfl, o5'.mono hsz⟩ hB5)))))); refine ObsK.nil ?_; intro wz hBz; simp only [finOn, List.drop_succ_cons, List.drop_zero, List.drop_nil]
  rintro v8 ⟨P, pn, pc, rfl, OP⟩ v7 ⟨Q, qn, qc, rfl, OQ⟩
  have hpl : l.length = pn := by have := OP.len; unfold u32L at this; simpa using this
  obtain rfl : qn = pn := by have := OQ.len; unfold u32L at this; simp at this; omega
  go_simp
  have WP := OP.ws (by omega) hlo
  have WQ := OQ.ws (by omega) hlo
  have A3 := A1.below hBz
  have R3 := below_then R1 hBz
  clear OP OQ
  go_wp2_with fail
  go_loopw [7] (fun i wr => ∃ j : Nat, j ≤ qn ∧ i = .int .i64 (j : Int) ∧ Below wz.heap.size wz wr) (fun i _ => qn - (intOf i).toNat)
  case atStart => exact ⟨0, by omega, rfl, Below.refl _ _⟩
  case round =>
    obtain ⟨j, hj, rfl, Bj⟩ := hrel
    by_cases hlt : j < qn
    · have hji : (j : Int) < qn := by omega
      obtain ⟨b1, o1, rfl, h1⟩ := WP.rd (by omega)
      obtain ⟨b2, o2, rfl, h2⟩ := WQ.rd (by omega)
      have g1 := (Bj.cell (World.block_lt_of_cell? wz _ (h1 j hlt))).trans (h1 j hlt)
      have g2 := (Bj.cell (World.block_lt_of_cell? wz _ (h2 j hlt))).trans (h2 j hlt)
      obtain ⟨x, hx⟩ : ∃ x, l.getD j 0 = x := ⟨_, rfl⟩
      rw [hx] at g1 g2
      clear h1 h2 hx
      go_wp2_with (go_quiet (fail))
      exact ⟨⟨j + 1, by omega, by go_num, by (repeat (first | with_reducible exact Below.refl _ _ | with_reducible refine below_drew ?_ | with_reducible refine below_drewN ?_ _ | with_reducible refine below_alloc ?_ (Nat.le_refl _) _ | with_reducible refine Below.setCell ?_ (by first | exact Nat.le_refl _ | (simp only []; omega)) _ | with_reducible assumption))⟩, by simp [intOf]; omega⟩
    · obtain rfl : j = qn := by omega
      have A4 := A3.below Bj
      have R4 := below_then R3 Bj
      go_wp2_with fail
      refine region_txt 9 (by kernel_rfl) (by kernel_rfl) ?_; (iterate 9 (first | (apply ObsK.skip (by rfl)) | (apply ObsK.v (by rfl); (intro wo hT; (repeat (first | (intro v hv; ((obtain ⟨Xq, cq, Yq, mq, dq, rfl, oq, bq⟩ := hv))) | (intro _ _ k; try have hcv := cv k))); (have aco := (A4.below hT).cell; have Ko := K5.below (below_then R4 hT); have xo := k1.below (below_then R4 hT); have Eo := E1.below (below_then R4 hT); have hsz := hT.size); refine Goes.mk ?_; go_simp; first | exact goes_v | exact goes_b (by assumption) | (refine goes_enter ?_; first | (go_at_call 16; ((with_reducible refine (live03_any wo).mono ?_); rintro e w5 ⟨rfl, hD5⟩); exact ret_v hD5) | (go_at_call 25; ((with_reducible refine (cc wo Ko xo Eo).mono ?_); rintro e w5 ⟨⟨Xq, cq, Yq, mq, dq, rfl, oq, bq, hB5⟩⟩); exact ret_p ⟨Xq, cq, Yq, mq, dq, rfl, oq, bq⟩ hB5) | (go_at_call 26; ((with_reducible refine (cd wo Ko xo Eo).mono ?_); rintro e w5 ⟨⟨Xq, cq, Yq, mq, dq, rfl, oq, bq, hB5⟩⟩); exact ret_p ⟨Xq, cq, Yq, mq, dq, rfl, oq, bq⟩ hB5) | (go_at_call 17; ((with_reducible refine (ce wo _ _ _ _ _ _ _ _ _ _ _ (by assumption) (by assumption) (by assumption) (by assumption)).mono ?_); rintro e w5 ⟨rfl, hB5⟩); exact ret_v hB5)))) | (apply ObsK.b (by rfl); (intro wo hT; (repeat (first | (intro v hv; ((obtain ⟨Xq, cq, Yq, mq, dq, rfl, oq, bq⟩ := hv))) | (intro _ _ k; try have hcv := cv k))); (have aco := (A4.below hT).cell; have Ko := K5.below (below_then R4 hT); have xo := k1.below (below_then R4 hT); have Eo := E1.below (below_then R4 hT); have hsz := hT.size); refine Goes.mk ?_; go_simp; first | exact goes_v | exact goes_b (by assumption) | (refine goes_enter ?_; first | (go_at_call 16; ((with_reducible refine (live03_any wo).mono ?_); rintro e w5 ⟨rfl, hD5⟩); exact ret_v hD5) | (go_at_call 25; ((with_reducible refine (cc wo Ko xo Eo).mono ?_); rintro e w5 ⟨⟨Xq, cq, Yq, mq, dq, rfl, oq, bq, hB5⟩⟩); exact ret_p ⟨Xq, cq, Yq, mq, dq, rfl, oq, bq⟩ hB5) | (go_at_call 26; ((with_reducible refine (cd wo Ko xo Eo).mono ?_); rintro e w5 ⟨⟨Xq, cq, Yq, mq, dq, rfl, oq, bq, hB5⟩⟩); exact ret_p ⟨Xq, cq, Yq, mq, dq, rfl, oq, bq⟩ hB5) | (go_at_call 17; ((with_reducible refine (ce wo _ _ _ _ _ _ _ _ _ _ _ (by assumption) (by assumption) (by assumption) (by assumption)).mono ?_); rintro e w5 ⟨rfl, hB5⟩); exact ret_v hB5)))) | (apply ObsK.p (q := isSg q on) (by rfl) st_isSg; (intro wo hT; (repeat (first | (intro v hv; ((obtain ⟨Xq, cq, Yq, mq, dq, rfl, oq, bq⟩ := hv))) | (intro _ _ k; try have hcv := cv k))); (have aco := (A4.below hT).cell; have Ko := K5.below (below_then R4 hT); have xo := k1.below (below_then R4 hT); have Eo := E1.below (below_then R4 hT); have hsz := hT.size); refine Goes.mk ?_; go_simp; first | exact goes_v | exact goes_b (by assumption) | (refine goes_enter ?_; first | (go_at_call 16; ((with_reducible refine (live03_any wo).mono ?_); rintro e w5 ⟨rfl, hD5⟩); exact ret_v hD5) | (go_at_call 25; ((with_reducible refine (cc wo Ko xo Eo).mono ?_); rintro e w5 ⟨⟨Xq, cq, Yq, mq, dq, rfl, oq, bq, hB5⟩⟩); exact ret_p ⟨Xq, cq, Yq, mq, dq, rfl, oq, bq⟩ hB5) | (go_at_call 26; ((with_reducible refine (cd wo Ko xo Eo).mono ?_); rintro e w5 ⟨⟨Xq, cq, Yq, mq, dq, rfl, oq, bq, hB5⟩⟩); exact ret_p ⟨Xq, cq, Yq, mq, dq, rfl, oq, bq⟩ hB5) | (go_at_call 17; ((with_reducible refine (ce wo _ _ _ _ _ _ _ _ _ _ _ (by assumption) (by assumption) (by assumption) (by assumption)).mono ?_); rintro e w5 ⟨rfl, hB5⟩); exact ret_v hB5)))))); refine ObsK.nil ?_; intro wz hBz; simp only [finOn, List.drop_succ_cons, List.drop_zero, List.drop_nil]
      rintro vb hvb va hva
      clear hva hvb
      go_simp
      go_wp2_with fail
      go_ret
      exact ⟨rfl, below_then R4 hBz⟩
theorem ss_hi (s : Seg) (hs : s.Ok) (OA : Option Addr) (on oc : Nat) (A1 : Option Addr) (n1 c1 : Nat) (w : World) (K1 : Os w OA on oc s.opts) (k1 : Bs w A1 n1 c1 s.dat) (EA : Option Addr) (en ec : Nat) (es : List Int) (E1 : Ws w EA en ec es) (h50 : 50 < on) : Calls Try.prog 7 #[(.agg #[.int .u16 (s).src, .int .u16 (s).dst, .int .u32 (s).seq, .int .u32 (s).ack, .int .u8 (s).flags, .int .u16 (s).win, .int .u16 (s).urg, .slice OA on oc, .slice A1 n1 c1]), .slice EA en ec] w fun e w' => e = .returned (.bool true) ∧ Below w.heap.size w w' := by
  have K5 : Os w OA 50 oc (s.opts.take 50) := K1.takeN (by omega)
  have hs5 : ({ s with opts := (s.opts.take 50) } : Seg).Ok := ⟨hs.src, hs.dst, hs.seq, hs.ack, hs.flags, hs.win, hs.urg, K5.ok⟩
  have ca := fun W K => sacks_any { s with opts := (s.opts.take 50) } OA 50 oc A1 n1 c1 W K
  have hlo := sks_ok { s with opts := (s.opts.take 50) }
  have hl8 := sks_len { s with opts := (s.opts.take 50) }
  have cb := fun W K => rsacks_any { s with opts := (s.opts.take 50) } OA 50 oc A1 n1 c1 W K
  have cc := fun W K k E => withS_any { s with opts := (s.opts.take 50) } hs5 OA 50 oc A1 n1 c1 EA en ec es W K k E (by omega)
  have cd := fun W K k E => rwithS_any { s with opts := (s.opts.take 50) } hs5 OA 50 oc A1 n1 c1 EA en ec es W K k E (by omega)
  have ce := fun W X a b Y m d X' b' Y' m' d' h1 h2 h3 h4 => rtsame_any (wsS { s with opts := (s.opts.take 50) } es) (wsS { s with opts := (s.opts.take 50) } es) X a b Y m d X' a b' Y' m' d' W h1 h2 h3 h4
  simp only [sameS_self] at ce
  obtain ⟨l, hl⟩ : ∃ l, sks { s with opts := (s.opts.take 50) } = l := ⟨_, rfl⟩
  obtain ⟨q, hq⟩ : ∃ q, wsS { s with opts := (s.opts.take 50) } es = q := ⟨_, rfl⟩
  rw [hl] at ca cb hlo hl8
  rw [hq] at cc cd ce
  try dsimp only at ca cb cc cd
  obtain ⟨o5, ho5⟩ : ∃ o5, (s.opts.take 50) = o5 := ⟨_, rfl⟩
  rw [ho5] at K5 ca cb cc cd
  clear hl hq hs hs5 ho5
  have cap := K5.cap
  have capi : (50 : Int) ≤ oc := by omega
  have h50i : (50 : Int) < on := by omega
  obtain ⟨k, hk, w1, hw1, A1, R1⟩ := nwI1 w #[.int .u16 (s).src, .int .u16 (s).dst, .int .u32 (s).seq, .int .u32 (s).ack, .int .u8 (s).flags, .int .u16 (s).win, .int .u16 (s).urg, .slice OA on oc, .slice A1 n1 c1] 29
  have Ac1 := A1.cell
  have Al1 := A1.lt
  have x1 := (k1).below R1
  go_enter Try.func7, Try.ntmps7
  obtain ⟨w2, hw2, S2⟩ := store1 A1 7 (.slice OA 50 oc)
  simp only [List.setIfInBounds_toArray, List.set_cons_zero, List.set_cons_succ] at S2
  have A2 := S2.blk
  have R2 : Below w.heap.size w w2 := S2.bel R1 (by omega)
  have Ac2 := A2.cell
  go_wp2_with fail
  refine region_txt 4 (by kernel_rfl) (by kernel_rfl) ?_; (iterate 4 (first | (apply ObsK.skip (by rfl)) | (apply ObsK.v (by rfl); (intro wo hT; (repeat (first | (intro v hv; (fail)) | (intro _ _ k; try have hcv := cv k))); (have aco := (A2.below hT).cell; have Ko := K5.below (below_then R2 hT); have hsz := hT.size); refine Goes.mk ?_; go_simp; first | exact goes_v | exact goes_b (by assumption) | (refine goes_enter ?_; first | (go_at_call 23; ((with_reducible refine (ca wo Ko).mono ?_); rintro e w5 ⟨⟨X5, m5, d5, rfl, o5', hB5⟩⟩); exact ret_p ⟨X5, m5, d5, rfl, o5'.mono hsz⟩ hB5) | (go_at_call 24; ((with_reducible refine (cb wo Ko).mono ?_); rintro e w5 ⟨⟨X5, m5, d5, rfl, o5', hB5⟩⟩); exact ret_p ⟨X5, m5, d5, rfl, o5'.mono hsz⟩ hB5)))) | (apply ObsK.b (by rfl); (intro wo hT; (repeat (first | (intro v hv; (fail)) | (intro _ _ k; try have hcv := cv k))); (have aco := (A2.below hT).cell; have Ko := K5.below (below_then R2 hT); have hsz := hT.size); refine Goes.mk ?_; go_simp; first | exact goes_v | exact goes_b (by assumption) | (refine goes_enter ?_; first | (go_at_call 23; ((with_reducible refine (ca wo Ko).mono ?_); rintro e w5 ⟨⟨X5, m5, d5, rfl, o5', hB5⟩⟩); exact ret_p ⟨X5, m5, d5, rfl, o5'.mono hsz⟩ hB5) | (go_at_call 24; ((with_reducible refine (cb wo Ko).mono ?_); rintro e w5 ⟨⟨X5, m5, d5, rfl, o5', hB5⟩⟩); exact ret_p ⟨X5, m5, d5, rfl, o5'.mono hsz⟩ hB5)))) | (apply ObsK.p (q := isG w2.heap.size l) (by rfl) st_isG; (intro wo hT; (repeat (first | (intro v hv; (fail)) | (intro _ _ k; try have hcv := cv k))); (have aco := (A2.below hT).cell; have Ko := K5.below (below_then R2 hT); have hsz := hT.size); refine Goes.mk ?_; go_simp; first | exact goes_v | exact goes_b (by assumption) | (refine goes_enter ?_; first | (go_at_call 23; ((with_reducible refine (ca wo Ko).mono ?_); rintro e w5 ⟨⟨X5, m5, d5, rfl, o5', hB5⟩⟩); exact ret_p ⟨X5, m5, d5, rfl, o5'.mono hsz⟩ hB5) | (go_at_call 24; ((with_reducible refine (cb wo Ko).mono ?_); rintro e w5 ⟨⟨X5, m5, d5, rfl, o5', hB5⟩⟩); exact ret_p ⟨X5, m5, d5, rfl, o5'.mono hsz⟩ hB5)))))); refine ObsK.nil ?_; intro wz hBz; simp only [finOn, List.drop_succ_cons, List.drop_zero, List.drop_nil]
  rintro v8 ⟨P, pn, pc, rfl, OP⟩ v7 ⟨Q, qn, qc, rfl, OQ⟩
  have hpl : l.length = pn := by have := OP.len; unfold u32L at this; simpa using this
  obtain rfl : qn = pn := by have := OQ.len; unfold u32L at this; simp at this; omega
  go_simp
  have WP := OP.ws (by omega) hlo
  have WQ := OQ.ws (by omega) hlo
  have A3 := A2.below hBz
  have R3 := below_then R2 hBz
  clear OP OQ
  go_wp2_with fail
  go_loopw [7] (fun i wr => ∃ j : Nat, j ≤ qn ∧ i = .int .i64 (j : Int) ∧ Below wz.heap.size wz wr) (fun i _ => qn - (intOf i).toNat)
  case atStart => exact ⟨0, by omega, rfl, Below.refl _ _⟩
  case round =>
    obtain ⟨j, hj, rfl, Bj⟩ := hrel
    by_cases hlt : j < qn
    · have hji : (j : Int) < qn := by omega
      obtain ⟨b1, o1, rfl, h1⟩ := WP.rd (by omega)
      obtain ⟨b2, o2, rfl, h2⟩ := WQ.rd (by omega)
      have g1 := (Bj.cell (World.block_lt_of_cell? wz _ (h1 j hlt))).trans (h1 j hlt)
      have g2 := (Bj.cell (World.block_lt_of_cell? wz _ (h2 j hlt))).trans (h2 j hlt)
      obtain ⟨x, hx⟩ : ∃ x, l.getD j 0 = x := ⟨_, rfl⟩
      rw [hx] at g1 g2
      clear h1 h2 hx
      go_wp2_with (go_quiet (fail))
      exact ⟨⟨j + 1, by omega, by go_num, by (repeat (first | with_reducible exact Below.refl _ _ | with_reducible refine below_drew ?_ | with_reducible refine below_drewN ?_ _ | with_reducible refine below_alloc ?_ (Nat.le_refl _) _ | with_reducible refine Below.setCell ?_ (by first | exact Nat.le_refl _ | (simp only []; omega)) _ | with_reducible assumption))⟩, by simp [intOf]; omega⟩
    · obtain rfl : j = qn := by omega
      have A4 := A3.below Bj
      have R4 := below_then R3 Bj
      go_wp2_with fail
      refine region_txt 9 (by kernel_rfl) (by kernel_rfl) ?_; (iterate 9 (first | (apply ObsK.skip (by rfl)) | (apply ObsK.v (by rfl); (intro wo hT; (repeat (first | (intro v hv; ((obtain ⟨Xq, cq, Yq, mq, dq, rfl, oq, bq⟩ := hv))) | (intro _ _ k; try have hcv := cv k))); (have aco := (A4.below hT).cell; have Ko := K5.below (below_then R4 hT); have xo := k1.below (below_then R4 hT); have Eo := E1.below (below_then R4 hT); have hsz := hT.size); refine Goes.mk ?_; go_simp; first | exact goes_v | exact goes_b (by assumption) | (refine goes_enter ?_; first | (go_at_call 16; ((with_reducible refine (live03_any wo).mono ?_); rintro e w5 ⟨rfl, hD5⟩); exact ret_v hD5) | (go_at_call 25; ((with_reducible refine (cc wo Ko xo Eo).mono ?_); rintro e w5 ⟨⟨Xq, cq, Yq, mq, dq, rfl, oq, bq, hB5⟩⟩); exact ret_p ⟨Xq, cq, Yq, mq, dq, rfl, oq, bq⟩ hB5) | (go_at_call 26; ((with_reducible refine (cd wo Ko xo Eo).mono ?_); rintro e w5 ⟨⟨Xq, cq, Yq, mq, dq, rfl, oq, bq, hB5⟩⟩); exact ret_p ⟨Xq, cq, Yq, mq, dq, rfl, oq, bq⟩ hB5) | (go_at_call 17; ((with_reducible refine (ce wo _ _ _ _ _ _ _ _ _ _ _ (by assumption) (by assumption) (by assumption) (by assumption)).mono ?_); rintro e w5 ⟨rfl, hB5⟩); exact ret_v hB5)))) | (apply ObsK.b (by rfl); (intro wo hT; (repeat (first | (intro v hv; ((obtain ⟨Xq, cq, Yq, mq, dq, rfl, oq, bq⟩ := hv))) | (intro _ _ k; try have hcv := cv k))); (have aco := (A4.below hT).cell; have Ko := K5.below (below_then R4 hT); have xo := k1.below (below_then R4 hT); have Eo := E1.below (below_then R4 hT); have hsz := hT.size); refine Goes.mk ?_; go_simp; first | exact goes_v | exact goes_b (by assumption) | (refine goes_enter ?_; first | (go_at_call 16; ((with_reducible refine (live03_any wo).mono ?_); rintro e w5 ⟨rfl, hD5⟩); exact ret_v hD5) | (go_at_call 25; ((with_reducible refine (cc wo Ko xo Eo).mono ?_); rintro e w5 ⟨⟨Xq, cq, Yq, mq, dq, rfl, oq, bq, hB5⟩⟩); exact ret_p ⟨Xq, cq, Yq, mq, dq, rfl, oq, bq⟩ hB5) | (go_at_call 26; ((with_reducible refine (cd wo Ko xo Eo).mono ?_); rintro e w5 ⟨⟨Xq, cq, Yq, mq, dq, rfl, oq, bq, hB5⟩⟩); exact ret_p ⟨Xq, cq, Yq, mq, dq, rfl, oq, bq⟩ hB5) | (go_at_call 17; ((with_reducible refine (ce wo _ _ _ _ _ _ _ _ _ _ _ (by assumption) (by assumption) (by assumption) (by assumption)).mono ?_); rintro e w5 ⟨rfl, hB5⟩); exact ret_v hB5)))) | (apply ObsK.p (q := isSg q 50) (by rfl) st_isSg; (intro wo hT; (repeat (first | (intro v hv; ((obtain ⟨Xq, cq, Yq, mq, dq, rfl, oq, bq⟩ := hv))) | (intro _ _ k; try have hcv := cv k))); (have aco := (A4.below hT).cell; have Ko := K5.below (below_then R4 hT); have xo := k1.below (below_then R4 hT); have Eo := E1.below (below_then R4 hT); have hsz := hT.size); refine Goes.mk ?_; go_simp; first | exact goes_v | exact goes_b (by assumption) | (refine goes_enter ?_; first | (go_at_call 16; ((with_reducible refine (live03_any wo).mono ?_); rintro e w5 ⟨rfl, hD5⟩); exact ret_v hD5) | (go_at_call 25; ((with_reducible refine (cc wo Ko xo Eo).mono ?_); rintro e w5 ⟨⟨Xq, cq, Yq, mq, dq, rfl, oq, bq, hB5⟩⟩); exact ret_p ⟨Xq, cq, Yq, mq, dq, rfl, oq, bq⟩ hB5) | (go_at_call 26; ((with_reducible refine (cd wo Ko xo Eo).mono ?_); rintro e w5 ⟨⟨Xq, cq, Yq, mq, dq, rfl, oq, bq, hB5⟩⟩); exact ret_p ⟨Xq, cq, Yq, mq, dq, rfl, oq, bq⟩ hB5) | (go_at_call 17; ((with_reducible refine (ce wo _ _ _ _ _ _ _ _ _ _ _ (by assumption) (by assumption) (by assumption) (by assumption)).mono ?_); rintro e w5 ⟨rfl, hB5⟩); exact ret_v hB5)))))); refine ObsK.nil ?_; intro wz hBz; simp only [finOn, List.drop_succ_cons, List.drop_zero, List.drop_nil]
      rintro vb hvb va hva
      clear hva hvb
      go_simp
      go_wp2_with fail
      go_ret
      exact ⟨rfl, below_then R4 hBz⟩
theorem segsSacks_walk (w : World) (s : Seg) (hs : s.Ok) (OA : Option Addr) (on oc : Nat) (A1 : Option Addr) (n1 c1 : Nat) (K1 : Os w OA on oc s.opts) (k1 : Bs w A1 n1 c1 s.dat) (hn1 : n1 ≤ 140737488351232) (EA : Option Addr) (en ec : Nat) (es : List Int) (E1 : Ws w EA en ec es) : Calls Try.prog 7 #[(.agg #[.int .u16 (s).src, .int .u16 (s).dst, .int .u32 (s).seq, .int .u32 (s).ack, .int .u8 (s).flags, .int .u16 (s).win, .int .u16 (s).urg, .slice OA on oc, .slice A1 n1 c1]), .slice EA en ec] w fun e w' => e = .returned (.bool true) ∧ Below w.heap.size w w' := by
  rcases Nat.lt_or_ge 50 on with h | h
  · exact ss_hi s hs OA on oc A1 n1 c1 w K1 k1 EA en ec es E1 h
  · exact ss_lo s hs OA on oc A1 n1 c1 w K1 k1 EA en ec es E1 h
theorem se_lo (s : Seg) (hs : s.Ok) (OA : Option Addr) (on oc : Nat) (A1 : Option Addr) (n1 c1 : Nat) (w : World) (K1 : Os w OA on oc s.opts) (k1 : Bs w A1 n1 c1 s.dat) (EA : Option Addr) (en ec : Nat) (es : List Int) (E1 : Ws w EA en ec es) (h50 : on ≤ 50) : Calls Try.prog 8 #[(.agg #[.int .u16 (s).src, .int .u16 (s).dst, .int .u32 (s).seq, .int .u32 (s).ack, .int .u8 (s).flags, .int .u16 (s).win, .int .u16 (s).urg, .slice OA on oc, .slice A1 n1 c1]), .slice EA en ec] w fun e w' => e = .returned (.bool true) ∧ Below w.heap.size w w' := by
  have K5 : Os w OA on oc s.opts := K1
  have hs5 : ({ s with opts := s.opts } : Seg).Ok := ⟨hs.src, hs.dst, hs.seq, hs.ack, hs.flags, hs.win, hs.urg, K5.ok⟩
  have ca := fun W K => sacks_any { s with opts := s.opts } OA on oc A1 n1 c1 W K
  have hlo := sks_ok { s with opts := s.opts }
  have hl8 := sks_len { s with opts := s.opts }
  have cc := fun W X n c K k E => withS_any { s with opts := s.opts } hs5 OA on oc A1 n1 c1 X n c (sks { s with opts := s.opts }) W K k E (by omega)
  have cd := fun W K k E => withS_any { s with opts := s.opts } hs5 OA on oc A1 n1 c1 EA en ec es W K k E (by omega)
  have ce := fun W X b Y m d h1 h2 h3 h4 => rtsame_any { s with opts := s.opts } { s with opts := s.opts } X on b Y m d OA on oc A1 n1 c1 W h1 h2 h3 h4
  have cf := fun W X n c Y m d K => sacks_any (wsS { s with opts := s.opts } es) X n c Y m d W K
  have hmo := sks_ok (wsS { s with opts := s.opts } es)
  have hm8 := sks_len (wsS { s with opts := s.opts } es)
  obtain ⟨hml, hmx⟩ := sks_ws { s with opts := s.opts } es E1.ok
  simp only [sameS_self] at ce
  simp only [wsO_self] at cc
  obtain ⟨l, hl⟩ : ∃ l, sks { s with opts := s.opts } = l := ⟨_, rfl⟩
  obtain ⟨q, hq⟩ : ∃ q, wsS { s with opts := s.opts } es = q := ⟨_, rfl⟩
  rw [hl] at ca hlo hl8 cc hml hmx
  rw [hq] at cd cf hml hmx hmo hm8
  obtain ⟨m, hm⟩ : ∃ m, sks q = m := ⟨_, rfl⟩
  rw [hm] at cf hml hmx hmo hm8
  try dsimp only at ca cc cd ce
  skip
  clear hl hq hs hs5 hm
  have HMX := Lib.hid hmx
  have HML := Lib.hid hml
  have HEL := Lib.hid E1.len
  clear hmx hml
  have cap := K5.cap
  have capi : (on : Int) ≤ oc := by omega
  have h50i : (on : Int) ≤ 50 := by omega
  obtain ⟨k, hk, w1, hw1, A1, R1⟩ := nwI1 w #[.int .u16 (s).src, .int .u16 (s).dst, .int .u32 (s).seq, .int .u32 (s).ack, .int .u8 (s).flags, .int .u16 (s).win, .int .u16 (s).urg, .slice OA on oc, .slice A1 n1 c1] 29
  have Ac1 := A1.cell
  have Al1 := A1.lt
  have x1 := (k1).below R1
  go_enter Try.func8, Try.ntmps8
  go_wp2_with (go_at_call 23; ((with_reducible refine (ca w1 (K5.below R1)).mono ?_); rintro e w5 ⟨⟨X5, m5, d5, rfl, o5', hB5⟩⟩))
  have A5 := A1.below hB5
  have R5 := below_then R1 hB5
  have hpl : l.length = m5 := by have := o5'.len; unfold u32L at this; simpa using this
  have W5 := o5'.ws (by omega) hlo
  refine region_txt 6 (by kernel_rfl) (by kernel_rfl) ?_; (iterate 6 (first | (apply ObsK.skip (by rfl)) | (apply ObsK.v (by rfl); (intro wo hT; (repeat (first | (intro v hv; ((obtain ⟨Xq, cq, Yq, mq, dq, rfl, oq, bq⟩ := hv))) | (intro _ _ k; try have hcv := cv k))); (have aco := (A5.below hT).cell; have Ko := K5.below (below_then R5 hT); have xo := k1.below (below_then R5 hT); have Wo := W5.below hT; have hsz := hT.size); refine Goes.mk ?_; go_simp; first | exact goes_v | exact goes_b (by assumption) | (refine goes_enter ?_; first | (go_at_call 25; ((with_reducible refine (cc wo X5 m5 d5 Ko xo Wo).mono ?_); rintro e w6 ⟨⟨Xq, cq, Yq, mq, dq, rfl, oq, bq, hB6⟩⟩); exact ret_p ⟨Xq, cq, Yq, mq, dq, rfl, oq, bq⟩ hB6) | (go_at_call 17; ((with_reducible refine (ce wo _ _ _ _ _ (by assumption) (by assumption) Ko xo).mono ?_); rintro e w6 ⟨rfl, hB6⟩); exact ret_v hB6)))) | (apply ObsK.b (by rfl); (intro wo hT; (repeat (first | (intro v hv; ((obtain ⟨Xq, cq, Yq, mq, dq, rfl, oq, bq⟩ := hv))) | (intro _ _ k; try have hcv := cv k))); (have aco := (A5.below hT).cell; have Ko := K5.below (below_then R5 hT); have xo := k1.below (below_then R5 hT); have Wo := W5.below hT; have hsz := hT.size); refine Goes.mk ?_; go_simp; first | exact goes_v | exact goes_b (by assumption) | (refine goes_enter ?_; first | (go_at_call 25; ((with_reducible refine (cc wo X5 m5 d5 Ko xo Wo).mono ?_); rintro e w6 ⟨⟨Xq, cq, Yq, mq, dq, rfl, oq, bq, hB6⟩⟩); exact ret_p ⟨Xq, cq, Yq, mq, dq, rfl, oq, bq⟩ hB6) | (go_at_call 17; ((with_reducible refine (ce wo _ _ _ _ _ (by assumption) (by assumption) Ko xo).mono ?_); rintro e w6 ⟨rfl, hB6⟩); exact ret_v hB6)))) | (apply ObsK.p (q := isSg s on) (by rfl) st_isSg; (intro wo hT; (repeat (first | (intro v hv; ((obtain ⟨Xq, cq, Yq, mq, dq, rfl, oq, bq⟩ := hv))) | (intro _ _ k; try have hcv := cv k))); (have aco := (A5.below hT).cell; have Ko := K5.below (below_then R5 hT); have xo := k1.below (below_then R5 hT); have Wo := W5.below hT; have hsz := hT.size); refine Goes.mk ?_; go_simp; first | exact goes_v | exact goes_b (by assumption) | (refine goes_enter ?_; first | (go_at_call 25; ((with_reducible refine (cc wo X5 m5 d5 Ko xo Wo).mono ?_); rintro e w6 ⟨⟨Xq, cq, Yq, mq, dq, rfl, oq, bq, hB6⟩⟩); exact ret_p ⟨Xq, cq, Yq, mq, dq, rfl, oq, bq⟩ hB6) | (go_at_call 17; ((with_reducible refine (ce wo _ _ _ _ _ (by assumption) (by assumption) Ko xo).mono ?_); rintro e w6 ⟨rfl, hB6⟩); exact ret_v hB6)))))); refine ObsK.nil ?_; intro wz hBz; simp only [finOn, List.drop_succ_cons, List.drop_zero, List.drop_nil]
  rintro va hva
  clear hva
  go_simp
  have A6 := A5.below hBz
  have R6 := below_then R5 hBz
  have W6 := W5.below hBz
  have a6c := A6.cell
  have k6 := k1.below R6
  have E6 := E1.below R6
  have K6 := K5.below R6
  go_wp2_with (first
    | (go_at_call 25; ((with_reducible refine (cd wz K6 k6 E6).mono ?_); rintro e w7 ⟨⟨Xq, cq, Yq, mq, dq, rfl, oq, bq, hB7⟩⟩))
    | (go_at_call 23; ((with_reducible refine (cf w7 _ _ _ _ _ _ oq).mono ?_); rintro e w8 ⟨⟨X8, m8, d8, rfl, o8, hB8⟩⟩); have hql : m.length = m8 := (by have := o8.len; unfold u32L at this; simpa using this); (obtain rfl : m8 = m5 := by have := HML.out; omega)))
  have W8 := o8.ws (by omega) hmo
  have R8 := below_then R6 (below_then hB7 hB8)
  have L8 := W6.below (below_then hB7 hB8)
  have E8 := E6.below (below_then hB7 hB8)
  clear o8 oq bq
  go_loopw [7] (fun i wr => ∃ j : Nat, j ≤ m8 ∧ i = .int .i64 (j : Int) ∧ wr = w8) (fun i _ => m8 - (intOf i).toNat)
  case atStart => exact ⟨0, by omega, rfl, rfl⟩
  case round =>
    obtain ⟨j, hj, rfl, rfl⟩ := hrel
    by_cases hlt : j < m8
    · have hji : (j : Int) < m8 := by omega
      obtain ⟨b1, o1, rfl, h1⟩ := W8.rd (by omega)
      obtain ⟨b2, o2, rfl, h2⟩ := L8.rd (by omega)
      have g1 := h1 j hlt
      have g2 := h2 j hlt
      have hw := HMX.out j (by omega)
      by_cases hle : j < en
      · obtain ⟨b3, o3, rfl, h3⟩ := E8.rd (by omega)
        have g3 := h3 j hle
        have hlei : (j : Int) < en := by omega
        rw [HEL.out, if_pos hle] at hw
        rw [hw] at g1
        obtain ⟨x, hx⟩ : ∃ x, es.getD j 0 = x := ⟨_, rfl⟩
        obtain ⟨y, hy⟩ : ∃ y, l.getD j 0 = y := ⟨_, rfl⟩
        rw [hx] at g1 g3
        rw [hy] at g2
        clear h1 h2 h3 hx hy hw
        go_wp2_with fail
        exact ⟨⟨j + 1, by omega, by go_num, by first | trivial | rfl⟩, by simp [intOf]; omega⟩
      · have hlei : ¬ (j : Int) < en := by omega
        rw [HEL.out, if_neg hle] at hw
        rw [hw] at g1
        obtain ⟨y, hy⟩ : ∃ y, l.getD j 0 = y := ⟨_, rfl⟩
        rw [hy] at g1 g2
        clear h1 h2 hy hw
        go_wp2_with fail
        exact ⟨⟨j + 1, by omega, by go_num, by first | trivial | rfl⟩, by simp [intOf]; omega⟩
    · obtain rfl : j = m8 := by omega
      go_wp2_with (go_at_call 16; ((with_reducible refine (live03_any wr).mono ?_); rintro e w9 ⟨rfl, hD9⟩))
      go_ret
      exact ⟨rfl, below_then R8 hD9⟩
theorem se_hi (s : Seg) (hs : s.Ok) (OA : Option Addr) (on oc : Nat) (A1 : Option Addr) (n1 c1 : Nat) (w : World) (K1 : Os w OA on oc s.opts) (k1 : Bs w A1 n1 c1 s.dat) (EA : Option Addr) (en ec : Nat) (es : List Int) (E1 : Ws w EA en ec es) (h50 : 50 < on) : Calls Try.prog 8 #[(.agg #[.int .u16 (s).src, .int .u16 (s).dst, .int .u32 (s).seq, .int .u32 (s).ack, .int .u8 (s).flags, .int .u16 (s).win, .int .u16 (s).urg, .slice OA on oc, .slice A1 n1 c1]), .slice EA en ec] w fun e w' => e = .returned (.bool true) ∧ Below w.heap.size w w' := by
  have K5 : Os w OA 50 oc (s.opts.take 50) := K1.takeN (by omega)
  have hs5 : ({ s with opts := (s.opts.take 50) } : Seg).Ok := ⟨hs.src, hs.dst, hs.seq, hs.ack, hs.flags, hs.win, hs.urg, K5.ok⟩
  have ca := fun W K => sacks_any { s with opts := (s.opts.take 50) } OA 50 oc A1 n1 c1 W K
  have hlo := sks_ok { s with opts := (s.opts.take 50) }
  have hl8 := sks_len { s with opts := (s.opts.take 50) }
  have cc := fun W X n c K k E => withS_any { s with opts := (s.opts.take 50) } hs5 OA 50 oc A1 n1 c1 X n c (sks { s with opts := (s.opts.take 50) }) W K k E (by omega)
  have cd := fun W K k E => withS_any { s with opts := (s.opts.take 50) } hs5 OA 50 oc A1 n1 c1 EA en ec es W K k E (by omega)
  have ce := fun W X b Y m d h1 h2 h3 h4 => rtsame_any { s with opts := (s.opts.take 50) } { s with opts := (s.opts.take 50) } X 50 b Y m d OA 50 oc A1 n1 c1 W h1 h2 h3 h4
  have cf := fun W X n c Y m d K => sacks_any (wsS { s with opts := (s.opts.take 50) } es) X n c Y m d W K
  have hmo := sks_ok (wsS { s with opts := (s.opts.take 50) } es)
  have hm8 := sks_len (wsS { s with opts := (s.opts.take 50) } es)
  obtain ⟨hml, hmx⟩ := sks_ws { s with opts := (s.opts.take 50) } es E1.ok
  simp only [sameS_self] at ce
  simp only [wsO_self] at cc
  obtain ⟨l, hl⟩ : ∃ l, sks { s with opts := (s.opts.take 50) } = l := ⟨_, rfl⟩
  obtain ⟨q, hq⟩ : ∃ q, wsS { s with opts := (s.opts.take 50) } es = q := ⟨_, rfl⟩
  rw [hl] at ca hlo hl8 cc hml hmx
  rw [hq] at cd cf hml hmx hmo hm8
  obtain ⟨m, hm⟩ : ∃ m, sks q = m := ⟨_, rfl⟩
  rw [hm] at cf hml hmx hmo hm8
  try dsimp only at ca cc cd ce
  obtain ⟨o5, ho5⟩ : ∃ o5, (s.opts.take 50) = o5 := ⟨_, rfl⟩
  rw [ho5] at K5 ca cc cd ce
  clear ho5
  clear hl hq hs hs5 hm
  have HMX := Lib.hid hmx
  have HML := Lib.hid hml
  have HEL := Lib.hid E1.len
  clear hmx hml
  have cap := K5.cap
  have capi : (50 : Int) ≤ oc := by omega
  have h50i : (50 : Int) < on := by omega
  obtain ⟨k, hk, w1, hw1, A1, R1⟩ := nwI1 w #[.int .u16 (s).src, .int .u16 (s).dst, .int .u32 (s).seq, .int .u32 (s).ack, .int .u8 (s).flags, .int .u16 (s).win, .int .u16 (s).urg, .slice OA on oc, .slice A1 n1 c1] 29
  have Ac1 := A1.cell
  have Al1 := A1.lt
  have x1 := (k1).below R1
  go_enter Try.func8, Try.ntmps8
  obtain ⟨w2, hw2, S2⟩ := store1 A1 7 (.slice OA 50 oc)
  simp only [List.setIfInBounds_toArray, List.set_cons_zero, List.set_cons_succ] at S2
  have A2 := S2.blk
  have R2 : Below w.heap.size w w2 := S2.bel R1 (by omega)
  have Ac2 := A2.cell
  go_wp2_with (go_at_call 23; ((with_reducible refine (ca w2 (K5.below R2)).mono ?_); rintro e w5 ⟨⟨X5, m5, d5, rfl, o5', hB5⟩⟩))
  have A5 := A2.below hB5
  have R5 := below_then R2 hB5
  have hpl : l.length = m5 := by have := o5'.len; unfold u32L at this; simpa using this
  have W5 := o5'.ws (by omega) hlo
  refine region_txt 6 (by kernel_rfl) (by kernel_rfl) ?_; (iterate 6 (first | (apply ObsK.skip (by rfl)) | (apply ObsK.v (by rfl); (intro wo hT; (repeat (first | (intro v hv; ((obtain ⟨Xq, cq, Yq, mq, dq, rfl, oq, bq⟩ := hv))) | (intro _ _ k; try have hcv := cv k))); (have aco := (A5.below hT).cell; have Ko := K5.below (below_then R5 hT); have xo := k1.below (below_then R5 hT); have Wo := W5.below hT; have hsz := hT.size); refine Goes.mk ?_; go_simp; first | exact goes_v | exact goes_b (by assumption) | (refine goes_enter ?_; first | (go_at_call 25; ((with_reducible refine (cc wo X5 m5 d5 Ko xo Wo).mono ?_); rintro e w6 ⟨⟨Xq, cq, Yq, mq, dq, rfl, oq, bq, hB6⟩⟩); exact ret_p ⟨Xq, cq, Yq, mq, dq, rfl, oq, bq⟩ hB6) | (go_at_call 17; ((with_reducible refine (ce wo _ _ _ _ _ (by assumption) (by assumption) Ko xo).mono ?_); rintro e w6 ⟨rfl, hB6⟩); exact ret_v hB6)))) | (apply ObsK.b (by rfl); (intro wo hT; (repeat (first | (intro v hv; ((obtain ⟨Xq, cq, Yq, mq, dq, rfl, oq, bq⟩ := hv))) | (intro _ _ k; try have hcv := cv k))); (have aco := (A5.below hT).cell; have Ko := K5.below (below_then R5 hT); have xo := k1.below (below_then R5 hT); have Wo := W5.below hT; have hsz := hT.size); refine Goes.mk ?_; go_simp; first | exact goes_v | exact goes_b (by assumption) | (refine goes_enter ?_; first | (go_at_call 25; ((with_reducible refine (cc wo X5 m5 d5 Ko xo Wo).mono ?_); rintro e w6 ⟨⟨Xq, cq, Yq, mq, dq, rfl, oq, bq, hB6⟩⟩); exact ret_p ⟨Xq, cq, Yq, mq, dq, rfl, oq, bq⟩ hB6) | (go_at_call 17; ((with_reducible refine (ce wo _ _ _ _ _ (by assumption) (by assumption) Ko xo).mono ?_); rintro e w6 ⟨rfl, hB6⟩); exact ret_v hB6)))) | (apply ObsK.p (q := isSg { s with opts := o5 } 50) (by rfl) st_isSg; (intro wo hT; (repeat (first | (intro v hv; ((obtain ⟨Xq, cq, Yq, mq, dq, rfl, oq, bq⟩ := hv))) | (intro _ _ k; try have hcv := cv k))); (have aco := (A5.below hT).cell; have Ko := K5.below (below_then R5 hT); have xo := k1.below (below_then R5 hT); have Wo := W5.below hT; have hsz := hT.size); refine Goes.mk ?_; go_simp; first | exact goes_v | exact goes_b (by assumption) | (refine goes_enter ?_; first | (go_at_call 25; ((with_reducible refine (cc wo X5 m5 d5 Ko xo Wo).mono ?_); rintro e w6 ⟨⟨Xq, cq, Yq, mq, dq, rfl, oq, bq, hB6⟩⟩); exact ret_p ⟨Xq, cq, Yq, mq, dq, rfl, oq, bq⟩ hB6) | (go_at_call 17; ((with_reducible refine (ce wo _ _ _ _ _ (by assumption) (by assumption) Ko xo).mono ?_); rintro e w6 ⟨rfl, hB6⟩); exact ret_v hB6)))))); refine ObsK.nil ?_; intro wz hBz; simp only [finOn, List.drop_succ_cons, List.drop_zero, List.drop_nil]
  rintro va hva
  clear hva
  go_simp
  have A6 := A5.below hBz
  have R6 := below_then R5 hBz
  have W6 := W5.below hBz
  have a6c := A6.cell
  have k6 := k1.below R6
  have E6 := E1.below R6
  have K6 := K5.below R6
  go_wp2_with (first
    | (go_at_call 25; ((with_reducible refine (cd wz K6 k6 E6).mono ?_); rintro e w7 ⟨⟨Xq, cq, Yq, mq, dq, rfl, oq, bq, hB7⟩⟩))
    | (go_at_call 23; ((with_reducible refine (cf w7 _ _ _ _ _ _ oq).mono ?_); rintro e w8 ⟨⟨X8, m8, d8, rfl, o8, hB8⟩⟩); have hql : m.length = m8 := (by have := o8.len; unfold u32L at this; simpa using this); (obtain rfl : m8 = m5 := by have := HML.out; omega)))
  have W8 := o8.ws (by omega) hmo
  have R8 := below_then R6 (below_then hB7 hB8)
  have L8 := W6.below (below_then hB7 hB8)
  have E8 := E6.below (below_then hB7 hB8)
  clear o8 oq bq
  go_loopw [7] (fun i wr => ∃ j : Nat, j ≤ m8 ∧ i = .int .i64 (j : Int) ∧ wr = w8) (fun i _ => m8 - (intOf i).toNat)
  case atStart => exact ⟨0, by omega, rfl, rfl⟩
  case round =>
    obtain ⟨j, hj, rfl, rfl⟩ := hrel
    by_cases hlt : j < m8
    · have hji : (j : Int) < m8 := by omega
      obtain ⟨b1, o1, rfl, h1⟩ := W8.rd (by omega)
      obtain ⟨b2, o2, rfl, h2⟩ := L8.rd (by omega)
      have g1 := h1 j hlt
      have g2 := h2 j hlt
      have hw := HMX.out j (by omega)
      by_cases hle : j < en
      · obtain ⟨b3, o3, rfl, h3⟩ := E8.rd (by omega)
        have g3 := h3 j hle
        have hlei : (j : Int) < en := by omega
        rw [HEL.out, if_pos hle] at hw
        rw [hw] at g1
        obtain ⟨x, hx⟩ : ∃ x, es.getD j 0 = x := ⟨_, rfl⟩
        obtain ⟨y, hy⟩ : ∃ y, l.getD j 0 = y := ⟨_, rfl⟩
        rw [hx] at g1 g3
        rw [hy] at g2
        clear h1 h2 h3 hx hy hw
        go_wp2_with fail
        exact ⟨⟨j + 1, by omega, by go_num, by first | trivial | rfl⟩, by simp [intOf]; omega⟩
      · have hlei : ¬ (j : Int) < en := by omega
        rw [HEL.out, if_neg hle] at hw
        rw [hw] at g1
        obtain ⟨y, hy⟩ : ∃ y, l.getD j 0 = y := ⟨_, rfl⟩
        rw [hy] at g1 g2
        clear h1 h2 hy hw
        go_wp2_with fail
        exact ⟨⟨j + 1, by omega, by go_num, by first | trivial | rfl⟩, by simp [intOf]; omega⟩
    · obtain rfl : j = m8 := by omega
      go_wp2_with (go_at_call 16; ((with_reducible refine (live03_any wr).mono ?_); rintro e w9 ⟨rfl, hD9⟩))
      go_ret
      exact ⟨rfl, below_then R8 hD9⟩
theorem segsEdges_walk (w : World) (s : Seg) (hs : s.Ok) (OA : Option Addr) (on oc : Nat) (A1 : Option Addr) (n1 c1 : Nat) (K1 : Os w OA on oc s.opts) (k1 : Bs w A1 n1 c1 s.dat) (hn1 : n1 ≤ 140737488351232) (EA : Option Addr) (en ec : Nat) (es : List Int) (E1 : Ws w EA en ec es) : Calls Try.prog 8 #[(.agg #[.int .u16 (s).src, .int .u16 (s).dst, .int .u32 (s).seq, .int .u32 (s).ack, .int .u8 (s).flags, .int .u16 (s).win, .int .u16 (s).urg, .slice OA on oc, .slice A1 n1 c1]), .slice EA en ec] w fun e w' => e = .returned (.bool true) ∧ Below w.heap.size w w' := by
  rcases Nat.lt_or_ge 50 on with h | h
  · exact se_hi s hs OA on oc A1 n1 c1 w K1 k1 EA en ec es E1 h
  · exact se_lo s hs OA on oc A1 n1 c1 w K1 k1 EA en ec es E1 h
end Go.Proofs.Ytjjhnjkmoogloaa
