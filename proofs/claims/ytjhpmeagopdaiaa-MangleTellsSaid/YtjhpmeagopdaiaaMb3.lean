/- Parts of the proofs of this seat, laid together. -/
import Derived.BigRegion
import Derived.WalkLawsBesides
import Derived.Defers
import Derived.Recover
import Derived.WideLaws
import Derived.RegionTactic
import Derived.Test.YtjhpmeagopdaiaaMb2
namespace Go.Proofs.Ytjhpmeagopdaiaa
open Go.RowKit
set_option linter.unusedVariables false
set_option linter.unusedSimpArgs false
set_option maxHeartbeats 1000000
def aftY (ops : Array Oper) (l : Nat) : Nat → Nat → Bool
  | 0, _ => false
  | f + 1, j => match ops[j]? with
    | some o => o.after.any fun e => Region.binds .any e && (e.on == l || aftY ops l f e.on)
    | none => false
def lastY (ops : Array Oper) (exs : List Nat) (i : Nat) : Bool := lastX exs i || match exs.getLast? with
  | some l => aftY ops l 40 i
  | none => false
theorem aftY_out {ops : Array Oper} {listed : Array Bool} (hd : ∀ i o, ops[i]? = some o → listed.getD i false = true → ∀ e ∈ o.after, Region.binds .any e = true → listed.getD e.on false = true) {l : Nat} :
    ∀ f j, aftY ops l f j = true → listed.getD j false = true → listed.getD l false = true
  | 0, _, h, _ => by cases h
  | f + 1, j, h, hj => by
    unfold aftY at h
    cases ho : ops[j]? with
    | none => rw [ho] at h; cases h
    | some o =>
      rw [ho] at h
      simp only [Array.any_eq_true, Bool.and_eq_true, Bool.or_eq_true, beq_iff_eq] at h
      obtain ⟨q, hq, hb, hh⟩ := h
      have := hd j o ho hj _ (Array.getElem_mem hq) hb
      rcases hh with e | hh
      · rw [← e]; exact this
      · exact aftY_out hd f _ hh this
theorem lastY_out {ops : Array Oper} {listed : Array Bool} (hd : ∀ i o, ops[i]? = some o → listed.getD i false = true → ∀ e ∈ o.after, Region.binds .any e = true → listed.getD e.on false = true) {exs : List Nat} {j : Nat} (h : lastY ops exs j = true)
    (hj : listed.getD j false = true) : ∃ j', lastX exs j' = true ∧ listed.getD j' false = true := by
  unfold lastY at h
  rw [Bool.or_eq_true] at h
  rcases h with h | h
  · exact ⟨j, h, hj⟩
  · cases hl : exs.getLast? with
    | none => rw [hl] at h; cases h
    | some l =>
      rw [hl] at h
      exact ⟨l, by unfold lastX; rw [hl]; simp, aftY_out hd _ _ h hj⟩
def ObsY (P : Program) (ops : Array Oper) (a0 : Act) (w0 : World) (g : Nat) (J : Nat → World → Prop) (exs : List Nat) (fin : List (Tmp × Kd) → Prop) : Nat → Nat → List (Tmp × Kd) → List Oper → Prop
  | _, _, ks, [] => fin ks
  | i, c, ks, o :: rest => ∃ K t, o.dst = some t ∧ (K.Ok ∧ (lastY ops exs i = true ∨ K.OkX g)) ∧ Ob1X P ops a0 w0 g J c (exs.elem i) ks o K ∧ ObsY P ops a0 w0 g J exs fin (i + 1) (bif exs.elem i then c + 1 else c) ((t, K) :: ks) rest
section
variable {P : Program} {ops : Array Oper} {a0 : Act} {w0 : World} {g : Nat} {J : Nat → World → Prop} {exs : List Nat} {fin : List (Tmp × Kd) → Prop} {i c : Nat} {ks : List (Tmp × Kd)} {rest : List Oper}
  {t : Tmp} {op : Op} {ty : TypeId} {pos : String} {after : Array Edge} {gd : Option (Nat × Bool)}
theorem ObsY.v {x : Value} (hx : exs.elem i = false) (hg : wantK ops ks gd = some true) (ho : ∀ W, w0.grownBy W (some g) → leanOn ks W op.operands.toList (Goes P (.v x) ⟨some t, op, ty, pos, after, gd⟩ W) a0)
    (hr : ObsY P ops a0 w0 g J exs fin (i + 1) c ((t, .v x) :: ks) rest) : ObsY P ops a0 w0 g J exs fin i c ks (⟨some t, op, ty, pos, after, gd⟩ :: rest) :=
  ⟨.v x, t, rfl, ⟨trivial, .inr trivial⟩, .inl ⟨hx, hg, ho⟩, by rw [hx]; exact hr⟩
theorem ObsY.p {q : World → Value → Prop} (hx : exs.elem i = false) (hg : wantK ops ks gd = some true) (hkb : ∀ w w' v, q w v → Below w.heap.size w w' → q w' v) (hk : ∀ w w' v, q w v → w.grownBy w' (some g) → q w' v) (ho : ∀ W, w0.grownBy W (some g) → leanOn ks W op.operands.toList (Goes P (.p q) ⟨some t, op, ty, pos, after, gd⟩ W) a0)
    (hr : ObsY P ops a0 w0 g J exs fin (i + 1) c ((t, .p q) :: ks) rest) : ObsY P ops a0 w0 g J exs fin i c ks (⟨some t, op, ty, pos, after, gd⟩ :: rest) :=
  ⟨.p q, t, rfl, ⟨hkb, .inr hk⟩, .inl ⟨hx, hg, ho⟩, by rw [hx]; exact hr⟩
theorem ObsY.ev {x : Value} (hx : exs.elem i = true) (hg : wantK ops ks gd = some true) (ho : ∀ W, w0.grownBy W (some g) → J c W → leanOn ks W op.operands.toList (GoesX P (.v x) g (J (c + 1)) ⟨some t, op, ty, pos, after, gd⟩ W) a0)
    (hr : ObsY P ops a0 w0 g J exs fin (i + 1) (c + 1) ((t, .v x) :: ks) rest) : ObsY P ops a0 w0 g J exs fin i c ks (⟨some t, op, ty, pos, after, gd⟩ :: rest) :=
  ⟨.v x, t, rfl, ⟨trivial, .inr trivial⟩, .inr (.inl ⟨hx, hg, ho⟩), by rw [hx]; exact hr⟩
theorem ObsY.ap {q : World → Value → Prop} (hx : exs.elem i = false) (hg : wantK ops ks gd = some true) (hl : lastY ops exs i = true) (hkb : ∀ w w' v, q w v → Below w.heap.size w w' → q w' v) (ho : ∀ W, w0.grownBy W (some g) → leanOn ks W op.operands.toList (Goes P (.p q) ⟨some t, op, ty, pos, after, gd⟩ W) a0)
    (hr : ObsY P ops a0 w0 g J exs fin (i + 1) c ((t, .p q) :: ks) rest) : ObsY P ops a0 w0 g J exs fin i c ks (⟨some t, op, ty, pos, after, gd⟩ :: rest) :=
  ⟨.p q, t, rfl, ⟨hkb, .inl hl⟩, .inl ⟨hx, hg, ho⟩, by rw [hx]; exact hr⟩
theorem ObsY.ep {q : World → Value → Prop} (hx : exs.elem i = true) (hg : wantK ops ks gd = some true) (hl : lastY ops exs i = true) (hkb : ∀ w w' v, q w v → Below w.heap.size w w' → q w' v) (ho : ∀ W, w0.grownBy W (some g) → J c W → leanOn ks W op.operands.toList (GoesX P (.p q) g (J (c + 1)) ⟨some t, op, ty, pos, after, gd⟩ W) a0)
    (hr : ObsY P ops a0 w0 g J exs fin (i + 1) (c + 1) ((t, .p q) :: ks) rest) : ObsY P ops a0 w0 g J exs fin i c ks (⟨some t, op, ty, pos, after, gd⟩ :: rest) :=
  ⟨.p q, t, rfl, ⟨hkb, .inl hl⟩, .inr (.inl ⟨hx, hg, ho⟩), by rw [hx]; exact hr⟩
theorem ObsY.skip (hx : exs.elem i = false) (hg : wantK ops ks gd = some false) (hr : ObsY P ops a0 w0 g J exs fin (i + 1) c ((t, .v undef) :: ks) rest) : ObsY P ops a0 w0 g J exs fin i c ks (⟨some t, op, ty, pos, after, gd⟩ :: rest) :=
  ⟨.v undef, t, rfl, ⟨trivial, .inr trivial⟩, .inr (.inr ⟨hx, hg, rfl⟩), by rw [hx]; exact hr⟩
theorem ObsY.nil (h : fin ks) : ObsY P ops a0 w0 g J exs fin i c ks [] := h
end
theorem ObsY.out {P : Program} {ops : Array Oper} {a0 : Act} {w0 : World} {g : Nat} {J : Nat → World → Prop} {exs : List Nat} {fin : List (Tmp × Kd) → Prop} : ∀ {l : List Oper} {i0 : Nat} {ks : List (Tmp × Kd)}, ObsY P ops a0 w0 g J exs fin i0 (czX exs i0) ks l →
    ∃ Ks : Nat → Kd, ∃ kz : Nat → List (Tmp × Kd), kz 0 = ks ∧ fin (kz l.length) ∧ ∀ i o, l[i]? = some o → ∃ t, o.dst = some t ∧ ((Ks i).Ok ∧ (lastY ops exs (i0 + i) = true ∨ (Ks i).OkX g)) ∧ Ob1X P ops a0 w0 g J (czX exs (i0 + i)) (exs.elem (i0 + i)) (kz i) o (Ks i) ∧ kz (i + 1) = (t, Ks i) :: kz i
  | [], i0, ks, h => ⟨fun _ => .v undef, fun _ => ks, rfl, h, fun i o ho => by simp at ho⟩
  | o :: rest, i0, ks, ⟨K, t, hd, hk, hob, hr⟩ => by
    have hr' : ObsY P ops a0 w0 g J exs fin (i0 + 1) (czX exs (i0 + 1)) ((t, K) :: ks) rest := hr
    obtain ⟨Ks, kz, h0, hf, hall⟩ := ObsY.out hr'
    refine ⟨fun i => match i with | 0 => K | i + 1 => Ks i, fun i => match i with | 0 => ks | i + 1 => kz i, rfl, hf, fun i o' ho' => ?_⟩
    cases i with
    | zero =>
      simp only [List.getElem?_cons_zero, Option.some.injEq] at ho'
      subst ho'
      exact ⟨t, hd, hk, hob, h0⟩
    | succ i =>
      have := hall i o' (by simpa using ho')
      rw [show i0 + 1 + i = i0 + (i + 1) from by omega] at this
      exact this
section
variable {P : Program} {Q : Exit → Act → World → Prop}
theorem regionXZ {id : Nat} {l : List Oper} {a : Act} {w : World} (m z : Nat) (exs : List Nat) (g : Nat) (J : Nat → World → Prop) (hm : P.follows .mixedOrders = true) (hchk : regZ l.toArray m z a.tmps.size = true) (hQ : ∀ (t : Tmp) v c a w, Q (.panic c) (Act.put a (some t) v) w → Q (.panic c) a w) (hzx : exs.elem z = false) (hex : exB l.toArray m exs = true)
    (hJ0 : J 0 w) (hJs : ∀ c W W', J c W → Below W.heap.size W W' → J c W')
    (hobs : ObsY P l.toArray a w g J exs (fun ks => ∀ W, w.grownBy W (some g) → J exs.length W → finOn W ks (fun a' => wpList P l.toArray Q (l.drop m) a' W) a) 0 0 [] (l.take m)) :
    (Code.region id l.toArray true).wp P Q a w := by
  have R := regZ_out hchk
  obtain ⟨ops, hops⟩ : ∃ ops, l.toArray = ops := ⟨_, rfl⟩
  have hl' : l = ops.toList := by rw [← hops]
  rw [hops] at hobs R hex ⊢
  rw [hl'] at hobs
  clear hops hl' hchk
  have hex' : ∀ q, q < exs.length → exs.getD q 0 < m ∧ czX exs (exs.getD q 0) = q ∧ (q = 0 ∨ ∃ o, ops[exs.getD q 0]? = some o ∧ hasOn o (exs.getD (q - 1) 0) = true) := by
    intro q hq
    have h := (List.all_eq_true.1 hex) q (List.mem_range.2 hq)
    simp only [Bool.and_eq_true, decide_eq_true_eq, beq_iff_eq, Bool.or_eq_true] at h
    refine ⟨h.1.1, h.1.2, h.2.imp (fun h => h) fun h2 => ?_⟩
    cases ho : ops[exs.getD q 0]? with
    | none => rw [ho] at h2; cases h2
    | some o => rw [ho] at h2; exact ⟨o, rfl, h2⟩
  have hidx : ∀ i, exs.elem i = true → ∃ q, q < exs.length ∧ exs.getD q 0 = i := by
    intro i hi
    obtain ⟨q, hq, e⟩ := List.mem_iff_getElem.1 (List.elem_iff.1 hi)
    exact ⟨q, hq, by rw [List.getD_eq_getElem?_getD, List.getElem?_eq_getElem hq]; exact e⟩
  have hmemE : ∀ q, q < exs.length → exs.elem (exs.getD q 0) = true := by
    intro q hq
    rw [List.elem_iff, List.getD_eq_getElem?_getD, List.getElem?_eq_getElem hq]
    exact List.getElem_mem hq
  obtain ⟨Ks, kz, hz0, hfin, hall⟩ := ObsY.out (i0 := 0) hobs
  simp only [Nat.zero_add] at hall
  have hmlen : (ops.toList.take m).length = m := by simp [R.le]
  rw [hmlen] at hfin
  have hat : ∀ i o, i < m → ops[i]? = some o → (ops.toList.take m)[i]? = some o := fun i o hi ho => by
    rw [List.getElem?_take, if_pos hi]; simpa using ho
  have hta : ∀ i o, (ops.toList.take m)[i]? = some o → i < m ∧ ops[i]? = some o := fun i o ho => by
    rw [List.getElem?_take] at ho
    split at ho
    · exact ⟨‹_›, by simpa using ho⟩
    · cases ho
  have hall2 : ∀ i o, (ops.toList.take m)[i]? = some o → ∃ t, o.dst = some t ∧ kz (i + 1) = (t, Ks i) :: kz i := fun i o ho => by
    obtain ⟨t, h1, _, _, h2⟩ := hall i o ho
    exact ⟨t, h1, h2⟩
  have hmem : ∀ i, i ≤ m → ∀ t K, (t, K) ∈ kz i → ∃ j, j < i ∧ dstOf ops j = some t ∧ K = Ks j := fun i hi t K hm => by
    obtain ⟨j, o, h1, h2, h3, h4⟩ := kz_mem hz0 hall2 i (by omega) t K hm
    obtain ⟨_, ho⟩ := hta j o h2
    exact ⟨j, h1, by unfold dstOf; rw [ho]; exact h3, h4⟩
  refine wp_region_any hm ?_
  have hd : ∀ i o, ops[i]? = some o → dstOf ops i = o.dst := fun i o ho => by unfold dstOf; rw [ho]; rfl
  have hend : ∀ (listed : Array Bool) (a' : Act) (w' : World), RInvX ops a w Ks m g J exs listed a' w' → (∀ j, j < m → listed.getD j false = true) → wpList P ops Q (ops.toList.drop m) a' w' := by
    intro listed a' w' hI hlst
    have HJX : J exs.length w' := by
      obtain ⟨c, hc, hq, hj⟩ := hI.cnt
      have : c = exs.length := by
        rcases Nat.lt_or_ge c exs.length with hlt | hge
        · have h1 := hq c hlt
          rw [hlst _ (hex' c hlt).1] at h1
          simp at h1
        · omega
      rw [← this]; exact hj
    obtain ⟨b, hb, e1, e2, e3, e4⟩ := finOn.out (a' := a') (hfin w' hI.ext HJX) hI.size.symm (fun t K hm => by
      obtain ⟨j, hj, hdj, rfl⟩ := hmem m (Nat.le_refl _) t K hm
      obtain ⟨o, ho, hod⟩ := dstOf_some hdj
      obtain ⟨s, hs, hsn, _⟩ := R.main j o hj ho
      rw [hod] at hs
      injection hs with hs
      subst hs
      exact ⟨by rw [hI.size]; exact hsn, hI.val j t hj (hlst j hj) hdj⟩)
    have : b = a' := by
      cases b with
      | mk bt bd =>
        cases a' with
        | mk at' ad =>
          simp only at e1 e2 e3 e4
          have hdf : bd = ad := by rw [e2]; exact hI.defers.symm
          have htm : bt = at' := by
            apply Array.ext
            · rw [e1]; exact hI.size.symm
            · intro t t1 t2
              have : bt.getD t undef = at'.getD t undef := by
                by_cases hx : ∃ K, (t, K) ∈ kz m
                · exact e4 t hx
                · rw [e3 t (fun K hm => hx ⟨K, hm⟩)]
                  refine (hI.other t fun j hj hdj => hx ?_).symm
                  obtain ⟨o, ho, hod⟩ := dstOf_some hdj
                  exact ⟨Ks j, kz_all hall2 m (by omega) j o t hj (hat j o hj ho) hod⟩
              simpa only [Array.getD_eq_getD_getElem?, Array.getElem?_eq_getElem t1, Array.getElem?_eq_getElem t2, Option.getD_some] using this
          subst hdf htm
          rfl
    rw [this] at hb
    exact hb
  have key : ∀ (fuel : Nat) (listed : Array Bool) (a' : Act) (w' : World), RInvX ops a w Ks m g J exs listed a' w' → (∀ i, m ≤ i → i < ops.size → listed.getD i false = false) →
      ((List.range ops.size).filter fun i => !listed.getD i true).length ≤ fuel → wpAny P .any ops Q fuel listed a' w' := by
    intro fuel
    have hprefix : ∀ (listed : Array Bool), listed.size = ops.size → (∀ j, j < m → listed.getD j false = true) → (∀ i, m ≤ i → i < ops.size → listed.getD i false = false) → ∀ i, i < ops.size → listed.getD i false = decide (i < m) := by
      intro listed hs h1 h2 i hi
      by_cases e : i < m
      · rw [h1 i e]; simp [e]
      · rw [h2 i (by omega) hi]; simp [e]
    induction fuel with
    | zero =>
      intro listed a' w' hI hno hc
      have h0 : ((List.range ops.size).filter fun i => !listed.getD i true) = [] := List.eq_nil_of_length_eq_zero (by omega)
      have hal : ∀ i, i < ops.size → listed.getD i false = true := by
        intro i hi
        rw [List.filter_eq_nil_iff] at h0
        have := h0 i (List.mem_range.2 hi)
        rw [← getD_ff (by rw [hI.lsize]; exact hi)]
        simpa using this
      have hms : m = ops.size := by
        rcases Nat.lt_or_ge m ops.size with hlt | hge
        · have := hno m (Nat.le_refl _) hlt
          rw [hal m hlt] at this
          cases this
        · have := R.le; omega
      have := hend listed a' w' hI (fun j hj => hal j (by omega))
      rw [hms] at this
      have hdr : ops.toList.drop ops.size = [] := by simp
      rw [hdr] at this
      refine ⟨?_, this⟩
      unfold Region.ready
      rw [List.filter_eq_nil_iff] at h0 ⊢
      intro i hi
      have := h0 i hi
      simp only [Bool.not_eq_true] at this ⊢
      rw [this]
      rfl
    | succ fuel ih =>
      intro listed a' w' hI hno hc
      by_cases hdone : ∀ j, j < m → listed.getD j false = true
      · refine tail_anyZ R (fuel + 1) m listed a' w' (Nat.le_refl _) R.le hI.lsize (hprefix listed hI.lsize hdone hno) ?_ (hend listed a' w' hI hdone)
        have hlen : ops.size - m ≤ ((List.range ops.size).filter fun i => !listed.getD i true).length := by
          have hsub : (List.range ops.size).filter (fun i => decide (m ≤ i)) = (List.range ops.size).filter fun i => !listed.getD i true := by
            apply List.filter_congr
            intro i hi
            have hi := List.mem_range.1 hi
            rw [getD_ff (by rw [hI.lsize]; exact hi), hprefix listed hI.lsize hdone hno i hi]
            by_cases e : i < m <;> simp [e] <;> omega
          rw [← hsub]
          have : ∀ N, m ≤ N → ((List.range N).filter fun i => decide (m ≤ i)).length = N - m := by
            intro N hN
            induction N with
            | zero => simp
            | succ N ihN =>
              rw [List.range_succ, List.filter_append, List.length_append]
              by_cases e : m ≤ N
              · rw [ihN e]; simp [e]; omega
              · have : m = N + 1 := by omega
                subst this
                have : (List.range N).filter (fun i => decide (N + 1 ≤ i)) = [] := by
                  rw [List.filter_eq_nil_iff]
                  intro i hi
                  have := List.mem_range.1 hi
                  simp; omega
                rw [this]
                simp
          rw [this _ R.le]
          exact Nat.le_refl _
        omega
      · by_cases hzz : ∀ j, j < m → j ≠ z → listed.getD j false = true
        · have zlt := R.zlt
          have zs : z < ops.size := by have := R.le; omega
          have hlz : listed.getD z false = false := by
            cases hlz : listed.getD z false with
            | false => rfl
            | true => exact absurd (fun j hj => by by_cases e : j = z; · rw [e]; exact hlz
                                                   · exact hzz j hj e) hdone
          have hlst : listed = lateL m z ops.size := by
            apply Array.ext
            · rw [hI.lsize]; simp [lateL]
            · intro q q1 q2
              have qs : q < ops.size := by rw [← hI.lsize]; exact q1
              have e1 : listed[q] = listed.getD q false := by simp [Array.getD_eq_getD_getElem?, Array.getElem?_eq_getElem q1]
              rw [e1]
              simp only [lateL, Array.getElem_ofFn]
              by_cases qm : q < m
              · by_cases qz : q = z
                · subst qz; rw [hlz]; simp
                · rw [hzz q qm qz]; simp [qm, qz]
              · rw [hno q (by omega) qs]; simp [qm]
          have ho : ops[z]? = some ops[z] := Array.getElem?_eq_getElem zs
          obtain ⟨o, hoo⟩ : ∃ o, ops[z] = o := ⟨_, rfl⟩
          rw [hoo] at ho
          have hnl' : listed.getD z true = false := by rw [getD_ff (by rw [hI.lsize]; exact zs)]; exact hlz
          have hrd0 : z ∈ Region.ready .any ops listed := by have := R.rdy; rw [← hlst] at this; simpa using this
          obtain ⟨_, o', ho', haf⟩ := mem_ready.1 hrd0
          rw [ho] at ho'
          injection ho' with ho'
          subst ho'
          obtain ⟨hext, hgn⟩ := R.ext o ho
          have him := zlt
          have his := zs
          have hsi : z < listed.size := by rw [hI.lsize]; exact zs
          obtain ⟨t, ht, htn, hne, hsel, hrd, hgd⟩ := R.main z o him ho
          obtain ⟨t', ht', hok, hob, hkz⟩ := hall z o (hat z o him ho)
          have hon : ∀ j, hasOn o j = true → listed.getD j false = true := fun j hj => by
            obtain ⟨e, he, heo, heb⟩ := hasOn_mem hj
            rw [← heo]
            exact haf e he heb
          have hnext : ∀ v w'', (Ks z).holds w'' v → w'.grownBy w'' (some g) → (∀ j, j < m → listed.getD j false = true → ∀ u, (Ks j).holds w' u → (Ks j).holds w'' u) → (∃ c, c ≤ exs.length ∧ (∀ q, q < exs.length → (listed.setIfInBounds z true).getD (exs.getD q 0) false = decide (q < c)) ∧ J c w'') → wpAny P .any ops Q fuel (listed.setIfInBounds z true) (a'.put o.dst v) w'' := by
            intro v w'' hv hb hkeep hcn
            refine ih _ _ _ ⟨by simpa using hI.lsize, ?_, ?_, ext_trans hI.ext hb, hcn, ?_, ?_, ?_⟩ ?_ ?_
            · rw [ht]; exact hI.defers
            · rw [ht]; simpa [Act.put] using hI.size
            · intro s hs
              have hst : s ≠ t := fun e => hs z him (by rw [hd z _ ho, ht, e])
              rw [ht, put_getD (by rw [hI.size]; exact htn), if_neg hst]
              exact hI.other s hs
            · intro j s hjm hj hdj
              rw [getD_set hsi] at hj
              rw [ht, put_getD (by rw [hI.size]; exact htn)]
              by_cases e : j = z
              · subst e
                have : s = t := by rw [hd j _ ho, ht] at hdj; injection hdj with hdj; exact hdj.symm
                rw [if_pos this]
                exact hv
              · rw [if_neg e] at hj
                have hst : s ≠ t := fun e2 => e (dst_injZ R hjm him hdj (by rw [hd z _ ho, ht, e2]))
                rw [if_neg hst]
                exact hkeep j hjm hj _ (hI.val j s hjm hj hdj)
            · intro q oq hq hlq e he hb
              rw [getD_set hsi] at hlq ⊢
              by_cases e1 : q = z
              · subst e1
                rw [ho] at hq
                injection hq with hq
                subst hq
                split
                · rfl
                · exact haf e he hb
              · rw [if_neg e1] at hlq
                split
                · rfl
                · exact hI.down q oq hq hlq e he hb
            · intro q hq hqs
              rw [getD_set hsi, if_neg (by omega)]
              exact hno q hq hqs
            · have hnl : (!listed.getD z true) = true := by rw [hnl']; rfl
              have hlt : ((List.range ops.size).filter fun k => !(listed.setIfInBounds z true).getD k true).length < ((List.range ops.size).filter fun k => !listed.getD k true).length := by
                have hsub : ((List.range ops.size).filter fun k => !(listed.setIfInBounds z true).getD k true) = (((List.range ops.size).filter fun k => !listed.getD k true).filter fun k => k != z) := by
                  rw [List.filter_filter]
                  apply List.filter_congr
                  intro k _
                  rw [getD_set hsi]
                  by_cases e : k = z
                  · subst e; simp
                  · simp [e]
                rw [hsub]
                exact List.length_filter_lt_length_iff_exists.2 ⟨z, List.mem_filter.2 ⟨List.mem_range.2 his, hnl⟩, by simp⟩
              omega
          have hlook : ∀ s K, lookK (kz z) s = some K → ∃ j, j < z ∧ dstOf ops j = some s ∧ K = Ks j := fun s K hK => hmem z (by omega) s K (lookK_some hK)
          have hokj : ∀ j, j < m → (Ks j).Ok ∧ (lastY ops exs j = true ∨ (Ks j).OkX g) := by
            intro j hj
            have hjs : j < ops.size := by have := R.le; omega
            obtain ⟨_, _, h1, _⟩ := hall j ops[j] (hat j _ hj (Array.getElem?_eq_getElem hjs))
            exact h1
          have hkN : ∀ w'', Below w'.heap.size w' w'' → ∀ j, j < m → listed.getD j false = true → ∀ u, (Ks j).holds w' u → (Ks j).holds w'' u := fun w'' hB j hj _ u hu => Kd.keep (hokj j hj).1 hu hB
          have hcntN : exs.elem z = false → ∀ w'', Below w'.heap.size w' w'' → ∃ c, c ≤ exs.length ∧ (∀ q, q < exs.length → (listed.setIfInBounds z true).getD (exs.getD q 0) false = decide (q < c)) ∧ J c w'' := by
            intro hx w'' hB
            obtain ⟨c, hc, hq, hj⟩ := hI.cnt
            refine ⟨c, hc, fun q hql => ?_, hJs c _ _ hj hB⟩
            rw [getD_set hsi, if_neg (fun e => by have h1 := hmemE q hql; rw [e, hx] at h1; cases h1)]
            exact hq q hql
          have hgo : ∀ W, w.grownBy W (some g) → leanOn (kz z) W o.op.operands.toList (Goes P (Ks z) o W) a := by
            rcases hob with ⟨_, _, hgo⟩ | ⟨hxx, _, _⟩ | ⟨_, hwk, _⟩
            · exact hgo
            · rw [hzx] at hxx; cases hxx
            · rw [hgn] at hwk; cases hwk
          obtain ⟨b, hb, b1, b2, b3, b4⟩ := leanOn.out (a' := a') (hgo w' hI.ext) hI.size.symm (fun s K hs hK => by
            obtain ⟨j, hj, hdj, rfl⟩ := hlook s K hK
            obtain ⟨o2, ho2, hod2⟩ := dstOf_some hdj
            obtain ⟨s2, hs2, hsn, _⟩ := R.main j o2 (by omega) ho2
            rw [hod2] at hs2
            injection hs2 with hs2
            subst hs2
            obtain ⟨ha, _⟩ := hrd s (by simpa using hs) j (by omega) hdj
            exact ⟨by rw [hI.size]; exact hsn, hI.val j s (by omega) (hon j ha) hdj⟩)
          have heq : execOp a'.eval o = execOp b.eval o := by
            refine execOp_congr o (fun cs bb hc => by rw [hc] at hsel; cases hsel) fun x hx => ?_
            cases x with
            | tmp s =>
              show a'.tmps.getD s undef = b.tmps.getD s undef
              by_cases hks : ∃ K, lookK (kz z) s = some K
              · obtain ⟨K, hK⟩ := hks
                exact (b4 s ⟨K, hK, by simpa using hx⟩).symm
              · have ho2 : ∀ j, j < m → dstOf ops j ≠ some s := by
                  intro j hj hdj
                  obtain ⟨_, hji⟩ := hrd s hx j hj hdj
                  obtain ⟨oj, hoj, hdoj⟩ := dstOf_some hdj
                  have := kz_all hall2 z (by omega) j oj s hji (hat j oj hj hoj) hdoj
                  cases hl : lookK (kz z) s with
                  | some K => exact hks ⟨K, hl⟩
                  | none => exact lookK_none hl _ this
                have e0 := hI.other s ho2
                rcases b3 s with e | e
                · rw [e, e0]
                · exact e.symm
            | const _ => rfl
            | global _ => rfl
            | func _ => rfl
          have hgoes := hb.out
          have hy : ∃ v, (∀ w, (execOp b.eval o).run P w = .ok (.value v) w) ∧ (Ks z).holds w' v := by
            rcases extract_ways (P := P) (ρ := b.eval) hext with ⟨v, hall'⟩ | hnone
            · rw [hall' w'] at hgoes
              exact ⟨v, hall', hgoes.1⟩
            · exfalso
              cases hr : (execOp b.eval o).run P w' with
              | ok n w'' => exact hnone _ _ _ hr
              | halt x w'' => rw [hr] at hgoes; exact hgoes.elim
          obtain ⟨v, hrun, hv⟩ := hy
          refine wpAny_take ho R.nosel (by rw [hlst]; exact R.free) (by rw [hlst]; exact R.rdy) (fun c a w h => hQ t _ c a w (by rw [← ht]; exact h)) (v := v) (.inl ⟨by unfold Region.wanted; rw [hgn], fun w => by rw [heq]; exact hrun w⟩) ?_
          exact hnext v w' hv (ext_refl _ _) (hkN w' (Below.refl _ _)) (hcntN hzx w' (Below.refl _ _))
        · refine ⟨fun hr => ?_, fun i hi => ?_⟩
          · exfalso
            refine hdone ?_
            intro j
            induction j using Nat.strongRecOn with
            | _ j ihj =>
              intro hj
              cases hlj : listed.getD j false with
              | true => rfl
              | false =>
                exfalso
                have hjs : j < ops.size := by have := R.le; omega
                have hmem : j ∈ Region.ready .any ops listed := by
                  rw [mem_ready]
                  refine ⟨by rw [getD_ff (by rw [hI.lsize]; exact hjs)]; exact hlj, ops[j], Array.getElem?_eq_getElem hjs, fun e he hb => ?_⟩
                  have := R.down j _ (Array.getElem?_eq_getElem hjs) e he hb
                  exact ihj _ this (by omega)
                rw [hr] at hmem
                cases hmem
          · have hi0 := hi
            rw [mem_ready] at hi
            obtain ⟨hnl', o, ho, haf⟩ := hi
            have his : i < ops.size := (Array.getElem?_eq_some_iff.1 ho).1
            have hsi : i < listed.size := by rw [hI.lsize]; exact his
            have him : i < m := by
              rcases Nat.lt_or_ge i m with hlt | hge
              · exact hlt
              · exact absurd (fun j hj hjz => all_beforeZ R hI.down hge ho haf (i - j - 1) j (by omega) hjz) hzz
            obtain ⟨t, ht, htn, hne, hsel, hrd, hgd⟩ := R.main i o him ho
            obtain ⟨t', ht', hok, hob, hkz⟩ := hall i o (hat i o him ho)
            have hon : ∀ j, hasOn o j = true → listed.getD j false = true := fun j hj => by
              obtain ⟨e, he, heo, heb⟩ := hasOn_mem hj
              rw [← heo]
              exact haf e he heb
            have hnext : ∀ v w'', (Ks i).holds w'' v → w'.grownBy w'' (some g) → (∀ j, j < m → listed.getD j false = true → ∀ u, (Ks j).holds w' u → (Ks j).holds w'' u) → (∃ c, c ≤ exs.length ∧ (∀ q, q < exs.length → (listed.setIfInBounds i true).getD (exs.getD q 0) false = decide (q < c)) ∧ J c w'') → wpAny P .any ops Q fuel (listed.setIfInBounds i true) (a'.put o.dst v) w'' := by
              intro v w'' hv hb hkeep hcn
              refine ih _ _ _ ⟨by simpa using hI.lsize, ?_, ?_, ext_trans hI.ext hb, hcn, ?_, ?_, ?_⟩ ?_ ?_
              · rw [ht]; exact hI.defers
              · rw [ht]; simpa [Act.put] using hI.size
              · intro s hs
                have hst : s ≠ t := fun e => hs i him (by rw [hd i _ ho, ht, e])
                rw [ht, put_getD (by rw [hI.size]; exact htn), if_neg hst]
                exact hI.other s hs
              · intro j s hjm hj hdj
                rw [getD_set hsi] at hj
                rw [ht, put_getD (by rw [hI.size]; exact htn)]
                by_cases e : j = i
                · subst e
                  have : s = t := by rw [hd j _ ho, ht] at hdj; injection hdj with hdj; exact hdj.symm
                  rw [if_pos this]
                  exact hv
                · rw [if_neg e] at hj
                  have hst : s ≠ t := fun e2 => e (dst_injZ R hjm him hdj (by rw [hd i _ ho, ht, e2]))
                  rw [if_neg hst]
                  exact hkeep j hjm hj _ (hI.val j s hjm hj hdj)
              · intro q oq hq hlq e he hb
                rw [getD_set hsi] at hlq ⊢
                by_cases e1 : q = i
                · subst e1
                  rw [ho] at hq
                  injection hq with hq
                  subst hq
                  split
                  · rfl
                  · exact haf e he hb
                · rw [if_neg e1] at hlq
                  split
                  · rfl
                  · exact hI.down q oq hq hlq e he hb
              · intro q hq hqs
                rw [getD_set hsi, if_neg (by omega)]
                exact hno q hq hqs
              · have hnl : (!listed.getD i true) = true := by rw [hnl']; rfl
                have hlt : ((List.range ops.size).filter fun k => !(listed.setIfInBounds i true).getD k true).length < ((List.range ops.size).filter fun k => !listed.getD k true).length := by
                  have hsub : ((List.range ops.size).filter fun k => !(listed.setIfInBounds i true).getD k true) = (((List.range ops.size).filter fun k => !listed.getD k true).filter fun k => k != i) := by
                    rw [List.filter_filter]
                    apply List.filter_congr
                    intro k _
                    rw [getD_set hsi]
                    by_cases e : k = i
                    · subst e; simp
                    · simp [e]
                  rw [hsub]
                  exact List.length_filter_lt_length_iff_exists.2 ⟨i, List.mem_filter.2 ⟨List.mem_range.2 his, hnl⟩, by simp⟩
                omega
            have hlook : ∀ s K, lookK (kz i) s = some K → ∃ j, j < i ∧ dstOf ops j = some s ∧ K = Ks j := fun s K hK => hmem i (by omega) s K (lookK_some hK)
            have hokj : ∀ j, j < m → (Ks j).Ok ∧ (lastY ops exs j = true ∨ (Ks j).OkX g) := by
              intro j hj
              have hjs : j < ops.size := by have := R.le; omega
              obtain ⟨_, _, h1, _⟩ := hall j ops[j] (hat j _ hj (Array.getElem?_eq_getElem hjs))
              exact h1
            have hkN : ∀ w'', Below w'.heap.size w' w'' → ∀ j, j < m → listed.getD j false = true → ∀ u, (Ks j).holds w' u → (Ks j).holds w'' u := fun w'' hB j hj _ u hu => Kd.keep (hokj j hj).1 hu hB
            have hcntN : exs.elem i = false → ∀ w'', Below w'.heap.size w' w'' → ∃ c, c ≤ exs.length ∧ (∀ q, q < exs.length → (listed.setIfInBounds i true).getD (exs.getD q 0) false = decide (q < c)) ∧ J c w'' := by
              intro hx w'' hB
              obtain ⟨c, hc, hq, hj⟩ := hI.cnt
              refine ⟨c, hc, fun q hql => ?_, hJs c _ _ hj hB⟩
              rw [getD_set hsi, if_neg (fun e => by have h1 := hmemE q hql; rw [e, hx] at h1; cases h1)]
              exact hq q hql
            unfold wpOp
            rw [ho]
            rcases hob with ⟨hxx, hwk, hgo⟩ | ⟨hxx, hwk, hgo⟩ | ⟨hxx, hwk, hskip⟩
            · have hw : Region.wanted o (yielded ops a'.tmps) = true := by
                unfold Region.wanted
                cases hg : o.guard with
                | none => rfl
                | some gb =>
                  obtain ⟨g, b⟩ := gb
                  rw [hg] at hwk
                  unfold wantK at hwk
                  simp only at hwk
                  cases hdg : dstOf ops g with
                  | none => rw [hdg] at hwk; cases hwk
                  | some s =>
                    rw [hdg] at hwk
                    cases hlk : lookK (kz i) s with
                    | none => simp only [hlk] at hwk; cases hwk
                    | some K =>
                      simp only [hlk] at hwk
                      split at hwk
                      · rename_i hKe
                        injection hKe with hKe
                        subst hKe
                        rename_i c
                        obtain ⟨j, hj, hdj, hKj⟩ := hlook s _ hlk
                        obtain ⟨hong, hgi⟩ := hgd g b hg
                        obtain rfl := dst_injZ R (by omega) (by omega) hdj hdg
                        have hv := hI.val j s (by omega) (hon j hong) hdj
                        rw [← hKj] at hv
                        have hy : yielded ops a'.tmps j = some c := by
                          have hv' : a'.tmps.getD s undef = .bool c := hv
                          unfold yielded
                          unfold dstOf at hdj
                          rw [hdj]
                          rw [Array.getD_eq_getD_getElem?] at hv'
                          cases hx : a'.tmps[s]? with
                          | none => rw [hx] at hv'; exact absurd hv' (by simp [undef])
                          | some x =>
                            rw [hx] at hv'
                            simp only [Option.getD_some] at hv'
                            subst hv'
                            simp [hx]
                        simp only [hy]
                        injection hwk
                      · cases hwk
              simp only [hw, if_true]
              refine .inl ?_
              obtain ⟨b, hb, b1, b2, b3, b4⟩ := leanOn.out (a' := a') (hgo w' hI.ext) hI.size.symm (fun s K hs hK => by
                obtain ⟨j, hj, hdj, rfl⟩ := hlook s K hK
                obtain ⟨o2, ho2, hod2⟩ := dstOf_some hdj
                obtain ⟨s2, hs2, hsn, _⟩ := R.main j o2 (by omega) ho2
                rw [hod2] at hs2
                injection hs2 with hs2
                subst hs2
                obtain ⟨ha, _⟩ := hrd s (by simpa using hs) j (by omega) hdj
                exact ⟨by rw [hI.size]; exact hsn, hI.val j s (by omega) (hon j ha) hdj⟩)
              have heq : execOp a'.eval o = execOp b.eval o := by
                refine execOp_congr o (fun cs bb hc => by rw [hc] at hsel; cases hsel) fun x hx => ?_
                cases x with
                | tmp s =>
                  show a'.tmps.getD s undef = b.tmps.getD s undef
                  by_cases hks : ∃ K, lookK (kz i) s = some K
                  · obtain ⟨K, hK⟩ := hks
                    exact (b4 s ⟨K, hK, by simpa using hx⟩).symm
                  · have ho2 : ∀ j, j < m → dstOf ops j ≠ some s := by
                      intro j hj hdj
                      obtain ⟨_, hji⟩ := hrd s hx j hj hdj
                      obtain ⟨oj, hoj, hdoj⟩ := dstOf_some hdj
                      have := kz_all hall2 i (by omega) j oj s hji (hat j oj hj hoj) hdoj
                      cases hl : lookK (kz i) s with
                      | some K => exact hks ⟨K, hl⟩
                      | none => exact lookK_none hl _ this
                    have e0 := hI.other s ho2
                    rcases b3 s with e | e
                    · rw [e, e0]
                    · exact e.symm
                | const _ => rfl
                | global _ => rfl
                | func _ => rfl
              have hgoes := hb.out
              unfold Oper.wp
              rw [heq]
              generalize (execOp b.eval o).run P w' = r at hgoes
              cases r with
              | ok n w'' =>
                cases n <;> simp only [OpGoes] at hgoes <;> try exact hgoes.elim
                case value v => exact hnext v w'' hgoes.1 (ext_below hgoes.2) (hkN _ hgoes.2) (hcntN hxx _ hgoes.2)
                case enter f args =>
                  refine Calls.mono hgoes ?_
                  rintro e w3 ⟨v, rfl, hv, hb⟩
                  exact hnext v w3 hv (ext_below hb) (hkN _ hb) (hcntN hxx _ hb)
              | halt x w'' => exact hgoes.elim
            · obtain ⟨q, hql, hqe⟩ := hidx i hxx
              obtain ⟨c, hc, hqs, hj⟩ := hI.cnt
              obtain ⟨hq1, hq2, hq3⟩ := hex' q hql
              have hqc : q = c := by
                have h1 := hqs q hql
                rw [hqe, ← getD_ff hsi, hnl'] at h1
                have h2 : ¬ q < c := by simpa using h1.symm
                rcases hq3 with h3 | ⟨o3, ho3, hh3⟩
                · omega
                · rw [hqe, ho] at ho3
                  injection ho3 with ho3
                  subst ho3
                  have h4 := hon _ hh3
                  by_cases h0 : q = 0
                  · omega
                  · rw [hqs (q - 1) (by omega)] at h4
                    have : q - 1 < c := by simpa using h4
                    omega
              rw [hqe] at hq2
              rw [hq2, hqc] at hgo
              have hkE : ∀ w'', w'.grownBy w'' (some g) → ∀ j, j < m → listed.getD j false = true → ∀ u, (Ks j).holds w' u → (Ks j).holds w'' u := by
                intro w'' hE j hjm hjl u hu
                rcases (hokj j hjm).2 with h1 | h1
                · exfalso
                  obtain ⟨j', h1, hjl⟩ := lastY_out hI.down h1 hjl
                  have hlast : j' = exs.getD (exs.length - 1) 0 := by
                    unfold lastX at h1
                    rw [List.getLast?_eq_getElem?, List.getElem?_eq_getElem (by omega)] at h1
                    rw [List.getD_eq_getElem?_getD, List.getElem?_eq_getElem (by omega)]
                    simp only [beq_iff_eq] at h1
                    exact h1.symm
                  rw [hlast, hqs _ (by omega)] at hjl
                  have : exs.length - 1 < c := by simpa using hjl
                  omega
                · exact Kd.keepX h1 hu hE
              have hcntE : ∀ w'', J (c + 1) w'' → ∃ c, c ≤ exs.length ∧ (∀ q, q < exs.length → (listed.setIfInBounds i true).getD (exs.getD q 0) false = decide (q < c)) ∧ J c w'' := by
                intro w'' hj2
                refine ⟨c + 1, by omega, fun p hp => ?_, hj2⟩
                rw [getD_set hsi]
                by_cases e : exs.getD p 0 = i
                · have hp2 := (hex' p hp).2.1
                  rw [e, hq2] at hp2
                  rw [if_pos e]
                  have : p < c + 1 := by omega
                  simp [this]
                · rw [if_neg e, hqs p hp]
                  have hpq : p ≠ q := fun h => e (by rw [h]; exact hqe)
                  by_cases hpc : p < c
                  · simp [hpc, Nat.lt_succ_of_lt hpc]
                  · have : ¬ p < c + 1 := by omega
                    simp [hpc, this]
              have hw : Region.wanted o (yielded ops a'.tmps) = true := by
                unfold Region.wanted
                cases hg : o.guard with
                | none => rfl
                | some gb =>
                  obtain ⟨g, b⟩ := gb
                  rw [hg] at hwk
                  unfold wantK at hwk
                  simp only at hwk
                  cases hdg : dstOf ops g with
                  | none => rw [hdg] at hwk; cases hwk
                  | some s =>
                    rw [hdg] at hwk
                    cases hlk : lookK (kz i) s with
                    | none => simp only [hlk] at hwk; cases hwk
                    | some K =>
                      simp only [hlk] at hwk
                      split at hwk
                      · rename_i hKe
                        injection hKe with hKe
                        subst hKe
                        rename_i c
                        obtain ⟨j, hj, hdj, hKj⟩ := hlook s _ hlk
                        obtain ⟨hong, hgi⟩ := hgd g b hg
                        obtain rfl := dst_injZ R (by omega) (by omega) hdj hdg
                        have hv := hI.val j s (by omega) (hon j hong) hdj
                        rw [← hKj] at hv
                        have hy : yielded ops a'.tmps j = some c := by
                          have hv' : a'.tmps.getD s undef = .bool c := hv
                          unfold yielded
                          unfold dstOf at hdj
                          rw [hdj]
                          rw [Array.getD_eq_getD_getElem?] at hv'
                          cases hx : a'.tmps[s]? with
                          | none => rw [hx] at hv'; exact absurd hv' (by simp [undef])
                          | some x =>
                            rw [hx] at hv'
                            simp only [Option.getD_some] at hv'
                            subst hv'
                            simp [hx]
                        simp only [hy]
                        injection hwk
                      · cases hwk
              simp only [hw, if_true]
              refine .inl ?_
              obtain ⟨b, hb, b1, b2, b3, b4⟩ := leanOn.out (a' := a') (hgo w' hI.ext hj) hI.size.symm (fun s K hs hK => by
                obtain ⟨j, hj, hdj, rfl⟩ := hlook s K hK
                obtain ⟨o2, ho2, hod2⟩ := dstOf_some hdj
                obtain ⟨s2, hs2, hsn, _⟩ := R.main j o2 (by omega) ho2
                rw [hod2] at hs2
                injection hs2 with hs2
                subst hs2
                obtain ⟨ha, _⟩ := hrd s (by simpa using hs) j (by omega) hdj
                exact ⟨by rw [hI.size]; exact hsn, hI.val j s (by omega) (hon j ha) hdj⟩)
              have heq : execOp a'.eval o = execOp b.eval o := by
                refine execOp_congr o (fun cs bb hc => by rw [hc] at hsel; cases hsel) fun x hx => ?_
                cases x with
                | tmp s =>
                  show a'.tmps.getD s undef = b.tmps.getD s undef
                  by_cases hks : ∃ K, lookK (kz i) s = some K
                  · obtain ⟨K, hK⟩ := hks
                    exact (b4 s ⟨K, hK, by simpa using hx⟩).symm
                  · have ho2 : ∀ j, j < m → dstOf ops j ≠ some s := by
                      intro j hj hdj
                      obtain ⟨_, hji⟩ := hrd s hx j hj hdj
                      obtain ⟨oj, hoj, hdoj⟩ := dstOf_some hdj
                      have := kz_all hall2 i (by omega) j oj s hji (hat j oj hj hoj) hdoj
                      cases hl : lookK (kz i) s with
                      | some K => exact hks ⟨K, hl⟩
                      | none => exact lookK_none hl _ this
                    have e0 := hI.other s ho2
                    rcases b3 s with e | e
                    · rw [e, e0]
                    · exact e.symm
                | const _ => rfl
                | global _ => rfl
                | func _ => rfl
              have hgoes := hb.out
              unfold Oper.wp
              rw [heq]
              generalize (execOp b.eval o).run P w' = r at hgoes
              cases r with
              | ok n w'' =>
                cases n <;> simp only [OpGoes] at hgoes <;> try exact hgoes.elim
                case value v => exact hnext v w'' hgoes.1 hgoes.2.1 (hkE _ hgoes.2.1) (hcntE _ hgoes.2.2)
                case enter f args =>
                  refine Calls.mono hgoes ?_
                  rintro e w3 ⟨v, rfl, hv, hb, hj3⟩
                  exact hnext v w3 hv hb (hkE _ hb) (hcntE _ hj3)
              | halt x w'' => exact hgoes.elim
            · have hw : Region.wanted o (yielded ops a'.tmps) = false := by
                unfold Region.wanted
                cases hg : o.guard with
                | none => rw [hg] at hwk; cases hwk
                | some gb =>
                  obtain ⟨g, b⟩ := gb
                  rw [hg] at hwk
                  unfold wantK at hwk
                  simp only at hwk
                  cases hdg : dstOf ops g with
                  | none => rw [hdg] at hwk; cases hwk
                  | some s =>
                    rw [hdg] at hwk
                    cases hlk : lookK (kz i) s with
                    | none => simp only [hlk] at hwk; cases hwk
                    | some K =>
                      simp only [hlk] at hwk
                      split at hwk
                      · rename_i hKe
                        injection hKe with hKe
                        subst hKe
                        rename_i c
                        obtain ⟨j, hj, hdj, hKj⟩ := hlook s _ hlk
                        obtain ⟨hong, hgi⟩ := hgd g b hg
                        obtain rfl := dst_injZ R (by omega) (by omega) hdj hdg
                        have hv := hI.val j s (by omega) (hon j hong) hdj
                        rw [← hKj] at hv
                        have hy : yielded ops a'.tmps j = some c := by
                          have hv' : a'.tmps.getD s undef = .bool c := hv
                          unfold yielded
                          unfold dstOf at hdj
                          rw [hdj]
                          rw [Array.getD_eq_getD_getElem?] at hv'
                          cases hx : a'.tmps[s]? with
                          | none => rw [hx] at hv'; exact absurd hv' (by simp [undef])
                          | some x =>
                            rw [hx] at hv'
                            simp only [Option.getD_some] at hv'
                            subst hv'
                            simp [hx]
                        simp only [hy]
                        injection hwk
                      · cases hwk
              simp only [hw]
              exact hnext _ _ (by rw [hskip]; rfl) (ext_refl _ _) (hkN _ (Below.refl _ _)) (hcntN hxx _ (Below.refl _ _))
  refine key ops.size _ a _ ⟨by simp, rfl, rfl, ext_below (Below.drew (Below.refl _ _)), ⟨0, Nat.zero_le _, fun q _ => by simp [Array.getD_eq_getD_getElem?, Array.getElem?_replicate]; split <;> simp, hJs 0 _ _ hJ0 (Below.drew (Below.refl _ _))⟩, fun _ _ => rfl, fun j t _ hj => ?_, fun i o _ hj => ?_⟩ ?_ ?_
  · exfalso
    revert hj
    simp only [Array.getD_eq_getD_getElem?, Array.getElem?_replicate]
    split <;> simp
  · exfalso
    revert hj
    simp only [Array.getD_eq_getD_getElem?, Array.getElem?_replicate]
    split <;> simp
  · intro i _ hi
    simp [Array.getD_eq_getD_getElem?, Array.getElem?_replicate, hi]
  · exact Nat.le_trans (List.length_filter_le _ _) (by simp)
end
end Go.Proofs.Ytjhpmeagopdaiaa

namespace Go.Proofs.Ytjhpmeagopdaiaa
open Go.RowKit
set_option linter.unusedVariables false
set_option linter.unusedSimpArgs false
set_option linter.unusedSimpArgs false
set_option maxHeartbeats 4000000
set_option maxRecDepth 100000

def dL (d : Dgm) : List UInt8 := ([] ++ twos [d.src, d.dst, (8 + (d.dat.length : Int)) % 65536, 0]) ++ d.dat
def dZ (p : Pkt) (d : Dgm) : Int := if psum p 17 (dL d) = 0 then 65535 else psum p 17 (dL d)
def dS (p : Pkt) (d : Dgm) : List UInt8 := if d.bare then dL d else put16 (dL d) 6 (dZ p d)
def dbE (p : Pkt) (d : Dgm) : Int := wiE p (8 + d.dat.length)
def dbP (p : Pkt) (d : Dgm) : Pkt := withP p 17 (dS p d)
theorem dL_len (d : Dgm) : (dL d).length = 8 + d.dat.length := by simp [dL, twos, two]; omega
theorem dS_len (p : Pkt) (d : Dgm) : (dS p d).length = 8 + d.dat.length := by
  unfold dS; split
  · exact dL_len d
  · rw [put16_length, dL_len]
theorem sx_isNew {g B : Nat} {cs : Array Value} {t : TypeId} (hg : g < B) : ∀ w w' v, isNew B cs t w v → w.grownBy w' (some g) → isNew B cs t w' v := fun _ _ _ ⟨b, e, h, k⟩ hE => ⟨b, e, h, k.ext hE (by omega)⟩
theorem dbuild_any (p : Pkt) (hp : p.Ok) (X1 : Option Addr) (m1 j1 : Nat) (X2 : Option Addr) (m2 j2 : Nat) (s : Dgm) (hs : s.Ok) (DA : Option Addr) (dn dc : Nat) (w : World) (k1 : Bs w X1 m1 j1 p.opt) (kd : Bs w DA dn dc s.dat)
    (hdn : dn ≤ 140737488351232) : Calls Try.prog 47 #[(.agg #[.int .u8 (p).tos, .int .u16 (p).id, .bool (p).keep, .int .u8 (p).ttl, .int .u8 (p).proto, .int .u32 (p).src, .int .u32 (p).dst, .slice X1 m1 j1, .slice X2 m2 j2]), (.agg #[.int .u16 (s).src, .int .u16 (s).dst, .bool (s).bare, .slice DA dn dc])] w (WiPost w (dbP p s) (dbE p s)) := by
  obtain ⟨⟨a0, a1⟩, ⟨d0, d1⟩⟩ := hs
  have hTs : 118 ≠ 5 := by decide
  have h77 : 26 ≠ 5 := by decide
  have h78 : 52 ≠ 5 := by decide
  have ld := kd.len
  obtain ⟨z, hz⟩ : ∃ z : Int, (8 + (dn : Int)) % 65536 = z := ⟨_, rfl⟩
  have z0 : 0 ≤ z := by omega
  have z1 : z ≤ 65535 := by omega
  obtain ⟨y, hy⟩ : ∃ y : Int, 8 + (dn : Int) = y := ⟨_, rfl⟩
  have hw8 : IntKind.i64.wrap (8 + (dn : Int)) = y := by rw [IntKind.wrap_i64]; omega
  have hwy : IntKind.u16.wrap y = z := by rw [IntKind.wrap_u16]; omega
  have HL : Hid (([] ++ twos [s.src, s.dst, z, 0]) ++ s.dat = dL s) := by unfold Hid dL; rw [ld, hz]
  have HN : Hid ((dL s).length = 8 + dn) := by unfold Hid; rw [dL_len, ld]
  have HLD := Lib.hid ld
  have HY := Lib.hid hy
  clear ld hz hy
  obtain ⟨k, hk⟩ : ∃ k : Nat, w.heap.size = k := ⟨_, rfl⟩
  obtain ⟨w1, hw1⟩ : ∃ W, ((((w.alloc (.cells #[.int .u8 (p).tos, .int .u16 (p).id, .bool (p).keep, .int .u8 (p).ttl, .int .u8 (p).proto, .int .u32 (p).src, .int .u32 (p).dst, .slice X1 m1 j1, .slice X2 m2 j2] 26)).alloc (.cells #[.int .u16 (s).src, .int .u16 (s).dst, .bool (s).bare, .slice DA dn dc] 52)).alloc (.cells #[.int .u8 0, .int .u16 0, .bool false, .int .u8 0, .int .u8 0, .int .u32 0, .int .u32 0, .slice none 0 0, .slice none 0 0] 26)).alloc (.cells #[.slice none 0 0] 118)) = W := ⟨_, rfl⟩
  have P1 : Blk w1 k #[.int .u8 (p).tos, .int .u16 (p).id, .bool (p).keep, .int .u8 (p).ttl, .int .u8 (p).proto, .int .u32 (p).src, .int .u32 (p).dst, .slice X1 m1 j1, .slice X2 m2 j2] 26 := by rw [← hw1]; exact ((((blk_new _ _ _ k (by simp [hk])).alloc _).alloc _).alloc _)
  have S1 : Blk w1 (k + 1) #[.int .u16 (s).src, .int .u16 (s).dst, .bool (s).bare, .slice DA dn dc] 52 := by rw [← hw1]; exact (((blk_new _ _ _ (k + 1) (by simp [hk])).alloc _).alloc _)
  have Z1 : Blk w1 (k + 1 + 1) #[.int .u8 0, .int .u16 0, .bool false, .int .u8 0, .int .u8 0, .int .u32 0, .int .u32 0, .slice none 0 0, .slice none 0 0] 26 := by rw [← hw1]; exact ((blk_new _ _ _ (k + 1 + 1) (by simp [hk])).alloc _)
  have H1 : Blk w1 (k + 1 + 1 + 1) #[.slice none 0 0] 118 := by rw [← hw1]; exact (blk_new _ _ _ (k + 1 + 1 + 1) (by simp [hk]))
  have R1 : Below w.heap.size w w1 := by rw [← hw1]; (repeat (first | with_reducible exact Below.refl _ _ | with_reducible refine below_drew ?_ | with_reducible refine below_drewN ?_ _ | with_reducible refine below_alloc ?_ (Nat.le_refl _) _ | with_reducible refine Below.setCell ?_ (by first | exact Nat.le_refl _ | (simp only []; omega)) _ | with_reducible assumption))
  have Pc1 := P1.cell
  have Sc1 := S1.cell
  have Zc1 := Z1.cell
  have Hc1 := H1.cell
  have Pl1 := P1.lt
  have Sl1 := S1.lt
  have Zl1 := Z1.lt
  have Hl1 := H1.lt
  go_enter Try.func47, Try.ntmps47
  obtain ⟨g2, hg2⟩ : ∃ g : Nat, w1.heap.size = g := ⟨_, rfl⟩
  obtain ⟨v1, hv1⟩ : ∃ W, w1.alloc (.cells #[.int .u16 s.src, .int .u16 s.dst, .int .u16 z, .int .u16 0] 22) = W := ⟨_, rfl⟩
  have G2 : Blk v1 g2 (u16s [s.src, s.dst, z, 0]) 22 := by rw [← hv1]; exact blk_new w1 _ _ _ hg2
  have Vv : Below w1.heap.size w1 v1 := by rw [← hv1]; (repeat (first | with_reducible exact Below.refl _ _ | with_reducible refine below_drew ?_ | with_reducible refine below_drewN ?_ _ | with_reducible refine below_alloc ?_ (Nat.le_refl _) _ | with_reducible refine Below.setCell ?_ (by first | exact Nat.le_refl _ | (simp only []; omega)) _ | with_reducible assumption))
  have hk1 : w.heap.size ≤ k := Nat.le_of_eq hk
  have hk2 : k ≤ w.heap.size := Nat.le_of_eq hk.symm
  have zs1 := Vv.size
  have rs1 := R1.size
  have h2 := htwo_any w.heap.size w.heap.size (k + 1 + 1 + 1) #[.slice none 0 0] 118 none 0 0 [] g2 4 4 [s.src, s.dst, z, 0] rfl (by omega) v1 (H1.below Vv) rfl (own_nil _ _ _) (by omega) G2 (by intro x hx; simp at hx; omega) hTs (by omega) (by omega) (Nat.le_refl _) (by omega) (by omega)
  go_wp2_with (go_at_call 81; ((with_reducible refine (h2).mono ?_); rintro e w2 hpost); (obtain ⟨rfl, A2, n2, c2, H2, O2, B2, K2⟩ := hpost.out); simp only [List.setIfInBounds_toArray, List.set_cons_zero] at H2)
  have u2 : n2 = 8 := by rw [← O2.len]; simp [twos, two]
  subst u2
  have R2 := (R1.trans (Vv.mono (by omega))).trans B2
  have P2 := K2 k _ _ h77 (by omega) (P1.below Vv)
  have S2 := K2 (k + 1) _ _ h78 (by omega) (S1.below Vv)
  have Z2 := K2 (k + 1 + 1) _ _ h77 (by omega) (Z1.below Vv)
  obtain ⟨ga, rfl, gb, gl⟩ := O2.ptr (by omega)
  have nP := O2.ne_blk P2 h77 ga rfl
  have nS := O2.ne_blk S2 h78 ga rfl
  have nZ := O2.ne_blk Z2 h77 ga rfl
  have nH := O2.ne_blk H2 hTs ga rfl
  obtain ⟨E, hE'⟩ : ∃ E, dbE p s = E := ⟨_, rfl⟩
  obtain ⟨P, hP⟩ : ∃ P, P = withP p 17 (dL s) := ⟨_, rfl⟩
  have hw2 := fun W A n c k1 k3 hb => swith_all p X1 m1 j1 X2 m2 j2 17 (([] ++ twos [s.src, s.dst, z, 0]) ++ s.dat) P E (by rw [HL.out, dL_len]; exact hE') (by rw [HL.out]; exact hP) w.heap.size A n c W k1 k3 hb
  have HE := Lib.hid hE'
  have HP := Lib.hid hP
  have rs2 := R2.size
  clear hE' hP H1 P1 S1 Z1 Pc1 Sc1 Zc1 Hc1 Pl1 Sl1 Zl1 Hl1 R1 rs1 zs1 Vv G2 hg2 hv1 hw1 hk hpost h2 B2 K2
  refine regionXZ 13 11 [7] ga (fun c W => match c with | 0 => Own W w.heap.size 5 (some ⟨ga, 0, none⟩) 8 c2 ([] ++ twos [s.src, s.dst, z, 0]) | _ + 1 => True) (by kernel_rfl) (by kernel_rfl) (fun _ _ _ _ _ h => h) (by kernel_rfl) (by kernel_rfl) O2 (fun c W W' hj hb => by cases c with | zero => exact Own.below hj hb | succ n => trivial) ?_; (iterate 13 (first | (apply ObsY.skip (by rfl) (by rfl)) | (apply ObsY.v (by rfl) (by rfl); (intro wo hE; (repeat (first | (intro v hv; ((first | (obtain ⟨A7, n7, c7, rfl, o7⟩ := hv) | (obtain ⟨D1, g1, h1', D2, g2', h2', rfl, o13, o14⟩ := hv)))) | (intro _ _ k; try have hcv := cv k))); (have pco := (P2.ext hE (Ne.symm nP)).cell; have sco := (S2.ext hE (Ne.symm nS)).cell; have hco := (H2.ext hE (Ne.symm nH)).cell; have Ro := below_ext R2 hE gb rs2; have xo := k1.below Ro; have yo := kd.below Ro; have hsz := hE.size); refine Goes.mk ?_; first | (exact goes_appX _ _ rfl rfl hj (fun k e => by simp [Value.ownBlock] at e; exact e.symm) rfl yo (by omega) (by omega) (fun _ => trivial)) | (go_simp; first | exact goes_v | (first | exact goes_tup (by assumption) (by assumption) | exact goes_pk (by assumption) (by assumption) | exact goes_new hsz) | (refine goes_enter ?_; first | (go_at_call 84; ((with_reducible refine (hw2 wo A7 n7 c7 xo o7 (by omega)).mono ?_); rintro e w9 ⟨D1, g1, h1', D2, g2', h2', rfl, o13, o14, hB9⟩); exact ret_tup (P := P) o13 o14 hB9))))) | (apply ObsY.p (q := isNew w2.heap.size #[.int .u8 0, .int .u16 0, .bool false, .int .u8 0, .int .u8 0, .int .u32 0, .int .u32 0, .slice none 0 0, .slice none 0 0] 26) (by rfl) (by rfl) st_isNew (sx_isNew gl); (intro wo hE; (repeat (first | (intro v hv; ((first | (obtain ⟨A7, n7, c7, rfl, o7⟩ := hv) | (obtain ⟨D1, g1, h1', D2, g2', h2', rfl, o13, o14⟩ := hv)))) | (intro _ _ k; try have hcv := cv k))); (have pco := (P2.ext hE (Ne.symm nP)).cell; have sco := (S2.ext hE (Ne.symm nS)).cell; have hco := (H2.ext hE (Ne.symm nH)).cell; have Ro := below_ext R2 hE gb rs2; have xo := k1.below Ro; have yo := kd.below Ro; have hsz := hE.size); refine Goes.mk ?_; first | (exact goes_appX _ _ rfl rfl hj (fun k e => by simp [Value.ownBlock] at e; exact e.symm) rfl yo (by omega) (by omega) (fun _ => trivial)) | (go_simp; first | exact goes_v | (first | exact goes_tup (by assumption) (by assumption) | exact goes_pk (by assumption) (by assumption) | exact goes_new hsz) | (refine goes_enter ?_; first | (go_at_call 84; ((with_reducible refine (hw2 wo A7 n7 c7 xo o7 (by omega)).mono ?_); rintro e w9 ⟨D1, g1, h1', D2, g2', h2', rfl, o13, o14, hB9⟩); exact ret_tup (P := P) o13 o14 hB9))))) | (apply ObsY.ev (by rfl) (by rfl); (intro wo hE hj; (repeat (first | (intro v hv; ((first | (obtain ⟨A7, n7, c7, rfl, o7⟩ := hv) | (obtain ⟨D1, g1, h1', D2, g2', h2', rfl, o13, o14⟩ := hv)))) | (intro _ _ k; try have hcv := cv k))); (have pco := (P2.ext hE (Ne.symm nP)).cell; have sco := (S2.ext hE (Ne.symm nS)).cell; have hco := (H2.ext hE (Ne.symm nH)).cell; have Ro := below_ext R2 hE gb rs2; have xo := k1.below Ro; have yo := kd.below Ro; have hsz := hE.size); refine GoesX.mk ?_; first | (exact goes_appX _ _ rfl rfl hj (fun k e => by simp [Value.ownBlock] at e; exact e.symm) rfl yo (by omega) (by omega) (fun _ => trivial)) | (go_simp; first | exact goes_v | (first | exact goes_tup (by assumption) (by assumption) | exact goes_pk (by assumption) (by assumption) | exact goes_new hsz) | (refine goes_enter ?_; first | (go_at_call 84; ((with_reducible refine (hw2 wo A7 n7 c7 xo o7 (by omega)).mono ?_); rintro e w9 ⟨D1, g1, h1', D2, g2', h2', rfl, o13, o14, hB9⟩); exact ret_tup (P := P) o13 o14 hB9))))) | (apply ObsY.ep (q := isW w.heap.size (([] ++ twos [s.src, s.dst, z, 0]) ++ s.dat)) (by rfl) (by rfl) (by rfl) st_isW; (intro wo hE hj; (repeat (first | (intro v hv; ((first | (obtain ⟨A7, n7, c7, rfl, o7⟩ := hv) | (obtain ⟨D1, g1, h1', D2, g2', h2', rfl, o13, o14⟩ := hv)))) | (intro _ _ k; try have hcv := cv k))); (have pco := (P2.ext hE (Ne.symm nP)).cell; have sco := (S2.ext hE (Ne.symm nS)).cell; have hco := (H2.ext hE (Ne.symm nH)).cell; have Ro := below_ext R2 hE gb rs2; have xo := k1.below Ro; have yo := kd.below Ro; have hsz := hE.size); refine GoesX.mk ?_; first | (exact goes_appX _ _ rfl rfl hj (fun k e => by simp [Value.ownBlock] at e; exact e.symm) rfl yo (by omega) (by omega) (fun _ => trivial)) | (go_simp; first | exact goes_v | (first | exact goes_tup (by assumption) (by assumption) | exact goes_pk (by assumption) (by assumption) | exact goes_new hsz) | (refine goes_enter ?_; first | (go_at_call 84; ((with_reducible refine (hw2 wo A7 n7 c7 xo o7 (by omega)).mono ?_); rintro e w9 ⟨D1, g1, h1', D2, g2', h2', rfl, o13, o14, hB9⟩); exact ret_tup (P := P) o13 o14 hB9))))) | (apply ObsY.ep (q := isTup w.heap.size P E) (by rfl) (by rfl) (by rfl) st_isTup; (intro wo hE hj; (repeat (first | (intro v hv; ((first | (obtain ⟨A7, n7, c7, rfl, o7⟩ := hv) | (obtain ⟨D1, g1, h1', D2, g2', h2', rfl, o13, o14⟩ := hv)))) | (intro _ _ k; try have hcv := cv k))); (have pco := (P2.ext hE (Ne.symm nP)).cell; have sco := (S2.ext hE (Ne.symm nS)).cell; have hco := (H2.ext hE (Ne.symm nH)).cell; have Ro := below_ext R2 hE gb rs2; have xo := k1.below Ro; have yo := kd.below Ro; have hsz := hE.size); refine GoesX.mk ?_; first | (exact goes_appX _ _ rfl rfl hj (fun k e => by simp [Value.ownBlock] at e; exact e.symm) rfl yo (by omega) (by omega) (fun _ => trivial)) | (go_simp; first | exact goes_v | (first | exact goes_tup (by assumption) (by assumption) | exact goes_pk (by assumption) (by assumption) | exact goes_new hsz) | (refine goes_enter ?_; first | (go_at_call 84; ((with_reducible refine (hw2 wo A7 n7 c7 xo o7 (by omega)).mono ?_); rintro e w9 ⟨D1, g1, h1', D2, g2', h2', rfl, o13, o14, hB9⟩); exact ret_tup (P := P) o13 o14 hB9))))) | (apply ObsY.ep (q := isPk w.heap.size P) (by rfl) (by rfl) (by rfl) st_isPk; (intro wo hE hj; (repeat (first | (intro v hv; ((first | (obtain ⟨A7, n7, c7, rfl, o7⟩ := hv) | (obtain ⟨D1, g1, h1', D2, g2', h2', rfl, o13, o14⟩ := hv)))) | (intro _ _ k; try have hcv := cv k))); (have pco := (P2.ext hE (Ne.symm nP)).cell; have sco := (S2.ext hE (Ne.symm nS)).cell; have hco := (H2.ext hE (Ne.symm nH)).cell; have Ro := below_ext R2 hE gb rs2; have xo := k1.below Ro; have yo := kd.below Ro; have hsz := hE.size); refine GoesX.mk ?_; first | (exact goes_appX _ _ rfl rfl hj (fun k e => by simp [Value.ownBlock] at e; exact e.symm) rfl yo (by omega) (by omega) (fun _ => trivial)) | (go_simp; first | exact goes_v | (first | exact goes_tup (by assumption) (by assumption) | exact goes_pk (by assumption) (by assumption) | exact goes_new hsz) | (refine goes_enter ?_; first | (go_at_call 84; ((with_reducible refine (hw2 wo A7 n7 c7 xo o7 (by omega)).mono ?_); rintro e w9 ⟨D1, g1, h1', D2, g2', h2', rfl, o13, o14, hB9⟩); exact ret_tup (P := P) o13 o14 hB9))))) | (apply ObsY.ep (q := isNew w2.heap.size #[.int .u8 0, .int .u16 0, .bool false, .int .u8 0, .int .u8 0, .int .u32 0, .int .u32 0, .slice none 0 0, .slice none 0 0] 26) (by rfl) (by rfl) (by rfl) st_isNew; (intro wo hE hj; (repeat (first | (intro v hv; ((first | (obtain ⟨A7, n7, c7, rfl, o7⟩ := hv) | (obtain ⟨D1, g1, h1', D2, g2', h2', rfl, o13, o14⟩ := hv)))) | (intro _ _ k; try have hcv := cv k))); (have pco := (P2.ext hE (Ne.symm nP)).cell; have sco := (S2.ext hE (Ne.symm nS)).cell; have hco := (H2.ext hE (Ne.symm nH)).cell; have Ro := below_ext R2 hE gb rs2; have xo := k1.below Ro; have yo := kd.below Ro; have hsz := hE.size); refine GoesX.mk ?_; first | (exact goes_appX _ _ rfl rfl hj (fun k e => by simp [Value.ownBlock] at e; exact e.symm) rfl yo (by omega) (by omega) (fun _ => trivial)) | (go_simp; first | exact goes_v | (first | exact goes_tup (by assumption) (by assumption) | exact goes_pk (by assumption) (by assumption) | exact goes_new hsz) | (refine goes_enter ?_; first | (go_at_call 84; ((with_reducible refine (hw2 wo A7 n7 c7 xo o7 (by omega)).mono ?_); rintro e w9 ⟨D1, g1, h1', D2, g2', h2', rfl, o13, o14, hB9⟩); exact ret_tup (P := P) o13 o14 hB9))))) | (apply ObsY.ap (q := isW w.heap.size (([] ++ twos [s.src, s.dst, z, 0]) ++ s.dat)) (by rfl) (by rfl) (by kernel_rfl) st_isW; (intro wo hE; (repeat (first | (intro v hv; ((first | (obtain ⟨A7, n7, c7, rfl, o7⟩ := hv) | (obtain ⟨D1, g1, h1', D2, g2', h2', rfl, o13, o14⟩ := hv)))) | (intro _ _ k; try have hcv := cv k))); (have pco := (P2.ext hE (Ne.symm nP)).cell; have sco := (S2.ext hE (Ne.symm nS)).cell; have hco := (H2.ext hE (Ne.symm nH)).cell; have Ro := below_ext R2 hE gb rs2; have xo := k1.below Ro; have yo := kd.below Ro; have hsz := hE.size); refine Goes.mk ?_; first | (exact goes_appX _ _ rfl rfl hj (fun k e => by simp [Value.ownBlock] at e; exact e.symm) rfl yo (by omega) (by omega) (fun _ => trivial)) | (go_simp; first | exact goes_v | (first | exact goes_tup (by assumption) (by assumption) | exact goes_pk (by assumption) (by assumption) | exact goes_new hsz) | (refine goes_enter ?_; first | (go_at_call 84; ((with_reducible refine (hw2 wo A7 n7 c7 xo o7 (by omega)).mono ?_); rintro e w9 ⟨D1, g1, h1', D2, g2', h2', rfl, o13, o14, hB9⟩); exact ret_tup (P := P) o13 o14 hB9))))) | (apply ObsY.ap (q := isTup w.heap.size P E) (by rfl) (by rfl) (by kernel_rfl) st_isTup; (intro wo hE; (repeat (first | (intro v hv; ((first | (obtain ⟨A7, n7, c7, rfl, o7⟩ := hv) | (obtain ⟨D1, g1, h1', D2, g2', h2', rfl, o13, o14⟩ := hv)))) | (intro _ _ k; try have hcv := cv k))); (have pco := (P2.ext hE (Ne.symm nP)).cell; have sco := (S2.ext hE (Ne.symm nS)).cell; have hco := (H2.ext hE (Ne.symm nH)).cell; have Ro := below_ext R2 hE gb rs2; have xo := k1.below Ro; have yo := kd.below Ro; have hsz := hE.size); refine Goes.mk ?_; first | (exact goes_appX _ _ rfl rfl hj (fun k e => by simp [Value.ownBlock] at e; exact e.symm) rfl yo (by omega) (by omega) (fun _ => trivial)) | (go_simp; first | exact goes_v | (first | exact goes_tup (by assumption) (by assumption) | exact goes_pk (by assumption) (by assumption) | exact goes_new hsz) | (refine goes_enter ?_; first | (go_at_call 84; ((with_reducible refine (hw2 wo A7 n7 c7 xo o7 (by omega)).mono ?_); rintro e w9 ⟨D1, g1, h1', D2, g2', h2', rfl, o13, o14, hB9⟩); exact ret_tup (P := P) o13 o14 hB9))))) | (apply ObsY.ap (q := isPk w.heap.size P) (by rfl) (by rfl) (by kernel_rfl) st_isPk; (intro wo hE; (repeat (first | (intro v hv; ((first | (obtain ⟨A7, n7, c7, rfl, o7⟩ := hv) | (obtain ⟨D1, g1, h1', D2, g2', h2', rfl, o13, o14⟩ := hv)))) | (intro _ _ k; try have hcv := cv k))); (have pco := (P2.ext hE (Ne.symm nP)).cell; have sco := (S2.ext hE (Ne.symm nS)).cell; have hco := (H2.ext hE (Ne.symm nH)).cell; have Ro := below_ext R2 hE gb rs2; have xo := k1.below Ro; have yo := kd.below Ro; have hsz := hE.size); refine Goes.mk ?_; first | (exact goes_appX _ _ rfl rfl hj (fun k e => by simp [Value.ownBlock] at e; exact e.symm) rfl yo (by omega) (by omega) (fun _ => trivial)) | (go_simp; first | exact goes_v | (first | exact goes_tup (by assumption) (by assumption) | exact goes_pk (by assumption) (by assumption) | exact goes_new hsz) | (refine goes_enter ?_; first | (go_at_call 84; ((with_reducible refine (hw2 wo A7 n7 c7 xo o7 (by omega)).mono ?_); rintro e w9 ⟨D1, g1, h1', D2, g2', h2', rfl, o13, o14, hB9⟩); exact ret_tup (P := P) o13 o14 hB9))))) | (apply ObsY.ap (q := isNew w2.heap.size #[.int .u8 0, .int .u16 0, .bool false, .int .u8 0, .int .u8 0, .int .u32 0, .int .u32 0, .slice none 0 0, .slice none 0 0] 26) (by rfl) (by rfl) (by kernel_rfl) st_isNew; (intro wo hE; (repeat (first | (intro v hv; ((first | (obtain ⟨A7, n7, c7, rfl, o7⟩ := hv) | (obtain ⟨D1, g1, h1', D2, g2', h2', rfl, o13, o14⟩ := hv)))) | (intro _ _ k; try have hcv := cv k))); (have pco := (P2.ext hE (Ne.symm nP)).cell; have sco := (S2.ext hE (Ne.symm nS)).cell; have hco := (H2.ext hE (Ne.symm nH)).cell; have Ro := below_ext R2 hE gb rs2; have xo := k1.below Ro; have yo := kd.below Ro; have hsz := hE.size); refine Goes.mk ?_; first | (exact goes_appX _ _ rfl rfl hj (fun k e => by simp [Value.ownBlock] at e; exact e.symm) rfl yo (by omega) (by omega) (fun _ => trivial)) | (go_simp; first | exact goes_v | (first | exact goes_tup (by assumption) (by assumption) | exact goes_pk (by assumption) (by assumption) | exact goes_new hsz) | (refine goes_enter ?_; first | (go_at_call 84; ((with_reducible refine (hw2 wo A7 n7 c7 xo o7 (by omega)).mono ?_); rintro e w9 ⟨D1, g1, h1', D2, g2', h2', rfl, o13, o14, hB9⟩); exact ret_tup (P := P) o13 o14 hB9))))))); refine ObsY.nil ?_; intro wz hEz hJz; simp only [finOn, List.drop_succ_cons, List.drop_zero, List.drop_nil]
  rintro v12 ⟨gq, rfl, hgq, Q⟩ v10 ⟨D1, g1, h1', D2, g2', h2', rfl, O13, O14⟩ v9 hv9 v8 hv8 v7 hv7
  go_simp
  clear hv9 hv8 hv7
  have Q7 := Q.cell
  have Z7 := Z2.ext hEz (Ne.symm nZ)
  have S7 := S2.ext hEz (Ne.symm nS)
  have R7 := below_ext R2 hEz gb rs2
  have qneZ : k + 1 + 1 ≠ gq := by have := Z2.lt; omega
  have qneS : k + 1 ≠ gq := by have := S2.lt; omega
  obtain ⟨wf, hwf, Sf⟩ := store9 Q (.int .u8 P.tos) (.int .u16 P.id) (.bool P.keep) (.int .u8 P.ttl) (.int .u8 P.proto) (.int .u32 P.src) (.int .u32 P.dst) (.slice D1 g1 h1') (.slice D2 g2' h2')
  have Qf := Sf.blk
  have Zf := Sf.other qneZ Z7
  have Sgf := Sf.other qneS S7
  have Of := Sf.own O13 (fun a e => O13.ne_blk Q h77 a.block (by rw [e]; rfl))
  have Df := Sf.own O14 (fun a e => O14.ne_blk Q h77 a.block (by rw [e]; rfl))
  have Rf := Sf.bel R7 (by omega)
  have qcf := Qf.cell
  have zcf := Zf.cell
  have scf := Sgf.cell
  clear Sf O13 O14
  by_cases hE0 : E = 0
  · subst hE0
    rcases Bool.eq_false_or_eq_true s.bare with hb | hb
    · have HPP : Hid (dbP p s = P) := by unfold Hid dbP dS; rw [hb, if_pos rfl]; exact HP.out.symm
      clear hw2
      go_wp2_with fail
      obtain ⟨wh, hwh, Sh⟩ := store9 Zf (.int .u8 P.tos) (.int .u16 P.id) (.bool P.keep) (.int .u8 P.ttl) (.int .u8 P.proto) (.int .u32 P.src) (.int .u32 P.dst) (.slice D1 g1 h1') (.slice D2 g2' h2')
      rw [hwh]
      have ph := Sh.blk.cell
      have Oh := Sh.own Of (fun a e => Of.ne_blk Zf h77 a.block (by rw [e]; rfl))
      have Dh := Sh.own Df (fun a e => Df.ne_blk Zf h77 a.block (by rw [e]; rfl))
      exact bodyPost_ret (v := .tuple #[(.agg #[.int .u8 (P).tos, .int .u16 (P).id, .bool (P).keep, .int .u8 (P).ttl, .int .u8 (P).proto, .int .u32 (P).src, .int .u32 (P).dst, .slice D1 g1 h1', .slice D2 g2' h2']), .int .i64 0]) (by simp [results, Try.results47, go_sem, ph]) rfl (by rw [HE.out, HPP.out]; exact ⟨⟨D1, g1, h1', D2, g2', h2', rfl, Oh, Dh, Sh.bel Rf (by omega)⟩⟩)
    · have hp1 : P = { p with proto := 17, dat := dL s } := by rw [HP.out]; unfold withP; rw [dL_len, show wiE p (8 + s.dat.length) = 0 from HE.out, if_pos rfl]
      have HPP : Hid (dbP p s = { p with proto := 17, dat := dS p s }) := by unfold Hid dbP withP; rw [dS_len, show wiE p (8 + s.dat.length) = 0 from HE.out, if_pos rfl]
      clear HP hw2
      subst hp1
      have hp' : ({ p with proto := 17, dat := dL s } : Pkt).Ok := by
        obtain ⟨e1, e2, e3, e4, e5, e6⟩ := hp
        exact ⟨e1, e2, e3, ⟨by show (0 : Int) ≤ 17; omega, by show (17 : Int) ≤ 255; omega⟩, e5, e6⟩
      have Dfb := Df.bs
      have g1b : g2' ≤ 140737488400000 := by
        have h1 := Df.len
        have h2 : (dL s).length = g2' := h1
        rw [HN.out] at h2
        omega
      obtain ⟨zz, hzz⟩ : ∃ z, psum p 17 (dL s) = z := ⟨_, rfl⟩
      have zz0 : 0 ≤ zz := by rw [← hzz]; exact csum_lo _
      have zz1 : zz ≤ 65535 := by rw [← hzz]; exact csum_hi _
      have hsum : ∀ W, Bs W D2 g2' h2' (dL s) → Calls Try.prog 86 #[(.agg #[.int .u8 ({ p with proto := 17, dat := dL s }).tos, .int .u16 ({ p with proto := 17, dat := dL s }).id, .bool ({ p with proto := 17, dat := dL s }).keep, .int .u8 ({ p with proto := 17, dat := dL s }).ttl, .int .u8 ({ p with proto := 17, dat := dL s }).proto, .int .u32 ({ p with proto := 17, dat := dL s }).src, .int .u32 ({ p with proto := 17, dat := dL s }).dst, .slice D1 g1 h1', .slice D2 g2' h2']), .int .u8 17, .slice D2 g2' h2'] W fun e w' => e = .returned (.int .u16 zz) ∧ Below W.heap.size W w' := fun W bo => by
        have := ssum_any { p with proto := 17, dat := dL s } hp' D1 g1 h1' D2 g2' h2' 17 (by omega) (by omega) D2 g2' h2' (dL s) W bo g1b
        rw [← hzz]
        exact this
      clear hp' hp
      by_cases hz0 : zz = 0
      · subst hz0
        have HS : Hid (put16 (dL s) 6 65535 = dS p s) := by unfold Hid dS dZ; rw [hb, hzz]; rfl
        clear hzz
        go_wp2_with (first
        | (go_at_call 86; ((with_reducible refine (hsum wf Dfb).mono ?_); rintro e w8 ⟨rfl, hB8⟩); have Q8 := Qf.below hB8; have Z8 := Zf.below hB8; have O8 := Of.below hB8; have D8b := Dfb.below hB8; have R8 := Rf.trans (hB8.mono Rf.size); have q8 := Q8.cell)
        | (go_at_call 35; ((with_reducible refine (put16_any D2 g2' h2' (dL s) 6 65535 (by omega) (by omega) w8 D8b).mono ?_); rintro e w9 ⟨A9, c9, rfl, O9, hB9⟩); rw [HS.out] at O9; have Q9 := Q8.below hB9; have q9 := Q9.cell; have Z9 := Z8.below hB9; have OP9 := O8.below hB9; have R9 := R8.trans (hB9.mono R8.size); have O9' := O9.mono R8.size; (obtain ⟨wg, hwg, Sg⟩ := store1 Q9 8 (.slice A9 g2' c9)); simp only [List.setIfInBounds_toArray, List.set_cons_zero, List.set_cons_succ] at Sg; have qg := Sg.blk.cell; have Zg := Sg.other qneZ Z9; have zg := Zg.cell; have Og := Sg.own OP9 (fun a e => OP9.ne_blk Q9 h77 a.block (by rw [e]; rfl)); have Dg := Sg.own O9' (fun a e => O9'.ne_blk Q9 h77 a.block (by rw [e]; rfl)); have Rg := Sg.bel R9 (by omega)))
        obtain ⟨wh, hwh, Sh⟩ := store9 Zg (.int .u8 p.tos) (.int .u16 p.id) (.bool p.keep) (.int .u8 p.ttl) (.int .u8 17) (.int .u32 p.src) (.int .u32 p.dst) (.slice D1 g1 h1') (.slice A9 g2' c9)
        rw [hwh]
        have ph := Sh.blk.cell
        have Oh := Sh.own Og (fun a e => Og.ne_blk Zg h77 a.block (by rw [e]; rfl))
        have Dh := Sh.own Dg (fun a e => Dg.ne_blk Zg h77 a.block (by rw [e]; rfl))
        exact bodyPost_ret (v := .tuple #[.agg #[.int .u8 p.tos, .int .u16 p.id, .bool p.keep, .int .u8 p.ttl, .int .u8 17, .int .u32 p.src, .int .u32 p.dst, .slice D1 g1 h1', .slice A9 g2' c9], .int .i64 0]) (by simp [results, Try.results47, go_sem, ph]) rfl (by rw [HE.out, HPP.out]; exact ⟨⟨D1, g1, h1', A9, g2', c9, rfl, Oh, Dh, Sh.bel Rg (by omega)⟩⟩)
      · have HS : Hid (put16 (dL s) 6 zz = dS p s) := by unfold Hid dS dZ; rw [hb, hzz, if_neg hz0]; rfl
        have z0b : (zz == 0) = false := by simpa using hz0
        clear hzz
        go_wp2_with (first
        | (go_at_call 86; ((with_reducible refine (hsum wf Dfb).mono ?_); rintro e w8 ⟨rfl, hB8⟩); have Q8 := Qf.below hB8; have Z8 := Zf.below hB8; have O8 := Of.below hB8; have D8b := Dfb.below hB8; have R8 := Rf.trans (hB8.mono Rf.size); have q8 := Q8.cell)
        | (go_at_call 35; ((with_reducible refine (put16_any D2 g2' h2' (dL s) 6 zz zz0 zz1 w8 D8b).mono ?_); rintro e w9 ⟨A9, c9, rfl, O9, hB9⟩); rw [HS.out] at O9; have Q9 := Q8.below hB9; have q9 := Q9.cell; have Z9 := Z8.below hB9; have OP9 := O8.below hB9; have R9 := R8.trans (hB9.mono R8.size); have O9' := O9.mono R8.size; (obtain ⟨wg, hwg, Sg⟩ := store1 Q9 8 (.slice A9 g2' c9)); simp only [List.setIfInBounds_toArray, List.set_cons_zero, List.set_cons_succ] at Sg; have qg := Sg.blk.cell; have Zg := Sg.other qneZ Z9; have zg := Zg.cell; have Og := Sg.own OP9 (fun a e => OP9.ne_blk Q9 h77 a.block (by rw [e]; rfl)); have Dg := Sg.own O9' (fun a e => O9'.ne_blk Q9 h77 a.block (by rw [e]; rfl)); have Rg := Sg.bel R9 (by omega)))
        obtain ⟨wh, hwh, Sh⟩ := store9 Zg (.int .u8 p.tos) (.int .u16 p.id) (.bool p.keep) (.int .u8 p.ttl) (.int .u8 17) (.int .u32 p.src) (.int .u32 p.dst) (.slice D1 g1 h1') (.slice A9 g2' c9)
        rw [hwh]
        have ph := Sh.blk.cell
        have Oh := Sh.own Og (fun a e => Og.ne_blk Zg h77 a.block (by rw [e]; rfl))
        have Dh := Sh.own Dg (fun a e => Dg.ne_blk Zg h77 a.block (by rw [e]; rfl))
        exact bodyPost_ret (v := .tuple #[.agg #[.int .u8 p.tos, .int .u16 p.id, .bool p.keep, .int .u8 p.ttl, .int .u8 17, .int .u32 p.src, .int .u32 p.dst, .slice D1 g1 h1', .slice A9 g2' c9], .int .i64 0]) (by simp [results, Try.results47, go_sem, ph]) rfl (by rw [HE.out, HPP.out]; exact ⟨⟨D1, g1, h1', A9, g2', c9, rfl, Oh, Dh, Sh.bel Rg (by omega)⟩⟩)
  · have HPP : Hid (dbP p s = P) := by
      have h1 : wiE p (8 + s.dat.length) ≠ 0 := by rw [show wiE p (8 + s.dat.length) = E from HE.out]; exact hE0
      unfold Hid dbP withP
      rw [dS_len, if_neg h1, HP.out]
      unfold withP
      rw [dL_len, if_neg h1]
    have e0 : (E == 0) = false := by simpa using hE0
    have e1 : decide (E = 0) = false := by simpa using hE0
    clear hw2
    go_wp2_with fail
    obtain ⟨wh, hwh, Sh⟩ := store9 Zf (.int .u8 P.tos) (.int .u16 P.id) (.bool P.keep) (.int .u8 P.ttl) (.int .u8 P.proto) (.int .u32 P.src) (.int .u32 P.dst) (.slice D1 g1 h1') (.slice D2 g2' h2')
    rw [hwh]
    have ph := Sh.blk.cell
    have Oh := Sh.own Of (fun a e => Of.ne_blk Zf h77 a.block (by rw [e]; rfl))
    have Dh := Sh.own Df (fun a e => Df.ne_blk Zf h77 a.block (by rw [e]; rfl))
    exact bodyPost_ret (v := .tuple #[(.agg #[.int .u8 (P).tos, .int .u16 (P).id, .bool (P).keep, .int .u8 (P).ttl, .int .u8 (P).proto, .int .u32 (P).src, .int .u32 (P).dst, .slice D1 g1 h1', .slice D2 g2' h2']), .int .i64 E]) (by simp [results, Try.results47, go_sem, ph]) rfl (by rw [HE.out, HPP.out]; exact ⟨⟨D1, g1, h1', D2, g2', h2', rfl, Oh, Dh, Sh.bel Rf (by omega)⟩⟩)
end Go.Proofs.Ytjhpmeagopdaiaa

namespace Go.Proofs.Ytjhpmeagopdaiaa
open Go.RowKit
set_option linter.unusedVariables false
set_option linter.unusedSimpArgs false
set_option maxHeartbeats 8000000
set_option maxRecDepth 100000

def udW (p : Pkt) (t : Tup) : Dgm := { udD p with src := t.sp, dst := t.dp }
theorem udW_ok (p : Pkt) {t : Tup} (h : t.Ok) : (udW p t).Ok := ⟨h.sp, h.dp⟩
theorem chudp_any (p : Pkt) (hp : p.Ok) (t : Tup) (ht : t.Ok) (A1 : Option Addr) (n1 c1 : Nat) (A2 : Option Addr) (n2 c2 : Nat) (q : Pkt) (hq : q.Ok) (B1 : Option Addr) (m1 d1 : Nat) (B2 : Option Addr) (m2 d2 : Nat) (w : World) (k2 : Bs w A2 n2 c2 p.dat) (j1 : Bs w B1 m1 d1 q.opt) (h7 : n2 ≤ 140737488351232) :
    Calls Try.prog 19 #[.agg #[.int .u8 p.tos, .int .u16 p.id, .bool p.keep, .int .u8 p.ttl, .int .u8 p.proto, .int .u32 p.src, .int .u32 p.dst, .slice A1 n1 c1, .slice A2 n2 c2, .int .u8 t.proto, .int .u32 t.src, .int .u32 t.dst, .int .u16 t.sp, .int .u16 t.dp], (.agg #[.int .u8 (q).tos, .int .u16 (q).id, .bool (q).keep, .int .u8 (q).ttl, .int .u8 (q).proto, .int .u32 (q).src, .int .u32 (q).dst, .slice B1 m1 d1, .slice B2 m2 d2])] w (WiPost w (dbP q (udW p t)) (dbE q (udW p t))) := by
  have ct := fun W (h : Bs W A2 n2 c2 p.dat) => udp_any p hp A1 n1 c1 A2 n2 c2 W h
  have hdl : (udD p).dat.length ≤ 140737488351232 := by
    have := k2.len
    unfold udD
    split
    · unfold rdD; simp only [List.length_drop]; omega
    · simp [zD]
  have cb : ∀ W DA dn dc, Bs W B1 m1 d1 q.opt → Bs W DA dn dc (udD p).dat → dn ≤ 140737488351232 → Calls Try.prog 47 #[(.agg #[.int .u8 (q).tos, .int .u16 (q).id, .bool (q).keep, .int .u8 (q).ttl, .int .u8 (q).proto, .int .u32 (q).src, .int .u32 (q).dst, .slice B1 m1 d1, .slice B2 m2 d2]), .agg #[.int .u16 t.sp, .int .u16 t.dp, .bool (udD p).bare, .slice DA dn dc]] W (WiPost W (dbP q (udW p t)) (dbE q (udW p t))) :=
    fun W DA dn dc a c d => dbuild_any q hq B1 m1 d1 B2 m2 d2 (udW p t) (udW_ok p ht) DA dn dc W a c d
  obtain ⟨s, hs⟩ : ∃ s, udD p = s := ⟨_, rfl⟩
  obtain ⟨F, hF⟩ : ∃ s, udE p = s := ⟨_, rfl⟩
  rw [hs] at hdl
  rw [hs, hF] at ct
  rw [hs] at cb
  clear hs hF hp hq ht
  obtain ⟨Q, hQ⟩ : ∃ x, dbP q (udW p t) = x := ⟨_, rfl⟩
  obtain ⟨E, hE⟩ : ∃ x, dbE q (udW p t) = x := ⟨_, rfl⟩
  rw [hQ, hE] at cb
  rw [hQ, hE]
  clear hQ hE
  obtain ⟨k, hk⟩ : ∃ k : Nat, w.heap.size = k := ⟨_, rfl⟩
  obtain ⟨w1, hw1⟩ : ∃ W, (((w.alloc (.cells #[.int .u8 p.tos, .int .u16 p.id, .bool p.keep, .int .u8 p.ttl, .int .u8 p.proto, .int .u32 p.src, .int .u32 p.dst, .slice A1 n1 c1, .slice A2 n2 c2, .int .u8 t.proto, .int .u32 t.src, .int .u32 t.dst, .int .u16 t.sp, .int .u16 t.dp] 47)).alloc (.cells #[.int .u8 (q).tos, .int .u16 (q).id, .bool (q).keep, .int .u8 (q).ttl, .int .u8 (q).proto, .int .u32 (q).src, .int .u32 (q).dst, .slice B1 m1 d1, .slice B2 m2 d2] 26)).alloc (.cells #[.int .u8 0, .int .u16 0, .bool false, .int .u8 0, .int .u8 0, .int .u32 0, .int .u32 0, .slice none 0 0, .slice none 0 0] 26)) = W := ⟨_, rfl⟩
  have C1 : Blk w1 k #[.int .u8 p.tos, .int .u16 p.id, .bool p.keep, .int .u8 p.ttl, .int .u8 p.proto, .int .u32 p.src, .int .u32 p.dst, .slice A1 n1 c1, .slice A2 n2 c2, .int .u8 t.proto, .int .u32 t.src, .int .u32 t.dst, .int .u16 t.sp, .int .u16 t.dp] 47 := by rw [← hw1]; exact (((blk_new _ _ _ k (by simp [hk])).alloc _).alloc _)
  have P1 : Blk w1 (k + 1) #[.int .u8 (q).tos, .int .u16 (q).id, .bool (q).keep, .int .u8 (q).ttl, .int .u8 (q).proto, .int .u32 (q).src, .int .u32 (q).dst, .slice B1 m1 d1, .slice B2 m2 d2] 26 := by rw [← hw1]; exact ((blk_new _ _ _ (k + 1) (by simp [hk])).alloc _)
  have Z1 : Blk w1 (k + 1 + 1) #[.int .u8 0, .int .u16 0, .bool false, .int .u8 0, .int .u8 0, .int .u32 0, .int .u32 0, .slice none 0 0, .slice none 0 0] 26 := by rw [← hw1]; exact (blk_new _ _ _ (k + 1 + 1) (by simp [hk]))
  have R1 : Below w.heap.size w w1 := by rw [← hw1]; (repeat (first | with_reducible exact Below.refl _ _ | with_reducible refine below_drew ?_ | with_reducible refine below_drewN ?_ _ | with_reducible refine below_alloc ?_ (Nat.le_refl _) _ | with_reducible refine Below.setCell ?_ (by first | exact Nat.le_refl _ | (simp only []; omega)) _ | with_reducible assumption))
  have Cc1 := C1.cell
  have Pc1 := P1.cell
  have Zc1 := Z1.cell
  have Cl1 := C1.lt
  have Pl1 := P1.lt
  have Zl1 := Z1.lt
  have x1 := (k2).below R1
  have y1 := (j1).below R1
  go_enter Try.func19, Try.ntmps19
  go_wp2_with (go_at_call 46; ((with_reducible refine (ct w1 x1).mono ?_); rintro e u2 ⟨⟨DA, dn, dc, rfl, od, hB2⟩⟩); (obtain ⟨w2, hw2⟩ : ∃ W, u2.alloc (.cells #[.int .u16 (s).src, .int .u16 (s).dst, .bool (s).bare, .slice DA dn dc] 52) = W := ⟨_, rfl⟩); have V2 : Below u2.heap.size u2 w2 := (by rw [← hw2]; (repeat (first | with_reducible exact Below.refl _ _ | with_reducible refine below_drew ?_ | with_reducible refine below_drewN ?_ _ | with_reducible refine below_alloc ?_ (Nat.le_refl _) _ | with_reducible refine Below.setCell ?_ (by first | exact Nat.le_refl _ | (simp only []; omega)) _ | with_reducible assumption))); (obtain ⟨kS2, hkS2⟩ : ∃ k : Nat, u2.heap.size = k := ⟨_, rfl⟩); have S2 : Blk w2 kS2 #[.int .u16 (s).src, .int .u16 (s).dst, .bool (s).bare, .slice DA dn dc] 52 := (by rw [← hw2]; exact blk_new u2 _ _ _ hkS2); have Sc2 := S2.cell; have T2 := below_then hB2 V2; have C2 := C1.below T2; have Cc2 := C2.cell; clear Cc1; have P2 := P1.below T2; have Pc2 := P2.cell; clear Pc1; have Z2 := Z1.below T2; have Zc2 := Z2.cell; clear Zc1; have x2 := x1.below T2; have y2 := y1.below T2; have R2 := below_then R1 T2)
  have gS : w1.heap.size ≤ kS2 := by rw [← hkS2]; exact hB2.size
  have gC := C1.lt
  have gP := P1.lt
  have gZ := Z1.lt
  have Xs := S2.set_ 0 (.int .u16 t.sp)
  simp only [List.setIfInBounds_toArray, List.set_cons_zero, List.set_cons_succ] at Xs
  have Xsc := Xs.cell
  have Csc := (C2.far ⟨kS2, 0, none⟩ (by show kS2 ≠ _; omega) (.int .u16 t.sp)).cell
  obtain ⟨w3, hw3, S3⟩ : ∃ wf, ((w2.setCell ⟨kS2, 0, none⟩ (.int .u16 t.sp)).setCell ⟨kS2, 1, none⟩ (.int .u16 t.dp)).drew = wf ∧ Sto w2 kS2 wf #[.int .u16 t.sp, .int .u16 t.dp, .bool s.bare, .slice DA dn dc] 52 := ⟨_, rfl, by
    have := (((Sto.nil S2).set 0 (.int .u16 t.sp)).set 1 (.int .u16 t.dp)).drew
    simp only [List.setIfInBounds_toArray, List.set_cons_zero, List.set_cons_succ] at this
    exact this⟩
  go_region
  clear Xsc Csc Xs
  have B3 : Below u2.heap.size u2 w3 := S3.bel V2 (by omega)
  have B13 : Below w1.heap.size w1 w3 := S3.bel T2 (by omega)
  have od3 := od.bs.below B3
  have hdn : dn ≤ 140737488351232 := by have := od.len; omega
  have Xc3 := S3.blk.cell
  have P3 := P1.below B13
  have Pc3 := P3.cell
  have Z3 := Z1.below B13
  have Zc3 := Z3.cell
  have y3 := y1.below B13
  have R3 := below_then R1 B13
  clear Pc2 Zc2 Cc2 Sc2
  go_wp2_with (go_at_call 47; ((with_reducible refine (cb w3 DA dn dc y3 od3 hdn).mono ?_); rintro e w4 ⟨⟨E1, e1, f1, E2, e2, f2, rfl, o1, o2, hB4⟩⟩); have Z4 := Z3.below hB4; have Zc4 := Z4.cell; have R4 := below_then R3 hB4)
  have zl1 := Z1.lt
  have sz := R3.size
  have zl := Z3.lt
  obtain ⟨wf, hwf, Sf⟩ := store9 Z4 (.int .u8 Q.tos) (.int .u16 Q.id) (.bool Q.keep) (.int .u8 Q.ttl) (.int .u8 Q.proto) (.int .u32 Q.src) (.int .u32 Q.dst) (.slice E1 e1 f1) (.slice E2 e2 f2)
  rw [hwf]
  have pf := Sf.blk.cell
  exact bodyPost_ret (v := .tuple #[(.agg #[.int .u8 (Q).tos, .int .u16 (Q).id, .bool (Q).keep, .int .u8 (Q).ttl, .int .u8 (Q).proto, .int .u32 (Q).src, .int .u32 (Q).dst, .slice E1 e1 f1, .slice E2 e2 f2]), .int .i64 E]) (by simp [results, Try.results19, go_sem, pf]) rfl ⟨⟨E1, e1, f1, E2, e2, f2, rfl, (Sf.own o1 (fun a h => by have := o1.ge a h; omega)).mono (by omega), (Sf.own o2 (fun a h => by have := o2.ge a h; omega)).mono (by omega), Sf.bel R4 (by omega)⟩⟩

end Go.Proofs.Ytjhpmeagopdaiaa

namespace Go.Proofs.Ytjhpmeagopdaiaa
open Go.RowKit Go.MapKept
set_option linter.unusedVariables false
set_option linter.unusedSimpArgs false
set_option maxHeartbeats 8000000
set_option maxRecDepth 100000

def hm (C : Value) : Nat → Array MapEntry
  | 0 => #[]
  | 1 => #[⟨.int .u8 6, .func (.func 18) #[C] #[], 0⟩]
  | 2 => #[⟨.int .u8 6, .func (.func 18) #[C] #[], 0⟩, ⟨.int .u8 17, .func (.func 19) #[C] #[], 1⟩]
  | 3 => #[⟨.int .u8 6, .func (.func 18) #[C] #[], 0⟩, ⟨.int .u8 17, .func (.func 19) #[C] #[], 1⟩, ⟨.int .u8 1, .func (.func 20) #[C] #[], 2⟩]
  | _ => #[⟨.int .u8 6, .func (.func 18) #[C] #[], 0⟩, ⟨.int .u8 17, .func (.func 19) #[C] #[], 1⟩, ⟨.int .u8 1, .func (.func 20) #[C] #[], 2⟩, ⟨.int .u8 47, .func (.func 21) #[C] #[], 3⟩]
theorem run_insertH {w : World} {es es' : Array MapEntry} {c : Nat} (k : Int) (v : Value) (h : Instr.findNow (.int .u8) (.int .u8 k) es.toList 0 = some none) (he : es.push ⟨.int .u8 k, v, c⟩ = es') :
    (Instr.mapUpdate 49 (.map (some w.heap.size)) (.int .u8 k) v).run Try.prog (w.alloc (.map es c)) = .ok () (w.alloc (.map es' (c + 1))) := by
  have hb : (w.alloc (.map es c)).heap[w.heap.size]? = some (.map es c) := (heap_alloc w _).1
  have ht := Try.underlying49
  have hk := Try.underlying5
  have hkey : IsKey (.int .u8) (.int .u8 k) := rfl
  subst he
  simp [Instr.mapUpdate, run_underlying ht, MapKept.run_getObj_map hb, run_checkKey hk hkey, run_findKey hk h, run_setObj_map _ hb, Result.andThen]
  show ({ w with heap := (w.heap.push _).setIfInBounds w.heap.size _ } : World) = _
  rw [push_setK]
  rfl
theorem setc_far {W : World} {p : Addr} {v : Value} {b : Nat} (h : p.block ≠ b) : (W.setCell p v).heap[b]? = W.heap[b]? := by
  unfold World.setCell
  simp [Array.getElem?_modify, h]
def rwQ (p : Pkt) (t : Tup) : Pkt := { p with src := t.src, dst := t.dst }
theorem rwQ_ok {p : Pkt} (hp : p.Ok) {t : Tup} (ht : t.Ok) : (rwQ p t).Ok := ⟨hp.1, hp.2, hp.3, hp.4, ht.src, ht.dst⟩
theorem rw_udp (p : Pkt) (t : Tup) (A1 : Option Addr) (n1 c1 : Nat) (A2 : Option Addr) (n2 c2 : Nat) (w : World) (k1 : Bs w A1 n1 c1 p.opt) (k2 : Bs w A2 n2 c2 p.dat) (hne : (p.proto != t.proto) = false) (hpr : p.proto = 17) (T : Tup) (ho : ∀ W, Bs W A2 n2 c2 p.dat → Calls Try.prog 17 #[(.agg #[.int .u8 (p).tos, .int .u16 (p).id, .bool (p).keep, .int .u8 (p).ttl, .int .u8 (p).proto, .int .u32 (p).src, .int .u32 (p).dst, .slice A1 n1 c1, .slice A2 n2 c2])] W (TtPost W T 0)) (Q : Pkt) (E : Int)
    (hc : ∀ W, Bs W A1 n1 c1 p.opt → Bs W A2 n2 c2 p.dat → Calls Try.prog 19 #[.agg #[.int .u8 p.tos, .int .u16 p.id, .bool p.keep, .int .u8 p.ttl, .int .u8 p.proto, .int .u32 p.src, .int .u32 p.dst, .slice A1 n1 c1, .slice A2 n2 c2, .int .u8 t.proto, .int .u32 t.src, .int .u32 t.dst, .int .u16 t.sp, .int .u16 t.dp], .agg #[.int .u8 p.tos, .int .u16 p.id, .bool p.keep, .int .u8 p.ttl, .int .u8 p.proto, .int .u32 t.src, .int .u32 t.dst, .slice A1 n1 c1, .slice A2 n2 c2]] W (WiPost W Q E)) : Calls Try.prog 7 #[(.agg #[.int .u8 (p).tos, .int .u16 (p).id, .bool (p).keep, .int .u8 (p).ttl, .int .u8 (p).proto, .int .u32 (p).src, .int .u32 (p).dst, .slice A1 n1 c1, .slice A2 n2 c2]), (.agg #[.int .u8 (t).proto, .int .u32 (t).src, .int .u32 (t).dst, .int .u16 (t).sp, .int .u16 (t).dp])] w (WiPost w Q E) := by
  have hlk : ∀ (W : World) (r : Nat), W.heap[r]? = some (.map (hm (.agg #[.int .u8 p.tos, .int .u16 p.id, .bool p.keep, .int .u8 p.ttl, .int .u8 p.proto, .int .u32 p.src, .int .u32 p.dst, .slice A1 n1 c1, .slice A2 n2 c2, .int .u8 t.proto, .int .u32 t.src, .int .u32 t.dst, .int .u16 t.sp, .int .u16 t.dp]) 4) 4) → (Instr.lookup 49 (.map (some r)) (.int .u8 p.proto) false).run Try.prog W = .ok (.func (.func 19) #[.agg #[.int .u8 p.tos, .int .u16 p.id, .bool p.keep, .int .u8 p.ttl, .int .u8 p.proto, .int .u32 p.src, .int .u32 p.dst, .slice A1 n1 c1, .slice A2 n2 c2, .int .u8 t.proto, .int .u32 t.src, .int .u32 t.dst, .int .u16 t.sp, .int .u16 t.dp]] #[]) W := fun W r h => by
    rw [hpr]
    have ht := Try.underlying49
    have hk := Try.underlying5
    have hkey : IsKey (.int .u8) (.int .u8 17) := rfl
    have hf : Instr.findNow (.int .u8) (.int .u8 17) (hm (.agg #[.int .u8 p.tos, .int .u16 p.id, .bool p.keep, .int .u8 p.ttl, .int .u8 p.proto, .int .u32 p.src, .int .u32 p.dst, .slice A1 n1 c1, .slice A2 n2 c2, .int .u8 t.proto, .int .u32 t.src, .int .u32 t.dst, .int .u16 t.sp, .int .u16 t.dp]) 4).toList 0 = some (some (1, .func (.func 19) #[.agg #[.int .u8 p.tos, .int .u16 p.id, .bool p.keep, .int .u8 p.ttl, .int .u8 p.proto, .int .u32 p.src, .int .u32 p.dst, .slice A1 n1 c1, .slice A2 n2 c2, .int .u8 t.proto, .int .u32 t.src, .int .u32 t.dst, .int .u16 t.sp, .int .u16 t.dp]] #[])) := rfl
    simp [Instr.lookup, run_underlying ht, MapKept.run_getObj_map h, run_checkKey hk hkey, run_findKey hk hf, Result.andThen]
    exact hpr
  clear hpr
  have hmf : ∀ (fn : Fn) (first cap : Array Value) (W : World), (Instr.makeFunc fn first cap).run Try.prog W = .ok (.func fn first cap) W := fun _ _ _ _ => rfl
  obtain ⟨k, hk⟩ : ∃ k : Nat, w.heap.size = k := ⟨_, rfl⟩
  obtain ⟨w1, hw1⟩ : ∃ W, (((w.alloc (.cells #[.int .u8 (p).tos, .int .u16 (p).id, .bool (p).keep, .int .u8 (p).ttl, .int .u8 (p).proto, .int .u32 (p).src, .int .u32 (p).dst, .slice A1 n1 c1, .slice A2 n2 c2] 26)).alloc (.cells #[.int .u8 (t).proto, .int .u32 (t).src, .int .u32 (t).dst, .int .u16 (t).sp, .int .u16 (t).dp] 28)).alloc (.cells #[.int .u8 0, .int .u16 0, .bool false, .int .u8 0, .int .u8 0, .int .u32 0, .int .u32 0, .slice none 0 0, .slice none 0 0] 26)) = W := ⟨_, rfl⟩
  have P1 : Blk w1 k #[.int .u8 (p).tos, .int .u16 (p).id, .bool (p).keep, .int .u8 (p).ttl, .int .u8 (p).proto, .int .u32 (p).src, .int .u32 (p).dst, .slice A1 n1 c1, .slice A2 n2 c2] 26 := by rw [← hw1]; exact (((blk_new _ _ _ k (by simp [hk])).alloc _).alloc _)
  have U1 : Blk w1 (k + 1) #[.int .u8 (t).proto, .int .u32 (t).src, .int .u32 (t).dst, .int .u16 (t).sp, .int .u16 (t).dp] 28 := by rw [← hw1]; exact ((blk_new _ _ _ (k + 1) (by simp [hk])).alloc _)
  have Z1 : Blk w1 (k + 1 + 1) #[.int .u8 0, .int .u16 0, .bool false, .int .u8 0, .int .u8 0, .int .u32 0, .int .u32 0, .slice none 0 0, .slice none 0 0] 26 := by rw [← hw1]; exact (blk_new _ _ _ (k + 1 + 1) (by simp [hk]))
  have R1 : Below w.heap.size w w1 := by rw [← hw1]; (repeat (first | with_reducible exact Below.refl _ _ | with_reducible refine below_drew ?_ | with_reducible refine below_drewN ?_ _ | with_reducible refine below_alloc ?_ (Nat.le_refl _) _ | with_reducible refine Below.setCell ?_ (by first | exact Nat.le_refl _ | (simp only []; omega)) _ | with_reducible assumption))
  have Pc1 := P1.cell
  have Uc1 := U1.cell
  have Zc1 := Z1.cell
  have Pl1 := P1.lt
  have Ul1 := U1.lt
  have Zl1 := Z1.lt
  have x1 := (k1).below R1
  have y1 := (k2).below R1
  have h0 : ∀ W : World, (Instr.makeMap 49 none).run Try.prog W = .ok (.map (some W.heap.size)) (W.alloc (.map (hm (.agg #[.int .u8 p.tos, .int .u16 p.id, .bool p.keep, .int .u8 p.ttl, .int .u8 p.proto, .int .u32 p.src, .int .u32 p.dst, .slice A1 n1 c1, .slice A2 n2 c2, .int .u8 t.proto, .int .u32 t.src, .int .u32 t.dst, .int .u16 t.sp, .int .u16 t.dp]) 0) 0)) := fun W => rfl
  go_enter Try.func7, Try.ntmps7
  go_wp2_with (go_at_call 17; ((with_reducible refine (ho w1 y1).mono ?_); rintro e u2 ⟨⟨rfl, hB2⟩⟩); (obtain ⟨w2, hw2⟩ : ∃ W, u2.alloc (.cells #[.int .u8 (T).proto, .int .u32 (T).src, .int .u32 (T).dst, .int .u16 (T).sp, .int .u16 (T).dp] 28) = W := ⟨_, rfl⟩); have V2 : Below u2.heap.size u2 w2 := (by rw [← hw2]; (repeat (first | with_reducible exact Below.refl _ _ | with_reducible refine below_drew ?_ | with_reducible refine below_drewN ?_ _ | with_reducible refine below_alloc ?_ (Nat.le_refl _) _ | with_reducible refine Below.setCell ?_ (by first | exact Nat.le_refl _ | (simp only []; omega)) _ | with_reducible assumption))); (obtain ⟨kG2, hkG2⟩ : ∃ k : Nat, u2.heap.size = k := ⟨_, rfl⟩); have G2 : Blk w2 kG2 #[.int .u8 (T).proto, .int .u32 (T).src, .int .u32 (T).dst, .int .u16 (T).sp, .int .u16 (T).dp] 28 := (by rw [← hw2]; exact blk_new u2 _ _ _ hkG2); have Gc2 := G2.cell; have T2 := below_then hB2 V2; have P2 := P1.below T2; have Pc2 := P2.cell; clear Pc1; have U2 := U1.below T2; have Uc2 := U2.cell; clear Uc1; have Z2 := Z1.below T2; have Zc2 := Z2.cell; clear Zc1; have x2 := x1.below T2; have y2 := y1.below T2; have R2 := below_then R1 T2; (obtain ⟨w3, hw3⟩ : ∃ W, w2.alloc (.cells #[.int .u8 p.tos, .int .u16 p.id, .bool p.keep, .int .u8 p.ttl, .int .u8 p.proto, .int .u32 p.src, .int .u32 p.dst, .slice A1 n1 c1, .slice A2 n2 c2, .int .u8 t.proto, .int .u32 t.src, .int .u32 t.dst, .int .u16 t.sp, .int .u16 t.dp] 47) = W := ⟨_, rfl⟩); have V3 : Below w2.heap.size w2 w3 := (by rw [← hw3]; (repeat (first | with_reducible exact Below.refl _ _ | with_reducible refine below_drew ?_ | with_reducible refine below_drewN ?_ _ | with_reducible refine below_alloc ?_ (Nat.le_refl _) _ | with_reducible refine Below.setCell ?_ (by first | exact Nat.le_refl _ | (simp only []; omega)) _ | with_reducible assumption))); (obtain ⟨kC3, hkC3⟩ : ∃ k : Nat, w2.heap.size = k := ⟨_, rfl⟩); have C3 : Blk w3 kC3 #[.int .u8 p.tos, .int .u16 p.id, .bool p.keep, .int .u8 p.ttl, .int .u8 p.proto, .int .u32 p.src, .int .u32 p.dst, .slice A1 n1 c1, .slice A2 n2 c2, .int .u8 t.proto, .int .u32 t.src, .int .u32 t.dst, .int .u16 t.sp, .int .u16 t.dp] 47 := (by rw [← hw3]; exact blk_new w2 _ _ _ hkC3); have Cc3 := C3.cell; have P3 := P2.below V3; have Pc3 := P3.cell; have U3 := U2.below V3; have Uc3 := U3.cell; have Z3 := Z2.below V3; have Zc3 := Z3.cell; have G3 := G2.below V3; have Gc3 := G3.cell; have x3 := x2.below V3; have y3 := y2.below V3; have R3 := below_then R2 V3; have h1 := run_insertH (w := w3) (es := hm (.agg #[.int .u8 p.tos, .int .u16 p.id, .bool p.keep, .int .u8 p.ttl, .int .u8 p.proto, .int .u32 p.src, .int .u32 p.dst, .slice A1 n1 c1, .slice A2 n2 c2, .int .u8 t.proto, .int .u32 t.src, .int .u32 t.dst, .int .u16 t.sp, .int .u16 t.dp]) 0) (es' := hm (.agg #[.int .u8 p.tos, .int .u16 p.id, .bool p.keep, .int .u8 p.ttl, .int .u8 p.proto, .int .u32 p.src, .int .u32 p.dst, .slice A1 n1 c1, .slice A2 n2 c2, .int .u8 t.proto, .int .u32 t.src, .int .u32 t.dst, .int .u16 t.sp, .int .u16 t.dp]) 1) (c := 0) 6 (.func (.func 18) #[.agg #[.int .u8 p.tos, .int .u16 p.id, .bool p.keep, .int .u8 p.ttl, .int .u8 p.proto, .int .u32 p.src, .int .u32 p.dst, .slice A1 n1 c1, .slice A2 n2 c2, .int .u8 t.proto, .int .u32 t.src, .int .u32 t.dst, .int .u16 t.sp, .int .u16 t.dp]] #[]) rfl rfl; have h2 := run_insertH (w := w3) (es := hm (.agg #[.int .u8 p.tos, .int .u16 p.id, .bool p.keep, .int .u8 p.ttl, .int .u8 p.proto, .int .u32 p.src, .int .u32 p.dst, .slice A1 n1 c1, .slice A2 n2 c2, .int .u8 t.proto, .int .u32 t.src, .int .u32 t.dst, .int .u16 t.sp, .int .u16 t.dp]) 1) (es' := hm (.agg #[.int .u8 p.tos, .int .u16 p.id, .bool p.keep, .int .u8 p.ttl, .int .u8 p.proto, .int .u32 p.src, .int .u32 p.dst, .slice A1 n1 c1, .slice A2 n2 c2, .int .u8 t.proto, .int .u32 t.src, .int .u32 t.dst, .int .u16 t.sp, .int .u16 t.dp]) 2) (c := 1) 17 (.func (.func 19) #[.agg #[.int .u8 p.tos, .int .u16 p.id, .bool p.keep, .int .u8 p.ttl, .int .u8 p.proto, .int .u32 p.src, .int .u32 p.dst, .slice A1 n1 c1, .slice A2 n2 c2, .int .u8 t.proto, .int .u32 t.src, .int .u32 t.dst, .int .u16 t.sp, .int .u16 t.dp]] #[]) rfl rfl; have h3 := run_insertH (w := w3) (es := hm (.agg #[.int .u8 p.tos, .int .u16 p.id, .bool p.keep, .int .u8 p.ttl, .int .u8 p.proto, .int .u32 p.src, .int .u32 p.dst, .slice A1 n1 c1, .slice A2 n2 c2, .int .u8 t.proto, .int .u32 t.src, .int .u32 t.dst, .int .u16 t.sp, .int .u16 t.dp]) 2) (es' := hm (.agg #[.int .u8 p.tos, .int .u16 p.id, .bool p.keep, .int .u8 p.ttl, .int .u8 p.proto, .int .u32 p.src, .int .u32 p.dst, .slice A1 n1 c1, .slice A2 n2 c2, .int .u8 t.proto, .int .u32 t.src, .int .u32 t.dst, .int .u16 t.sp, .int .u16 t.dp]) 3) (c := 2) 1 (.func (.func 20) #[.agg #[.int .u8 p.tos, .int .u16 p.id, .bool p.keep, .int .u8 p.ttl, .int .u8 p.proto, .int .u32 p.src, .int .u32 p.dst, .slice A1 n1 c1, .slice A2 n2 c2, .int .u8 t.proto, .int .u32 t.src, .int .u32 t.dst, .int .u16 t.sp, .int .u16 t.dp]] #[]) rfl rfl; have h4 := run_insertH (w := w3) (es := hm (.agg #[.int .u8 p.tos, .int .u16 p.id, .bool p.keep, .int .u8 p.ttl, .int .u8 p.proto, .int .u32 p.src, .int .u32 p.dst, .slice A1 n1 c1, .slice A2 n2 c2, .int .u8 t.proto, .int .u32 t.src, .int .u32 t.dst, .int .u16 t.sp, .int .u16 t.dp]) 3) (es' := hm (.agg #[.int .u8 p.tos, .int .u16 p.id, .bool p.keep, .int .u8 p.ttl, .int .u8 p.proto, .int .u32 p.src, .int .u32 p.dst, .slice A1 n1 c1, .slice A2 n2 c2, .int .u8 t.proto, .int .u32 t.src, .int .u32 t.dst, .int .u16 t.sp, .int .u16 t.dp]) 4) (c := 3) 47 (.func (.func 21) #[.agg #[.int .u8 p.tos, .int .u16 p.id, .bool p.keep, .int .u8 p.ttl, .int .u8 p.proto, .int .u32 p.src, .int .u32 p.dst, .slice A1 n1 c1, .slice A2 n2 c2, .int .u8 t.proto, .int .u32 t.src, .int .u32 t.dst, .int .u16 t.sp, .int .u16 t.dp]] #[]) rfl rfl; have Ca := fun o => (C3.alloc o).cell; (obtain ⟨w4, hw4⟩ : ∃ W, w3.alloc (.map (hm (.agg #[.int .u8 p.tos, .int .u16 p.id, .bool p.keep, .int .u8 p.ttl, .int .u8 p.proto, .int .u32 p.src, .int .u32 p.dst, .slice A1 n1 c1, .slice A2 n2 c2, .int .u8 t.proto, .int .u32 t.src, .int .u32 t.dst, .int .u16 t.sp, .int .u16 t.dp]) 4) 4) = W := ⟨_, rfl⟩); have P4 : Blk w4 k #[.int .u8 (p).tos, .int .u16 (p).id, .bool (p).keep, .int .u8 (p).ttl, .int .u8 (p).proto, .int .u32 (p).src, .int .u32 (p).dst, .slice A1 n1 c1, .slice A2 n2 c2] 26 := (by rw [← hw4]; exact P3.alloc _); have Pc4 := P4.cell; have U4 : Blk w4 (k + 1) #[.int .u8 (t).proto, .int .u32 (t).src, .int .u32 (t).dst, .int .u16 (t).sp, .int .u16 (t).dp] 28 := (by rw [← hw4]; exact U3.alloc _); have Uc4 := U4.cell; have Z4 : Blk w4 (k + 1 + 1) #[.int .u8 0, .int .u16 0, .bool false, .int .u8 0, .int .u8 0, .int .u32 0, .int .u32 0, .slice none 0 0, .slice none 0 0] 26 := (by rw [← hw4]; exact Z3.alloc _); have M4 : w4.heap[w3.heap.size]? = some (.map (hm (.agg #[.int .u8 p.tos, .int .u16 p.id, .bool p.keep, .int .u8 p.ttl, .int .u8 p.proto, .int .u32 p.src, .int .u32 p.dst, .slice A1 n1 c1, .slice A2 n2 c2, .int .u8 t.proto, .int .u32 t.src, .int .u32 t.dst, .int .u16 t.sp, .int .u16 t.dp]) 4) 4) := (by rw [← hw4]; exact (heap_alloc w3 _).1); have V4 : Below w3.heap.size w3 w4 := (by rw [← hw4]; (repeat (first | with_reducible exact Below.refl _ _ | with_reducible refine below_drew ?_ | with_reducible refine below_drewN ?_ _ | with_reducible refine below_alloc ?_ (Nat.le_refl _) _ | with_reducible refine Below.setCell ?_ (by first | exact Nat.le_refl _ | (simp only []; omega)) _ | with_reducible assumption))))
  have gk := Z3.lt
  have Xs := P4.set_ 5 (.int .u32 t.src)
  simp only [List.setIfInBounds_toArray, List.set_cons_zero, List.set_cons_succ] at Xs
  have Xsc := Xs.cell
  have Usc := (U4.far ⟨k, 5, none⟩ (by show k ≠ k + 1; omega) (.int .u32 t.src)).cell
  obtain ⟨w5, hw5, S5⟩ : ∃ wf, ((w4.setCell ⟨k, 5, none⟩ (.int .u32 t.src)).setCell ⟨k, 6, none⟩ (.int .u32 t.dst)).drew = wf ∧ Sto w4 k wf #[.int .u8 p.tos, .int .u16 p.id, .bool p.keep, .int .u8 p.ttl, .int .u8 p.proto, .int .u32 t.src, .int .u32 t.dst, .slice A1 n1 c1, .slice A2 n2 c2] 26 := ⟨_, rfl, by
    have := (((Sto.nil P4).set 5 (.int .u32 t.src)).set 6 (.int .u32 t.dst)).drew
    simp only [List.setIfInBounds_toArray, List.set_cons_zero, List.set_cons_succ] at this
    exact this⟩
  have M5 : w5.heap[w3.heap.size]? = some (.map (hm (.agg #[.int .u8 p.tos, .int .u16 p.id, .bool p.keep, .int .u8 p.ttl, .int .u8 p.proto, .int .u32 p.src, .int .u32 p.dst, .slice A1 n1 c1, .slice A2 n2 c2, .int .u8 t.proto, .int .u32 t.src, .int .u32 t.dst, .int .u16 t.sp, .int .u16 t.dp]) 4) 4) := by
    rw [← hw5]
    show ((w4.setCell ⟨k, 5, none⟩ (.int .u32 t.src)).setCell ⟨k, 6, none⟩ (.int .u32 t.dst)).heap[w3.heap.size]? = _
    rw [setc_far (by show k ≠ _; omega), setc_far (by show k ≠ _; omega)]
    exact M4
  have hl5 := hlk _ _ M5
  go_region
  clear Xsc Usc Xs Ca h0 h1 h2 h3 h4 hlk
  have R5 : Below w.heap.size w w5 := S5.bel (below_then R3 V4) (by omega)
  have x5 := k1.below R5
  have y5 := k2.below R5
  have P5 := S5.blk
  have Pc5 := P5.cell
  have Z5 := S5.other (by omega) Z4
  have Zc5 := Z5.cell
  go_wp2_with (go_at_call 19; ((with_reducible refine (hc w5 x5 y5).mono ?_); rintro e w6 ⟨⟨C1, e1, f1, C2, e2, f2, rfl, o1, o2, hB6⟩⟩); have Z6 := Z5.below hB6; have Zc6 := Z6.cell; have R6 := below_then R5 hB6)
  obtain ⟨wf, hwf, Sf⟩ := store9 Z6 (.int .u8 Q.tos) (.int .u16 Q.id) (.bool Q.keep) (.int .u8 Q.ttl) (.int .u8 Q.proto) (.int .u32 Q.src) (.int .u32 Q.dst) (.slice C1 e1 f1) (.slice C2 e2 f2)
  rw [hwf]
  have pf := Sf.blk.cell
  have zl := Z5.lt
  have sz := R5.size
  exact bodyPost_ret (v := .tuple #[(.agg #[.int .u8 (Q).tos, .int .u16 (Q).id, .bool (Q).keep, .int .u8 (Q).ttl, .int .u8 (Q).proto, .int .u32 (Q).src, .int .u32 (Q).dst, .slice C1 e1 f1, .slice C2 e2 f2]), .int .i64 E]) (by simp [results, Try.results7, go_sem, pf]) rfl ⟨⟨C1, e1, f1, C2, e2, f2, rfl, (Sf.own o1 (fun a h => by have := o1.ge a h; omega)).mono (by omega), (Sf.own o2 (fun a h => by have := o2.ge a h; omega)).mono (by omega), Sf.bel R6 (by omega)⟩⟩

end Go.Proofs.Ytjhpmeagopdaiaa

namespace Go.Proofs.Ytjhpmeagopdaiaa
open Go.RowKit
set_option linter.unusedVariables false
set_option maxRecDepth 100000

theorem mL_at (m : Msg) (hm : m.Ok) : bt (mL m) 0 = m.ty ∧ bt (mL m) 1 = m.code ∧ bt (mL m) 2 = 0 ∧ bt (mL m) 3 = 0 ∧ get16 (mL m) ((4 : Nat) : Int) = m.rest / 65536 ∧ get16 (mL m) ((6 : Nat) : Int) = m.rest % 65536 := by
  obtain ⟨⟨a0, a1⟩, ⟨b0, b1⟩, ⟨c0, c1⟩⟩ := hm
  have hl := mL_len m
  refine ⟨?_, ?_, rfl, rfl, ?_, ?_⟩
  · show ((ub _).toNat : Int) = _
    rw [ub_val]; omega
  · show ((ub _).toNat : Int) = _
    rw [ub_val]; omega
  · rw [get16_in (by omega) (by omega)]
    show ((ub _).toNat : Int) * 256 + ((ub _).toNat : Int) = _
    rw [ub_val, ub_val]; omega
  · rw [get16_in (by omega) (by omega)]
    show ((ub _).toNat : Int) * 256 + ((ub _).toNat : Int) = _
    rw [ub_val, ub_val]; omega
theorem mS_good (m : Msg) : csum (mS m) = 0 :=
  good_put (j := 1) (z := mL m) (by rw [mL_len]; omega) rfl
theorem mS_back (m : Msg) (hm : m.Ok) : bt (mS m) 0 = m.ty ∧ bt (mS m) 1 = m.code ∧ get32 (mS m) 4 = m.rest ∧ (mS m).drop 8 = m.dat := by
  obtain ⟨h0, h1, -, -, h4, h6⟩ := mL_at m hm
  have hl := mL_len m
  have c2 : (2 : Int) = ((2 : Nat) : Int) := rfl
  obtain ⟨-, -, ⟨c0, c1⟩⟩ := hm
  refine ⟨?_, ?_, ?_, ?_⟩
  · unfold mS
    rw [c2, bt_put16 (by omega), if_neg (by omega), if_neg (by omega), h0]
  · unfold mS
    rw [c2, bt_put16 (by omega), if_neg (by omega), if_neg (by omega), h1]
  · rw [get32_in (by omega) (by rw [mS_len]; omega)]
    unfold mS
    show get16 (put16 (mL m) ((2 : Nat) : Int) _) ((4 : Nat) : Int) * 65536 + get16 (put16 (mL m) ((2 : Nat) : Int) _) ((6 : Nat) : Int) = _
    rw [get16_put16_far (by omega) (by omega) (by omega), get16_put16_far (by omega) (by omega) (by omega), h4, h6]
    omega
  · have e : mL m = ([ub m.ty, ub m.code, 0, 0] ++ four m.rest) ++ m.dat := rfl
    have e8 : ([ub m.ty, ub m.code, 0, 0] ++ four m.rest).length = 8 := rfl
    unfold mS
    rw [c2, e, put16_append (by rw [e8]; omega), List.drop_left' (by rw [put16_length, e8])]
theorem ic_back (p : Pkt) (m : Msg) (hm : m.Ok) : icE { p with proto := 1, dat := mS m } = 0 ∧ icM { p with proto := 1, dat := mS m } = m := by
  have e : icE { p with proto := 1, dat := mS m } = 0 := icE_0 rfl (by show (8 : Int) ≤ ((mS m).length : Int); rw [mS_len]; omega) (mS_good m)
  refine ⟨e, ?_⟩
  obtain ⟨h0, h1, h2, h3⟩ := mS_back m hm
  unfold icM
  rw [if_pos e]
  show (⟨bt (mS m) 0, bt (mS m) 1, get32 (mS m) 4, (mS m).drop 8⟩ : Msg) = m
  rw [h0, h1, h2, h3]
theorem bgP_ok {p : Pkt} {f : Frm} (h : bgE p f = 0) : bgP p f = { p with proto := 47, dat := gL f } := by
  revert h
  unfold bgE bgP
  split
  · intro h; exact absurd h (by decide)
  · intro h
    unfold withP
    rw [gL_len, if_pos h]
theorem gH_len (f : Frm) : (gH f).length = 8 + (if f.hs then 4 else 0) + (if f.ha then 4 else 0) := by
  unfold gH grB two four
  cases f.hs <;> cases f.ha <;> simp
theorem gH_at (f : Frm) (hf : f.Ok) (hl : f.dat.length ≤ 65535) (r : List UInt8) :
    bt (gH f ++ r) 0 = b0F f.hs ∧ bt (gH f ++ r) 1 = b1F f.ha ∧ bt (gH f ++ r) 2 = 136 ∧ bt (gH f ++ r) 3 = 11 ∧ get16 (gH f ++ r) 4 = f.dat.length ∧ get16 (gH f ++ r) 6 = f.call := by
  have hL : 8 ≤ (gH f ++ r).length := by rw [List.length_append, gH_len]; omega
  obtain ⟨⟨c0, c1⟩, -, -⟩ := hf
  have h0 := b0F_bd f.hs
  have h1 := b1F_bd f.ha
  have e : gH f ++ r = [ub (b0F f.hs), ub (b1F f.ha), ub 136, ub 11, ub ((f.dat.length : Int) % 65536 / 256), ub ((f.dat.length : Int) % 65536), ub (f.call / 256), ub f.call] ++ ((if f.hs then four f.seq else []) ++ (if f.ha then four f.ack else []) ++ r) := by
    unfold gH grB two; simp
  rw [e] at hL ⊢
  refine ⟨?_, ?_, ?_, ?_, ?_, ?_⟩
  · show ((ub _).toNat : Int) = _
    rw [ub_val]; omega
  · show ((ub _).toNat : Int) = _
    rw [ub_val]; omega
  · rfl
  · rfl
  · rw [get16_in (by omega) (by omega)]
    show ((ub _).toNat : Int) * 256 + ((ub _).toNat : Int) = _
    rw [ub_val, ub_val]; omega
  · rw [get16_in (by omega) (by omega)]
    show ((ub _).toNat : Int) * 256 + ((ub _).toNat : Int) = _
    rw [ub_val, ub_val]; omega
end Go.Proofs.Ytjhpmeagopdaiaa

namespace Go.Proofs.Ytjhpmeagopdaiaa
open Go.RowKit
set_option linter.unusedVariables false
set_option linter.unusedSimpArgs false
set_option maxRecDepth 100000

theorem pseudo_len (s d p n : Int) : (pseudo s d p n).length = 12 := rfl
theorem put16_behind {a b : List UInt8} {i : Nat} {v : Int} (h : i + 2 ≤ b.length) : put16 (a ++ b) ((a.length + i : Nat) : Int) v = a ++ put16 b i v := by
  rw [put16_eq (by rw [List.length_append]; omega), put16_eq h, List.set_append_right _ _ (by omega), List.set_append_right _ _ (by omega)]
  rw [show a.length + i - a.length = i from by omega, show a.length + i + 1 - a.length = i + 1 from by omega]
theorem psum_z {p : Pkt} {pr : Int} {l : List UInt8} {j : Nat} (h : 2 * j + 2 ≤ l.length) (h0 : wd l j = 0) (v : Int) (v0 : 0 ≤ v) (v1 : v ≤ 65535) :
    psum p pr (put16 l (2 * j : Nat) v) = csum (put16 (pseudo p.src p.dst pr l.length ++ l) (2 * (6 + j) : Nat) v) ∧ 2 * (6 + j) + 2 ≤ (pseudo p.src p.dst pr l.length ++ l).length ∧ wd (pseudo p.src p.dst pr l.length ++ l) (6 + j) = 0 := by
  refine ⟨?_, by rw [List.length_append, pseudo_len]; omega, ?_⟩
  · unfold psum
    rw [put16_length, show (2 * (6 + j) : Nat) = (pseudo p.src p.dst pr l.length).length + 2 * j from by rw [pseudo_len]; omega, put16_behind h]
  · rw [wd_append_right (m := 6) _ rfl]; exact h0
theorem psum_good {p : Pkt} {pr : Int} {l : List UInt8} {j : Nat} (h : 2 * j + 2 ≤ l.length) (h0 : wd l j = 0) : psum p pr (put16 l (2 * j : Nat) (psum p pr l)) = 0 := by
  obtain ⟨e, h1, h2⟩ := psum_z (p := p) (pr := pr) h h0 (psum p pr l) (csum_lo _) (csum_hi _)
  rw [e]
  exact good_put h1 h2
theorem psum_good2 {p : Pkt} {pr : Int} {l : List UInt8} {j : Nat} (h : 2 * j + 2 ≤ l.length) (h0 : wd l j = 0) (hs : psum p pr l = 0) : psum p pr (put16 l (2 * j : Nat) 65535) = 0 := by
  obtain ⟨e, h1, h2⟩ := psum_z (p := p) (pr := pr) h h0 65535 (by omega) (by omega)
  rw [e]
  obtain ⟨t1, t2⟩ := (csum_zero _).1 hs
  rw [csum_zero, ws_put16 (by omega) (by omega) h1, h2]
  have t3 := ws_lo (pseudo p.src p.dst pr l.length ++ l)
  generalize ws (pseudo p.src p.dst pr l.length ++ l) = W at t1 t2 t3 ⊢
  exact ⟨by omega, by omega⟩
def hX (s : Seg) (c : Int) : List UInt8 := [ub (s.src / 256), ub s.src, ub (s.dst / 256), ub s.dst, ub (s.seq / 16777216), ub (s.seq / 65536), ub (s.seq / 256), ub s.seq, ub (s.ack / 16777216), ub (s.ack / 65536), ub (s.ack / 256), ub s.ack, ub (((20 + (optL s.opts).length : Nat) : Int) / 4 * 16), ub s.flags, ub (s.win / 256), ub s.win, ub (c / 256), ub c, ub (s.urg / 256), ub s.urg]
theorem wiE_zero {p : Pkt} {n : Nat} (h : wiE p n = 0) : p.opt.length ≤ 40 ∧ p.opt.length % 4 = 0 ∧ 20 + p.opt.length + n ≤ 65535 := by
  unfold wiE at h
  split at h
  · omega
  · split at h <;> omega
theorem dL_at {d : Dgm} (hd : d.Ok) (h : 8 + d.dat.length ≤ 65535) : get16 (dL d) 0 = d.src ∧ get16 (dL d) 2 = d.dst ∧ get16 (dL d) 4 = 8 + (d.dat.length : Int) ∧ get16 (dL d) 6 = 0 ∧ (dL d).drop 8 = d.dat := by
  obtain ⟨⟨a0, a1⟩, ⟨b0, b1⟩⟩ := hd
  have e : dL d = [ub (d.src / 256), ub d.src, ub (d.dst / 256), ub d.dst, ub ((8 + (d.dat.length : Int)) % 65536 / 256), ub ((8 + (d.dat.length : Int)) % 65536), ub (0 / 256), ub 0] ++ d.dat := by simp [dL, twos, two]
  rw [e]
  have hl : ([ub (d.src / 256), ub d.src, ub (d.dst / 256), ub d.dst, ub ((8 + (d.dat.length : Int)) % 65536 / 256), ub ((8 + (d.dat.length : Int)) % 65536), ub (0 / 256), ub 0] ++ d.dat).length = 8 + d.dat.length := by simp; omega
  refine ⟨?_, ?_, ?_, ?_, ?_⟩
  · rw [get16_in (by omega) (by omega)]
    show ((ub _).toNat : Int) * 256 + ((ub _).toNat : Int) = _
    rw [ub_val, ub_val]; omega
  · rw [get16_in (by omega) (by omega)]
    show ((ub _).toNat : Int) * 256 + ((ub _).toNat : Int) = _
    rw [ub_val, ub_val]; omega
  · rw [get16_in (by omega) (by omega)]
    show ((ub _).toNat : Int) * 256 + ((ub _).toNat : Int) = _
    rw [ub_val, ub_val]; omega
  · rw [get16_in (by omega) (by omega)]
    show ((ub _).toNat : Int) * 256 + ((ub _).toNat : Int) = _
    rw [ub_val, ub_val]; omega
  · exact List.drop_left' (by simp)
theorem dZ_ok (p : Pkt) (d : Dgm) : 1 ≤ dZ p d ∧ dZ p d ≤ 65535 := by
  have h0 := csum_lo (pseudo p.src p.dst 17 (dL d).length ++ dL d)
  have h1 := csum_hi (pseudo p.src p.dst 17 (dL d).length ++ dL d)
  have e : dZ p d = if csum (pseudo p.src p.dst 17 (dL d).length ++ dL d) = 0 then 65535 else csum (pseudo p.src p.dst 17 (dL d).length ++ dL d) := rfl
  rw [e]
  split <;> omega
theorem dL_wd {d : Dgm} (hd : d.Ok) (h : 8 + d.dat.length ≤ 65535) : wd (dL d) 3 = 0 := by
  have := (dL_at hd h).2.2.2.1
  rw [← get16_wd (l := dL d) (j := 3) (by rw [dL_len]; omega)]
  exact this
theorem dS_sum {p : Pkt} {d : Dgm} (hd : d.Ok) (h : 8 + d.dat.length ≤ 65535) (hb : d.bare = false) : psum p 17 (dS p d) = 0 := by
  have hl : 2 * 3 + 2 ≤ (dL d).length := by rw [dL_len]; omega
  unfold dS
  rw [hb]
  show psum p 17 (put16 (dL d) ((2 * 3 : Nat) : Int) (dZ p d)) = 0
  unfold dZ
  split
  · rename_i h0; exact psum_good2 hl (dL_wd hd h) h0
  · exact psum_good hl (dL_wd hd h)
theorem dS_at {p : Pkt} {d : Dgm} (hd : d.Ok) (h : 8 + d.dat.length ≤ 65535) : get16 (dS p d) 0 = d.src ∧ get16 (dS p d) 2 = d.dst ∧ get16 (dS p d) 4 = 8 + (d.dat.length : Int) ∧ (get16 (dS p d) 6 == 0) = d.bare ∧ (dS p d).drop 8 = d.dat := by
  obtain ⟨h0, h2, h4, h6, h8⟩ := dL_at hd h
  have hl := dL_len d
  obtain ⟨z0, z1⟩ := dZ_ok p d
  unfold dS
  cases hb : d.bare with
  | true => exact ⟨h0, h2, h4, by simpa using h6, h8⟩
  | false =>
    show get16 (put16 (dL d) ((6 : Nat) : Int) (dZ p d)) ((0 : Nat) : Int) = _ ∧ get16 (put16 (dL d) ((6 : Nat) : Int) (dZ p d)) ((2 : Nat) : Int) = _ ∧ get16 (put16 (dL d) ((6 : Nat) : Int) (dZ p d)) ((4 : Nat) : Int) = _ ∧ (get16 (put16 (dL d) ((6 : Nat) : Int) (dZ p d)) ((6 : Nat) : Int) == 0) = _ ∧ (put16 (dL d) ((6 : Nat) : Int) (dZ p d)).drop 8 = _
    rw [get16_put16_far (by omega) (by omega) (by omega), get16_put16_far (by omega) (by omega) (by omega), get16_put16_far (by omega) (by omega) (by omega), get16_put16 (by omega) z1 (by omega)]
    refine ⟨h0, h2, h4, by simp; omega, ?_⟩
    rw [put16_eq (by omega), List.drop_set_of_lt (by omega), List.drop_set_of_lt (by omega)]
    exact h8
theorem ud_form {p q : Pkt} {d : Dgm} (hd : d.Ok) (h : 8 + d.dat.length ≤ 65535) (h17 : q.proto = 17) (hq : q.dat = dS p d) (hs : d.bare = true ∨ psum q 17 q.dat = 0) : udE q = 0 ∧ udD q = d := by
  obtain ⟨h0, h2, h4, h6, h8⟩ := dS_at (p := p) hd h
  rw [← hq] at h0 h2 h4 h6 h8
  have hl : q.dat.length = 8 + d.dat.length := by rw [hq, dS_len]
  have e : udE q = 0 := by
    unfold udE
    rw [if_neg (by simp [h17]), if_neg (by omega), if_neg (by rw [h4, hl]; simp), if_neg]
    rintro ⟨h9, h10⟩
    rcases hs with hs | hs
    · rw [hs] at h6
      exact h9 (by simpa using h6)
    · exact h10 hs
  refine ⟨e, ?_⟩
  unfold udD
  rw [if_pos e]
  unfold rdD
  rw [h0, h2, h6, h8]
theorem db_form {p : Pkt} {d : Dgm} (h : dbE p d = 0) : dbP p d = { p with proto := 17, dat := dS p d } ∧ p.opt.length ≤ 40 ∧ p.opt.length % 4 = 0 ∧ 20 + p.opt.length + (8 + d.dat.length) ≤ 65535 := by
  have hw := wiE_zero h
  refine ⟨?_, hw⟩
  unfold dbP withP
  rw [dS_len]
  unfold dbE at h
  rw [if_pos h]
theorem db_back {p : Pkt} {d : Dgm} (hd : d.Ok) (h : dbE p d = 0) : udE (dbP p d) = 0 ∧ udD (dbP p d) = d ∧ rightP (dbP p d) = true ∧ (dbP p d).ttl = p.ttl := by
  obtain ⟨e, h1, h2, h3⟩ := db_form h
  have h8 : 8 + d.dat.length ≤ 65535 := by omega
  have hs : d.bare = true ∨ psum (dbP p d) 17 (dbP p d).dat = 0 := by
    cases hb : d.bare with
    | true => exact .inl rfl
    | false => right; rw [e]; exact dS_sum hd h8 hb
  have := ud_form hd h8 (q := dbP p d) (p := p) (by rw [e]) (by rw [e]) hs
  refine ⟨this.1, this.2, ?_, by rw [e]⟩
  rw [e]; unfold rightP
  simp [dS_len]
  omega
end Go.Proofs.Ytjhpmeagopdaiaa

namespace Go.Proofs.Ytjhpmeagopdaiaa
open Go.RowKit
set_option linter.unusedVariables false
set_option linter.unusedSimpArgs false
set_option maxHeartbeats 4000000
set_option maxRecDepth 100000

theorem ic_fit {p : Pkt} (h : icE p = 0) : 8 + (icM p).dat.length = p.dat.length := by
  have e : icM p = ⟨bt p.dat 0, bt p.dat 1, get32 p.dat 4, p.dat.drop 8⟩ := by unfold icM; rw [if_pos h]
  unfold icE at h
  split at h
  · cases h
  split at h
  · cases h
  rw [e]
  show 8 + (p.dat.drop 8).length = _
  rw [List.length_drop]
  omega
def toldT (t : Tup) : Tup := if t.proto = 1 then { t with dp := t.sp } else if t.proto = 47 then { t with sp := 0 } else t
end Go.Proofs.Ytjhpmeagopdaiaa

namespace Go.Proofs.Ytjhpmeagopdaiaa
open Go.RowKit
set_option linter.unusedVariables false
set_option linter.unusedSimpArgs false
set_option maxHeartbeats 8000000
set_option maxRecDepth 100000

end Go.Proofs.Ytjhpmeagopdaiaa

namespace Go.Proofs.Ytjhpmeagopdaiaa
open Go.RowKit
set_option linter.unusedVariables false
set_option linter.unusedSimpArgs false
set_option linter.unusedSimpArgs false
set_option maxHeartbeats 8000000
set_option maxRecDepth 100000

end Go.Proofs.Ytjhpmeagopdaiaa

namespace Go.Proofs.Ytjhpmeagopdaiaa
open Go.RowKit
set_option linter.unusedVariables false
set_option linter.unusedSimpArgs false
set_option linter.unusedSimpArgs false
set_option maxHeartbeats 4000000
set_option maxRecDepth 100000

theorem rbegin_any (A : Option Addr) (n c : Nat) (l : List UInt8) (w : World) (hb : Bs w A n c l) :
    Calls Try.prog 56 #[.slice A n c] w fun e w' => e = .returned (.bool (decide (4 ≤ (n : Int)) && begB l)) ∧ w = w' := by
  by_cases h : 4 ≤ (n : Int)
  · have b2 := hb.max
    obtain ⟨b, off, rfl⟩ := hb.some_ (by omega)
    have c0 := hb.at_ (j := 0) (by omega)
    rw [Nat.add_zero] at c0
    have c1 := hb.at_ (j := 1) (by omega)
    have c2' := hb.at_ (j := 2) (by omega)
    have c3 := hb.at_ (j := 3) (by omega)
    have q0 : 0 < n := by omega
    have q0' : (0 : Int) < n := by omega
    have q1 : (1 : Int) < n := by omega
    have q2 : (2 : Int) < n := by omega
    have q3 : (3 : Int) < n := by omega
    go_enter Try.func56, Try.ntmps56
    go_wp2_with fail
    all_goals go_ret
    all_goals refine ⟨?_, rfl⟩
    all_goals simp_all [begB]
  · have b2 := hb.max
    go_enter Try.func56, Try.ntmps56
    go_wp2_with fail
    all_goals go_ret
    all_goals refine ⟨?_, rfl⟩
    all_goals rw [decide_eq_false (show ¬ (4 : Int) ≤ n by omega)]
    all_goals rfl
end Go.Proofs.Ytjhpmeagopdaiaa

namespace Go.Proofs.Ytjhpmeagopdaiaa
open Go.RowKit
set_option linter.unusedVariables false
set_option linter.unusedSimpArgs false
set_option linter.unusedSimpArgs false
set_option maxHeartbeats 4000000
set_option maxRecDepth 100000

theorem bs00 (W : World) : Bs (W.alloc (.cells #[.int .u8 0, .int .u8 0] 5)) (some ⟨W.heap.size, 0, none⟩) 2 2 [0, 0] := bs_lit (W := W) (e := 5) [0, 0] 2 rfl (by omega)
end Go.Proofs.Ytjhpmeagopdaiaa

namespace Go.Proofs.Ytjhpmeagopdaiaa
open Go.RowKit
set_option linter.unusedVariables false
set_option linter.unusedSimpArgs false
set_option linter.unusedSimpArgs false
set_option maxHeartbeats 4000000
set_option maxRecDepth 100000

theorem rdbuild_any (p : Pkt) (hp : p.Ok) (X1 : Option Addr) (m1 j1 : Nat) (X2 : Option Addr) (m2 j2 : Nat) (s : Dgm) (hs : s.Ok) (DA : Option Addr) (dn dc : Nat) (w : World) (k1 : Bs w X1 m1 j1 p.opt) (kd : Bs w DA dn dc s.dat) :
    Calls Try.prog 22 #[(.agg #[.int .u8 (p).tos, .int .u16 (p).id, .bool (p).keep, .int .u8 (p).ttl, .int .u8 (p).proto, .int .u32 (p).src, .int .u32 (p).dst, .slice X1 m1 j1, .slice X2 m2 j2]), (.agg #[.int .u16 (s).src, .int .u16 (s).dst, .bool (s).bare, .slice DA dn dc])] w (WiPost w (dbP p s) (dbE p s)) := by
  obtain ⟨⟨a0, a1⟩, ⟨d0, d1⟩⟩ := hs
  have ld := kd.len
  have l1 := k1.len
  have bd := kd.max
  have hsE : dbE p s = wiE p (8 + dn) := by unfold dbE; rw [ld]
  by_cases hbad : 40 < (m1 : Int) ∨ m1 % 4 ≠ 0
  · have HE : Hid (dbE p s = 4) := by unfold Hid; rw [hsE]; exact wiE_4 l1 hbad
    have HP : Hid (dbP p s = zP) := by unfold Hid dbP withP; rw [dS_len, ld, wiE_4 l1 hbad]; rfl
    have hw0 : ∀ W, Bs W X1 m1 j1 p.opt → Calls Try.prog 50 #[(.agg #[.int .u8 (p).tos, .int .u16 (p).id, .bool (p).keep, .int .u8 (p).ttl, .int .u8 (p).proto, .int .u32 (p).src, .int .u32 (p).dst, .slice X1 m1 j1, .slice X2 m2 j2]), .int .u8 17, .slice none 0 0] W (fun e w' => ∃ C1 e1 f1 C2 e2 f2, e = .returned (.tuple #[.agg #[.int .u8 0, .int .u16 0, .bool false, .int .u8 0, .int .u8 0, .int .u32 0, .int .u32 0, .slice C1 e1 f1, .slice C2 e2 f2], .int .i64 4]) ∧ Own w' W.heap.size 5 C1 e1 f1 [] ∧ Own w' W.heap.size 5 C2 e2 f2 [] ∧ Below W.heap.size W w') := fun W kk => by
      have hh := rwith_any p X1 m1 j1 X2 m2 j2 17 none 0 0 [] W kk (Bs.none_ W)
      unfold withP at hh
      rw [wiE_4 l1 hbad, if_neg (by decide)] at hh
      exact hh.mono fun e w' hq => hq.out
    clear hbad hsE l1 hp ld
    obtain ⟨k, hk⟩ : ∃ k : Nat, w.heap.size = k := ⟨_, rfl⟩
    obtain ⟨w1, hw1⟩ : ∃ W, (((w.alloc (.cells #[.int .u8 (p).tos, .int .u16 (p).id, .bool (p).keep, .int .u8 (p).ttl, .int .u8 (p).proto, .int .u32 (p).src, .int .u32 (p).dst, .slice X1 m1 j1, .slice X2 m2 j2] 26)).alloc (.cells #[.int .u16 (s).src, .int .u16 (s).dst, .bool (s).bare, .slice DA dn dc] 52)).alloc (.cells #[.int .u8 0, .int .u16 0, .bool false, .int .u8 0, .int .u8 0, .int .u32 0, .int .u32 0, .slice none 0 0, .slice none 0 0] 26)) = W := ⟨_, rfl⟩
    have P1 : Blk w1 k #[.int .u8 (p).tos, .int .u16 (p).id, .bool (p).keep, .int .u8 (p).ttl, .int .u8 (p).proto, .int .u32 (p).src, .int .u32 (p).dst, .slice X1 m1 j1, .slice X2 m2 j2] 26 := by rw [← hw1]; exact (((blk_new _ _ _ k (by simp [hk])).alloc _).alloc _)
    have S1 : Blk w1 (k + 1) #[.int .u16 (s).src, .int .u16 (s).dst, .bool (s).bare, .slice DA dn dc] 52 := by rw [← hw1]; exact ((blk_new _ _ _ (k + 1) (by simp [hk])).alloc _)
    have Z1 : Blk w1 (k + 1 + 1) #[.int .u8 0, .int .u16 0, .bool false, .int .u8 0, .int .u8 0, .int .u32 0, .int .u32 0, .slice none 0 0, .slice none 0 0] 26 := by rw [← hw1]; exact (blk_new _ _ _ (k + 1 + 1) (by simp [hk]))
    have R1 : Below w.heap.size w w1 := by rw [← hw1]; (repeat (first | with_reducible exact Below.refl _ _ | with_reducible refine below_drew ?_ | with_reducible refine below_drewN ?_ _ | with_reducible refine below_alloc ?_ (Nat.le_refl _) _ | with_reducible refine Below.setCell ?_ (by first | exact Nat.le_refl _ | (simp only []; omega)) _ | with_reducible assumption))
    have Pc1 := P1.cell
    have Sc1 := S1.cell
    have Zc1 := Z1.cell
    have Pl1 := P1.lt
    have Sl1 := S1.lt
    have Zl1 := Z1.lt
    have xx1 := (k1).below R1
    have yy1 := (kd).below R1
    go_enter Try.func22, Try.ntmps22
    go_wp2_with (go_at_call 50; ((with_reducible refine (hw0 w1 xx1).mono ?_); rintro e w2 ⟨C1, e1, f1, C2, e2, f2, rfl, O1, O2, hB2⟩); (obtain ⟨w3, hw3⟩ : ∃ W, w2.alloc (.cells #[.int .u8 0, .int .u16 0, .bool false, .int .u8 0, .int .u8 0, .int .u32 0, .int .u32 0, .slice C1 e1 f1, .slice C2 e2 f2] 26) = W := ⟨_, rfl⟩); have V3 : Below w2.heap.size w2 w3 := (by rw [← hw3]; (repeat (first | with_reducible exact Below.refl _ _ | with_reducible refine below_drew ?_ | with_reducible refine below_drewN ?_ _ | with_reducible refine below_alloc ?_ (Nat.le_refl _) _ | with_reducible refine Below.setCell ?_ (by first | exact Nat.le_refl _ | (simp only []; omega)) _ | with_reducible assumption))); have T3 := below_then hB2 V3; have Q3 : Blk w3 w2.heap.size #[.int .u8 0, .int .u16 0, .bool false, .int .u8 0, .int .u8 0, .int .u32 0, .int .u32 0, .slice C1 e1 f1, .slice C2 e2 f2] 26 := (by rw [← hw3]; exact blk_new w2 _ _ _ rfl); have qc3 := Q3.cell; have P3 := P1.below T3; have pc3 := P3.cell; have Z3 := Z1.below T3; have zc3 := Z3.cell; have S3 := S1.below T3; have sc3 := S3.cell; have R3 := below_then R1 T3)
    obtain ⟨wf, hwf, Sf⟩ := store9 Z3 (.int .u8 0) (.int .u16 0) (.bool false) (.int .u8 0) (.int .u8 0) (.int .u32 0) (.int .u32 0) (.slice none 0 0) (.slice none 0 0)
    rw [hwf]
    have pf := Sf.blk.cell
    exact bodyPost_ret (v := .tuple #[.agg #[.int .u8 0, .int .u16 0, .bool false, .int .u8 0, .int .u8 0, .int .u32 0, .int .u32 0, .slice none 0 0, .slice none 0 0], .int .i64 4]) (by simp [results, Try.results22, go_sem, pf]) rfl (by rw [HE.out, HP.out]; exact wiPost_no (Sf.bel R3 (by omega)))

  have h1 : (m1 : Int) ≤ 40 := by omega
  have h2 : m1 % 4 = 0 := by omega
  have hw0 : ∀ W, Bs W X1 m1 j1 p.opt → Calls Try.prog 50 #[(.agg #[.int .u8 (p).tos, .int .u16 (p).id, .bool (p).keep, .int .u8 (p).ttl, .int .u8 (p).proto, .int .u32 (p).src, .int .u32 (p).dst, .slice X1 m1 j1, .slice X2 m2 j2]), .int .u8 17, .slice none 0 0] W (fun e w' => ∃ C1 e1 f1 C2 e2 f2, e = .returned (.tuple #[.agg #[.int .u8 p.tos, .int .u16 p.id, .bool p.keep, .int .u8 p.ttl, .int .u8 17, .int .u32 p.src, .int .u32 p.dst, .slice C1 e1 f1, .slice C2 e2 f2], .int .i64 0]) ∧ Own w' W.heap.size 5 C1 e1 f1 p.opt ∧ Own w' W.heap.size 5 C2 e2 f2 [] ∧ Below W.heap.size W w') := fun W kk => by
    have hh := rwith_any p X1 m1 j1 X2 m2 j2 17 none 0 0 [] W kk (Bs.none_ W)
    unfold withP at hh
    rw [show ([] : List UInt8).length = 0 from rfl, wiE_0 l1 h1 h2 (by omega), if_pos rfl] at hh
    exact hh.mono fun e w' hq => hq.out
  have ho1 : ∀ w' (W : World) C1 e1 f1, Own w' W.heap.size 5 C1 e1 f1 p.opt → m1 = e1 := fun w' W C1 e1 f1 h => by rw [← h.len]; exact l1.symm
  by_cases h3 : 65535 < 28 + (m1 : Int) + (dn : Int)
  · have HE : Hid (dbE p s = 8) := by unfold Hid; rw [hsE]; exact wiE_8 l1 h1 h2 (by omega)
    have HP : Hid (dbP p s = zP) := by unfold Hid dbP withP; rw [dS_len, ld, wiE_8 l1 h1 h2 (by omega)]; rfl
    clear hbad hsE l1 hp ld
    obtain ⟨k, hk⟩ : ∃ k : Nat, w.heap.size = k := ⟨_, rfl⟩
    obtain ⟨w1, hw1⟩ : ∃ W, (((w.alloc (.cells #[.int .u8 (p).tos, .int .u16 (p).id, .bool (p).keep, .int .u8 (p).ttl, .int .u8 (p).proto, .int .u32 (p).src, .int .u32 (p).dst, .slice X1 m1 j1, .slice X2 m2 j2] 26)).alloc (.cells #[.int .u16 (s).src, .int .u16 (s).dst, .bool (s).bare, .slice DA dn dc] 52)).alloc (.cells #[.int .u8 0, .int .u16 0, .bool false, .int .u8 0, .int .u8 0, .int .u32 0, .int .u32 0, .slice none 0 0, .slice none 0 0] 26)) = W := ⟨_, rfl⟩
    have P1 : Blk w1 k #[.int .u8 (p).tos, .int .u16 (p).id, .bool (p).keep, .int .u8 (p).ttl, .int .u8 (p).proto, .int .u32 (p).src, .int .u32 (p).dst, .slice X1 m1 j1, .slice X2 m2 j2] 26 := by rw [← hw1]; exact (((blk_new _ _ _ k (by simp [hk])).alloc _).alloc _)
    have S1 : Blk w1 (k + 1) #[.int .u16 (s).src, .int .u16 (s).dst, .bool (s).bare, .slice DA dn dc] 52 := by rw [← hw1]; exact ((blk_new _ _ _ (k + 1) (by simp [hk])).alloc _)
    have Z1 : Blk w1 (k + 1 + 1) #[.int .u8 0, .int .u16 0, .bool false, .int .u8 0, .int .u8 0, .int .u32 0, .int .u32 0, .slice none 0 0, .slice none 0 0] 26 := by rw [← hw1]; exact (blk_new _ _ _ (k + 1 + 1) (by simp [hk]))
    have R1 : Below w.heap.size w w1 := by rw [← hw1]; (repeat (first | with_reducible exact Below.refl _ _ | with_reducible refine below_drew ?_ | with_reducible refine below_drewN ?_ _ | with_reducible refine below_alloc ?_ (Nat.le_refl _) _ | with_reducible refine Below.setCell ?_ (by first | exact Nat.le_refl _ | (simp only []; omega)) _ | with_reducible assumption))
    have Pc1 := P1.cell
    have Sc1 := S1.cell
    have Zc1 := Z1.cell
    have Pl1 := P1.lt
    have Sl1 := S1.lt
    have Zl1 := Z1.lt
    have xx1 := (k1).below R1
    have yy1 := (kd).below R1
    go_enter Try.func22, Try.ntmps22
    go_wp2_with (go_at_call 50; ((with_reducible refine (hw0 w1 xx1).mono ?_); rintro e w2 ⟨C1, e1, f1, C2, e2, f2, rfl, O1, O2, hB2⟩); have ue := ho1 _ w1 _ _ _ O1; subst ue; (obtain ⟨w3, hw3⟩ : ∃ W, w2.alloc (.cells #[.int .u8 p.tos, .int .u16 p.id, .bool p.keep, .int .u8 p.ttl, .int .u8 17, .int .u32 p.src, .int .u32 p.dst, .slice C1 m1 f1, .slice C2 e2 f2] 26) = W := ⟨_, rfl⟩); have V3 : Below w2.heap.size w2 w3 := (by rw [← hw3]; (repeat (first | with_reducible exact Below.refl _ _ | with_reducible refine below_drew ?_ | with_reducible refine below_drewN ?_ _ | with_reducible refine below_alloc ?_ (Nat.le_refl _) _ | with_reducible refine Below.setCell ?_ (by first | exact Nat.le_refl _ | (simp only []; omega)) _ | with_reducible assumption))); have T3 := below_then hB2 V3; have Q3 : Blk w3 w2.heap.size #[.int .u8 p.tos, .int .u16 p.id, .bool p.keep, .int .u8 p.ttl, .int .u8 17, .int .u32 p.src, .int .u32 p.dst, .slice C1 m1 f1, .slice C2 e2 f2] 26 := (by rw [← hw3]; exact blk_new w2 _ _ _ rfl); have qc3 := Q3.cell; have P3 := P1.below T3; have pc3 := P3.cell; have Z3 := Z1.below T3; have zc3 := Z3.cell; have S3 := S1.below T3; have sc3 := S3.cell; have R3 := below_then R1 T3)
    obtain ⟨wf, hwf, Sf⟩ := store9 Z3 (.int .u8 0) (.int .u16 0) (.bool false) (.int .u8 0) (.int .u8 0) (.int .u32 0) (.int .u32 0) (.slice none 0 0) (.slice none 0 0)
    rw [hwf]
    have pf := Sf.blk.cell
    exact bodyPost_ret (v := .tuple #[.agg #[.int .u8 0, .int .u16 0, .bool false, .int .u8 0, .int .u8 0, .int .u32 0, .int .u32 0, .slice none 0 0, .slice none 0 0], .int .i64 8]) (by simp [results, Try.results22, go_sem, pf]) rfl (by rw [HE.out, HP.out]; exact wiPost_no (Sf.bel R3 (by omega)))

  have hE0 : wiE p (8 + dn) = 0 := wiE_0 l1 h1 h2 (by omega)
  have HE : Hid (dbE p s = 0) := by unfold Hid; rw [hsE]; exact hE0
  have HP : Hid (dbP p s = { p with proto := 17, dat := dS p s }) := by unfold Hid dbP withP; rw [dS_len, ld, hE0, if_pos rfl]
  obtain ⟨z, hz⟩ : ∃ z : Int, (8 + (dn : Int)) % 65536 = z := ⟨_, rfl⟩
  have z0 : 0 ≤ z := by omega
  have z1 : z ≤ 65535 := by omega
  obtain ⟨y, hy⟩ : ∃ y : Int, 8 + (dn : Int) = y := ⟨_, rfl⟩
  have hw8 : IntKind.i64.wrap (8 + (dn : Int)) = y := by rw [IntKind.wrap_i64]; omega
  have hwy : IntKind.u16.wrap y = z := by rw [IntKind.wrap_u16]; omega
  have HX : Hid ((((([] ++ two s.src) ++ two s.dst) ++ two z) ++ [0, 0]) ++ s.dat = dL s) := by unfold Hid dL; rw [ld, hz]; simp [twos, two]; decide
  have HN : Hid ((dL s).length = 8 + dn) := by unfold Hid; rw [dL_len, ld]
  have HY := Lib.hid hy
  have h3' : 28 + (m1 : Int) + (dn : Int) ≤ 65535 := by omega
  obtain ⟨zz, hzz⟩ : ∃ z, psum p 17 (dL s) = z := ⟨_, rfl⟩
  have zz0 : 0 ≤ zz := by rw [← hzz]; exact csum_lo _
  have zz1 : zz ≤ 65535 := by rw [← hzz]; exact csum_hi _
  have hsum : ∀ W A n c, n ≤ 65535 → Bs W A n c (dL s) → Calls Try.prog 52 #[(.agg #[.int .u8 (p).tos, .int .u16 (p).id, .bool (p).keep, .int .u8 (p).ttl, .int .u8 (p).proto, .int .u32 (p).src, .int .u32 (p).dst, .slice X1 m1 j1, .slice X2 m2 j2]), .int .u8 17, .slice A n c] W fun e w' => e = .returned (.int .u16 zz) ∧ Below W.heap.size W w' := fun W A n c hn bo => by
    have := rssum_any p hp X1 m1 j1 X2 m2 j2 17 (by omega) (by omega) A n c (dL s) W bo (by omega)
    rw [← hzz]
    exact this
  have hw1' : ∀ W A n c, Bs W X1 m1 j1 p.opt → Bs W A n c (dS p s) → Calls Try.prog 50 #[(.agg #[.int .u8 (p).tos, .int .u16 (p).id, .bool (p).keep, .int .u8 (p).ttl, .int .u8 (p).proto, .int .u32 (p).src, .int .u32 (p).dst, .slice X1 m1 j1, .slice X2 m2 j2]), .int .u8 17, .slice A n c] W (fun e w' => ∃ C1 e1 f1 C2 e2 f2, e = .returned (.tuple #[.agg #[.int .u8 p.tos, .int .u16 p.id, .bool p.keep, .int .u8 p.ttl, .int .u8 17, .int .u32 p.src, .int .u32 p.dst, .slice C1 e1 f1, .slice C2 e2 f2], .int .i64 0]) ∧ Own w' W.heap.size 5 C1 e1 f1 p.opt ∧ Own w' W.heap.size 5 C2 e2 f2 (dS p s) ∧ Below W.heap.size W w') := fun W A n c kk ks => by
    have hh := rwith_any p X1 m1 j1 X2 m2 j2 17 A n c (dS p s) W kk ks
    unfold withP at hh
    rw [dS_len, ld, hE0, if_pos rfl] at hh
    exact hh.mono fun e w' hq => hq.out
  clear hbad hsE hp hE0 hz hy h3 l1 ld
  obtain ⟨k, hk⟩ : ∃ k : Nat, w.heap.size = k := ⟨_, rfl⟩
  obtain ⟨w1, hw1⟩ : ∃ W, (((w.alloc (.cells #[.int .u8 (p).tos, .int .u16 (p).id, .bool (p).keep, .int .u8 (p).ttl, .int .u8 (p).proto, .int .u32 (p).src, .int .u32 (p).dst, .slice X1 m1 j1, .slice X2 m2 j2] 26)).alloc (.cells #[.int .u16 (s).src, .int .u16 (s).dst, .bool (s).bare, .slice DA dn dc] 52)).alloc (.cells #[.int .u8 0, .int .u16 0, .bool false, .int .u8 0, .int .u8 0, .int .u32 0, .int .u32 0, .slice none 0 0, .slice none 0 0] 26)) = W := ⟨_, rfl⟩
  have P1 : Blk w1 k #[.int .u8 (p).tos, .int .u16 (p).id, .bool (p).keep, .int .u8 (p).ttl, .int .u8 (p).proto, .int .u32 (p).src, .int .u32 (p).dst, .slice X1 m1 j1, .slice X2 m2 j2] 26 := by rw [← hw1]; exact (((blk_new _ _ _ k (by simp [hk])).alloc _).alloc _)
  have S1 : Blk w1 (k + 1) #[.int .u16 (s).src, .int .u16 (s).dst, .bool (s).bare, .slice DA dn dc] 52 := by rw [← hw1]; exact ((blk_new _ _ _ (k + 1) (by simp [hk])).alloc _)
  have Z1 : Blk w1 (k + 1 + 1) #[.int .u8 0, .int .u16 0, .bool false, .int .u8 0, .int .u8 0, .int .u32 0, .int .u32 0, .slice none 0 0, .slice none 0 0] 26 := by rw [← hw1]; exact (blk_new _ _ _ (k + 1 + 1) (by simp [hk]))
  have R1 : Below w.heap.size w w1 := by rw [← hw1]; (repeat (first | with_reducible exact Below.refl _ _ | with_reducible refine below_drew ?_ | with_reducible refine below_drewN ?_ _ | with_reducible refine below_alloc ?_ (Nat.le_refl _) _ | with_reducible refine Below.setCell ?_ (by first | exact Nat.le_refl _ | (simp only []; omega)) _ | with_reducible assumption))
  have Pc1 := P1.cell
  have Sc1 := S1.cell
  have Zc1 := Z1.cell
  have Pl1 := P1.lt
  have Sl1 := S1.lt
  have Zl1 := Z1.lt
  have xx1 := (k1).below R1
  have yy1 := (kd).below R1
  go_enter Try.func22, Try.ntmps22
  go_wp2_with (go_at_call 50; ((with_reducible refine (hw0 w1 xx1).mono ?_); rintro e w2 ⟨C1, e1, f1, C2, e2, f2, rfl, O1, O2, hB2⟩); have ue := ho1 _ w1 _ _ _ O1; subst ue; (obtain ⟨w3, hw3⟩ : ∃ W, w2.alloc (.cells #[.int .u8 p.tos, .int .u16 p.id, .bool p.keep, .int .u8 p.ttl, .int .u8 17, .int .u32 p.src, .int .u32 p.dst, .slice C1 m1 f1, .slice C2 e2 f2] 26) = W := ⟨_, rfl⟩); have V3 : Below w2.heap.size w2 w3 := (by rw [← hw3]; (repeat (first | with_reducible exact Below.refl _ _ | with_reducible refine below_drew ?_ | with_reducible refine below_drewN ?_ _ | with_reducible refine below_alloc ?_ (Nat.le_refl _) _ | with_reducible refine Below.setCell ?_ (by first | exact Nat.le_refl _ | (simp only []; omega)) _ | with_reducible assumption))); have T3 := below_then hB2 V3; have Q3 : Blk w3 w2.heap.size #[.int .u8 p.tos, .int .u16 p.id, .bool p.keep, .int .u8 p.ttl, .int .u8 17, .int .u32 p.src, .int .u32 p.dst, .slice C1 m1 f1, .slice C2 e2 f2] 26 := (by rw [← hw3]; exact blk_new w2 _ _ _ rfl); have qc3 := Q3.cell; have P3 := P1.below T3; have pc3 := P3.cell; have Z3 := Z1.below T3; have zc3 := Z3.cell; have S3 := S1.below T3; have sc3 := S3.cell; have R3 := below_then R1 T3)
  have xx3 := xx1.below T3
  have yy3 := yy1.below T3
  have hk1 : w.heap.size ≤ k := Nat.le_of_eq hk
  have r3s := R3.size
  clear hw3 hw1 hk hw0
  refine region_txt 8 (by kernel_rfl) (by kernel_rfl) ?_; (iterate 8 (first | (apply ObsK.skip (by rfl)) | (apply ObsK.v (by rfl); (intro wo hT; (repeat (first | (intro v hv; (fail)) | (intro _ _ k; try have hcv := cv k))); (have sc := (S3.below hT).cell; have hsz : w3.heap.size ≤ wo.heap.size := hT.size); refine Goes.mk ?_; first | (exact goes_app _ _ rfl rfl (own_nil _ w3.heap.size _) rfl (by assumption) (by omega) hsz) | (go_simp; first | exact goes_v | exact goes_b (by assumption) | fail | (refine goes_enter ?_; first | (go_at_call 51; ((with_reducible refine (two_any s.src a0 a1 wo).mono ?_); rintro e w9 ⟨A9, c9, rfl, ho9, hB9⟩); exact ret_b ho9.bs hB9) | (go_at_call 51; ((with_reducible refine (two_any s.dst d0 d1 wo).mono ?_); rintro e w9 ⟨A9, c9, rfl, ho9, hB9⟩); exact ret_b ho9.bs hB9))))) | (apply ObsK.b (by rfl); (intro wo hT; (repeat (first | (intro v hv; (fail)) | (intro _ _ k; try have hcv := cv k))); (have sc := (S3.below hT).cell; have hsz : w3.heap.size ≤ wo.heap.size := hT.size); refine Goes.mk ?_; first | (exact goes_app _ _ rfl rfl (own_nil _ w3.heap.size _) rfl (by assumption) (by omega) hsz) | (go_simp; first | exact goes_v | exact goes_b (by assumption) | fail | (refine goes_enter ?_; first | (go_at_call 51; ((with_reducible refine (two_any s.src a0 a1 wo).mono ?_); rintro e w9 ⟨A9, c9, rfl, ho9, hB9⟩); exact ret_b ho9.bs hB9) | (go_at_call 51; ((with_reducible refine (two_any s.dst d0 d1 wo).mono ?_); rintro e w9 ⟨A9, c9, rfl, ho9, hB9⟩); exact ret_b ho9.bs hB9))))) | (apply ObsK.p (q := isW w3.heap.size ([] ++ two s.src)) (by rfl) st_isW; (intro wo hT; (repeat (first | (intro v hv; (fail)) | (intro _ _ k; try have hcv := cv k))); (have sc := (S3.below hT).cell; have hsz : w3.heap.size ≤ wo.heap.size := hT.size); refine Goes.mk ?_; first | (exact goes_app _ _ rfl rfl (own_nil _ w3.heap.size _) rfl (by assumption) (by omega) hsz) | (go_simp; first | exact goes_v | exact goes_b (by assumption) | fail | (refine goes_enter ?_; first | (go_at_call 51; ((with_reducible refine (two_any s.src a0 a1 wo).mono ?_); rintro e w9 ⟨A9, c9, rfl, ho9, hB9⟩); exact ret_b ho9.bs hB9) | (go_at_call 51; ((with_reducible refine (two_any s.dst d0 d1 wo).mono ?_); rintro e w9 ⟨A9, c9, rfl, ho9, hB9⟩); exact ret_b ho9.bs hB9))))))); refine ObsK.nil ?_; intro wz hBz; simp only [finOn, List.drop_succ_cons, List.drop_zero, List.drop_nil]
  rintro A12 c12 k12 v4 ⟨A10, n10, c10, rfl, O10⟩ A9 c9 k9
  go_simp
  have u10 : n10 = 2 := by rw [← O10.len]; rfl
  subst u10
  clear k9
  have z3l := Z3.lt
  rcases Bool.eq_false_or_eq_true s.bare with hb | hb
  · have HS : Hid (dL s = dS p s) := by unfold Hid dS; rw [hb, if_pos rfl]
    clear hsum hzz
    go_wp2_with (first
    | (at_builtin; refine wpList_append_bs (w0 := w3) _ rfl _ _ _ rfl w3.heap.size 5 Try.underlying24 info_u8 A10 2 c10 _ rfl O10 A12 2 c12 (two s.dst) rfl k12 hBz (by omega) (by first | exact Nat.le_refl _ | exact Below.size hBz | omega | (simp <;> omega)) ?_; intro A14 n14 c14 w14 O14' hB14 _ hz14; have u14 : 4 = n14 := (by rw [← O14'.len]; rfl); subst u14; have S14 := S3.below hB14; have sc14 := S14.cell)
    | (go_at_call 51; ((with_reducible refine (two_any z z0 z1 w14).mono ?_); rintro e w16 ⟨A16, c16, rfl, o16, hB16⟩); have O15' := O14'.below hB16; have T16 := below_then hB14 hB16)
    | (at_builtin; refine wpList_append_bs (w0 := w3) _ rfl _ _ _ rfl w3.heap.size 5 Try.underlying24 info_u8 A14 4 c14 _ rfl O15' A16 2 c16 (two z) rfl o16.bs T16 (by omega) (by first | exact Nat.le_refl _ | exact Below.size T16 | omega | (simp <;> omega)) ?_; intro A17 n17 c17 w17 O17 hB17 _ hz17; have u17 : 6 = n17 := (by rw [← O17.len]; rfl); subst u17)
    | (at_builtin; refine wpList_append_bs (w0 := w3) _ rfl _ _ _ rfl w3.heap.size 5 Try.underlying24 info_u8 A17 6 c17 _ rfl (O17.alloc _) (some ⟨_, 0, none⟩) 2 2 _ rfl (bs00 w17) (hB17.alloc hB17.size _) (by omega) (by first | exact Nat.le_refl _ | exact Below.size (hB17.alloc hB17.size _) | omega | (simp <;> omega)) ?_; intro A18 n18 c18 w18 O18 hB18 _ hz18; have u18 : 8 = n18 := (by rw [← O18.len]; rfl); subst u18; have S18 := S3.below hB18; have sc18 := S18.cell; have d18 := yy3.below hB18)
    | (at_builtin; refine wpList_append_bs (w0 := w3) _ rfl _ _ _ rfl w3.heap.size 5 Try.underlying24 info_u8 A18 8 c18 _ rfl O18 DA dn dc _ rfl d18 hB18 (by omega) (by first | exact Nat.le_refl _ | exact Below.size hB18 | omega | (simp <;> omega)) ?_; intro A22 n22 c22 w22 O22 hB22 _ hz22; rw [HX.out] at O22; have u22 : n22 ≤ 65535 := (by have h1 := O22.len; rw [HN.out] at h1; omega); have P22 := P3.below hB22; have pc22 := P22.cell; have S22 := S3.below hB22; have sc22 := S22.cell; have O22b := O22.bs; have xx22 := xx3.below hB22)
    | (go_at_call 50; ((with_reducible refine (hw1' w22 A22 n22 c22 xx22 (HS.out ▸ O22b)).mono ?_); rintro e w27 ⟨D1, g1', h1', D2, g2', h2', rfl, O13, O14, hB27⟩); have T27 := below_then hB22 hB27; have Z27 := Z3.below T27; have zc27 := Z27.cell))
    obtain ⟨wf, hwf, Sf⟩ := store9 Z27 (.int .u8 p.tos) (.int .u16 p.id) (.bool p.keep) (.int .u8 p.ttl) (.int .u8 17) (.int .u32 p.src) (.int .u32 p.dst) (.slice D1 g1' h1') (.slice D2 g2' h2')
    rw [hwf]
    have pf := Sf.blk.cell
    have t26 := hB22.size
    have Of := Sf.own O13 (fun a e => by have := O13.ge a e; omega)
    have Df := Sf.own O14 (fun a e => by have := O14.ge a e; omega)
    exact bodyPost_ret (v := .tuple #[.agg #[.int .u8 p.tos, .int .u16 p.id, .bool p.keep, .int .u8 p.ttl, .int .u8 17, .int .u32 p.src, .int .u32 p.dst, .slice D1 g1' h1', .slice D2 g2' h2'], .int .i64 0]) (by simp [results, Try.results22, go_sem, pf]) rfl (by rw [HE.out, HP.out]; exact ⟨⟨D1, g1', h1', D2, g2', h2', rfl, Of.mono (by omega), Df.mono (by omega), Sf.bel (below_then R3 T27) (by omega)⟩⟩)
  · have hsum2 := fun W A n c hn bo => (hsum W A n c hn bo)
    by_cases hz0 : zz = 0
    · subst hz0
      have HS : Hid (put16 (dL s) 6 65535 = dS p s) := by unfold Hid dS dZ; rw [hb, hzz]; rfl
      clear hzz
      go_wp2_with (first
      | (at_builtin; refine wpList_append_bs (w0 := w3) _ rfl _ _ _ rfl w3.heap.size 5 Try.underlying24 info_u8 A10 2 c10 _ rfl O10 A12 2 c12 (two s.dst) rfl k12 hBz (by omega) (by first | exact Nat.le_refl _ | exact Below.size hBz | omega | (simp <;> omega)) ?_; intro A14 n14 c14 w14 O14' hB14 _ hz14; have u14 : 4 = n14 := (by rw [← O14'.len]; rfl); subst u14; have S14 := S3.below hB14; have sc14 := S14.cell)
      | (go_at_call 51; ((with_reducible refine (two_any z z0 z1 w14).mono ?_); rintro e w16 ⟨A16, c16, rfl, o16, hB16⟩); have O15' := O14'.below hB16; have T16 := below_then hB14 hB16)
      | (at_builtin; refine wpList_append_bs (w0 := w3) _ rfl _ _ _ rfl w3.heap.size 5 Try.underlying24 info_u8 A14 4 c14 _ rfl O15' A16 2 c16 (two z) rfl o16.bs T16 (by omega) (by first | exact Nat.le_refl _ | exact Below.size T16 | omega | (simp <;> omega)) ?_; intro A17 n17 c17 w17 O17 hB17 _ hz17; have u17 : 6 = n17 := (by rw [← O17.len]; rfl); subst u17)
      | (at_builtin; refine wpList_append_bs (w0 := w3) _ rfl _ _ _ rfl w3.heap.size 5 Try.underlying24 info_u8 A17 6 c17 _ rfl (O17.alloc _) (some ⟨_, 0, none⟩) 2 2 _ rfl (bs00 w17) (hB17.alloc hB17.size _) (by omega) (by first | exact Nat.le_refl _ | exact Below.size (hB17.alloc hB17.size _) | omega | (simp <;> omega)) ?_; intro A18 n18 c18 w18 O18 hB18 _ hz18; have u18 : 8 = n18 := (by rw [← O18.len]; rfl); subst u18; have S18 := S3.below hB18; have sc18 := S18.cell; have d18 := yy3.below hB18)
      | (at_builtin; refine wpList_append_bs (w0 := w3) _ rfl _ _ _ rfl w3.heap.size 5 Try.underlying24 info_u8 A18 8 c18 _ rfl O18 DA dn dc _ rfl d18 hB18 (by omega) (by first | exact Nat.le_refl _ | exact Below.size hB18 | omega | (simp <;> omega)) ?_; intro A22 n22 c22 w22 O22 hB22 _ hz22; rw [HX.out] at O22; have u22 : n22 ≤ 65535 := (by have h1 := O22.len; rw [HN.out] at h1; omega); have P22 := P3.below hB22; have pc22 := P22.cell; have S22 := S3.below hB22; have sc22 := S22.cell; have O22b := O22.bs; have xx22 := xx3.below hB22)
      | (go_at_call 52; ((with_reducible refine (hsum2 w22 A22 n22 c22 u22 O22b).mono ?_); rintro e w25 ⟨rfl, hB25⟩); have T25 := below_then hB22 hB25; have O25 := O22b.below hB25)
      | (go_at_call 53; ((with_reducible refine (rput16_any A22 n22 c22 (dL s) 6 65535 (by omega) (by omega) _ O25).mono ?_); rintro e w26 ⟨A26, c26, rfl, O26, hB26⟩); rw [HS.out] at O26; have O26b := O26.bs; have T26 := below_then T25 hB26; have P26 := P3.below T26; have pc26 := P26.cell; have xx26 := xx3.below T26)
      | (go_at_call 50; ((with_reducible refine (hw1' w26 A26 n22 c26 xx26 O26b).mono ?_); rintro e w27 ⟨D1, g1', h1', D2, g2', h2', rfl, O13, O14, hB27⟩); have T27 := below_then T26 hB27; have Z27 := Z3.below T27; have zc27 := Z27.cell))
      obtain ⟨wf, hwf, Sf⟩ := store9 Z27 (.int .u8 p.tos) (.int .u16 p.id) (.bool p.keep) (.int .u8 p.ttl) (.int .u8 17) (.int .u32 p.src) (.int .u32 p.dst) (.slice D1 g1' h1') (.slice D2 g2' h2')
      rw [hwf]
      have pf := Sf.blk.cell
      have t26 := T26.size
      have Of := Sf.own O13 (fun a e => by have := O13.ge a e; omega)
      have Df := Sf.own O14 (fun a e => by have := O14.ge a e; omega)
      exact bodyPost_ret (v := .tuple #[.agg #[.int .u8 p.tos, .int .u16 p.id, .bool p.keep, .int .u8 p.ttl, .int .u8 17, .int .u32 p.src, .int .u32 p.dst, .slice D1 g1' h1', .slice D2 g2' h2'], .int .i64 0]) (by simp [results, Try.results22, go_sem, pf]) rfl (by rw [HE.out, HP.out]; exact ⟨⟨D1, g1', h1', D2, g2', h2', rfl, Of.mono (by omega), Df.mono (by omega), Sf.bel (below_then R3 T27) (by omega)⟩⟩)
    · have HS : Hid (put16 (dL s) 6 zz = dS p s) := by unfold Hid dS dZ; rw [hb, hzz, if_neg hz0]; rfl
      have z0b : (zz == 0) = false := by simpa using hz0
      clear hzz
      go_wp2_with (first
      | (at_builtin; refine wpList_append_bs (w0 := w3) _ rfl _ _ _ rfl w3.heap.size 5 Try.underlying24 info_u8 A10 2 c10 _ rfl O10 A12 2 c12 (two s.dst) rfl k12 hBz (by omega) (by first | exact Nat.le_refl _ | exact Below.size hBz | omega | (simp <;> omega)) ?_; intro A14 n14 c14 w14 O14' hB14 _ hz14; have u14 : 4 = n14 := (by rw [← O14'.len]; rfl); subst u14; have S14 := S3.below hB14; have sc14 := S14.cell)
      | (go_at_call 51; ((with_reducible refine (two_any z z0 z1 w14).mono ?_); rintro e w16 ⟨A16, c16, rfl, o16, hB16⟩); have O15' := O14'.below hB16; have T16 := below_then hB14 hB16)
      | (at_builtin; refine wpList_append_bs (w0 := w3) _ rfl _ _ _ rfl w3.heap.size 5 Try.underlying24 info_u8 A14 4 c14 _ rfl O15' A16 2 c16 (two z) rfl o16.bs T16 (by omega) (by first | exact Nat.le_refl _ | exact Below.size T16 | omega | (simp <;> omega)) ?_; intro A17 n17 c17 w17 O17 hB17 _ hz17; have u17 : 6 = n17 := (by rw [← O17.len]; rfl); subst u17)
      | (at_builtin; refine wpList_append_bs (w0 := w3) _ rfl _ _ _ rfl w3.heap.size 5 Try.underlying24 info_u8 A17 6 c17 _ rfl (O17.alloc _) (some ⟨_, 0, none⟩) 2 2 _ rfl (bs00 w17) (hB17.alloc hB17.size _) (by omega) (by first | exact Nat.le_refl _ | exact Below.size (hB17.alloc hB17.size _) | omega | (simp <;> omega)) ?_; intro A18 n18 c18 w18 O18 hB18 _ hz18; have u18 : 8 = n18 := (by rw [← O18.len]; rfl); subst u18; have S18 := S3.below hB18; have sc18 := S18.cell; have d18 := yy3.below hB18)
      | (at_builtin; refine wpList_append_bs (w0 := w3) _ rfl _ _ _ rfl w3.heap.size 5 Try.underlying24 info_u8 A18 8 c18 _ rfl O18 DA dn dc _ rfl d18 hB18 (by omega) (by first | exact Nat.le_refl _ | exact Below.size hB18 | omega | (simp <;> omega)) ?_; intro A22 n22 c22 w22 O22 hB22 _ hz22; rw [HX.out] at O22; have u22 : n22 ≤ 65535 := (by have h1 := O22.len; rw [HN.out] at h1; omega); have P22 := P3.below hB22; have pc22 := P22.cell; have S22 := S3.below hB22; have sc22 := S22.cell; have O22b := O22.bs; have xx22 := xx3.below hB22)
      | (go_at_call 52; ((with_reducible refine (hsum2 w22 A22 n22 c22 u22 O22b).mono ?_); rintro e w25 ⟨rfl, hB25⟩); have T25 := below_then hB22 hB25; have O25 := O22b.below hB25)
      | (go_at_call 53; ((with_reducible refine (rput16_any A22 n22 c22 (dL s) 6 zz zz0 zz1 _ O25).mono ?_); rintro e w26 ⟨A26, c26, rfl, O26, hB26⟩); rw [HS.out] at O26; have O26b := O26.bs; have T26 := below_then T25 hB26; have P26 := P3.below T26; have pc26 := P26.cell; have xx26 := xx3.below T26)
      | (go_at_call 50; ((with_reducible refine (hw1' w26 A26 n22 c26 xx26 O26b).mono ?_); rintro e w27 ⟨D1, g1', h1', D2, g2', h2', rfl, O13, O14, hB27⟩); have T27 := below_then T26 hB27; have Z27 := Z3.below T27; have zc27 := Z27.cell))
      obtain ⟨wf, hwf, Sf⟩ := store9 Z27 (.int .u8 p.tos) (.int .u16 p.id) (.bool p.keep) (.int .u8 p.ttl) (.int .u8 17) (.int .u32 p.src) (.int .u32 p.dst) (.slice D1 g1' h1') (.slice D2 g2' h2')
      rw [hwf]
      have pf := Sf.blk.cell
      have t26 := T26.size
      have Of := Sf.own O13 (fun a e => by have := O13.ge a e; omega)
      have Df := Sf.own O14 (fun a e => by have := O14.ge a e; omega)
      exact bodyPost_ret (v := .tuple #[.agg #[.int .u8 p.tos, .int .u16 p.id, .bool p.keep, .int .u8 p.ttl, .int .u8 17, .int .u32 p.src, .int .u32 p.dst, .slice D1 g1' h1', .slice D2 g2' h2'], .int .i64 0]) (by simp [results, Try.results22, go_sem, pf]) rfl (by rw [HE.out, HP.out]; exact ⟨⟨D1, g1', h1', D2, g2', h2', rfl, Of.mono (by omega), Df.mono (by omega), Sf.bel (below_then R3 T27) (by omega)⟩⟩)
end Go.Proofs.Ytjhpmeagopdaiaa

namespace Go.Proofs.Ytjhpmeagopdaiaa
open Go.RowKit
set_option linter.unusedVariables false
set_option linter.unusedSimpArgs false
set_option maxHeartbeats 8000000
set_option maxRecDepth 100000

theorem store34 {W : World} {r : Nat} {c0 c1 c2 c3 c4 : Value} {t : TypeId} (R : Blk W r #[c0, c1, c2, c3, c4] t) (v3 v4 : Value) :
    ∃ wf, ((W.setCell ⟨r, 3, none⟩ v3).setCell ⟨r, 4, none⟩ v4) = wf ∧ Sto W r wf #[c0, c1, c2, v3, v4] t := by
  have h := ((Sto.nil R).set 3 v3).set 4 v4
  simp only [List.setIfInBounds_toArray, List.set_cons_zero, List.set_cons_succ] at h
  exact ⟨_, rfl, h⟩
theorem store4_ {W : World} {r : Nat} {c0 c1 c2 c3 c4 : Value} {t : TypeId} (R : Blk W r #[c0, c1, c2, c3, c4] t) (v4 : Value) :
    ∃ wf, (W.setCell ⟨r, 4, none⟩ v4) = wf ∧ Sto W r wf #[c0, c1, c2, c3, v4] t := by
  have h := (Sto.nil R).set 4 v4
  simp only [List.setIfInBounds_toArray, List.set_cons_zero, List.set_cons_succ] at h
  exact ⟨_, rfl, h⟩
theorem rof_udp_ (p : Pkt) (A1 : Option Addr) (n1 c1 : Nat) (A2 : Option Addr) (n2 c2 : Nat) (w : World) (k2 : Bs w A2 n2 c2 p.dat) (hpr : p.proto = 17) (s : Dgm) (E : Int)
    (ht : ∀ W, Bs W A2 n2 c2 p.dat → Calls Try.prog 24 #[(.agg #[.int .u8 (p).tos, .int .u16 (p).id, .bool (p).keep, .int .u8 (p).ttl, .int .u8 (p).proto, .int .u32 (p).src, .int .u32 (p).dst, .slice A1 n1 c1, .slice A2 n2 c2])] W (DgPost W s E)) :
    Calls Try.prog 10 #[(.agg #[.int .u8 (p).tos, .int .u16 (p).id, .bool (p).keep, .int .u8 (p).ttl, .int .u8 (p).proto, .int .u32 (p).src, .int .u32 (p).dst, .slice A1 n1 c1, .slice A2 n2 c2])] w (TtPost w (tuP p s.src s.dst E) E) := by
  have hn6 : (p.proto == 6) = false := by rw [hpr]; rfl
  have y17 : (p.proto == 17) = true := by rw [hpr]; rfl
  clear hpr
  obtain ⟨k, hk⟩ : ∃ k : Nat, w.heap.size = k := ⟨_, rfl⟩
  obtain ⟨w1, hw1⟩ : ∃ W, (((w.alloc (.cells #[.int .u8 (p).tos, .int .u16 (p).id, .bool (p).keep, .int .u8 (p).ttl, .int .u8 (p).proto, .int .u32 (p).src, .int .u32 (p).dst, .slice A1 n1 c1, .slice A2 n2 c2] 26)).alloc (.cells #[.int .u8 0, .int .u32 0, .int .u32 0, .int .u16 0, .int .u16 0] 28)).alloc (.cells #[.int .u8 p.proto, .int .u32 p.src, .int .u32 p.dst, .int .u16 0, .int .u16 0] 28)) = W := ⟨_, rfl⟩
  have P1 : Blk w1 k #[.int .u8 (p).tos, .int .u16 (p).id, .bool (p).keep, .int .u8 (p).ttl, .int .u8 (p).proto, .int .u32 (p).src, .int .u32 (p).dst, .slice A1 n1 c1, .slice A2 n2 c2] 26 := by rw [← hw1]; exact (((blk_new _ _ _ k (by simp [hk])).alloc _).alloc _)
  have Z1 : Blk w1 (k + 1) #[.int .u8 0, .int .u32 0, .int .u32 0, .int .u16 0, .int .u16 0] 28 := by rw [← hw1]; exact ((blk_new _ _ _ (k + 1) (by simp [hk])).alloc _)
  have X1 : Blk w1 (k + 1 + 1) #[.int .u8 p.proto, .int .u32 p.src, .int .u32 p.dst, .int .u16 0, .int .u16 0] 28 := by rw [← hw1]; exact (blk_new _ _ _ (k + 1 + 1) (by simp [hk]))
  have R1 : Below w.heap.size w w1 := by rw [← hw1]; (repeat (first | with_reducible exact Below.refl _ _ | with_reducible refine below_drew ?_ | with_reducible refine below_drewN ?_ _ | with_reducible refine below_alloc ?_ (Nat.le_refl _) _ | with_reducible refine Below.setCell ?_ (by first | exact Nat.le_refl _ | (simp only []; omega)) _ | with_reducible assumption))
  have Pc1 := P1.cell
  have Zc1 := Z1.cell
  have Xc1 := X1.cell
  have Pl1 := P1.lt
  have Zl1 := Z1.lt
  have Xl1 := X1.lt
  have x1 := (k2).below R1
  have i3 : w1.setCell ⟨k + 1 + 1, 3, none⟩ (.int .u16 0) = w1 := X1.idle rfl
  have i4 : w1.setCell ⟨k + 1 + 1, 4, none⟩ (.int .u16 0) = w1 := X1.idle rfl
  by_cases h0 : E = 0
  case neg =>
    have h0b : (E != 0) = true := by simpa using h0
    have hz : tuP p s.src s.dst E = zT := by unfold tuP; rw [if_pos h0]
    rw [hz]
    clear h0 hz
    go_enter Try.func10, Try.ntmps10
    go_wp2_with (go_at_call 24; ((with_reducible refine (ht w1 x1).mono ?_); rintro e u2 ⟨⟨DA, dn, dc, rfl, -, hB2⟩⟩); (obtain ⟨w2, hw2⟩ : ∃ W, u2.alloc (.cells #[.int .u16 (s).src, .int .u16 (s).dst, .bool (s).bare, .slice DA dn dc] 52) = W := ⟨_, rfl⟩); have V2 : Below u2.heap.size u2 w2 := (by rw [← hw2]; (repeat (first | with_reducible exact Below.refl _ _ | with_reducible refine below_drew ?_ | with_reducible refine below_drewN ?_ _ | with_reducible refine below_alloc ?_ (Nat.le_refl _) _ | with_reducible refine Below.setCell ?_ (by first | exact Nat.le_refl _ | (simp only []; omega)) _ | with_reducible assumption))); (obtain ⟨kS2, hkS2⟩ : ∃ k : Nat, u2.heap.size = k := ⟨_, rfl⟩); have S2 : Blk w2 kS2 #[.int .u16 (s).src, .int .u16 (s).dst, .bool (s).bare, .slice DA dn dc] 52 := (by rw [← hw2]; exact blk_new u2 _ _ _ hkS2); have Sc2 := S2.cell; have T2 := below_then hB2 V2; have P2 := P1.below T2; have Pc2 := P2.cell; clear Pc1; have Z2 := Z1.below T2; have Zc2 := Z2.cell; clear Zc1; have X2 := X1.below T2; have Xc2 := X2.cell; clear Xc1; have x2 := x1.below T2; have R2 := below_then R1 T2)
    obtain ⟨wf, hwf, Sf⟩ := store5 Z2 (.int .u8 0) (.int .u32 0) (.int .u32 0) (.int .u16 0) (.int .u16 0)
    rw [hwf]
    have pf := Sf.blk.cell
    exact bodyPost_ret (v := .tuple #[(.agg #[.int .u8 (zT).proto, .int .u32 (zT).src, .int .u32 (zT).dst, .int .u16 (zT).sp, .int .u16 (zT).dp]), .int .i64 E]) (by simp [results, Try.results10, go_sem, pf, zT]) rfl ⟨⟨rfl, Sf.bel R2 (by omega)⟩⟩

  subst h0
  have hok : tuP p s.src s.dst 0 = ⟨p.proto, p.src, p.dst, s.src, s.dst⟩ := by unfold tuP; rw [if_neg (by simp)]
  rw [hok]
  clear hok
  go_enter Try.func10, Try.ntmps10
  go_wp2_with (go_at_call 24; ((with_reducible refine (ht w1 x1).mono ?_); rintro e u2 ⟨⟨DA, dn, dc, rfl, -, hB2⟩⟩); (obtain ⟨w2, hw2⟩ : ∃ W, u2.alloc (.cells #[.int .u16 (s).src, .int .u16 (s).dst, .bool (s).bare, .slice DA dn dc] 52) = W := ⟨_, rfl⟩); have V2 : Below u2.heap.size u2 w2 := (by rw [← hw2]; (repeat (first | with_reducible exact Below.refl _ _ | with_reducible refine below_drew ?_ | with_reducible refine below_drewN ?_ _ | with_reducible refine below_alloc ?_ (Nat.le_refl _) _ | with_reducible refine Below.setCell ?_ (by first | exact Nat.le_refl _ | (simp only []; omega)) _ | with_reducible assumption))); (obtain ⟨kS2, hkS2⟩ : ∃ k : Nat, u2.heap.size = k := ⟨_, rfl⟩); have S2 : Blk w2 kS2 #[.int .u16 (s).src, .int .u16 (s).dst, .bool (s).bare, .slice DA dn dc] 52 := (by rw [← hw2]; exact blk_new u2 _ _ _ hkS2); have Sc2 := S2.cell; have T2 := below_then hB2 V2; have P2 := P1.below T2; have Pc2 := P2.cell; clear Pc1; have Z2 := Z1.below T2; have Zc2 := Z2.cell; clear Zc1; have X2 := X1.below T2; have Xc2 := X2.cell; clear Xc1; have x2 := x1.below T2; have R2 := below_then R1 T2)
  have Xs := X2.set_ 3 (.int .u16 s.src)
  simp only [List.setIfInBounds_toArray, List.set_cons_zero, List.set_cons_succ] at Xs
  have Xsc := Xs.cell
  have hSl := X1.lt
  have hSg : w1.heap.size ≤ kS2 := by rw [← hkS2]; exact hB2.size
  have Ssc := (S2.far ⟨k + 1 + 1, 3, none⟩ (by show k + 1 + 1 ≠ kS2; omega) (.int .u16 s.src)).cell
  obtain ⟨w3, hw3, S3⟩ : ∃ wf, ((w2.setCell ⟨k + 1 + 1, 3, none⟩ (.int .u16 s.src)).setCell ⟨k + 1 + 1, 4, none⟩ (.int .u16 s.dst)).drew = wf ∧ Sto w2 (k + 1 + 1) wf #[.int .u8 p.proto, .int .u32 p.src, .int .u32 p.dst, .int .u16 s.src, .int .u16 s.dst] 28 := ⟨_, rfl, by
    have := (((Sto.nil X2).set 3 (.int .u16 s.src)).set 4 (.int .u16 s.dst)).drew
    simp only [List.setIfInBounds_toArray, List.set_cons_zero, List.set_cons_succ] at this
    exact this⟩
  go_region
  clear Xsc Ssc Xs
  have X3 := S3.blk
  have Xc3 := X3.cell
  have Z3 := S3.other (by omega) Z2
  have Zc3 := Z3.cell
  have R3 := S3.bel R2 (by omega)
  go_wp2_with fail
  obtain ⟨wf, hwf, Sf⟩ := store5 Z3 (.int .u8 p.proto) (.int .u32 p.src) (.int .u32 p.dst) (.int .u16 s.src) (.int .u16 s.dst)
  rw [hwf]
  have pf := Sf.blk.cell
  exact bodyPost_ret (v := .tuple #[(.agg #[.int .u8 ((⟨p.proto, p.src, p.dst, s.src, s.dst⟩ : Tup)).proto, .int .u32 ((⟨p.proto, p.src, p.dst, s.src, s.dst⟩ : Tup)).src, .int .u32 ((⟨p.proto, p.src, p.dst, s.src, s.dst⟩ : Tup)).dst, .int .u16 ((⟨p.proto, p.src, p.dst, s.src, s.dst⟩ : Tup)).sp, .int .u16 ((⟨p.proto, p.src, p.dst, s.src, s.dst⟩ : Tup)).dp]), .int .i64 0]) (by simp [results, Try.results10, go_sem, pf, zT]) rfl ⟨⟨rfl, Sf.bel R3 (by omega)⟩⟩

end Go.Proofs.Ytjhpmeagopdaiaa

namespace Go.Proofs.Ytjhpmeagopdaiaa
open Go.RowKit
set_option linter.unusedVariables false
set_option linter.unusedSimpArgs false
set_option maxHeartbeats 8000000
set_option maxRecDepth 100000

theorem toldU_any (t : Tup) (w : World) : Calls Try.prog 11 #[(.agg #[.int .u8 (t).proto, .int .u32 (t).src, .int .u32 (t).dst, .int .u16 (t).sp, .int .u16 (t).dp])] w fun e w' => e = .returned (.agg #[.int .u8 (toldT t).proto, .int .u32 (toldT t).src, .int .u32 (toldT t).dst, .int .u16 (toldT t).sp, .int .u16 (toldT t).dp]) ∧ Below w.heap.size w w' := by
  obtain ⟨p, a, b, c, d⟩ := t
  by_cases h1 : p = 1
  · subst h1
    go_enter Try.func11, Try.ntmps11
    go_wp2_with fail
    exact bodyPost_ret (v := (.agg #[.int .u8 (toldT (⟨1, a, b, c, d⟩ : Tup)).proto, .int .u32 (toldT (⟨1, a, b, c, d⟩ : Tup)).src, .int .u32 (toldT (⟨1, a, b, c, d⟩ : Tup)).dst, .int .u16 (toldT (⟨1, a, b, c, d⟩ : Tup)).sp, .int .u16 (toldT (⟨1, a, b, c, d⟩ : Tup)).dp])) (by simp [results, Try.results11, go_sem, toldT]) rfl ⟨rfl, by (repeat (first | with_reducible exact Below.refl _ _ | with_reducible refine below_drew ?_ | with_reducible refine below_drewN ?_ _ | with_reducible refine below_alloc ?_ (Nat.le_refl _) _ | with_reducible refine Below.setCell ?_ (by first | exact Nat.le_refl _ | (simp only []; omega)) _ | with_reducible assumption))⟩
  by_cases h47 : p = 47
  · subst h47
    go_enter Try.func11, Try.ntmps11
    go_wp2_with fail
    exact bodyPost_ret (v := (.agg #[.int .u8 (toldT (⟨47, a, b, c, d⟩ : Tup)).proto, .int .u32 (toldT (⟨47, a, b, c, d⟩ : Tup)).src, .int .u32 (toldT (⟨47, a, b, c, d⟩ : Tup)).dst, .int .u16 (toldT (⟨47, a, b, c, d⟩ : Tup)).sp, .int .u16 (toldT (⟨47, a, b, c, d⟩ : Tup)).dp])) (by simp [results, Try.results11, go_sem, toldT]) rfl ⟨rfl, by (repeat (first | with_reducible exact Below.refl _ _ | with_reducible refine below_drew ?_ | with_reducible refine below_drewN ?_ _ | with_reducible refine below_alloc ?_ (Nat.le_refl _) _ | with_reducible refine Below.setCell ?_ (by first | exact Nat.le_refl _ | (simp only []; omega)) _ | with_reducible assumption))⟩
  have e1 : (p == 1) = false := by simpa using h1
  have e47 : (p == 47) = false := by simpa using h47
  have hk : toldT ⟨p, a, b, c, d⟩ = ⟨p, a, b, c, d⟩ := by unfold toldT; rw [if_neg h1, if_neg h47]
  rw [hk]
  clear h1 h47 hk
  go_enter Try.func11, Try.ntmps11
  go_wp2_with fail
  exact bodyPost_ret (v := (.agg #[.int .u8 ((⟨p, a, b, c, d⟩ : Tup)).proto, .int .u32 ((⟨p, a, b, c, d⟩ : Tup)).src, .int .u32 ((⟨p, a, b, c, d⟩ : Tup)).dst, .int .u16 ((⟨p, a, b, c, d⟩ : Tup)).sp, .int .u16 ((⟨p, a, b, c, d⟩ : Tup)).dp])) (by simp [results, Try.results11, go_sem]) rfl ⟨rfl, by (repeat (first | with_reducible exact Below.refl _ _ | with_reducible refine below_drew ?_ | with_reducible refine below_drewN ?_ _ | with_reducible refine below_alloc ?_ (Nat.le_refl _) _ | with_reducible refine Below.setCell ?_ (by first | exact Nat.le_refl _ | (simp only []; omega)) _ | with_reducible assumption))⟩
def q10u : Pkt := ⟨0, 0, false, 0, 0, 1, 2, [], []⟩
def d10u : Dgm := ⟨3, 4, false, []⟩
def p10u : Pkt := ⟨0, 0, false, 0, 17, 1, 2, [], dS q10u d10u⟩
def t10u : Tup := ⟨17, 5, 2, 6, 4⟩
theorem q10u_ok : q10u.Ok := ⟨by decide, by decide, by decide, by decide, by decide, by decide⟩
theorem p10u_ok : p10u.Ok := ⟨by decide, by decide, by decide, by decide, by decide, by decide⟩
theorem t10u_ok : t10u.Ok := ⟨by decide, by decide, by decide, by decide, by decide⟩
theorem liveU_any (w : World) : Calls Try.prog 8 #[] w fun e w' => e = .returned (.bool true) ∧ Below w.heap.size w w' := by
  have cu : ∀ W, Calls Try.prog 22 #[.agg #[.int .u8 0, .int .u16 0, .bool false, .int .u8 0, .int .u8 0, .int .u32 1, .int .u32 2, .slice none 0 0, .slice none 0 0], .agg #[.int .u16 3, .int .u16 4, .bool false, .slice none 0 0]] W fun e w' => ∃ B1 m1 d1 B2 d2, e = .returned (.tuple #[.agg #[.int .u8 0, .int .u16 0, .bool false, .int .u8 0, .int .u8 17, .int .u32 1, .int .u32 2, .slice B1 m1 d1, .slice B2 8 d2], .int .i64 0]) ∧ Bs w' B1 m1 d1 [] ∧ Bs w' B2 8 d2 p10u.dat ∧ Below W.heap.size W w' := fun W => by
    have hh := rdbuild_any q10u q10u_ok none 0 0 none 0 0 d10u ⟨by decide, by decide⟩ none 0 0 W (Bs.none_ _) (Bs.none_ _)
    refine hh.mono fun e w' hq => ?_
    obtain ⟨B1, m1, d1, B2, m2, d2, rfl, h1, h2, h3⟩ := hq.out
    have e1 : dbP q10u d10u = p10u := by kernel_rfl
    have e2 : dbE q10u d10u = 0 := by kernel_rfl
    rw [e1] at h1 h2 ⊢
    rw [e2]
    have h5 : m2 = 8 := by have h4 := h2.len; rw [show p10u.dat = dS q10u d10u from rfl, dS_len] at h4; simpa [d10u] using h4.symm
    subst h5
    exact ⟨B1, m1, d1, B2, d2, rfl, h1.bs, h2.bs, h3⟩
  have hu : udE p10u = 0 := by kernel_rfl
  have hE : dbE (rwQ p10u t10u) (udW p10u t10u) = 0 := by kernel_rfl
  obtain ⟨a1, a2, -, -⟩ := db_back (udW_ok p10u t10u_ok) hE
  obtain ⟨hf, -⟩ := db_form hE
  obtain ⟨d, hd⟩ : ∃ d, dS (rwQ p10u t10u) (udW p10u t10u) = d := ⟨_, rfl⟩
  rw [hd] at hf
  have hf' : dbP (rwQ p10u t10u) (udW p10u t10u) = ⟨0, 0, false, 0, 17, 5, 2, [], d⟩ := hf
  rw [hf'] at a1 a2
  have hro : (⟨0, 0, false, 0, 17, 5, 2, [], d⟩ : Pkt).Ok := ⟨by simp, by simp, by simp, by simp, by simp, by simp⟩
  have cr : ∀ W B1 m1 d1 B2 d2, Bs W B1 m1 d1 [] → Bs W B2 8 d2 p10u.dat → Calls Try.prog 7 #[.agg #[.int .u8 0, .int .u16 0, .bool false, .int .u8 0, .int .u8 17, .int .u32 1, .int .u32 2, .slice B1 m1 d1, .slice B2 8 d2], .agg #[.int .u8 17, .int .u32 5, .int .u32 2, .int .u16 6, .int .u16 4]] W fun e w' => ∃ C1 e1 f1 C2 e2 f2, e = .returned (.tuple #[.agg #[.int .u8 0, .int .u16 0, .bool false, .int .u8 0, .int .u8 17, .int .u32 5, .int .u32 2, .slice C1 e1 f1, .slice C2 e2 f2], .int .i64 0]) ∧ Bs w' C2 e2 f2 d ∧ Below W.heap.size W w' := fun W B1 m1 d1 B2 d2 K1 K2 => by
    have ho : ∀ W, Bs W B2 8 d2 p10u.dat → Calls Try.prog 17 #[(.agg #[.int .u8 (p10u).tos, .int .u16 (p10u).id, .bool (p10u).keep, .int .u8 (p10u).ttl, .int .u8 (p10u).proto, .int .u32 (p10u).src, .int .u32 (p10u).dst, .slice B1 m1 d1, .slice B2 8 d2])] W (TtPost W (tuP p10u (udD p10u).src (udD p10u).dst (udE p10u)) 0) := fun W k => by
      have := of_udp p10u p10u_ok B1 m1 d1 B2 8 d2 W k rfl
      rw [hu] at this
      rw [hu]
      exact this
    have hrw := rw_udp p10u t10u B1 m1 d1 B2 8 d2 W K1 K2 rfl rfl _ ho _ _ (fun W a b => chudp_any p10u p10u_ok t10u t10u_ok B1 m1 d1 B2 8 d2 (rwQ p10u t10u) (rwQ_ok p10u_ok t10u_ok) B1 m1 d1 B2 8 d2 W b a (by omega))
    refine hrw.mono fun e w' hq => ?_
    obtain ⟨C1, e1, f1, C2, e2, f2, rfl, -, h2, h3⟩ := hq.out
    rw [hE]
    rw [hf'] at h2 ⊢
    exact ⟨C1, e1, f1, C2, e2, f2, rfl, h2.bs, h3⟩
  have co : ∀ W C1 e1 f1 C2 e2 f2, Bs W C2 e2 f2 d → Calls Try.prog 10 #[.agg #[.int .u8 0, .int .u16 0, .bool false, .int .u8 0, .int .u8 17, .int .u32 5, .int .u32 2, .slice C1 e1 f1, .slice C2 e2 f2]] W fun e w' => e = .returned (.tuple #[.agg #[.int .u8 17, .int .u32 5, .int .u32 2, .int .u16 6, .int .u16 4], .int .i64 0]) ∧ Below W.heap.size W w' := fun W C1 e1 f1 C2 e2 f2 K => by
    have hh := rof_udp_ ⟨0, 0, false, 0, 17, 5, 2, [], d⟩ C1 e1 f1 C2 e2 f2 W K rfl _ _ (fun W h => rudp_any _ hro C1 e1 f1 C2 e2 f2 W h)
    rw [a1, a2] at hh
    exact hh.mono fun e w' hq => hq.out
  clear hE hu a1 a2 hf hf' hd hro
  have R1 := Below.refl w.heap.size w
  obtain ⟨w1, hw1⟩ : ∃ W, w = W := ⟨_, rfl⟩
  rw [hw1] at R1

  subst hw1
  go_enter Try.func8, Try.ntmps8
  go_wp2_with (first
    | (go_at_call 22; ((with_reducible refine (cu w).mono ?_); rintro e u2 ⟨B1, m1, d1, B2, d2, rfl, k8, k9, hB2⟩); (obtain ⟨w2, hw2⟩ : ∃ W, u2.alloc (.cells #[.int .u8 0, .int .u16 0, .bool false, .int .u8 0, .int .u8 17, .int .u32 1, .int .u32 2, .slice B1 m1 d1, .slice B2 8 d2] 26) = W := ⟨_, rfl⟩); have V2 : Below u2.heap.size u2 w2 := (by rw [← hw2]; (repeat (first | with_reducible exact Below.refl _ _ | with_reducible refine below_drew ?_ | with_reducible refine below_drewN ?_ _ | with_reducible refine below_alloc ?_ (Nat.le_refl _) _ | with_reducible refine Below.setCell ?_ (by first | exact Nat.le_refl _ | (simp only []; omega)) _ | with_reducible assumption))); (obtain ⟨kP2, hkP2⟩ : ∃ k : Nat, u2.heap.size = k := ⟨_, rfl⟩); have P2 : Blk w2 kP2 #[.int .u8 0, .int .u16 0, .bool false, .int .u8 0, .int .u8 17, .int .u32 1, .int .u32 2, .slice B1 m1 d1, .slice B2 8 d2] 26 := (by rw [← hw2]; exact blk_new u2 _ _ _ hkP2); have Pc2 := P2.cell; have T2 := below_then hB2 V2; have x2 := (k8).below V2; have y2 := (k9).below V2; have R2 := below_then R1 T2)
    | (go_at_call 7; ((with_reducible refine (cr w2 B1 m1 d1 B2 d2 x2 y2).mono ?_); rintro e u3 ⟨C1, e1, f1, C2, e2, f2, rfl, k7, hB3⟩); (obtain ⟨w3, hw3⟩ : ∃ W, u3.alloc (.cells #[.int .u8 0, .int .u16 0, .bool false, .int .u8 0, .int .u8 17, .int .u32 5, .int .u32 2, .slice C1 e1 f1, .slice C2 e2 f2] 26) = W := ⟨_, rfl⟩); have V3 : Below u3.heap.size u3 w3 := (by rw [← hw3]; (repeat (first | with_reducible exact Below.refl _ _ | with_reducible refine below_drew ?_ | with_reducible refine below_drewN ?_ _ | with_reducible refine below_alloc ?_ (Nat.le_refl _) _ | with_reducible refine Below.setCell ?_ (by first | exact Nat.le_refl _ | (simp only []; omega)) _ | with_reducible assumption))); (obtain ⟨kO3, hkO3⟩ : ∃ k : Nat, u3.heap.size = k := ⟨_, rfl⟩); have O3 : Blk w3 kO3 #[.int .u8 0, .int .u16 0, .bool false, .int .u8 0, .int .u8 17, .int .u32 5, .int .u32 2, .slice C1 e1 f1, .slice C2 e2 f2] 26 := (by rw [← hw3]; exact blk_new u3 _ _ _ hkO3); have Oc3 := O3.cell; have T3 := below_then hB3 V3; have z3 := (k7).below V3; have P3 := P2.below T3; have Pc3 := P3.cell; clear Pc2; have x3 := x2.below T3; have y3 := y2.below T3; have R3 := below_then R2 T3)
    | (go_at_call 10; ((with_reducible refine (co w3 C1 e1 f1 C2 e2 f2 z3).mono ?_); rintro e u4 ⟨rfl, hB4⟩); (obtain ⟨w4, hw4⟩ : ∃ W, u4.alloc (.cells #[.int .u8 17, .int .u32 5, .int .u32 2, .int .u16 6, .int .u16 4] 28) = W := ⟨_, rfl⟩); have V4 : Below u4.heap.size u4 w4 := (by rw [← hw4]; (repeat (first | with_reducible exact Below.refl _ _ | with_reducible refine below_drew ?_ | with_reducible refine below_drewN ?_ _ | with_reducible refine below_alloc ?_ (Nat.le_refl _) _ | with_reducible refine Below.setCell ?_ (by first | exact Nat.le_refl _ | (simp only []; omega)) _ | with_reducible assumption))); (obtain ⟨kS4, hkS4⟩ : ∃ k : Nat, u4.heap.size = k := ⟨_, rfl⟩); have S4 : Blk w4 kS4 #[.int .u8 17, .int .u32 5, .int .u32 2, .int .u16 6, .int .u16 4] 28 := (by rw [← hw4]; exact blk_new u4 _ _ _ hkS4); have Sc4 := S4.cell; have T4 := below_then hB4 V4; have P4 := P3.below T4; have Pc4 := P4.cell; clear Pc3; have O4 := O3.below T4; have Oc4 := O4.cell; clear Oc3; have x4 := x3.below T4; have y4 := y3.below T4; have z4 := z3.below T4; have R4 := below_then R3 T4))
  go_ret
  exact ⟨rfl, R4⟩
end Go.Proofs.Ytjhpmeagopdaiaa

namespace Go.Proofs.Ytjhpmeagopdaiaa
open Go.RowKit
set_option linter.unusedVariables false
set_option linter.unusedSimpArgs false
set_option maxHeartbeats 8000000
set_option maxRecDepth 100000

theorem patch_bd (s a b : Int) : 0 ≤ patch s a b ∧ patch s a b ≤ 65535 := by
  unfold patch
  have h1 := fd_lo ((65535 - s) + (65535 - a) + b)
  have h2 := fd_hi ((65535 - s) + (65535 - a) + b)
  omega
def patK (s : Int) (a b : Nat → Int) : Nat → Int
  | 0 => s
  | k + 1 => patch (patK s a b k) (a k) (b k)
theorem patK_bd {s : Int} (h0 : 0 ≤ s) (h1 : s ≤ 65535) (a b : Nat → Int) : ∀ k, 0 ≤ patK s a b k ∧ patK s a b k ≤ 65535
  | 0 => ⟨h0, h1⟩
  | k + 1 => patch_bd _ _ _
def six (x0 x1 x2 x3 x4 x5 : Int) : Nat → Int
  | 0 => x0 | 1 => x1 | 2 => x2 | 3 => x3 | 4 => x4 | _ => x5
def wdsT (t : Tup) : Nat → Int := six (t.src / 65536) (t.src % 65536) (t.dst / 65536) (t.dst % 65536) t.sp t.dp
theorem tw_any (t : Tup) (ht : t.Ok) (w : World) :
    Calls Try.prog 66 #[(.agg #[.int .u8 (t).proto, .int .u32 (t).src, .int .u32 (t).dst, .int .u16 (t).sp, .int .u16 (t).dp])] w fun e w' => e = .returned (.agg #[.int .u16 (t.src / 65536), .int .u16 (t.src % 65536), .int .u16 (t.dst / 65536), .int .u16 (t.dst % 65536), .int .u16 t.sp, .int .u16 t.dp]) ∧ Below w.heap.size w w' := by
  obtain ⟨s0, s1⟩ := ht.src
  obtain ⟨d0, d1⟩ := ht.dst
  obtain ⟨q, hq⟩ : ∃ q, t.src / 65536 = q := ⟨_, rfl⟩
  obtain ⟨r, hr⟩ : ∃ q, t.dst / 65536 = q := ⟨_, rfl⟩
  have q0 : 0 ≤ q ∧ q ≤ 65535 := by omega
  have r0 : 0 ≤ r ∧ r ≤ 65535 := by omega
  have q2 : q % 65536 = q := by omega
  have r2 : r % 65536 = r := by omega
  rw [hq, hr]
  obtain ⟨x1, hx1⟩ : ∃ x, IntKind.u16.wrap t.src = x := ⟨_, rfl⟩
  obtain ⟨x2, hx2⟩ : ∃ x, IntKind.u16.wrap t.dst = x := ⟨_, rfl⟩
  have e1 : t.src % 65536 = x1 := by rw [← hx1, IntKind.wrap_u16]
  have e2 : t.dst % 65536 = x2 := by rw [← hx2, IntKind.wrap_u16]
  rw [e1, e2]
  clear e1 e2
  obtain ⟨k, hk⟩ : ∃ k : Nat, w.heap.size = k := ⟨_, rfl⟩
  obtain ⟨w1, hw1⟩ : ∃ W, ((w.alloc (.cells #[.int .u8 (t).proto, .int .u32 (t).src, .int .u32 (t).dst, .int .u16 (t).sp, .int .u16 (t).dp] 28)).alloc (.cells #[.int .u16 0, .int .u16 0, .int .u16 0, .int .u16 0, .int .u16 0, .int .u16 0] 109)) = W := ⟨_, rfl⟩
  have P1 : Blk w1 k #[.int .u8 (t).proto, .int .u32 (t).src, .int .u32 (t).dst, .int .u16 (t).sp, .int .u16 (t).dp] 28 := by rw [← hw1]; exact ((blk_new _ _ _ k (by simp [hk])).alloc _)
  have Z1 : Blk w1 (k + 1) #[.int .u16 0, .int .u16 0, .int .u16 0, .int .u16 0, .int .u16 0, .int .u16 0] 109 := by rw [← hw1]; exact (blk_new _ _ _ (k + 1) (by simp [hk]))
  have R1 : Below w.heap.size w w1 := by rw [← hw1]; (repeat (first | with_reducible exact Below.refl _ _ | with_reducible refine below_drew ?_ | with_reducible refine below_drewN ?_ _ | with_reducible refine below_alloc ?_ (Nat.le_refl _) _ | with_reducible refine Below.setCell ?_ (by first | exact Nat.le_refl _ | (simp only []; omega)) _ | with_reducible assumption))
  have Pc1 := P1.cell
  have Zc1 := Z1.cell
  have Pl1 := P1.lt
  have Zl1 := Z1.lt
  go_enter Try.func66, Try.ntmps66
  go_wp2_with fail
  obtain ⟨wf, hwf, Sf⟩ := store6 Z1 (.int .u16 q) (.int .u16 x1) (.int .u16 r) (.int .u16 x2) (.int .u16 t.sp) (.int .u16 t.dp)
  rw [hwf]
  have pf := Sf.blk.cell
  exact bodyPost_ret (v := .agg #[.int .u16 q, .int .u16 x1, .int .u16 r, .int .u16 x2, .int .u16 t.sp, .int .u16 t.dp]) (by simp [results, Try.results66, go_sem, pf]) rfl ⟨rfl, Sf.bel R1 (by omega)⟩

theorem repair_any (A : Option Addr) (n c : Nat) (l : List UInt8) (p : Int) (a b : Nat → Int) (ha : ∀ i, i < 6 → 0 ≤ a i ∧ a i ≤ 65535) (hb : ∀ i, i < 6 → 0 ≤ b i ∧ b i ≤ 65535) (w : World) (k1 : Bs w A n c l) :
    Calls Try.prog 65 #[.slice A n c, .int .i64 p, .agg #[.int .u16 (a 0), .int .u16 (a 1), .int .u16 (a 2), .int .u16 (a 3), .int .u16 (a 4), .int .u16 (a 5)], .agg #[.int .u16 (b 0), .int .u16 (b 1), .int .u16 (b 2), .int .u16 (b 3), .int .u16 (b 4), .int .u16 (b 5)]] w
      fun e w' => ∃ A' c', e = .returned (.slice A' n c') ∧ Own w' w.heap.size 5 A' n c' (put16 l p (patK (get16 l p) a b 6)) ∧ Below w.heap.size w w' := by
  obtain ⟨s0, hs0⟩ : ∃ s, get16 l p = s := ⟨_, rfl⟩
  have g0 := get16_lo l p
  have g1 := get16_hi l p
  have cg := fun W h => get16_any A n c l p W h
  rw [hs0] at cg g0 g1 ⊢
  have hbd := patK_bd g0 g1 a b
  have hst : ∀ j, patch (patK s0 a b j) (a j) (b j) = patK s0 a b (j + 1) := fun j => rfl
  have cp : ∀ j, j < 6 → ∀ W, Calls Try.prog 95 #[.int .u16 (patK s0 a b j), .int .u16 (a j), .int .u16 (b j)] W fun e w' => e = .returned (.int .u16 (patK s0 a b (j + 1))) ∧ W = w' := fun j hj W => by
    have h1 := hbd j
    have h2 := ha j hj
    have h3 := hb j hj
    exact patch_any _ _ _ h1.1 h1.2 h2.1 h2.2 h3.1 h3.2 W
  obtain ⟨pk, hpk⟩ : ∃ f, patK s0 a b = f := ⟨_, rfl⟩
  have hp0 : Hid (pk 0 = s0) := by unfold Hid; rw [← hpk]; rfl
  rw [hpk] at cp hbd ⊢
  have cw := fun W h => put16_any A n c l p (pk 6) (hbd 6).1 (hbd 6).2 W h
  clear hst hpk hs0 g0 g1 ha hb
  obtain ⟨k, hk⟩ : ∃ k : Nat, w.heap.size = k := ⟨_, rfl⟩
  obtain ⟨w1, hw1⟩ : ∃ W, ((w.alloc (.cells #[.int .u16 (a 0), .int .u16 (a 1), .int .u16 (a 2), .int .u16 (a 3), .int .u16 (a 4), .int .u16 (a 5)] 109)).alloc (.cells #[.int .u16 (b 0), .int .u16 (b 1), .int .u16 (b 2), .int .u16 (b 3), .int .u16 (b 4), .int .u16 (b 5)] 109)) = W := ⟨_, rfl⟩
  have P1 : Blk w1 k #[.int .u16 (a 0), .int .u16 (a 1), .int .u16 (a 2), .int .u16 (a 3), .int .u16 (a 4), .int .u16 (a 5)] 109 := by rw [← hw1]; exact ((blk_new _ _ _ k (by simp [hk])).alloc _)
  have O1 : Blk w1 (k + 1) #[.int .u16 (b 0), .int .u16 (b 1), .int .u16 (b 2), .int .u16 (b 3), .int .u16 (b 4), .int .u16 (b 5)] 109 := by rw [← hw1]; exact (blk_new _ _ _ (k + 1) (by simp [hk]))
  have R1 : Below w.heap.size w w1 := by rw [← hw1]; (repeat (first | with_reducible exact Below.refl _ _ | with_reducible refine below_drew ?_ | with_reducible refine below_drewN ?_ _ | with_reducible refine below_alloc ?_ (Nat.le_refl _) _ | with_reducible refine Below.setCell ?_ (by first | exact Nat.le_refl _ | (simp only []; omega)) _ | with_reducible assumption))
  have Pc1 := P1.cell
  have Oc1 := O1.cell
  have Pl1 := P1.lt
  have Ol1 := O1.lt
  have x1 := (k1).below R1
  go_enter Try.func65, Try.ntmps65
  go_wp2_with (go_at_call 67; ((with_reducible refine (cg w1 x1).mono ?_); rintro e w2 ⟨rfl, hD2⟩); have hB2 := hD2.bel; have P2 := P1.below hB2; have Pc2 := P2.cell; clear Pc1; have O2 := O1.below hB2; have Oc2 := O2.cell; clear Oc1; have x2 := x1.below hB2; have R2 := below_then R1 hB2)
  have hx0 : ∀ W, (Instr.index 109 (.agg #[.int .u16 (a 0), .int .u16 (a 1), .int .u16 (a 2), .int .u16 (a 3), .int .u16 (a 4), .int .u16 (a 5)]) (.int .i64 0)).run Try.prog W = .ok (.int .u16 (a 0)) W := fun W => rfl
  have hx1 : ∀ W, (Instr.index 109 (.agg #[.int .u16 (a 0), .int .u16 (a 1), .int .u16 (a 2), .int .u16 (a 3), .int .u16 (a 4), .int .u16 (a 5)]) (.int .i64 1)).run Try.prog W = .ok (.int .u16 (a 1)) W := fun W => rfl
  have hx2 : ∀ W, (Instr.index 109 (.agg #[.int .u16 (a 0), .int .u16 (a 1), .int .u16 (a 2), .int .u16 (a 3), .int .u16 (a 4), .int .u16 (a 5)]) (.int .i64 2)).run Try.prog W = .ok (.int .u16 (a 2)) W := fun W => rfl
  have hx3 : ∀ W, (Instr.index 109 (.agg #[.int .u16 (a 0), .int .u16 (a 1), .int .u16 (a 2), .int .u16 (a 3), .int .u16 (a 4), .int .u16 (a 5)]) (.int .i64 3)).run Try.prog W = .ok (.int .u16 (a 3)) W := fun W => rfl
  have hx4 : ∀ W, (Instr.index 109 (.agg #[.int .u16 (a 0), .int .u16 (a 1), .int .u16 (a 2), .int .u16 (a 3), .int .u16 (a 4), .int .u16 (a 5)]) (.int .i64 4)).run Try.prog W = .ok (.int .u16 (a 4)) W := fun W => rfl
  have hx5 : ∀ W, (Instr.index 109 (.agg #[.int .u16 (a 0), .int .u16 (a 1), .int .u16 (a 2), .int .u16 (a 3), .int .u16 (a 4), .int .u16 (a 5)]) (.int .i64 5)).run Try.prog W = .ok (.int .u16 (a 5)) W := fun W => rfl
  go_loopw [9, 16] (fun s i wr => ∃ (j : Nat) (x : Int), j ≤ 6 ∧ x = (j : Int) ∧ i = .int .i64 x ∧ s = .int .u16 (pk j) ∧ wr = w2) (fun _ i _ => 6 - (intOf i).toNat)
  case atStart => exact ⟨0, 0, by omega, rfl, rfl, by rw [hp0.out], rfl⟩
  case round =>
    obtain ⟨j, x, hj, hxj, rfl, rfl, rfl⟩ := hrel
    have hbj := hbd j
    by_cases h6 : j < 6
    · have h : j = 0 ∨ j = 1 ∨ j = 2 ∨ j = 3 ∨ j = 4 ∨ j = 5 := by omega
      have cpj := cp j h6
      clear cp cg
      rcases h with rfl | rfl | rfl | rfl | rfl | rfl
      all_goals simp only [Nat.reduceAdd, Nat.zero_add] at cpj
      · obtain rfl : x = 0 := by simpa using hxj
        clear hxj hx0 hx1 hx2 hx3 hx4 hx5
        have hx0 : ∀ W, (Instr.index 109 (.agg #[.int .u16 (a 0), .int .u16 (a 1), .int .u16 (a 2), .int .u16 (a 3), .int .u16 (a 4), .int .u16 (a 5)]) (.int .i64 0)).run Try.prog W = .ok (.int .u16 (a 0)) W := fun W => rfl
        go_wp2_with (go_at_call 95; ((with_reducible refine (cpj _).mono ?_); rintro e w9 ⟨rfl, rfl⟩))
        exact ⟨⟨1, 1, by omega, rfl, by go_num, rfl, (by first | trivial | rfl)⟩, by simp [intOf]⟩
      · obtain rfl : x = 1 := by simpa using hxj
        clear hxj hx0 hx1 hx2 hx3 hx4 hx5
        have hx1 : ∀ W, (Instr.index 109 (.agg #[.int .u16 (a 0), .int .u16 (a 1), .int .u16 (a 2), .int .u16 (a 3), .int .u16 (a 4), .int .u16 (a 5)]) (.int .i64 1)).run Try.prog W = .ok (.int .u16 (a 1)) W := fun W => rfl
        go_wp2_with (go_at_call 95; ((with_reducible refine (cpj _).mono ?_); rintro e w9 ⟨rfl, rfl⟩))
        exact ⟨⟨2, 2, by omega, rfl, by go_num, rfl, (by first | trivial | rfl)⟩, by simp [intOf]⟩
      · obtain rfl : x = 2 := by simpa using hxj
        clear hxj hx0 hx1 hx2 hx3 hx4 hx5
        have hx2 : ∀ W, (Instr.index 109 (.agg #[.int .u16 (a 0), .int .u16 (a 1), .int .u16 (a 2), .int .u16 (a 3), .int .u16 (a 4), .int .u16 (a 5)]) (.int .i64 2)).run Try.prog W = .ok (.int .u16 (a 2)) W := fun W => rfl
        go_wp2_with (go_at_call 95; ((with_reducible refine (cpj _).mono ?_); rintro e w9 ⟨rfl, rfl⟩))
        exact ⟨⟨3, 3, by omega, rfl, by go_num, rfl, (by first | trivial | rfl)⟩, by simp [intOf]⟩
      · obtain rfl : x = 3 := by simpa using hxj
        clear hxj hx0 hx1 hx2 hx3 hx4 hx5
        have hx3 : ∀ W, (Instr.index 109 (.agg #[.int .u16 (a 0), .int .u16 (a 1), .int .u16 (a 2), .int .u16 (a 3), .int .u16 (a 4), .int .u16 (a 5)]) (.int .i64 3)).run Try.prog W = .ok (.int .u16 (a 3)) W := fun W => rfl
        go_wp2_with (go_at_call 95; ((with_reducible refine (cpj _).mono ?_); rintro e w9 ⟨rfl, rfl⟩))
        exact ⟨⟨4, 4, by omega, rfl, by go_num, rfl, (by first | trivial | rfl)⟩, by simp [intOf]⟩
      · obtain rfl : x = 4 := by simpa using hxj
        clear hxj hx0 hx1 hx2 hx3 hx4 hx5
        have hx4 : ∀ W, (Instr.index 109 (.agg #[.int .u16 (a 0), .int .u16 (a 1), .int .u16 (a 2), .int .u16 (a 3), .int .u16 (a 4), .int .u16 (a 5)]) (.int .i64 4)).run Try.prog W = .ok (.int .u16 (a 4)) W := fun W => rfl
        go_wp2_with (go_at_call 95; ((with_reducible refine (cpj _).mono ?_); rintro e w9 ⟨rfl, rfl⟩))
        exact ⟨⟨5, 5, by omega, rfl, by go_num, rfl, (by first | trivial | rfl)⟩, by simp [intOf]⟩
      · obtain rfl : x = 5 := by simpa using hxj
        clear hxj hx0 hx1 hx2 hx3 hx4 hx5
        have hx5 : ∀ W, (Instr.index 109 (.agg #[.int .u16 (a 0), .int .u16 (a 1), .int .u16 (a 2), .int .u16 (a 3), .int .u16 (a 4), .int .u16 (a 5)]) (.int .i64 5)).run Try.prog W = .ok (.int .u16 (a 5)) W := fun W => rfl
        go_wp2_with (go_at_call 95; ((with_reducible refine (cpj _).mono ?_); rintro e w9 ⟨rfl, rfl⟩))
        exact ⟨⟨6, 6, by omega, rfl, by go_num, rfl, (by first | trivial | rfl)⟩, by simp [intOf]⟩
    · obtain rfl : j = 6 := by omega
      obtain rfl : x = 6 := by simpa using hxj
      clear hxj
      go_wp2_with (go_at_call 35; ((with_reducible refine (cw _ x2).mono ?_); rintro e w9 ⟨A', c', rfl, ho, hB9⟩); have R9 := below_then R2 hB9)
      go_ret
      exact ⟨A', c', rfl, ho.mono R2.size, R9⟩

def bodyB (l : List UInt8) (u t : Tup) : List UInt8 :=
  if t.proto = 6 then (if 18 ≤ l.length then put16 (put16 (put16 l 0 t.sp) 2 t.dp) 16 (patK (get16 (put16 (put16 l 0 t.sp) 2 t.dp) 16) (wdsT u) (wdsT t) 6) else put16 (put16 l 0 t.sp) 2 t.dp)
  else if t.proto = 17 then (if get16 (put16 (put16 l 0 t.sp) 2 t.dp) 6 = 0 then put16 (put16 l 0 t.sp) 2 t.dp
    else if get16 (put16 (put16 (put16 l 0 t.sp) 2 t.dp) 6 (patK (get16 (put16 (put16 l 0 t.sp) 2 t.dp) 6) (wdsT u) (wdsT t) 6)) 6 = 0 then put16 (put16 (put16 (put16 l 0 t.sp) 2 t.dp) 6 (patK (get16 (put16 (put16 l 0 t.sp) 2 t.dp) 6) (wdsT u) (wdsT t) 6)) 6 65535
      else put16 (put16 (put16 l 0 t.sp) 2 t.dp) 6 (patK (get16 (put16 (put16 l 0 t.sp) 2 t.dp) 6) (wdsT u) (wdsT t) 6))
  else if t.proto = 1 then put16 (put16 l 4 t.sp) 2 (patK (get16 (put16 l 4 t.sp) 2) (six u.sp 0 0 0 0 0) (six t.sp 0 0 0 0 0) 6)
  else put16 l 6 t.dp
theorem bodyB_len (l : List UInt8) (u t : Tup) : (bodyB l u t).length = l.length := by
  unfold bodyB
  split
  · split <;> simp [put16_length]
  · split
    · split
      · simp [put16_length]
      · split <;> simp [put16_length]
    · split <;> simp [put16_length]
structure RowPost (w : World) (n : Nat) (L : List UInt8) (e : Ending) (w' : World) : Prop where
  out : ∃ A' c', e = .returned (.slice A' n c') ∧ Own w' w.heap.size 5 A' n c' L ∧ Below w.heap.size w w'
theorem wdsT_bd {t : Tup} (h : t.Ok) : ∀ i, i < 6 → 0 ≤ wdsT t i ∧ wdsT t i ≤ 65535 := by
  obtain ⟨-, h2, h3, h4, h5⟩ := h
  intro i hi
  have : i = 0 ∨ i = 1 ∨ i = 2 ∨ i = 3 ∨ i = 4 ∨ i = 5 := by omega
  rcases this with rfl | rfl | rfl | rfl | rfl | rfl
  · show 0 ≤ t.src / 65536 ∧ t.src / 65536 ≤ 65535; omega
  · show 0 ≤ t.src % 65536 ∧ t.src % 65536 ≤ 65535; omega
  · show 0 ≤ t.dst / 65536 ∧ t.dst / 65536 ≤ 65535; omega
  · show 0 ≤ t.dst % 65536 ∧ t.dst % 65536 ≤ 65535; omega
  · exact h4
  · exact h5
theorem six_bd {x : Int} (h : 0 ≤ x ∧ x ≤ 65535) : ∀ i, i < 6 → 0 ≤ six x 0 0 0 0 0 i ∧ six x 0 0 0 0 0 i ≤ 65535 := by
  intro i hi
  have : i = 0 ∨ i = 1 ∨ i = 2 ∨ i = 3 ∨ i = 4 ∨ i = 5 := by omega
  rcases this with rfl | rfl | rfl | rfl | rfl | rfl
  · exact h
  all_goals exact ⟨by show (0 : Int) ≤ 0; omega, by show (0 : Int) ≤ 65535; omega⟩
end Go.Proofs.Ytjhpmeagopdaiaa

namespace Go.Proofs.Ytjhpmeagopdaiaa
open Go.RowKit
set_option linter.unusedVariables false
set_option linter.unusedSimpArgs false
set_option linter.unusedSimpArgs false
set_option maxHeartbeats 8000000
set_option maxRecDepth 100000

theorem body_tcp (A : Option Addr) (n c : Nat) (l : List UInt8) (u t : Tup) (hu : u.Ok) (ht : t.Ok) (w : World) (k1 : Bs w A n c l) (hpr : t.proto = 6) : Calls Try.prog 37 #[.slice A n c, (.agg #[.int .u8 (u).proto, .int .u32 (u).src, .int .u32 (u).dst, .int .u16 (u).sp, .int .u16 (u).dp]), (.agg #[.int .u8 (t).proto, .int .u32 (t).src, .int .u32 (t).dst, .int .u16 (t).sp, .int .u16 (t).dp])] w (RowPost w n (bodyB l u t)) := by
  have hB : bodyB l u t = if 18 ≤ l.length then put16 (put16 (put16 l 0 t.sp) 2 t.dp) 16 (patK (get16 (put16 (put16 l 0 t.sp) 2 t.dp) 16) (wdsT u) (wdsT t) 6) else put16 (put16 l 0 t.sp) 2 t.dp := by unfold bodyB; rw [if_pos hpr]
  rw [hB]
  clear hB
  obtain ⟨p0, p1⟩ := ht.sp
  obtain ⟨q0, q1⟩ := ht.dp
  obtain ⟨L1, hL1⟩ : ∃ L, put16 (put16 l 0 t.sp) 2 t.dp = L := ⟨_, rfl⟩
  have hL1l : Hid (L1.length = n) := by unfold Hid; rw [← hL1, put16_length, put16_length, k1.len]
  rw [hL1, k1.len]
  have cu := fun W => tw_any u hu W
  have ct := fun W => tw_any t ht W
  have cr : ∀ A c W, Bs W A n c L1 → Calls Try.prog 65 #[.slice A n c, .int .i64 16, .agg #[.int .u16 (u.src / 65536), .int .u16 (u.src % 65536), .int .u16 (u.dst / 65536), .int .u16 (u.dst % 65536), .int .u16 (u.sp), .int .u16 (u.dp)], .agg #[.int .u16 (t.src / 65536), .int .u16 (t.src % 65536), .int .u16 (t.dst / 65536), .int .u16 (t.dst % 65536), .int .u16 (t.sp), .int .u16 (t.dp)]] W (RowPost W n (put16 L1 16 (patK (get16 L1 16) (wdsT u) (wdsT t) 6))) := fun A c W h => by
    refine (repair_any A n c L1 16 (wdsT u) (wdsT t) (wdsT_bd hu) (wdsT_bd ht) W h).mono fun e w' hq => ?_
    obtain ⟨A', c', rfl, h1, h2⟩ := hq
    exact ⟨A', c', rfl, h1, h2⟩
  obtain ⟨X, hX⟩ : ∃ X, put16 L1 16 (patK (get16 L1 16) (wdsT u) (wdsT t) 6) = X := ⟨_, rfl⟩
  rw [hX] at cr
  rw [hX]
  have hXl : Hid (X.length = n) := by unfold Hid; rw [← hX, put16_length]; exact hL1l.out
  obtain ⟨a0, ea0⟩ : ∃ x, u.src / 65536 = x := ⟨_, rfl⟩
  obtain ⟨a1, ea1⟩ : ∃ x, u.src % 65536 = x := ⟨_, rfl⟩
  obtain ⟨a2, ea2⟩ : ∃ x, u.dst / 65536 = x := ⟨_, rfl⟩
  obtain ⟨a3, ea3⟩ : ∃ x, u.dst % 65536 = x := ⟨_, rfl⟩
  obtain ⟨b0, eb0⟩ : ∃ x, t.src / 65536 = x := ⟨_, rfl⟩
  obtain ⟨b1, eb1⟩ : ∃ x, t.src % 65536 = x := ⟨_, rfl⟩
  obtain ⟨b2, eb2⟩ : ∃ x, t.dst / 65536 = x := ⟨_, rfl⟩
  obtain ⟨b3, eb3⟩ : ∃ x, t.dst % 65536 = x := ⟨_, rfl⟩
  simp only [ea0, ea1, ea2, ea3] at cu cr
  simp only [eb0, eb1, eb2, eb3] at ct cr
  clear ea0 ea1 ea2 ea3 eb0 eb1 eb2 eb3
  have hn17 : (t.proto == 17) = false := by rw [hpr]; rfl
  have y6 : (t.proto == 6) = true := by rw [hpr]; rfl
  clear hpr hX hu ht
  replace hL1 := Lib.hid hL1
  obtain ⟨k, hk⟩ : ∃ k : Nat, w.heap.size = k := ⟨_, rfl⟩
  obtain ⟨w1, hw1⟩ : ∃ W, ((w.alloc (.cells #[.int .u8 (u).proto, .int .u32 (u).src, .int .u32 (u).dst, .int .u16 (u).sp, .int .u16 (u).dp] 28)).alloc (.cells #[.int .u8 (t).proto, .int .u32 (t).src, .int .u32 (t).dst, .int .u16 (t).sp, .int .u16 (t).dp] 28)) = W := ⟨_, rfl⟩
  have P1 : Blk w1 k #[.int .u8 (u).proto, .int .u32 (u).src, .int .u32 (u).dst, .int .u16 (u).sp, .int .u16 (u).dp] 28 := by rw [← hw1]; exact ((blk_new _ _ _ k (by simp [hk])).alloc _)
  have O1 : Blk w1 (k + 1) #[.int .u8 (t).proto, .int .u32 (t).src, .int .u32 (t).dst, .int .u16 (t).sp, .int .u16 (t).dp] 28 := by rw [← hw1]; exact (blk_new _ _ _ (k + 1) (by simp [hk]))
  have R1 : Below w.heap.size w w1 := by rw [← hw1]; (repeat (first | with_reducible exact Below.refl _ _ | with_reducible refine below_drew ?_ | with_reducible refine below_drewN ?_ _ | with_reducible refine below_alloc ?_ (Nat.le_refl _) _ | with_reducible refine Below.setCell ?_ (by first | exact Nat.le_refl _ | (simp only []; omega)) _ | with_reducible assumption))
  have Pc1 := P1.cell
  have Oc1 := O1.cell
  have Pl1 := P1.lt
  have Ol1 := O1.lt
  have x1 := (k1).below R1
  by_cases h18 : 18 ≤ n
  · rw [if_pos h18]
    have h18' : (18 : Int) ≤ n := by omega
    clear h18
    go_enter Try.func37, Try.ntmps37
    go_wp2_with fail
    refine region_txt 7 (by kernel_rfl) (by kernel_rfl) ?_; (iterate 7 (first | (apply ObsK.skip (by rfl)) | (apply ObsK.v (by rfl); (intro wo hT; (repeat (first | (intro v hv; ((obtain ⟨A7, n7, c7, rfl, o7⟩ := hv))) | (intro _ _ k; try have hcv := cv k))); (have oc := (O1.below hT).cell; have xo := x1.below hT; have hsz : w1.heap.size ≤ wo.heap.size := hT.size); refine Goes.mk ?_; go_simp; first | exact goes_v | exact goes_b (by assumption) | (refine goes_enter ?_; first | (go_at_call 35; ((with_reducible refine (put16_any A n c l 0 t.sp p0 p1 wo xo).mono ?_); rintro e w5 ⟨A5, c5, rfl, ho5, hB5⟩); exact ret_p (own_isW ho5 hsz) hB5) | (go_at_call 35; ((with_reducible refine (put16_any A7 n7 c7 _ 2 t.dp q0 q1 wo o7.bs).mono ?_); rintro e w5 ⟨A5, c5, rfl, ho5, hB5⟩); exact ret_p (own_isW ho5 hsz) hB5)))) | (apply ObsK.b (by rfl); (intro wo hT; (repeat (first | (intro v hv; ((obtain ⟨A7, n7, c7, rfl, o7⟩ := hv))) | (intro _ _ k; try have hcv := cv k))); (have oc := (O1.below hT).cell; have xo := x1.below hT; have hsz : w1.heap.size ≤ wo.heap.size := hT.size); refine Goes.mk ?_; go_simp; first | exact goes_v | exact goes_b (by assumption) | (refine goes_enter ?_; first | (go_at_call 35; ((with_reducible refine (put16_any A n c l 0 t.sp p0 p1 wo xo).mono ?_); rintro e w5 ⟨A5, c5, rfl, ho5, hB5⟩); exact ret_p (own_isW ho5 hsz) hB5) | (go_at_call 35; ((with_reducible refine (put16_any A7 n7 c7 _ 2 t.dp q0 q1 wo o7.bs).mono ?_); rintro e w5 ⟨A5, c5, rfl, ho5, hB5⟩); exact ret_p (own_isW ho5 hsz) hB5)))) | (apply ObsK.p (q := isW w1.heap.size _) (by rfl) st_isW; (intro wo hT; (repeat (first | (intro v hv; ((obtain ⟨A7, n7, c7, rfl, o7⟩ := hv))) | (intro _ _ k; try have hcv := cv k))); (have oc := (O1.below hT).cell; have xo := x1.below hT; have hsz : w1.heap.size ≤ wo.heap.size := hT.size); refine Goes.mk ?_; go_simp; first | exact goes_v | exact goes_b (by assumption) | (refine goes_enter ?_; first | (go_at_call 35; ((with_reducible refine (put16_any A n c l 0 t.sp p0 p1 wo xo).mono ?_); rintro e w5 ⟨A5, c5, rfl, ho5, hB5⟩); exact ret_p (own_isW ho5 hsz) hB5) | (go_at_call 35; ((with_reducible refine (put16_any A7 n7 c7 _ 2 t.dp q0 q1 wo o7.bs).mono ?_); rintro e w5 ⟨A5, c5, rfl, ho5, hB5⟩); exact ret_p (own_isW ho5 hsz) hB5)))))); refine ObsK.nil ?_; intro wz hBz; simp only [finOn, List.drop_succ_cons, List.drop_zero, List.drop_nil]
    rintro _ ⟨A2, n2, c2, rfl, o2⟩ _ ⟨A3, n3, c3, rfl, -⟩
    go_simp
    rw [hL1.out] at o2
    have un : n2 = n := by rw [← o2.len]; exact hL1l.out
    subst un
    have P2 := P1.below hBz
    have Pc2 := P2.cell
    clear Pc1
    have O2 := O1.below hBz
    have Oc2 := O2.cell
    clear Oc1
    have x2 := x1.below hBz
    have R2 := below_then R1 hBz
    go_wp2_with fail
    refine region_txt 6 (by kernel_rfl) (by kernel_rfl) ?_; (iterate 6 (first | (apply ObsK.skip (by rfl)) | (apply ObsK.v (by rfl); (intro wo hT; (repeat (first | (intro v hv; (fail)) | (intro _ _ k; try have hcv := cv k))); (have oc := (O2.below hT).cell; have pc := (P2.below hT).cell; have bo := (o2.below hT).bs; have hsz : w1.heap.size ≤ wo.heap.size := Nat.le_trans hBz.size hT.size); refine Goes.mk ?_; go_simp; first | exact goes_v | exact goes_b (by assumption) | (refine goes_enter ?_; first | (go_at_call 66; ((with_reducible refine (cu wo).mono ?_); rintro e w5 ⟨rfl, hD5⟩); exact ret_v hD5) | (go_at_call 66; ((with_reducible refine (ct wo).mono ?_); rintro e w5 ⟨rfl, hD5⟩); exact ret_v hD5) | (go_at_call 65; ((with_reducible refine (cr A2 c2 wo bo).mono ?_); rintro e w5 ⟨⟨A5, c5, rfl, ho5, hB5⟩⟩); exact ret_p (own_isW ho5 hsz) hB5)))) | (apply ObsK.b (by rfl); (intro wo hT; (repeat (first | (intro v hv; (fail)) | (intro _ _ k; try have hcv := cv k))); (have oc := (O2.below hT).cell; have pc := (P2.below hT).cell; have bo := (o2.below hT).bs; have hsz : w1.heap.size ≤ wo.heap.size := Nat.le_trans hBz.size hT.size); refine Goes.mk ?_; go_simp; first | exact goes_v | exact goes_b (by assumption) | (refine goes_enter ?_; first | (go_at_call 66; ((with_reducible refine (cu wo).mono ?_); rintro e w5 ⟨rfl, hD5⟩); exact ret_v hD5) | (go_at_call 66; ((with_reducible refine (ct wo).mono ?_); rintro e w5 ⟨rfl, hD5⟩); exact ret_v hD5) | (go_at_call 65; ((with_reducible refine (cr A2 c2 wo bo).mono ?_); rintro e w5 ⟨⟨A5, c5, rfl, ho5, hB5⟩⟩); exact ret_p (own_isW ho5 hsz) hB5)))) | (apply ObsK.p (q := isW w1.heap.size X) (by rfl) st_isW; (intro wo hT; (repeat (first | (intro v hv; (fail)) | (intro _ _ k; try have hcv := cv k))); (have oc := (O2.below hT).cell; have pc := (P2.below hT).cell; have bo := (o2.below hT).bs; have hsz : w1.heap.size ≤ wo.heap.size := Nat.le_trans hBz.size hT.size); refine Goes.mk ?_; go_simp; first | exact goes_v | exact goes_b (by assumption) | (refine goes_enter ?_; first | (go_at_call 66; ((with_reducible refine (cu wo).mono ?_); rintro e w5 ⟨rfl, hD5⟩); exact ret_v hD5) | (go_at_call 66; ((with_reducible refine (ct wo).mono ?_); rintro e w5 ⟨rfl, hD5⟩); exact ret_v hD5) | (go_at_call 65; ((with_reducible refine (cr A2 c2 wo bo).mono ?_); rintro e w5 ⟨⟨A5, c5, rfl, ho5, hB5⟩⟩); exact ret_p (own_isW ho5 hsz) hB5)))))); refine ObsK.nil ?_; intro wz hBz; simp only [finOn, List.drop_succ_cons, List.drop_zero, List.drop_nil]
    rintro _ ⟨A3, n3, c3, rfl, o3⟩
    go_simp
    go_wp2_with fail
    go_ret
    have u3 : n3 = n2 := by rw [← o3.len]; exact hXl.out
    subst u3
    exact ⟨A3, c3, rfl, o3.mono R1.size, below_then R2 hBz⟩

  · rw [if_neg h18]
    have h18' : ¬ (18 : Int) ≤ n := by omega
    clear h18
    go_enter Try.func37, Try.ntmps37
    go_wp2_with fail
    refine region_txt 7 (by kernel_rfl) (by kernel_rfl) ?_; (iterate 7 (first | (apply ObsK.skip (by rfl)) | (apply ObsK.v (by rfl); (intro wo hT; (repeat (first | (intro v hv; ((obtain ⟨A7, n7, c7, rfl, o7⟩ := hv))) | (intro _ _ k; try have hcv := cv k))); (have oc := (O1.below hT).cell; have xo := x1.below hT; have hsz : w1.heap.size ≤ wo.heap.size := hT.size); refine Goes.mk ?_; go_simp; first | exact goes_v | exact goes_b (by assumption) | (refine goes_enter ?_; first | (go_at_call 35; ((with_reducible refine (put16_any A n c l 0 t.sp p0 p1 wo xo).mono ?_); rintro e w5 ⟨A5, c5, rfl, ho5, hB5⟩); exact ret_p (own_isW ho5 hsz) hB5) | (go_at_call 35; ((with_reducible refine (put16_any A7 n7 c7 _ 2 t.dp q0 q1 wo o7.bs).mono ?_); rintro e w5 ⟨A5, c5, rfl, ho5, hB5⟩); exact ret_p (own_isW ho5 hsz) hB5)))) | (apply ObsK.b (by rfl); (intro wo hT; (repeat (first | (intro v hv; ((obtain ⟨A7, n7, c7, rfl, o7⟩ := hv))) | (intro _ _ k; try have hcv := cv k))); (have oc := (O1.below hT).cell; have xo := x1.below hT; have hsz : w1.heap.size ≤ wo.heap.size := hT.size); refine Goes.mk ?_; go_simp; first | exact goes_v | exact goes_b (by assumption) | (refine goes_enter ?_; first | (go_at_call 35; ((with_reducible refine (put16_any A n c l 0 t.sp p0 p1 wo xo).mono ?_); rintro e w5 ⟨A5, c5, rfl, ho5, hB5⟩); exact ret_p (own_isW ho5 hsz) hB5) | (go_at_call 35; ((with_reducible refine (put16_any A7 n7 c7 _ 2 t.dp q0 q1 wo o7.bs).mono ?_); rintro e w5 ⟨A5, c5, rfl, ho5, hB5⟩); exact ret_p (own_isW ho5 hsz) hB5)))) | (apply ObsK.p (q := isW w1.heap.size _) (by rfl) st_isW; (intro wo hT; (repeat (first | (intro v hv; ((obtain ⟨A7, n7, c7, rfl, o7⟩ := hv))) | (intro _ _ k; try have hcv := cv k))); (have oc := (O1.below hT).cell; have xo := x1.below hT; have hsz : w1.heap.size ≤ wo.heap.size := hT.size); refine Goes.mk ?_; go_simp; first | exact goes_v | exact goes_b (by assumption) | (refine goes_enter ?_; first | (go_at_call 35; ((with_reducible refine (put16_any A n c l 0 t.sp p0 p1 wo xo).mono ?_); rintro e w5 ⟨A5, c5, rfl, ho5, hB5⟩); exact ret_p (own_isW ho5 hsz) hB5) | (go_at_call 35; ((with_reducible refine (put16_any A7 n7 c7 _ 2 t.dp q0 q1 wo o7.bs).mono ?_); rintro e w5 ⟨A5, c5, rfl, ho5, hB5⟩); exact ret_p (own_isW ho5 hsz) hB5)))))); refine ObsK.nil ?_; intro wz hBz; simp only [finOn, List.drop_succ_cons, List.drop_zero, List.drop_nil]
    rintro _ ⟨A2, n2, c2, rfl, o2⟩ _ ⟨A3, n3, c3, rfl, -⟩
    go_simp
    rw [hL1.out] at o2
    have un : n2 = n := by rw [← o2.len]; exact hL1l.out
    subst un
    have P2 := P1.below hBz
    have Pc2 := P2.cell
    clear Pc1
    have O2 := O1.below hBz
    have Oc2 := O2.cell
    clear Oc1
    have x2 := x1.below hBz
    have R2 := below_then R1 hBz
    go_wp2_with fail
    go_ret
    exact ⟨A2, c2, rfl, o2.mono R1.size, R2⟩

theorem body_udp (A : Option Addr) (n c : Nat) (l : List UInt8) (u t : Tup) (hu : u.Ok) (ht : t.Ok) (w : World) (k1 : Bs w A n c l) (hpr : t.proto = 17) : Calls Try.prog 37 #[.slice A n c, (.agg #[.int .u8 (u).proto, .int .u32 (u).src, .int .u32 (u).dst, .int .u16 (u).sp, .int .u16 (u).dp]), (.agg #[.int .u8 (t).proto, .int .u32 (t).src, .int .u32 (t).dst, .int .u16 (t).sp, .int .u16 (t).dp])] w (RowPost w n (bodyB l u t)) := by
  have hB : bodyB l u t = if get16 (put16 (put16 l 0 t.sp) 2 t.dp) 6 = 0 then put16 (put16 l 0 t.sp) 2 t.dp
    else if get16 (put16 (put16 (put16 l 0 t.sp) 2 t.dp) 6 (patK (get16 (put16 (put16 l 0 t.sp) 2 t.dp) 6) (wdsT u) (wdsT t) 6)) 6 = 0 then put16 (put16 (put16 (put16 l 0 t.sp) 2 t.dp) 6 (patK (get16 (put16 (put16 l 0 t.sp) 2 t.dp) 6) (wdsT u) (wdsT t) 6)) 6 65535
      else put16 (put16 (put16 l 0 t.sp) 2 t.dp) 6 (patK (get16 (put16 (put16 l 0 t.sp) 2 t.dp) 6) (wdsT u) (wdsT t) 6) := by unfold bodyB; rw [if_neg (by omega), if_pos hpr]
  rw [hB]
  clear hB
  obtain ⟨p0, p1⟩ := ht.sp
  obtain ⟨q0, q1⟩ := ht.dp
  obtain ⟨L1, hL1⟩ : ∃ L, put16 (put16 l 0 t.sp) 2 t.dp = L := ⟨_, rfl⟩
  have hL1l : Hid (L1.length = n) := by unfold Hid; rw [← hL1, put16_length, put16_length, k1.len]
  rw [hL1]
  have cu := fun W => tw_any u hu W
  have ct := fun W => tw_any t ht W
  have cr : ∀ A c W, Bs W A n c L1 → Calls Try.prog 65 #[.slice A n c, .int .i64 6, .agg #[.int .u16 (u.src / 65536), .int .u16 (u.src % 65536), .int .u16 (u.dst / 65536), .int .u16 (u.dst % 65536), .int .u16 (u.sp), .int .u16 (u.dp)], .agg #[.int .u16 (t.src / 65536), .int .u16 (t.src % 65536), .int .u16 (t.dst / 65536), .int .u16 (t.dst % 65536), .int .u16 (t.sp), .int .u16 (t.dp)]] W (RowPost W n (put16 L1 6 (patK (get16 L1 6) (wdsT u) (wdsT t) 6))) := fun A c W h => by
    refine (repair_any A n c L1 6 (wdsT u) (wdsT t) (wdsT_bd hu) (wdsT_bd ht) W h).mono fun e w' hq => ?_
    obtain ⟨A', c', rfl, h1, h2⟩ := hq
    exact ⟨A', c', rfl, h1, h2⟩
  obtain ⟨X, hX⟩ : ∃ X, put16 L1 6 (patK (get16 L1 6) (wdsT u) (wdsT t) 6) = X := ⟨_, rfl⟩
  rw [hX] at cr
  rw [hX]
  have hXl : Hid (X.length = n) := by unfold Hid; rw [← hX, put16_length]; exact hL1l.out
  obtain ⟨a0, ea0⟩ : ∃ x, u.src / 65536 = x := ⟨_, rfl⟩
  obtain ⟨a1, ea1⟩ : ∃ x, u.src % 65536 = x := ⟨_, rfl⟩
  obtain ⟨a2, ea2⟩ : ∃ x, u.dst / 65536 = x := ⟨_, rfl⟩
  obtain ⟨a3, ea3⟩ : ∃ x, u.dst % 65536 = x := ⟨_, rfl⟩
  obtain ⟨b0, eb0⟩ : ∃ x, t.src / 65536 = x := ⟨_, rfl⟩
  obtain ⟨b1, eb1⟩ : ∃ x, t.src % 65536 = x := ⟨_, rfl⟩
  obtain ⟨b2, eb2⟩ : ∃ x, t.dst / 65536 = x := ⟨_, rfl⟩
  obtain ⟨b3, eb3⟩ : ∃ x, t.dst % 65536 = x := ⟨_, rfl⟩
  simp only [ea0, ea1, ea2, ea3] at cu cr
  simp only [eb0, eb1, eb2, eb3] at ct cr
  clear ea0 ea1 ea2 ea3 eb0 eb1 eb2 eb3
  have hn6 : (t.proto == 6) = false := by rw [hpr]; rfl
  have y17 : (t.proto == 17) = true := by rw [hpr]; rfl
  clear hpr hX hu ht
  replace hL1 := Lib.hid hL1
  have cg := fun A c W h => get16_any A n c L1 6 W h
  have cx := fun A c W h => get16_any A n c X 6 W h
  have cf := fun A c W h => put16_any A n c X 6 65535 (by omega) (by omega) W h
  obtain ⟨g, hg⟩ : ∃ g, get16 L1 6 = g := ⟨_, rfl⟩
  obtain ⟨z, hz⟩ : ∃ g, get16 X 6 = g := ⟨_, rfl⟩
  rw [hg] at cg
  rw [hz] at cx
  rw [hg, hz]
  clear hg hz
  obtain ⟨k, hk⟩ : ∃ k : Nat, w.heap.size = k := ⟨_, rfl⟩
  obtain ⟨w1, hw1⟩ : ∃ W, ((w.alloc (.cells #[.int .u8 (u).proto, .int .u32 (u).src, .int .u32 (u).dst, .int .u16 (u).sp, .int .u16 (u).dp] 28)).alloc (.cells #[.int .u8 (t).proto, .int .u32 (t).src, .int .u32 (t).dst, .int .u16 (t).sp, .int .u16 (t).dp] 28)) = W := ⟨_, rfl⟩
  have P1 : Blk w1 k #[.int .u8 (u).proto, .int .u32 (u).src, .int .u32 (u).dst, .int .u16 (u).sp, .int .u16 (u).dp] 28 := by rw [← hw1]; exact ((blk_new _ _ _ k (by simp [hk])).alloc _)
  have O1 : Blk w1 (k + 1) #[.int .u8 (t).proto, .int .u32 (t).src, .int .u32 (t).dst, .int .u16 (t).sp, .int .u16 (t).dp] 28 := by rw [← hw1]; exact (blk_new _ _ _ (k + 1) (by simp [hk]))
  have R1 : Below w.heap.size w w1 := by rw [← hw1]; (repeat (first | with_reducible exact Below.refl _ _ | with_reducible refine below_drew ?_ | with_reducible refine below_drewN ?_ _ | with_reducible refine below_alloc ?_ (Nat.le_refl _) _ | with_reducible refine Below.setCell ?_ (by first | exact Nat.le_refl _ | (simp only []; omega)) _ | with_reducible assumption))
  have Pc1 := P1.cell
  have Oc1 := O1.cell
  have Pl1 := P1.lt
  have Ol1 := O1.lt
  have x1 := (k1).below R1
  by_cases hg0 : g = 0
  · subst hg0
    rw [if_pos rfl]
    go_enter Try.func37, Try.ntmps37
    go_wp2_with fail
    refine region_txt 7 (by kernel_rfl) (by kernel_rfl) ?_; (iterate 7 (first | (apply ObsK.skip (by rfl)) | (apply ObsK.v (by rfl); (intro wo hT; (repeat (first | (intro v hv; ((obtain ⟨A7, n7, c7, rfl, o7⟩ := hv))) | (intro _ _ k; try have hcv := cv k))); (have oc := (O1.below hT).cell; have xo := x1.below hT; have hsz : w1.heap.size ≤ wo.heap.size := hT.size); refine Goes.mk ?_; go_simp; first | exact goes_v | exact goes_b (by assumption) | (refine goes_enter ?_; first | (go_at_call 35; ((with_reducible refine (put16_any A n c l 0 t.sp p0 p1 wo xo).mono ?_); rintro e w5 ⟨A5, c5, rfl, ho5, hB5⟩); exact ret_p (own_isW ho5 hsz) hB5) | (go_at_call 35; ((with_reducible refine (put16_any A7 n7 c7 _ 2 t.dp q0 q1 wo o7.bs).mono ?_); rintro e w5 ⟨A5, c5, rfl, ho5, hB5⟩); exact ret_p (own_isW ho5 hsz) hB5)))) | (apply ObsK.b (by rfl); (intro wo hT; (repeat (first | (intro v hv; ((obtain ⟨A7, n7, c7, rfl, o7⟩ := hv))) | (intro _ _ k; try have hcv := cv k))); (have oc := (O1.below hT).cell; have xo := x1.below hT; have hsz : w1.heap.size ≤ wo.heap.size := hT.size); refine Goes.mk ?_; go_simp; first | exact goes_v | exact goes_b (by assumption) | (refine goes_enter ?_; first | (go_at_call 35; ((with_reducible refine (put16_any A n c l 0 t.sp p0 p1 wo xo).mono ?_); rintro e w5 ⟨A5, c5, rfl, ho5, hB5⟩); exact ret_p (own_isW ho5 hsz) hB5) | (go_at_call 35; ((with_reducible refine (put16_any A7 n7 c7 _ 2 t.dp q0 q1 wo o7.bs).mono ?_); rintro e w5 ⟨A5, c5, rfl, ho5, hB5⟩); exact ret_p (own_isW ho5 hsz) hB5)))) | (apply ObsK.p (q := isW w1.heap.size _) (by rfl) st_isW; (intro wo hT; (repeat (first | (intro v hv; ((obtain ⟨A7, n7, c7, rfl, o7⟩ := hv))) | (intro _ _ k; try have hcv := cv k))); (have oc := (O1.below hT).cell; have xo := x1.below hT; have hsz : w1.heap.size ≤ wo.heap.size := hT.size); refine Goes.mk ?_; go_simp; first | exact goes_v | exact goes_b (by assumption) | (refine goes_enter ?_; first | (go_at_call 35; ((with_reducible refine (put16_any A n c l 0 t.sp p0 p1 wo xo).mono ?_); rintro e w5 ⟨A5, c5, rfl, ho5, hB5⟩); exact ret_p (own_isW ho5 hsz) hB5) | (go_at_call 35; ((with_reducible refine (put16_any A7 n7 c7 _ 2 t.dp q0 q1 wo o7.bs).mono ?_); rintro e w5 ⟨A5, c5, rfl, ho5, hB5⟩); exact ret_p (own_isW ho5 hsz) hB5)))))); refine ObsK.nil ?_; intro wz hBz; simp only [finOn, List.drop_succ_cons, List.drop_zero, List.drop_nil]
    rintro _ ⟨A2, n2, c2, rfl, o2⟩ _ ⟨A3, n3, c3, rfl, -⟩
    go_simp
    rw [hL1.out] at o2
    have un : n2 = n := by rw [← o2.len]; exact hL1l.out
    subst un
    have P2 := P1.below hBz
    have Pc2 := P2.cell
    clear Pc1
    have O2 := O1.below hBz
    have Oc2 := O2.cell
    clear Oc1
    have x2 := x1.below hBz
    have R2 := below_then R1 hBz
    go_wp2_with (go_at_call 67; ((with_reducible refine (cg A2 c2 wz o2.bs).mono ?_); rintro e w3 ⟨rfl, hD3⟩); have hB3 := hD3.bel; have o3 := o2.below hB3; have R3 := below_then R2 hB3)
    go_ret
    exact ⟨A2, c2, rfl, o3.mono R1.size, R3⟩

  · rw [if_neg hg0]
    have hgb : (g != 0) = true := by simpa using hg0
    clear hg0
    by_cases hz0 : z = 0
    · subst hz0
      rw [if_pos rfl]
      go_enter Try.func37, Try.ntmps37
      go_wp2_with fail
      refine region_txt 7 (by kernel_rfl) (by kernel_rfl) ?_; (iterate 7 (first | (apply ObsK.skip (by rfl)) | (apply ObsK.v (by rfl); (intro wo hT; (repeat (first | (intro v hv; ((obtain ⟨A7, n7, c7, rfl, o7⟩ := hv))) | (intro _ _ k; try have hcv := cv k))); (have oc := (O1.below hT).cell; have xo := x1.below hT; have hsz : w1.heap.size ≤ wo.heap.size := hT.size); refine Goes.mk ?_; go_simp; first | exact goes_v | exact goes_b (by assumption) | (refine goes_enter ?_; first | (go_at_call 35; ((with_reducible refine (put16_any A n c l 0 t.sp p0 p1 wo xo).mono ?_); rintro e w5 ⟨A5, c5, rfl, ho5, hB5⟩); exact ret_p (own_isW ho5 hsz) hB5) | (go_at_call 35; ((with_reducible refine (put16_any A7 n7 c7 _ 2 t.dp q0 q1 wo o7.bs).mono ?_); rintro e w5 ⟨A5, c5, rfl, ho5, hB5⟩); exact ret_p (own_isW ho5 hsz) hB5)))) | (apply ObsK.b (by rfl); (intro wo hT; (repeat (first | (intro v hv; ((obtain ⟨A7, n7, c7, rfl, o7⟩ := hv))) | (intro _ _ k; try have hcv := cv k))); (have oc := (O1.below hT).cell; have xo := x1.below hT; have hsz : w1.heap.size ≤ wo.heap.size := hT.size); refine Goes.mk ?_; go_simp; first | exact goes_v | exact goes_b (by assumption) | (refine goes_enter ?_; first | (go_at_call 35; ((with_reducible refine (put16_any A n c l 0 t.sp p0 p1 wo xo).mono ?_); rintro e w5 ⟨A5, c5, rfl, ho5, hB5⟩); exact ret_p (own_isW ho5 hsz) hB5) | (go_at_call 35; ((with_reducible refine (put16_any A7 n7 c7 _ 2 t.dp q0 q1 wo o7.bs).mono ?_); rintro e w5 ⟨A5, c5, rfl, ho5, hB5⟩); exact ret_p (own_isW ho5 hsz) hB5)))) | (apply ObsK.p (q := isW w1.heap.size _) (by rfl) st_isW; (intro wo hT; (repeat (first | (intro v hv; ((obtain ⟨A7, n7, c7, rfl, o7⟩ := hv))) | (intro _ _ k; try have hcv := cv k))); (have oc := (O1.below hT).cell; have xo := x1.below hT; have hsz : w1.heap.size ≤ wo.heap.size := hT.size); refine Goes.mk ?_; go_simp; first | exact goes_v | exact goes_b (by assumption) | (refine goes_enter ?_; first | (go_at_call 35; ((with_reducible refine (put16_any A n c l 0 t.sp p0 p1 wo xo).mono ?_); rintro e w5 ⟨A5, c5, rfl, ho5, hB5⟩); exact ret_p (own_isW ho5 hsz) hB5) | (go_at_call 35; ((with_reducible refine (put16_any A7 n7 c7 _ 2 t.dp q0 q1 wo o7.bs).mono ?_); rintro e w5 ⟨A5, c5, rfl, ho5, hB5⟩); exact ret_p (own_isW ho5 hsz) hB5)))))); refine ObsK.nil ?_; intro wz hBz; simp only [finOn, List.drop_succ_cons, List.drop_zero, List.drop_nil]
      rintro _ ⟨A2, n2, c2, rfl, o2⟩ _ ⟨A3, n3, c3, rfl, -⟩
      go_simp
      rw [hL1.out] at o2
      have un : n2 = n := by rw [← o2.len]; exact hL1l.out
      subst un
      have P2 := P1.below hBz
      have Pc2 := P2.cell
      clear Pc1
      have O2 := O1.below hBz
      have Oc2 := O2.cell
      clear Oc1
      have x2 := x1.below hBz
      have R2 := below_then R1 hBz
      go_wp2_with (go_at_call 67; ((with_reducible refine (cg A2 c2 wz o2.bs).mono ?_); rintro e w3 ⟨rfl, hD3⟩); have hB3 := hD3.bel)
      have hsz3 := hB3.size
      have o2 := o2.below hB3
      have P2 := P2.below hB3
      have O2 := O2.below hB3
      have R2 := below_then R2 hB3
      have hBz := hBz.trans (hB3.mono hBz.size)
      refine region_txt 6 (by kernel_rfl) (by kernel_rfl) ?_; (iterate 6 (first | (apply ObsK.skip (by rfl)) | (apply ObsK.v (by rfl); (intro wo hT; (repeat (first | (intro v hv; (fail)) | (intro _ _ k; try have hcv := cv k))); (have oc := (O2.below hT).cell; have pc := (P2.below hT).cell; have bo := (o2.below hT).bs; have hsz : w1.heap.size ≤ wo.heap.size := Nat.le_trans hBz.size hT.size); refine Goes.mk ?_; go_simp; first | exact goes_v | exact goes_b (by assumption) | (refine goes_enter ?_; first | (go_at_call 66; ((with_reducible refine (cu wo).mono ?_); rintro e w5 ⟨rfl, hD5⟩); exact ret_v hD5) | (go_at_call 66; ((with_reducible refine (ct wo).mono ?_); rintro e w5 ⟨rfl, hD5⟩); exact ret_v hD5) | (go_at_call 65; ((with_reducible refine (cr A2 c2 wo bo).mono ?_); rintro e w5 ⟨⟨A5, c5, rfl, ho5, hB5⟩⟩); exact ret_p (own_isW ho5 hsz) hB5)))) | (apply ObsK.b (by rfl); (intro wo hT; (repeat (first | (intro v hv; (fail)) | (intro _ _ k; try have hcv := cv k))); (have oc := (O2.below hT).cell; have pc := (P2.below hT).cell; have bo := (o2.below hT).bs; have hsz : w1.heap.size ≤ wo.heap.size := Nat.le_trans hBz.size hT.size); refine Goes.mk ?_; go_simp; first | exact goes_v | exact goes_b (by assumption) | (refine goes_enter ?_; first | (go_at_call 66; ((with_reducible refine (cu wo).mono ?_); rintro e w5 ⟨rfl, hD5⟩); exact ret_v hD5) | (go_at_call 66; ((with_reducible refine (ct wo).mono ?_); rintro e w5 ⟨rfl, hD5⟩); exact ret_v hD5) | (go_at_call 65; ((with_reducible refine (cr A2 c2 wo bo).mono ?_); rintro e w5 ⟨⟨A5, c5, rfl, ho5, hB5⟩⟩); exact ret_p (own_isW ho5 hsz) hB5)))) | (apply ObsK.p (q := isW w1.heap.size X) (by rfl) st_isW; (intro wo hT; (repeat (first | (intro v hv; (fail)) | (intro _ _ k; try have hcv := cv k))); (have oc := (O2.below hT).cell; have pc := (P2.below hT).cell; have bo := (o2.below hT).bs; have hsz : w1.heap.size ≤ wo.heap.size := Nat.le_trans hBz.size hT.size); refine Goes.mk ?_; go_simp; first | exact goes_v | exact goes_b (by assumption) | (refine goes_enter ?_; first | (go_at_call 66; ((with_reducible refine (cu wo).mono ?_); rintro e w5 ⟨rfl, hD5⟩); exact ret_v hD5) | (go_at_call 66; ((with_reducible refine (ct wo).mono ?_); rintro e w5 ⟨rfl, hD5⟩); exact ret_v hD5) | (go_at_call 65; ((with_reducible refine (cr A2 c2 wo bo).mono ?_); rintro e w5 ⟨⟨A5, c5, rfl, ho5, hB5⟩⟩); exact ret_p (own_isW ho5 hsz) hB5)))))); refine ObsK.nil ?_; intro wz hBz; simp only [finOn, List.drop_succ_cons, List.drop_zero, List.drop_nil]
      rintro _ ⟨A3, n3, c3, rfl, o3⟩
      go_simp
      have u3 : n3 = n2 := by rw [← o3.len]; exact hXl.out
      subst u3
      have R4 := below_then R2 hBz
      go_wp2_with (first
        | (go_at_call 67; ((with_reducible refine (cx A3 c3 wz o3.bs).mono ?_); rintro e w5 ⟨rfl, hD5⟩); have hB5 := hD5.bel; have o5 := o3.below hB5; have R5 := below_then R4 hB5)
        | (go_at_call 35; ((with_reducible refine (cf A3 c3 w5 o5.bs).mono ?_); rintro e w6 ⟨A6, c6, rfl, o6, hB6⟩); have R6 := below_then R5 hB6))
      go_ret
      exact ⟨A6, c6, rfl, o6.mono R5.size, R6⟩

    · rw [if_neg hz0]
      have hzb : (z == 0) = false := by simpa using hz0
      clear hz0
      go_enter Try.func37, Try.ntmps37
      go_wp2_with fail
      refine region_txt 7 (by kernel_rfl) (by kernel_rfl) ?_; (iterate 7 (first | (apply ObsK.skip (by rfl)) | (apply ObsK.v (by rfl); (intro wo hT; (repeat (first | (intro v hv; ((obtain ⟨A7, n7, c7, rfl, o7⟩ := hv))) | (intro _ _ k; try have hcv := cv k))); (have oc := (O1.below hT).cell; have xo := x1.below hT; have hsz : w1.heap.size ≤ wo.heap.size := hT.size); refine Goes.mk ?_; go_simp; first | exact goes_v | exact goes_b (by assumption) | (refine goes_enter ?_; first | (go_at_call 35; ((with_reducible refine (put16_any A n c l 0 t.sp p0 p1 wo xo).mono ?_); rintro e w5 ⟨A5, c5, rfl, ho5, hB5⟩); exact ret_p (own_isW ho5 hsz) hB5) | (go_at_call 35; ((with_reducible refine (put16_any A7 n7 c7 _ 2 t.dp q0 q1 wo o7.bs).mono ?_); rintro e w5 ⟨A5, c5, rfl, ho5, hB5⟩); exact ret_p (own_isW ho5 hsz) hB5)))) | (apply ObsK.b (by rfl); (intro wo hT; (repeat (first | (intro v hv; ((obtain ⟨A7, n7, c7, rfl, o7⟩ := hv))) | (intro _ _ k; try have hcv := cv k))); (have oc := (O1.below hT).cell; have xo := x1.below hT; have hsz : w1.heap.size ≤ wo.heap.size := hT.size); refine Goes.mk ?_; go_simp; first | exact goes_v | exact goes_b (by assumption) | (refine goes_enter ?_; first | (go_at_call 35; ((with_reducible refine (put16_any A n c l 0 t.sp p0 p1 wo xo).mono ?_); rintro e w5 ⟨A5, c5, rfl, ho5, hB5⟩); exact ret_p (own_isW ho5 hsz) hB5) | (go_at_call 35; ((with_reducible refine (put16_any A7 n7 c7 _ 2 t.dp q0 q1 wo o7.bs).mono ?_); rintro e w5 ⟨A5, c5, rfl, ho5, hB5⟩); exact ret_p (own_isW ho5 hsz) hB5)))) | (apply ObsK.p (q := isW w1.heap.size _) (by rfl) st_isW; (intro wo hT; (repeat (first | (intro v hv; ((obtain ⟨A7, n7, c7, rfl, o7⟩ := hv))) | (intro _ _ k; try have hcv := cv k))); (have oc := (O1.below hT).cell; have xo := x1.below hT; have hsz : w1.heap.size ≤ wo.heap.size := hT.size); refine Goes.mk ?_; go_simp; first | exact goes_v | exact goes_b (by assumption) | (refine goes_enter ?_; first | (go_at_call 35; ((with_reducible refine (put16_any A n c l 0 t.sp p0 p1 wo xo).mono ?_); rintro e w5 ⟨A5, c5, rfl, ho5, hB5⟩); exact ret_p (own_isW ho5 hsz) hB5) | (go_at_call 35; ((with_reducible refine (put16_any A7 n7 c7 _ 2 t.dp q0 q1 wo o7.bs).mono ?_); rintro e w5 ⟨A5, c5, rfl, ho5, hB5⟩); exact ret_p (own_isW ho5 hsz) hB5)))))); refine ObsK.nil ?_; intro wz hBz; simp only [finOn, List.drop_succ_cons, List.drop_zero, List.drop_nil]
      rintro _ ⟨A2, n2, c2, rfl, o2⟩ _ ⟨A3, n3, c3, rfl, -⟩
      go_simp
      rw [hL1.out] at o2
      have un : n2 = n := by rw [← o2.len]; exact hL1l.out
      subst un
      have P2 := P1.below hBz
      have Pc2 := P2.cell
      clear Pc1
      have O2 := O1.below hBz
      have Oc2 := O2.cell
      clear Oc1
      have x2 := x1.below hBz
      have R2 := below_then R1 hBz
      go_wp2_with (go_at_call 67; ((with_reducible refine (cg A2 c2 wz o2.bs).mono ?_); rintro e w3 ⟨rfl, hD3⟩); have hB3 := hD3.bel)
      have hsz3 := hB3.size
      have o2 := o2.below hB3
      have P2 := P2.below hB3
      have O2 := O2.below hB3
      have R2 := below_then R2 hB3
      have hBz := hBz.trans (hB3.mono hBz.size)
      refine region_txt 6 (by kernel_rfl) (by kernel_rfl) ?_; (iterate 6 (first | (apply ObsK.skip (by rfl)) | (apply ObsK.v (by rfl); (intro wo hT; (repeat (first | (intro v hv; (fail)) | (intro _ _ k; try have hcv := cv k))); (have oc := (O2.below hT).cell; have pc := (P2.below hT).cell; have bo := (o2.below hT).bs; have hsz : w1.heap.size ≤ wo.heap.size := Nat.le_trans hBz.size hT.size); refine Goes.mk ?_; go_simp; first | exact goes_v | exact goes_b (by assumption) | (refine goes_enter ?_; first | (go_at_call 66; ((with_reducible refine (cu wo).mono ?_); rintro e w5 ⟨rfl, hD5⟩); exact ret_v hD5) | (go_at_call 66; ((with_reducible refine (ct wo).mono ?_); rintro e w5 ⟨rfl, hD5⟩); exact ret_v hD5) | (go_at_call 65; ((with_reducible refine (cr A2 c2 wo bo).mono ?_); rintro e w5 ⟨⟨A5, c5, rfl, ho5, hB5⟩⟩); exact ret_p (own_isW ho5 hsz) hB5)))) | (apply ObsK.b (by rfl); (intro wo hT; (repeat (first | (intro v hv; (fail)) | (intro _ _ k; try have hcv := cv k))); (have oc := (O2.below hT).cell; have pc := (P2.below hT).cell; have bo := (o2.below hT).bs; have hsz : w1.heap.size ≤ wo.heap.size := Nat.le_trans hBz.size hT.size); refine Goes.mk ?_; go_simp; first | exact goes_v | exact goes_b (by assumption) | (refine goes_enter ?_; first | (go_at_call 66; ((with_reducible refine (cu wo).mono ?_); rintro e w5 ⟨rfl, hD5⟩); exact ret_v hD5) | (go_at_call 66; ((with_reducible refine (ct wo).mono ?_); rintro e w5 ⟨rfl, hD5⟩); exact ret_v hD5) | (go_at_call 65; ((with_reducible refine (cr A2 c2 wo bo).mono ?_); rintro e w5 ⟨⟨A5, c5, rfl, ho5, hB5⟩⟩); exact ret_p (own_isW ho5 hsz) hB5)))) | (apply ObsK.p (q := isW w1.heap.size X) (by rfl) st_isW; (intro wo hT; (repeat (first | (intro v hv; (fail)) | (intro _ _ k; try have hcv := cv k))); (have oc := (O2.below hT).cell; have pc := (P2.below hT).cell; have bo := (o2.below hT).bs; have hsz : w1.heap.size ≤ wo.heap.size := Nat.le_trans hBz.size hT.size); refine Goes.mk ?_; go_simp; first | exact goes_v | exact goes_b (by assumption) | (refine goes_enter ?_; first | (go_at_call 66; ((with_reducible refine (cu wo).mono ?_); rintro e w5 ⟨rfl, hD5⟩); exact ret_v hD5) | (go_at_call 66; ((with_reducible refine (ct wo).mono ?_); rintro e w5 ⟨rfl, hD5⟩); exact ret_v hD5) | (go_at_call 65; ((with_reducible refine (cr A2 c2 wo bo).mono ?_); rintro e w5 ⟨⟨A5, c5, rfl, ho5, hB5⟩⟩); exact ret_p (own_isW ho5 hsz) hB5)))))); refine ObsK.nil ?_; intro wz hBz; simp only [finOn, List.drop_succ_cons, List.drop_zero, List.drop_nil]
      rintro _ ⟨A3, n3, c3, rfl, o3⟩
      go_simp
      have u3 : n3 = n2 := by rw [← o3.len]; exact hXl.out
      subst u3
      have R4 := below_then R2 hBz
      go_wp2_with (go_at_call 67; ((with_reducible refine (cx A3 c3 wz o3.bs).mono ?_); rintro e w5 ⟨rfl, hD5⟩); have hB5 := hD5.bel; have o5 := o3.below hB5; have R5 := below_then R4 hB5)
      go_ret
      exact ⟨A3, c3, rfl, o5.mono R1.size, R5⟩

theorem body_icmp (A : Option Addr) (n c : Nat) (l : List UInt8) (u t : Tup) (hu : u.Ok) (ht : t.Ok) (w : World) (k1 : Bs w A n c l) (hpr : t.proto = 1) : Calls Try.prog 37 #[.slice A n c, (.agg #[.int .u8 (u).proto, .int .u32 (u).src, .int .u32 (u).dst, .int .u16 (u).sp, .int .u16 (u).dp]), (.agg #[.int .u8 (t).proto, .int .u32 (t).src, .int .u32 (t).dst, .int .u16 (t).sp, .int .u16 (t).dp])] w (RowPost w n (bodyB l u t)) := by
  have hB : bodyB l u t = put16 (put16 l 4 t.sp) 2 (patK (get16 (put16 l 4 t.sp) 2) (six u.sp 0 0 0 0 0) (six t.sp 0 0 0 0 0) 6) := by unfold bodyB; rw [if_neg (by omega), if_neg (by omega), if_pos hpr]
  rw [hB]
  clear hB
  obtain ⟨p0, p1⟩ := ht.sp
  obtain ⟨L1, hL1⟩ : ∃ L, put16 l 4 t.sp = L := ⟨_, rfl⟩
  have hL1l : Hid (L1.length = n) := by unfold Hid; rw [← hL1, put16_length, k1.len]
  rw [hL1]
  have cr : ∀ A c W, Bs W A n c L1 → Calls Try.prog 65 #[.slice A n c, .int .i64 2, .agg #[.int .u16 u.sp, .int .u16 0, .int .u16 0, .int .u16 0, .int .u16 0, .int .u16 0], .agg #[.int .u16 t.sp, .int .u16 0, .int .u16 0, .int .u16 0, .int .u16 0, .int .u16 0]] W (RowPost W n (put16 L1 2 (patK (get16 L1 2) (six u.sp 0 0 0 0 0) (six t.sp 0 0 0 0 0) 6))) := fun A c W h => by
    refine (repair_any A n c L1 2 (six u.sp 0 0 0 0 0) (six t.sp 0 0 0 0 0) (six_bd hu.sp) (six_bd ht.sp) W h).mono fun e w' hq => ?_
    obtain ⟨A', c', rfl, h1, h2⟩ := hq
    exact ⟨A', c', rfl, h1, h2⟩
  obtain ⟨X, hX⟩ : ∃ X, put16 L1 2 (patK (get16 L1 2) (six u.sp 0 0 0 0 0) (six t.sp 0 0 0 0 0) 6) = X := ⟨_, rfl⟩
  rw [hX] at cr
  rw [hX]
  have hXl : Hid (X.length = n) := by unfold Hid; rw [← hX, put16_length]; exact hL1l.out
  have hn6 : (t.proto == 6) = false := by rw [hpr]; rfl
  have hn17 : (t.proto == 17) = false := by rw [hpr]; rfl
  have y1 : (t.proto == 1) = true := by rw [hpr]; rfl
  clear hpr hX hu ht
  replace hL1 := Lib.hid hL1
  obtain ⟨k, hk⟩ : ∃ k : Nat, w.heap.size = k := ⟨_, rfl⟩
  obtain ⟨w1, hw1⟩ : ∃ W, ((w.alloc (.cells #[.int .u8 (u).proto, .int .u32 (u).src, .int .u32 (u).dst, .int .u16 (u).sp, .int .u16 (u).dp] 28)).alloc (.cells #[.int .u8 (t).proto, .int .u32 (t).src, .int .u32 (t).dst, .int .u16 (t).sp, .int .u16 (t).dp] 28)) = W := ⟨_, rfl⟩
  have P1 : Blk w1 k #[.int .u8 (u).proto, .int .u32 (u).src, .int .u32 (u).dst, .int .u16 (u).sp, .int .u16 (u).dp] 28 := by rw [← hw1]; exact ((blk_new _ _ _ k (by simp [hk])).alloc _)
  have O1 : Blk w1 (k + 1) #[.int .u8 (t).proto, .int .u32 (t).src, .int .u32 (t).dst, .int .u16 (t).sp, .int .u16 (t).dp] 28 := by rw [← hw1]; exact (blk_new _ _ _ (k + 1) (by simp [hk]))
  have R1 : Below w.heap.size w w1 := by rw [← hw1]; (repeat (first | with_reducible exact Below.refl _ _ | with_reducible refine below_drew ?_ | with_reducible refine below_drewN ?_ _ | with_reducible refine below_alloc ?_ (Nat.le_refl _) _ | with_reducible refine Below.setCell ?_ (by first | exact Nat.le_refl _ | (simp only []; omega)) _ | with_reducible assumption))
  have Pc1 := P1.cell
  have Oc1 := O1.cell
  have Pl1 := P1.lt
  have Ol1 := O1.lt
  have x1 := (k1).below R1
  go_enter Try.func37, Try.ntmps37
  go_wp2_with fail
  refine region_txt 11 (by kernel_rfl) (by kernel_rfl) ?_; (iterate 11 (first | (apply ObsK.skip (by rfl)) | (apply ObsK.v (by rfl); (intro wo hT; (repeat (first | (intro v hv; ((obtain ⟨A7, n7, c7, rfl, o7⟩ := hv))) | (intro _ _ k; try have hcv := cv k))); (have oc := (O1.below hT).cell; have pc := (P1.below hT).cell; have xo := x1.below hT; have hsz : w1.heap.size ≤ wo.heap.size := hT.size); refine Goes.mk ?_; go_simp; first | exact goes_v | exact goes_b (by assumption) | (refine goes_enter ?_; first | (go_at_call 35; ((with_reducible refine (put16_any A n c l 4 t.sp p0 p1 wo xo).mono ?_); rintro e w5 ⟨A5, c5, rfl, ho5, hB5⟩); rw [hL1.out] at ho5; exact ret_p (own_isW ho5 hsz) hB5) | (have u7 : n7 = n := (by rw [← o7.len]; exact hL1l.out); subst u7; (go_at_call 65; ((with_reducible refine (cr A7 c7 wo o7.bs).mono ?_); rintro e w5 ⟨⟨A5, c5, rfl, ho5, hB5⟩⟩); exact ret_p (own_isW ho5 hsz) hB5))))) | (apply ObsK.b (by rfl); (intro wo hT; (repeat (first | (intro v hv; ((obtain ⟨A7, n7, c7, rfl, o7⟩ := hv))) | (intro _ _ k; try have hcv := cv k))); (have oc := (O1.below hT).cell; have pc := (P1.below hT).cell; have xo := x1.below hT; have hsz : w1.heap.size ≤ wo.heap.size := hT.size); refine Goes.mk ?_; go_simp; first | exact goes_v | exact goes_b (by assumption) | (refine goes_enter ?_; first | (go_at_call 35; ((with_reducible refine (put16_any A n c l 4 t.sp p0 p1 wo xo).mono ?_); rintro e w5 ⟨A5, c5, rfl, ho5, hB5⟩); rw [hL1.out] at ho5; exact ret_p (own_isW ho5 hsz) hB5) | (have u7 : n7 = n := (by rw [← o7.len]; exact hL1l.out); subst u7; (go_at_call 65; ((with_reducible refine (cr A7 c7 wo o7.bs).mono ?_); rintro e w5 ⟨⟨A5, c5, rfl, ho5, hB5⟩⟩); exact ret_p (own_isW ho5 hsz) hB5))))) | (apply ObsK.p (q := isW w1.heap.size _) (by rfl) st_isW; (intro wo hT; (repeat (first | (intro v hv; ((obtain ⟨A7, n7, c7, rfl, o7⟩ := hv))) | (intro _ _ k; try have hcv := cv k))); (have oc := (O1.below hT).cell; have pc := (P1.below hT).cell; have xo := x1.below hT; have hsz : w1.heap.size ≤ wo.heap.size := hT.size); refine Goes.mk ?_; go_simp; first | exact goes_v | exact goes_b (by assumption) | (refine goes_enter ?_; first | (go_at_call 35; ((with_reducible refine (put16_any A n c l 4 t.sp p0 p1 wo xo).mono ?_); rintro e w5 ⟨A5, c5, rfl, ho5, hB5⟩); rw [hL1.out] at ho5; exact ret_p (own_isW ho5 hsz) hB5) | (have u7 : n7 = n := (by rw [← o7.len]; exact hL1l.out); subst u7; (go_at_call 65; ((with_reducible refine (cr A7 c7 wo o7.bs).mono ?_); rintro e w5 ⟨⟨A5, c5, rfl, ho5, hB5⟩⟩); exact ret_p (own_isW ho5 hsz) hB5))))))); refine ObsK.nil ?_; intro wz hBz; simp only [finOn, List.drop_succ_cons, List.drop_zero, List.drop_nil]
  rintro _ ⟨A2, n2, c2, rfl, o2⟩ _ ⟨A3, n3, c3, rfl, -⟩
  go_simp
  go_wp2_with fail
  go_ret
  have u3 : n2 = n := by rw [← o2.len]; exact hXl.out
  subst u3
  exact ⟨A2, c2, rfl, o2.mono R1.size, below_then R1 hBz⟩

theorem body_gre (A : Option Addr) (n c : Nat) (l : List UInt8) (u t : Tup) (hu : u.Ok) (ht : t.Ok) (w : World) (k1 : Bs w A n c l) (h6 : t.proto ≠ 6) (h17 : t.proto ≠ 17) (h1 : t.proto ≠ 1) : Calls Try.prog 37 #[.slice A n c, (.agg #[.int .u8 (u).proto, .int .u32 (u).src, .int .u32 (u).dst, .int .u16 (u).sp, .int .u16 (u).dp]), (.agg #[.int .u8 (t).proto, .int .u32 (t).src, .int .u32 (t).dst, .int .u16 (t).sp, .int .u16 (t).dp])] w (RowPost w n (bodyB l u t)) := by
  have hB : bodyB l u t = put16 l 6 t.dp := by unfold bodyB; rw [if_neg h6, if_neg h17, if_neg h1]
  rw [hB]
  obtain ⟨q0, q1⟩ := ht.dp
  have hn6 : (t.proto == 6) = false := by simpa using h6
  have hn17 : (t.proto == 17) = false := by simpa using h17
  have hn1 : (t.proto == 1) = false := by simpa using h1
  have cp := fun W h => put16_any A n c l 6 t.dp q0 q1 W h
  clear hB h6 h17 h1 hu ht
  obtain ⟨k, hk⟩ : ∃ k : Nat, w.heap.size = k := ⟨_, rfl⟩
  obtain ⟨w1, hw1⟩ : ∃ W, ((w.alloc (.cells #[.int .u8 (u).proto, .int .u32 (u).src, .int .u32 (u).dst, .int .u16 (u).sp, .int .u16 (u).dp] 28)).alloc (.cells #[.int .u8 (t).proto, .int .u32 (t).src, .int .u32 (t).dst, .int .u16 (t).sp, .int .u16 (t).dp] 28)) = W := ⟨_, rfl⟩
  have P1 : Blk w1 k #[.int .u8 (u).proto, .int .u32 (u).src, .int .u32 (u).dst, .int .u16 (u).sp, .int .u16 (u).dp] 28 := by rw [← hw1]; exact ((blk_new _ _ _ k (by simp [hk])).alloc _)
  have O1 : Blk w1 (k + 1) #[.int .u8 (t).proto, .int .u32 (t).src, .int .u32 (t).dst, .int .u16 (t).sp, .int .u16 (t).dp] 28 := by rw [← hw1]; exact (blk_new _ _ _ (k + 1) (by simp [hk]))
  have R1 : Below w.heap.size w w1 := by rw [← hw1]; (repeat (first | with_reducible exact Below.refl _ _ | with_reducible refine below_drew ?_ | with_reducible refine below_drewN ?_ _ | with_reducible refine below_alloc ?_ (Nat.le_refl _) _ | with_reducible refine Below.setCell ?_ (by first | exact Nat.le_refl _ | (simp only []; omega)) _ | with_reducible assumption))
  have Pc1 := P1.cell
  have Oc1 := O1.cell
  have Pl1 := P1.lt
  have Ol1 := O1.lt
  have x1 := (k1).below R1
  go_enter Try.func37, Try.ntmps37
  go_wp2_with (go_at_call 35; ((with_reducible refine (cp w1 x1).mono ?_); rintro e w5 ⟨A5, c5, rfl, ho5, hB5⟩))
  go_ret
  exact ⟨A5, c5, rfl, ho5.mono R1.size, below_then R1 hB5⟩

theorem body_any (A : Option Addr) (n c : Nat) (l : List UInt8) (u t : Tup) (hu : u.Ok) (ht : t.Ok) (w : World) (k1 : Bs w A n c l) : Calls Try.prog 37 #[.slice A n c, (.agg #[.int .u8 (u).proto, .int .u32 (u).src, .int .u32 (u).dst, .int .u16 (u).sp, .int .u16 (u).dp]), (.agg #[.int .u8 (t).proto, .int .u32 (t).src, .int .u32 (t).dst, .int .u16 (t).sp, .int .u16 (t).dp])] w (RowPost w n (bodyB l u t)) := by
  by_cases h6 : t.proto = 6
  · exact body_tcp A n c l u t hu ht w k1 h6
  by_cases h17 : t.proto = 17
  · exact body_udp A n c l u t hu ht w k1 h17
  by_cases h1 : t.proto = 1
  · exact body_icmp A n c l u t hu ht w k1 h1
  exact body_gre A n c l u t hu ht w k1 h6 h17 h1
end Go.Proofs.Ytjhpmeagopdaiaa

namespace Go.Proofs.Ytjhpmeagopdaiaa
open Go.RowKit
set_option linter.unusedVariables false
set_option linter.unusedSimpArgs false
set_option maxHeartbeats 4000000

def fault (e : Int) : Value := .iface 133 (.agg #[.int .i64 e])
theorem may_yes (e : Int) (w : World) : Calls Try.prog 109 #[.bool true, .int .i64 e] w fun r w' => r = .returned (.tuple #[]) ∧ w = w' := by
  go_enter Try.func109, Try.ntmps109
  go_wp2
  go_end0
  exact ⟨rfl, rfl⟩
theorem may_no (e : Int) (w : World) : Calls Try.prog 109 #[.bool false, .int .i64 e] w fun r w' => r = .panicked [{ v := fault e, recovered := false }] ∧ w = w' := by
  go_enter Try.func109, Try.ntmps109
  go_wp2
  exact ⟨rfl, rfl, rfl⟩
structure LenPost (w0 : World) (k r : Nat) (cs : Array Value) (tr : TypeId) (A : Option Addr) (n c : Nat) (l : List UInt8) (q : Bool) (e : Ending) (w' : World) : Prop where
  bel : Below w0.heap.size w0 w'
  ok : lenE q l = 0 → e = .returned (.tuple #[]) ∧ Blk w' k #[.int .i64 (hdOf l), .int .i64 (alOf l), .slice A n c] 138 ∧ Blk w' r cs tr
  no : lenE q l ≠ 0 → e = .panicked [{ v := fault (lenE q l), recovered := false }]
theorem lenPost_no {w0 : World} {k r : Nat} {cs : Array Value} {tr : TypeId} {A : Option Addr} {n c : Nat} {l : List UInt8} {q : Bool} {w' : World} (x : Int) (hE : lenE q l = x) (hx : x ≠ 0) (hB : Below w0.heap.size w0 w') :
    LenPost w0 k r cs tr A n c l q (.panicked [{ v := fault x, recovered := false }]) w' := ⟨hB, fun h => absurd (hE.symm.trans h) hx, fun _ => by rw [hE]⟩
theorem lengths_any (w0 : World) (k : Nat) (A : Option Addr) (n c : Nat) (l : List UInt8) (q : Bool) (w : World) (hb : Bs w0 A n c l) (T : Below w0.heap.size w0 w) (hk : w0.heap.size ≤ k) (K : Blk w k #[.int .i64 0, .int .i64 0, .slice A n c] 138) (r : Nat) (cs : Array Value) (tr : TypeId) (hr : r ≠ k) (R : Blk w r cs tr) :
    Calls Try.prog 108 #[.pointer (some ⟨k, 0, none⟩), .bool q] w (LenPost w0 k r cs tr A n c l q) := by
  have hlen := hb.len
  have hmax := hb.max
  have kc := K.cell
  go_enter Try.func108, Try.ntmps108
  go_wp2_with fail
  by_cases h1 : (20 : Int) ≤ n
  · rw [decide_eq_true h1]
    obtain ⟨b, off, rfl, hc⟩ := (hb.below T).rd (by omega)
    have c0 := hc 0 (by omega)
    rw [Nat.add_zero] at c0
    have b0 := bt_lo l 0
    have b0' := bt_hi l 0
    have hand := and_u8_15 b0 b0'
    have hn0 : (0 : Int) < n := by omega
    clear hc
    refine (may_yes _ _).mono ?_
    rintro e w' ⟨rfl, rfl⟩
    go_wp2_with fail
    by_cases h2 : bt l 0 / 16 = 4
    · rw [show (bt l 0 / 16 == 4) = true from by simpa using h2]
      refine (may_yes _ _).mono ?_
      rintro e w' ⟨rfl, rfl⟩
      have K1 : Blk (w.setCell ⟨k, 0, none⟩ (.int .i64 (4 * (bt l 0 % 16)))) k #[.int .i64 (4 * (bt l 0 % 16)), .int .i64 0, .slice (some ⟨b, off, none⟩) n c] 138 := K.set_ 0 _
      have T1 := T.setCell (p := ⟨k, 0, none⟩) hk (.int .i64 (4 * (bt l 0 % 16)))
      have R1 := R.far ⟨k, 0, none⟩ (Ne.symm hr) (.int .i64 (4 * (bt l 0 % 16)))
      have kc1 := K1.cell
      go_wp2_with fail
      clear kc hand c0
      obtain ⟨w1, hw1⟩ : ∃ w1, w.setCell ⟨k, 0, none⟩ (.int .i64 (4 * (bt l 0 % 16))) = w1 := ⟨_, rfl⟩
      rw [hw1] at K1 T1 kc1 R1 ⊢
      clear hw1 T K R
      obtain ⟨h, hh⟩ : ∃ h, hdOf l = h := ⟨_, rfl⟩
      have hh' : 4 * (bt l 0 % 16) = h := hh
      rw [hh'] at K1 kc1 ⊢
      have h0 : 0 ≤ h := by omega
      have h60 : h ≤ 60 := by omega
      by_cases h3 : (20 : Int) ≤ h
      · rw [decide_eq_true h3]
        refine (may_yes _ _).mono ?_
        rintro e w' ⟨rfl, rfl⟩
        go_wp2_with fail
        refine region_txt 11 (by kernel_rfl) (by kernel_rfl) ?_; (iterate 11 (first | (apply ObsK.skip (by rfl)) | (apply ObsK.v (by rfl); (intro wo hT; (repeat (first | (intro _ _ k; try have hcv := cv k))); (have kc2 := (K1.below hT).cell); refine Goes.mk ?_; go_simp; first | exact goes_v | exact goes_b (by assumption) | (refine goes_enter ?_; first | fail))) | (apply ObsK.b (by rfl); (intro wo hT; (repeat (first | (intro _ _ k; try have hcv := cv k))); (have kc2 := (K1.below hT).cell); refine Goes.mk ?_; go_simp; first | exact goes_v | exact goes_b (by assumption) | (refine goes_enter ?_; first | fail))))); refine ObsK.nil ?_; intro wz hBz; simp only [finOn, List.drop_succ_cons, List.drop_zero, List.drop_nil]
        go_simp
        have K2 := K1.below hBz
        have T2 := below_then T1 hBz
        have R2 := R1.below hBz
        clear kc1 K1 hBz T1 R1
        go_wp2_with fail
        obtain ⟨g, hg⟩ : ∃ g, get16 l 2 = g := ⟨_, rfl⟩
        have g0 : 0 ≤ g := by rw [← hg]; exact get16_lo l 2
        have g1 : g ≤ 65535 := by rw [← hg]; exact get16_hi l 2
        by_cases h4 : h ≤ (n : Int)
        · rw [decide_eq_true h4]
          refine (may_yes _ _).mono ?_
          rintro e w' ⟨rfl, rfl⟩
          have kd2 := K2.cell
          go_wp2_with (go_at_call 67; ((with_reducible refine (get16_any (some ⟨b, off, none⟩) n c l 2 wz (hb.below T2)).mono ?_); rintro e w3 ⟨rfl, hD⟩); have K3 := K2.below hD.bel; have T3 := below_then T2 hD.bel; have kc3 := K3.cell)
          have K4 : Blk (w3.setCell ⟨k, 1, none⟩ (.int .i64 g)) k #[.int .i64 h, .int .i64 g, .slice (some ⟨b, off, none⟩) n c] 138 := K3.set_ 1 _
          have T4 := T3.setCell (p := ⟨k, 1, none⟩) hk (.int .i64 g)
          have R4 := (R2.below hD.bel).far ⟨k, 1, none⟩ (Ne.symm hr) (.int .i64 g)
          clear kc3 kd2 R2
          obtain ⟨w4, hw4⟩ : ∃ w4, w3.setCell ⟨k, 1, none⟩ (.int .i64 g) = w4 := ⟨_, rfl⟩
          rw [hw4] at K4 T4 R4 ⊢
          clear hw4 K2 T2 K3 T3 hD
          refine region_txt 11 (by kernel_rfl) (by kernel_rfl) ?_; (iterate 11 (first | (apply ObsK.skip (by rfl)) | (apply ObsK.v (by rfl); (intro wo hT; (repeat (first | (intro _ _ k; try have hcv := cv k))); (have kc2 := (K4.below hT).cell); refine Goes.mk ?_; go_simp; first | exact goes_v | exact goes_b (by assumption) | (refine goes_enter ?_; first | fail))) | (apply ObsK.b (by rfl); (intro wo hT; (repeat (first | (intro _ _ k; try have hcv := cv k))); (have kc2 := (K4.below hT).cell); refine Goes.mk ?_; go_simp; first | exact goes_v | exact goes_b (by assumption) | (refine goes_enter ?_; first | fail))))); refine ObsK.nil ?_; intro wz hBz; simp only [finOn, List.drop_succ_cons, List.drop_zero, List.drop_nil]
          go_simp
          have K5 := K4.below hBz
          have T5 := below_then T4 hBz
          have R5 := R4.below hBz
          clear K4 hBz T4 R4
          go_wp2_with fail
          by_cases h5 : h ≤ g
          · rw [decide_eq_true h5]
            refine (may_yes _ _).mono ?_
            rintro e w' ⟨rfl, rfl⟩
            go_wp2_with fail
            by_cases h6 : q = false ∧ (n : Int) < g
            · obtain ⟨rfl, h6⟩ := h6
              have h6' : ¬ g ≤ (n : Int) := by omega
              refine region_txt 14 (by kernel_rfl) (by kernel_rfl) ?_; (iterate 14 (first | (apply ObsK.skip (by rfl)) | (apply ObsK.v (by rfl); (intro wo hT; (repeat (first | (intro _ _ k; try have hcv := cv k))); (have kc2 := (K5.below hT).cell); refine Goes.mk ?_; go_simp; first | exact goes_v | exact goes_b (by assumption) | (refine goes_enter ?_; first | fail))) | (apply ObsK.b (by rfl); (intro wo hT; (repeat (first | (intro _ _ k; try have hcv := cv k))); (have kc2 := (K5.below hT).cell); refine Goes.mk ?_; go_simp; first | exact goes_v | exact goes_b (by assumption) | (refine goes_enter ?_; first | fail))))); refine ObsK.nil ?_; intro wz hBz; simp only [finOn, List.drop_succ_cons, List.drop_zero, List.drop_nil]
              go_simp
              have T6 := below_then T5 hBz
              go_wp2_with fail
              refine (may_no _ _).mono ?_
              rintro e w' ⟨rfl, rfl⟩
              exact ⟨rfl, lenPost_no 3 (by unfold lenE; rw [hh, hg, if_neg (by omega), if_neg (by omega), if_neg (by omega), if_neg (by omega), if_neg (by omega), if_pos ⟨rfl, by omega⟩]) (by omega) T6⟩
            · have hE : lenE q l = 0 := by
                unfold lenE
                rw [hh, hg, if_neg (by omega), if_neg (by omega), if_neg (by omega), if_neg (by omega), if_neg (by omega), if_neg (by rw [hlen]; exact h6)]
              have HE := Lib.hid hE
              clear hE
              have hal : Hid (alOf l = if (n : Int) < g then (n : Int) else g) := by unfold Hid alOf; rw [hg, hlen]
              cases q with
              | true =>
                clear h6
                refine region_txt 14 (by kernel_rfl) (by kernel_rfl) ?_; (iterate 14 (first | (apply ObsK.skip (by rfl)) | (apply ObsK.v (by rfl); (intro wo hT; (repeat (first | (intro _ _ k; try have hcv := cv k))); (have kc2 := (K5.below hT).cell); refine Goes.mk ?_; go_simp; first | exact goes_v | exact goes_b (by assumption) | (refine goes_enter ?_; first | fail))) | (apply ObsK.b (by rfl); (intro wo hT; (repeat (first | (intro _ _ k; try have hcv := cv k))); (have kc2 := (K5.below hT).cell); refine Goes.mk ?_; go_simp; first | exact goes_v | exact goes_b (by assumption) | (refine goes_enter ?_; first | fail))))); refine ObsK.nil ?_; intro wz hBz; simp only [finOn, List.drop_succ_cons, List.drop_zero, List.drop_nil]
                go_simp
                have K6 := K5.below hBz
                have T6 := below_then T5 hBz
                have R6 := R5.below hBz
                clear K5 T5 hBz R5
                go_wp2_with fail
                refine (may_yes _ _).mono ?_
                rintro e w' ⟨rfl, rfl⟩
                go_wp2_with fail
                obtain ⟨m, hm⟩ : ∃ m : Int, (if (n : Int) < g then (n : Int) else g) = m := ⟨_, rfl⟩
                have hmin : ∀ W : World, (Builtin.min_ #[3, 3] 3 #[.int .i64 g, .int .i64 n]).run Try.prog W = .ok (.int .i64 m) W := fun W => by rw [← hm]; rfl
                have HM : Hid (alOf l = m) := hal.out.trans hm
                clear hm hal
                refine region_txt 15 (by kernel_rfl) (by kernel_rfl) ?_; (iterate 15 (first | (apply ObsK.skip (by rfl)) | (apply ObsK.v (by rfl); (intro wo hT; (repeat (first | (intro _ _ k; try have hcv := cv k))); (have kc2 := (K6.below hT).cell); refine Goes.mk ?_; go_simp; first | exact goes_v | exact goes_b (by assumption) | (refine goes_enter ?_; first | fail))) | (apply ObsK.b (by rfl); (intro wo hT; (repeat (first | (intro _ _ k; try have hcv := cv k))); (have kc2 := (K6.below hT).cell); refine Goes.mk ?_; go_simp; first | exact goes_v | exact goes_b (by assumption) | (refine goes_enter ?_; first | fail))))); refine ObsK.nil ?_; intro wz hBz; simp only [finOn, List.drop_succ_cons, List.drop_zero, List.drop_nil]
                go_simp
                have K7 := K6.below hBz
                have T7 := below_then T6 hBz
                have R7 := R6.below hBz
                have kc7 := K7.cell
                clear K6 T6 hBz R6
                go_wp2_with fail
                go_end0
                refine ⟨T7.setCell (p := ⟨k, 1, none⟩) hk _, fun _ => ⟨rfl, ?_, R7.far ⟨k, 1, none⟩ (Ne.symm hr) _⟩, fun hx => absurd HE.out hx⟩
                rw [hh, HM.out]
                exact K7.set_ 1 _
              | false =>
                have h7 : g ≤ (n : Int) := by
                  rcases Int.lt_or_le (n : Int) g with hx | hx
                  · exact absurd ⟨rfl, hx⟩ h6
                  · exact hx
                clear h6
                refine region_txt 14 (by kernel_rfl) (by kernel_rfl) ?_; (iterate 14 (first | (apply ObsK.skip (by rfl)) | (apply ObsK.v (by rfl); (intro wo hT; (repeat (first | (intro _ _ k; try have hcv := cv k))); (have kc2 := (K5.below hT).cell); refine Goes.mk ?_; go_simp; first | exact goes_v | exact goes_b (by assumption) | (refine goes_enter ?_; first | fail))) | (apply ObsK.b (by rfl); (intro wo hT; (repeat (first | (intro _ _ k; try have hcv := cv k))); (have kc2 := (K5.below hT).cell); refine Goes.mk ?_; go_simp; first | exact goes_v | exact goes_b (by assumption) | (refine goes_enter ?_; first | fail))))); refine ObsK.nil ?_; intro wz hBz; simp only [finOn, List.drop_succ_cons, List.drop_zero, List.drop_nil]
                go_simp
                have K6 := K5.below hBz
                have T6 := below_then T5 hBz
                have R6 := R5.below hBz
                clear K5 T5 hBz R5
                go_wp2_with fail
                refine (may_yes _ _).mono ?_
                rintro e w' ⟨rfl, rfl⟩
                go_wp2_with fail
                obtain ⟨m, hm⟩ : ∃ m : Int, (if (n : Int) < g then (n : Int) else g) = m := ⟨_, rfl⟩
                have hmin : ∀ W : World, (Builtin.min_ #[3, 3] 3 #[.int .i64 g, .int .i64 n]).run Try.prog W = .ok (.int .i64 m) W := fun W => by rw [← hm]; rfl
                have HM : Hid (alOf l = m) := hal.out.trans hm
                clear hm hal
                refine region_txt 15 (by kernel_rfl) (by kernel_rfl) ?_; (iterate 15 (first | (apply ObsK.skip (by rfl)) | (apply ObsK.v (by rfl); (intro wo hT; (repeat (first | (intro _ _ k; try have hcv := cv k))); (have kc2 := (K6.below hT).cell); refine Goes.mk ?_; go_simp; first | exact goes_v | exact goes_b (by assumption) | (refine goes_enter ?_; first | fail))) | (apply ObsK.b (by rfl); (intro wo hT; (repeat (first | (intro _ _ k; try have hcv := cv k))); (have kc2 := (K6.below hT).cell); refine Goes.mk ?_; go_simp; first | exact goes_v | exact goes_b (by assumption) | (refine goes_enter ?_; first | fail))))); refine ObsK.nil ?_; intro wz hBz; simp only [finOn, List.drop_succ_cons, List.drop_zero, List.drop_nil]
                go_simp
                have K7 := K6.below hBz
                have T7 := below_then T6 hBz
                have R7 := R6.below hBz
                have kc7 := K7.cell
                clear K6 T6 hBz R6
                go_wp2_with fail
                go_end0
                refine ⟨T7.setCell (p := ⟨k, 1, none⟩) hk _, fun _ => ⟨rfl, ?_, R7.far ⟨k, 1, none⟩ (Ne.symm hr) _⟩, fun hx => absurd HE.out hx⟩
                rw [hh, HM.out]
                exact K7.set_ 1 _
          · rw [decide_eq_false h5]
            refine (may_no _ _).mono ?_
            rintro e w' ⟨rfl, rfl⟩
            exact ⟨rfl, lenPost_no 4 (by unfold lenE; rw [hh, hg, if_neg (by omega), if_neg (by omega), if_neg (by omega), if_neg (by omega), if_pos (by omega)]) (by omega) T5⟩
        · rw [decide_eq_false h4]
          refine (may_no _ _).mono ?_
          rintro e w' ⟨rfl, rfl⟩
          exact ⟨rfl, lenPost_no 3 (by unfold lenE; rw [hh, if_neg (by omega), if_neg (by omega), if_neg (by omega), if_pos (by omega)]) (by omega) T2⟩
      · rw [decide_eq_false h3]
        refine (may_no _ _).mono ?_
        rintro e w' ⟨rfl, rfl⟩
        exact ⟨rfl, lenPost_no 4 (by unfold lenE; rw [hh, if_neg (by omega), if_neg (by omega), if_pos (by omega)]) (by omega) T1⟩
    · rw [show (bt l 0 / 16 == 4) = false from by simpa using h2]
      refine (may_no _ _).mono ?_
      rintro e w' ⟨rfl, rfl⟩
      exact ⟨rfl, lenPost_no 6 (by unfold lenE; rw [if_neg (by omega), if_pos h2]) (by omega) T⟩
  · rw [decide_eq_false h1]
    refine (may_no _ _).mono ?_
    rintro e w' ⟨rfl, rfl⟩
    exact ⟨rfl, lenPost_no 3 (by unfold lenE; rw [if_pos (by omega)]) (by omega) T⟩
end Go.Proofs.Ytjhpmeagopdaiaa

namespace Go.Proofs.Ytjhpmeagopdaiaa
open Go.RowKit
set_option linter.unusedVariables false
set_option linter.unusedSimpArgs false
set_option maxHeartbeats 8000000
set_option maxRecDepth 100000

structure PkPost (w0 : World) (q : Bool) (l : List UInt8) (e : Ending) (w' : World) : Prop where
  bel : Below w0.heap.size w0 w'
  ok : rdE q l = 0 → ∃ A1 n1 c1 A2 n2 c2, e = .returned (.agg #[.int .u8 (rdP l).tos, .int .u16 (rdP l).id, .bool (rdP l).keep, .int .u8 (rdP l).ttl, .int .u8 (rdP l).proto, .int .u32 (rdP l).src, .int .u32 (rdP l).dst, .slice A1 n1 c1, .slice A2 n2 c2]) ∧ Bs w' A1 n1 c1 (rdP l).opt ∧ Bs w' A2 n2 c2 (rdP l).dat ∧ (∀ a, A1 = some a → w0.heap.size ≤ a.block) ∧ (∀ a, A2 = some a → w0.heap.size ≤ a.block)
  no : rdE q l ≠ 0 → e = .panicked [{ v := fault (rdE q l), recovered := false }]
theorem pkPost_no {w0 : World} {l : List UInt8} {q : Bool} {w' : World} (x : Int) (hE : rdE q l = x) (hx : x ≠ 0) (hB : Below w0.heap.size w0 w') :
    PkPost w0 q l (.panicked [{ v := fault x, recovered := false }]) w' := ⟨hB, fun h => absurd (hE.symm.trans h) hx, fun _ => by rw [hE]⟩
theorem packet_any (w0 : World) (k : Nat) (A : Option Addr) (n c : Nat) (l : List UInt8) (q : Bool) (w : World) (hb : Bs w0 A n c l) (T : Below w0.heap.size w0 w) (hk : w0.heap.size ≤ k) (K : Blk w k #[.int .i64 0, .int .i64 0, .slice A n c] 138) (le : Int) (hle : le = if q then 8 else 0) :
    Calls Try.prog 93 #[.pointer (some ⟨k, 0, none⟩), .bool q, .int .i64 le] w (PkPost w0 q l) := by
  have hlen := hb.len
  have hmax := hb.max
  have hcap := hb.cap
  obtain ⟨i8, hi8, _, hs8, _⟩ := info_parts info_u8
  have HLE := Lib.hid hle
  have le0 : 0 ≤ le := by rw [hle]; split <;> omega
  have le8 : le ≤ 8 := by rw [hle]; split <;> omega
  clear hle
  go_enter Try.func93, Try.ntmps93
  go_wp2_with fail
  have hkl := K.lt
  have T1 : Below w0.heap.size w0 (w.alloc (.cells #[.int .u8 0, .int .u16 0, .bool false, .int .u8 0, .int .u8 0, .int .u32 0, .int .u32 0, .slice none 0 0, .slice none 0 0] 26)) := T.alloc (by have := T.size; omega) _
  have R1 := blk_new w #[.int .u8 0, .int .u16 0, .bool false, .int .u8 0, .int .u8 0, .int .u32 0, .int .u32 0, .slice none 0 0, .slice none 0 0] 26 _ rfl
  refine (lengths_any w0 k A n c l q _ hb T1 hk (K.alloc _) w.heap.size _ _ (by omega) R1).mono ?_
  intro e w1 hP
  by_cases hE0 : lenE q l = 0
  · obtain ⟨rfl, K1, R2⟩ := hP.ok hE0
    obtain ⟨f1, f2, f3, f4, f5, f6, f7, f8, f9⟩ := len_facts hE0
    have T2 := hP.bel
    clear hP T1 R1
    obtain ⟨b, off, rfl⟩ := hb.some_ (by omega)
    obtain ⟨h, hh⟩ : ∃ h, hdOf l = h := ⟨_, rfl⟩
    obtain ⟨m, hm⟩ : ∃ m, alOf l = m := ⟨_, rfl⟩
    rw [hh] at f3 f4 f5 f7 f8 K1
    rw [hm] at f5 f6 K1
    rw [hlen] at f1 f4 f6
    clear f8 f9 f2
    have hcutA : ∀ W, (Instr.slice 24 (.slice (some ⟨b, off, none⟩) n c) none (some (.int .i64 h)) none).run Try.prog W = _ := fun W => cut_h Try.underlying24 hi8 hs8 (some ⟨b, off, none⟩) n c .i64 h (by omega) (by omega) W
    obtain ⟨A', n', c', eA, en, ec, hbA⟩ := hb.cutE (lo := 0) (hi := h.toNat) (by omega) (by omega)
    simp only [eA, en, ec] at hcutA
    clear eA en ec
    simp only [List.drop_zero] at hbA
    go_wp2_with fail
    refine region_txt 11 (by kernel_rfl) (by kernel_rfl) ?_; (iterate 11 (first | (apply ObsK.skip (by rfl)) | (apply ObsK.v (by rfl); (intro wo hT; (repeat (first | (intro _ _ k; try have hcv := cv k))); (have kc2 := (K1.below hT).cell); refine Goes.mk ?_; go_simp; first | exact goes_v | exact goes_b (by assumption) | (refine goes_enter ?_; first | (go_at_call 58; ((with_reducible refine (good_any A' n' c' (l.take h.toNat) wo ((hbA.below T2).below hT)).mono ?_); rintro e w2 ⟨rfl, hB2⟩); exact ret_v hB2)))) | (apply ObsK.b (by rfl); (intro wo hT; (repeat (first | (intro _ _ k; try have hcv := cv k))); (have kc2 := (K1.below hT).cell); refine Goes.mk ?_; go_simp; first | exact goes_v | exact goes_b (by assumption) | (refine goes_enter ?_; first | (go_at_call 58; ((with_reducible refine (good_any A' n' c' (l.take h.toNat) wo ((hbA.below T2).below hT)).mono ?_); rintro e w2 ⟨rfl, hB2⟩); exact ret_v hB2)))))); refine ObsK.nil ?_; intro wz hBz; simp only [finOn, List.drop_succ_cons, List.drop_zero, List.drop_nil]
    go_simp
    have K3 := K1.below hBz
    have R3 := R2.below hBz
    have T3 := below_then T2 hBz
    clear hBz K1 R2 T2
    go_wp2_with fail
    obtain ⟨s, hs⟩ : ∃ s, csum (l.take h.toNat) = s := ⟨_, rfl⟩
    rw [hs]
    by_cases h5 : s = 0
    · rw [show (s == 0) = true from by simpa using h5]
      refine (may_yes _ _).mono ?_
      rintro e w' ⟨rfl, rfl⟩
      obtain ⟨f, hf⟩ : ∃ f, get16 l 6 = f := ⟨_, rfl⟩
      have g0 : 0 ≤ f := by rw [← hf]; exact get16_lo l 6
      have g1 : f ≤ 65535 := by rw [← hf]; exact get16_hi l 6
      have ha1 := and_u16_low g0 g1
      have ha2 := and_u16_top g0 g1
      have kc3 := K3.cell
      go_wp2_with (go_at_call 67; ((with_reducible refine (get16_any (some ⟨b, off, none⟩) n c l 6 _ (hb.below T3)).mono ?_); rintro e w4 ⟨rfl, hD⟩); have K4 := K3.below hD.bel; have T4 := below_then T3 hD.bel; have R4 := R3.below hD.bel)
      clear kc3
      by_cases h6 : f % 16384 = 0
      · rw [show (f % 16384 == 0) = true from by simpa using h6]
        refine (may_yes _ _).mono ?_
        rintro e w' ⟨rfl, rfl⟩
        go_wp2_with fail
        by_cases h7 : 32768 ≤ f
        · rw [show (f / 32768 * 32768 == 0) = false from by simp; omega]
          refine (may_no _ _).mono ?_
          rintro e w' ⟨rfl, rfl⟩
          exact ⟨rfl, pkPost_no 4 (by unfold rdE; rw [if_neg (by omega), hh, if_neg (by rw [hs]; omega), hf, if_neg (by omega), if_pos h7]) (by omega) T4⟩
        · rw [show (f / 32768 * 32768 == 0) = true from by simp; omega]
          refine (may_yes _ _).mono ?_
          rintro e w' ⟨rfl, rfl⟩
          go_wp2_with fail
          refine region_txt 13 (by kernel_rfl) (by kernel_rfl) ?_; (iterate 13 (first | (apply ObsK.skip (by rfl)) | (apply ObsK.v (by rfl); (intro wo hT; (repeat (first | (intro _ _ k; try have hcv := cv k))); (have kc2 := (K4.below hT).cell); refine Goes.mk ?_; go_simp; first | exact goes_v | exact goes_b (by assumption) | (refine goes_enter ?_; first | fail))) | (apply ObsK.b (by rfl); (intro wo hT; (repeat (first | (intro _ _ k; try have hcv := cv k))); (have kc2 := (K4.below hT).cell); refine Goes.mk ?_; go_simp; first | exact goes_v | exact goes_b (by assumption) | (refine goes_enter ?_; first | fail))))); refine ObsK.nil ?_; intro wz hBz; simp only [finOn, List.drop_succ_cons, List.drop_zero, List.drop_nil]
          go_simp
          have K5 := K4.below hBz
          have R5 := R4.below hBz
          have T5 := below_then T4 hBz
          clear hBz K4 R4 T4 hD
          go_wp2_with fail
          by_cases h8 : le ≤ m - h
          · rw [decide_eq_true h8]
            refine (may_yes _ _).mono ?_
            rintro e w' ⟨rfl, rfl⟩
            have hE : rdE q l = 0 := by
              unfold rdE
              rw [if_neg (by omega), hh, if_neg (by rw [hs]; omega), hf, if_neg (by omega), if_neg (by omega), hm]
              rw [if_neg]
              rintro ⟨rfl, hx⟩
              have := HLE.out
              simp at this
              omega
            have HE := Lib.hid hE
            clear hE
            have hcutB : ∀ W, (Instr.slice 24 (.slice (some ⟨b, off, none⟩) n c) (some (.int .i64 20)) (some (.int .i64 h)) none).run Try.prog W = _ := fun W => cut_lh Try.underlying24 hi8 hs8 (some ⟨b, off, none⟩) n c .i64 .i64 20 h (by omega) (by omega) (by omega) W
            obtain ⟨A2, n2, c2, eA, en, ec, hbB⟩ := hb.cutE (lo := 20) (hi := h.toNat) (by omega) (by omega)
            simp only [show (20 : Int).toNat = 20 from rfl, eA, en, ec] at hcutB
            clear eA en ec
            have hcutC : ∀ W, (Instr.slice 24 (.slice (some ⟨b, off, none⟩) n c) (some (.int .i64 h)) (some (.int .i64 m)) none).run Try.prog W = _ := fun W => cut_lh Try.underlying24 hi8 hs8 (some ⟨b, off, none⟩) n c .i64 .i64 h m (by omega) (by omega) (by omega) W
            obtain ⟨A3, n3, c3, eA, en, ec, hbC⟩ := hb.cutE (lo := h.toNat) (hi := m.toNat) (by omega) (by omega)
            simp only [eA, en, ec] at hcutC
            clear eA en ec
            have HF := Lib.hid hf
            have HH := Lib.hid hh
            have HM := Lib.hid hm
            have x1 : (1 : Int) < n := by omega
            have x8 : (8 : Int) < n := by omega
            have x9 : (9 : Int) < n := by omega
            clear hf hh hm ha1 ha2 hs h5 h6 h7 hcutA
            go_wp2_with fail
            refine region_txt 62 (by kernel_rfl) (by kernel_rfl) ?_; (iterate 62 (first | (apply ObsK.skip (by rfl)) | (apply ObsK.v (by rfl); (intro wo hT; (repeat (first | (intro v hv; ((skip))) | (intro _ _ k; try have hcv := cv k))); (have kc2 := (K5.below hT).cell; have bo := (hb.below T5).below hT; have b1 := bo.at_ (j := 1) (by omega); have b8 := bo.at_ (j := 8) (by omega); have b9 := bo.at_ (j := 9) (by omega); have rl := (R5.below hT).lt); refine Goes.mk ?_; go_simp; first | exact goes_v | exact goes_b (by assumption) | (refine goes_enter ?_; first | (go_at_call 67; ((with_reducible refine (get16_any (some ⟨b, off, none⟩) n c l 4 wo bo).mono ?_); rintro e w2 ⟨rfl, hD2⟩); exact ret_v hD2.bel) | (go_at_call 59; ((with_reducible refine (get32_any (some ⟨b, off, none⟩) n c l 12 wo bo).mono ?_); rintro e w2 ⟨rfl, hD2⟩); exact ret_v hD2.bel) | (go_at_call 59; ((with_reducible refine (get32_any (some ⟨b, off, none⟩) n c l 16 wo bo).mono ?_); rintro e w2 ⟨rfl, hD2⟩); exact ret_v hD2.bel) | (go_at_call 60; ((with_reducible refine (clone_any A2 n2 c2 _ wo ((hbB.below T5).below hT)).mono ?_); rintro e w2 ⟨A9, c9, rfl, ho9, hB9⟩); exact ret_p (own_isF ho9 rl) hB9) | (go_at_call 60; ((with_reducible refine (clone_any A3 n3 c3 _ wo ((hbC.below T5).below hT)).mono ?_); rintro e w2 ⟨A9, c9, rfl, ho9, hB9⟩); exact ret_p (own_isF ho9 rl) hB9)))) | (apply ObsK.b (by rfl); (intro wo hT; (repeat (first | (intro v hv; ((skip))) | (intro _ _ k; try have hcv := cv k))); (have kc2 := (K5.below hT).cell; have bo := (hb.below T5).below hT; have b1 := bo.at_ (j := 1) (by omega); have b8 := bo.at_ (j := 8) (by omega); have b9 := bo.at_ (j := 9) (by omega); have rl := (R5.below hT).lt); refine Goes.mk ?_; go_simp; first | exact goes_v | exact goes_b (by assumption) | (refine goes_enter ?_; first | (go_at_call 67; ((with_reducible refine (get16_any (some ⟨b, off, none⟩) n c l 4 wo bo).mono ?_); rintro e w2 ⟨rfl, hD2⟩); exact ret_v hD2.bel) | (go_at_call 59; ((with_reducible refine (get32_any (some ⟨b, off, none⟩) n c l 12 wo bo).mono ?_); rintro e w2 ⟨rfl, hD2⟩); exact ret_v hD2.bel) | (go_at_call 59; ((with_reducible refine (get32_any (some ⟨b, off, none⟩) n c l 16 wo bo).mono ?_); rintro e w2 ⟨rfl, hD2⟩); exact ret_v hD2.bel) | (go_at_call 60; ((with_reducible refine (clone_any A2 n2 c2 _ wo ((hbB.below T5).below hT)).mono ?_); rintro e w2 ⟨A9, c9, rfl, ho9, hB9⟩); exact ret_p (own_isF ho9 rl) hB9) | (go_at_call 60; ((with_reducible refine (clone_any A3 n3 c3 _ wo ((hbC.below T5).below hT)).mono ?_); rintro e w2 ⟨A9, c9, rfl, ho9, hB9⟩); exact ret_p (own_isF ho9 rl) hB9)))) | (apply ObsK.p (q := isF w.heap.size _ _) (by rfl) st_isF; (intro wo hT; (repeat (first | (intro v hv; ((skip))) | (intro _ _ k; try have hcv := cv k))); (have kc2 := (K5.below hT).cell; have bo := (hb.below T5).below hT; have b1 := bo.at_ (j := 1) (by omega); have b8 := bo.at_ (j := 8) (by omega); have b9 := bo.at_ (j := 9) (by omega); have rl := (R5.below hT).lt); refine Goes.mk ?_; go_simp; first | exact goes_v | exact goes_b (by assumption) | (refine goes_enter ?_; first | (go_at_call 67; ((with_reducible refine (get16_any (some ⟨b, off, none⟩) n c l 4 wo bo).mono ?_); rintro e w2 ⟨rfl, hD2⟩); exact ret_v hD2.bel) | (go_at_call 59; ((with_reducible refine (get32_any (some ⟨b, off, none⟩) n c l 12 wo bo).mono ?_); rintro e w2 ⟨rfl, hD2⟩); exact ret_v hD2.bel) | (go_at_call 59; ((with_reducible refine (get32_any (some ⟨b, off, none⟩) n c l 16 wo bo).mono ?_); rintro e w2 ⟨rfl, hD2⟩); exact ret_v hD2.bel) | (go_at_call 60; ((with_reducible refine (clone_any A2 n2 c2 _ wo ((hbB.below T5).below hT)).mono ?_); rintro e w2 ⟨A9, c9, rfl, ho9, hB9⟩); exact ret_p (own_isF ho9 rl) hB9) | (go_at_call 60; ((with_reducible refine (clone_any A3 n3 c3 _ wo ((hbC.below T5).below hT)).mono ?_); rintro e w2 ⟨A9, c9, rfl, ho9, hB9⟩); exact ret_p (own_isF ho9 rl) hB9)))))); refine ObsK.nil ?_; intro wz hBz; simp only [finOn, List.drop_succ_cons, List.drop_zero, List.drop_nil]
            intro v9 hv9 v10 hv10
            obtain ⟨A9, c9, rfl, k9, a9⟩ := hv9
            obtain ⟨A10, c10, rfl, k10, a10⟩ := hv10
            go_simp
            have R6 := R5.below hBz
            have rc := R6.cell
            have T6 := below_then T5 hBz
            have hwr : w0.heap.size ≤ w.heap.size := T.size
            go_wp2_with fail
            obtain ⟨wf, hwf, S⟩ := store9 R6 (.int .u8 (bt l 1)) (.int .u16 (get16 l 4)) (.bool (f != 0)) (.int .u8 (bt l 8)) (.int .u8 (bt l 9)) (.int .u32 (get32 l 12)) (.int .u32 (get32 l 16)) (.slice A10 n2 c10) (.slice A9 n3 c9)
            rw [hwf]
            have TF := S.bel T6 hwr
            have k9' := S.bs k9 (gt_ne a9)
            have k10' := S.bs k10 (gt_ne a10)
            have kr := S.blk.cell
            clear hwf S R6 rc T6 k9 k10
            have e1 : f = get16 l 6 := HF.out.symm
            have e2 : (rdP l).opt = List.drop 20 (List.take h.toNat l) := by rw [← HH.out]; rfl
            have e3 : (rdP l).dat = List.drop h.toNat (List.take m.toNat l) := by rw [← HH.out, ← HM.out]; rfl
            refine bodyPost_ret (v := .agg #[.int .u8 (bt l 1), .int .u16 (get16 l 4), .bool (f != 0), .int .u8 (bt l 8), .int .u8 (bt l 9), .int .u32 (get32 l 12), .int .u32 (get32 l 16), .slice A10 n2 c10, .slice A9 n3 c9]) (by simp [results, Try.results93, go_sem, kr]) rfl ⟨TF, fun _ => ⟨A10, n2, c10, A9, n3, c9, by rw [e1]; rfl, by rw [e2]; exact k10', by rw [e3]; exact k9', fun a e => by have := a10 a e; omega, fun a e => by have := a9 a e; omega⟩, fun hx => absurd HE.out hx⟩
          · rw [decide_eq_false h8]
            refine (may_no _ _).mono ?_
            rintro e w' ⟨rfl, rfl⟩
            have hq : q = true := by
              cases q with
              | true => rfl
              | false => have := HLE.out; simp at this; omega
            have hl8 : le = 8 := by rw [HLE.out, if_pos hq]
            exact ⟨rfl, pkPost_no 3 (by unfold rdE; rw [if_neg (by omega), hh, if_neg (by rw [hs]; omega), hf, if_neg (by omega), if_neg (by omega), hm, if_pos ⟨hq, by omega⟩]) (by omega) T5⟩
      · rw [show (f % 16384 == 0) = false from by simpa using h6]
        refine (may_no _ _).mono ?_
        rintro e w' ⟨rfl, rfl⟩
        exact ⟨rfl, pkPost_no 7 (by unfold rdE; rw [if_neg (by omega), hh, if_neg (by rw [hs]; omega), hf, if_pos h6]) (by omega) T4⟩
    · rw [show (s == 0) = false from by simpa using h5]
      refine (may_no _ _).mono ?_
      rintro e w' ⟨rfl, rfl⟩
      exact ⟨rfl, pkPost_no 5 (by unfold rdE; rw [if_neg (by omega), hh, if_pos (by rw [hs]; exact h5)]) (by omega) T3⟩
  · have hx := hP.no hE0
    subst hx
    exact ⟨rfl, pkPost_no (lenE q l) (by unfold rdE; rw [if_pos hE0]) hE0 hP.bel⟩
end Go.Proofs.Ytjhpmeagopdaiaa

namespace Go.Proofs.Ytjhpmeagopdaiaa
open Go.RowKit
set_option linter.unusedVariables false
set_option linter.unusedSimpArgs false
set_option maxHeartbeats 4000000
set_option maxRecDepth 100000

theorem catch_fault (a b : Nat) (x e : Int) (c0 c1 c2 c3 c4 c5 c6 c7 c8 : Value) (w : World) (hab : a ≠ b) (K : Blk w a #[c0, c1, c2, c3, c4, c5, c6, c7, c8] 26) (L : Blk w b #[.int .i64 x] 29) :
    CallsD Try.prog 92 #[.pointer (some ⟨a, 0, none⟩), .pointer (some ⟨b, 0, none⟩)] (.panicking [{ v := fault e, recovered := false }]) w fun r u' w' =>
      r = .returned (.tuple #[]) ∧ u' = .panicking [{ v := fault e, recovered := true }] ∧ Blk w' a #[.int .u8 0, .int .u16 0, .bool false, .int .u8 0, .int .u8 0, .int .u32 0, .int .u32 0, .slice none 0 0, .slice none 0 0] 26 ∧ Blk w' b #[.int .i64 e] 29 ∧
        (∀ B w0, Below B w0 w → B ≤ a → B ≤ b → Below B w0 w') := by
  have hta : ∀ (W : World) (v : Value), (Instr.typeAssert (.iface 133 v) 20 133 true).run Try.prog W = .ok (.tuple #[v, .bool true]) W := fun W v => by kernel_rfl
  have ka := K.cell
  have kb := L.cell
  have la := K.lt
  have lb := L.lt
  refine callsD_of_wpS Try.func92 rfl fun c₀ cs hu => ?_
  apply wpS_seq
  apply wpS_region
  simp [wpOpsS, go_sem, recoverD, hu, Try.ntmps92, Exit.thenS, fault]
  refine wpS_of_wp ?_
  simp only [List.size_toArray, List.length_cons, List.length_nil, Nat.reduceAdd, Nat.reduceSub, Array.replicate_succ, Array.replicate_zero, List.push_toArray, List.append_toArray, List.nil_append, List.cons_append, List.setIfInBounds_toArray, List.set_cons_zero, List.set_cons_succ]
  go_wp2_with fail
  have K1 := K.alloc (.cells #[.int .i64 e] 133)
  have L1 := L.alloc (.cells #[.int .i64 e] 133)
  have F1 := blk_new w #[.int .i64 e] 133 _ rfl
  have hB : ∀ B w0, Below B w0 w → B ≤ a → Below B w0 (w.alloc (.cells #[.int .i64 e] 133)) := fun B w0 h hB => h.alloc (by omega) _
  generalize hw1 : w.alloc (.cells #[.int .i64 e] 133) = w1 at *
  obtain ⟨f, hf⟩ : ∃ f, w.heap.size = f := ⟨_, rfl⟩
  rw [hf] at F1 la lb ⊢
  have nfa : a ≠ f := by omega
  have nfb : b ≠ f := by omega
  clear hw1 hf ka kb K L
  have ka := K1.cell
  have kb := L1.cell
  have kf := F1.cell
  have ra : ∀ (W : World) (j : Nat) (v : Value), (W.setCell ⟨a, j, none⟩ v).cell? ⟨f, 0, none⟩ = W.cell? ⟨f, 0, none⟩ := fun W j v => World.cell?_setCell_far W _ _ v nfa
  have rb : ∀ (W : World) (j : Nat) (v : Value), (W.setCell ⟨a, j, none⟩ v).cell? ⟨b, 0, none⟩ = W.cell? ⟨b, 0, none⟩ := fun W j v => World.cell?_setCell_far W _ _ v hab
  go_region
  go_wp2_with fail
  obtain ⟨w2, hw2, S⟩ := store9 K1 (.int .u8 0) (.int .u16 0) (.bool false) (.int .u8 0) (.int .u8 0) (.int .u32 0) (.int .u32 0) (.slice none 0 0) (.slice none 0 0)
  rw [hw2]
  have hfin : Blk (w2.setCell ⟨b, 0, none⟩ (.int .i64 e)).drew a #[.int .u8 0, .int .u16 0, .bool false, .int .u8 0, .int .u8 0, .int .u32 0, .int .u32 0, .slice none 0 0, .slice none 0 0] 26 ∧ Blk (w2.setCell ⟨b, 0, none⟩ (.int .i64 e)).drew b #[.int .i64 e] 29 ∧
      (∀ B w0, Below B w0 w → B ≤ a → B ≤ b → Below B w0 (w2.setCell ⟨b, 0, none⟩ (.int .i64 e)).drew) :=
    ⟨(S.blk.far ⟨b, 0, none⟩ (Ne.symm hab) _).drew, ((S.other (Ne.symm hab) L1).set_ 0 _).drew, fun B w0 h h1 h2 => below_drew ((S.bel (hB B w0 h h1) h1).setCell (p := ⟨b, 0, none⟩) h2 _)⟩
  exact ⟨rfl, _, rfl, .tuple #[], results_none rfl _ _ _, rfl, rfl, hfin⟩
theorem catch_idle (a b : Nat) (w : World) :
    CallsD Try.prog 92 #[.pointer (some ⟨a, 0, none⟩), .pointer (some ⟨b, 0, none⟩)] .returning w fun r u' w' => r = .returned (.tuple #[]) ∧ u' = .returning ∧ w = w' := by
  refine callsD_of_wpS Try.func92 rfl fun c₀ cs hu => ?_
  apply wpS_seq
  apply wpS_region
  simp [wpOpsS, go_sem, recoverD, hu, Try.ntmps92, Exit.thenS]
  refine wpS_of_wp ?_
  simp only [List.size_toArray, List.length_cons, List.length_nil, Nat.reduceAdd, Nat.reduceSub, Array.replicate_succ, Array.replicate_zero, List.push_toArray, List.append_toArray, List.nil_append, List.cons_append, List.setIfInBounds_toArray, List.set_cons_zero, List.set_cons_succ]
  go_wp2_with fail
  refine ⟨rfl, .returning, ?_, .tuple #[], results_none rfl _ _ _, rfl, rfl, rfl⟩
  rw [← hu]
structure RdPost (w : World) (q : Bool) (l : List UInt8) (e : Ending) (w' : World) : Prop where
  out : ∃ A1 n1 c1 A2 n2 c2, e = .returned (.tuple #[(.agg #[.int .u8 (rdPk q l).tos, .int .u16 (rdPk q l).id, .bool (rdPk q l).keep, .int .u8 (rdPk q l).ttl, .int .u8 (rdPk q l).proto, .int .u32 (rdPk q l).src, .int .u32 (rdPk q l).dst, .slice A1 n1 c1, .slice A2 n2 c2]), .int .i64 (rdE q l)]) ∧ Bs w' A1 n1 c1 (rdPk q l).opt ∧ Bs w' A2 n2 c2 (rdPk q l).dat ∧ (∀ a, A1 = some a → w.heap.size ≤ a.block) ∧ (∀ a, A2 = some a → w.heap.size ≤ a.block) ∧ Below w.heap.size w w'
theorem read_any (A : Option Addr) (n c : Nat) (l : List UInt8) (q : Bool) (le : Int) (hle : le = if q then 8 else 0) (w : World) (hb : Bs w A n c l) :
    Calls Try.prog 61 #[.slice A n c, .bool q, .int .i64 le] w (RdPost w q l) := by
  have hmf : ∀ (fn : Fn) (first cap : Array Value) (w : World), (Instr.makeFunc fn first cap).run Try.prog w = .ok (.func fn first cap) w := fun _ _ _ _ => rfl
  have HLE := Lib.hid hle
  clear hle
  go_enter_defers Try.func61, Try.ntmps61
  go_wp2_with fail
  obtain ⟨w0, hw0⟩ : ∃ w0, (w.alloc (.cells #[.int .u8 0, .int .u16 0, .bool false, .int .u8 0, .int .u8 0, .int .u32 0, .int .u32 0, .slice none 0 0, .slice none 0 0] 26)).alloc (.cells #[.int .i64 0] 29) = w0 := ⟨_, rfl⟩
  have P0 : Blk w0 w.heap.size #[.int .u8 0, .int .u16 0, .bool false, .int .u8 0, .int .u8 0, .int .u32 0, .int .u32 0, .slice none 0 0, .slice none 0 0] 26 := by rw [← hw0]; exact (blk_new w _ _ _ rfl).alloc _
  have E0 : Blk w0 (w.heap.size + 1) #[.int .i64 0] 29 := by rw [← hw0]; exact blk_new _ _ _ _ (by simp)
  have T0 : Below w.heap.size w w0 := by rw [← hw0]; (repeat (first | with_reducible exact Below.refl _ _ | with_reducible refine below_drew ?_ | with_reducible refine below_drewN ?_ _ | with_reducible refine below_alloc ?_ (Nat.le_refl _) _ | with_reducible refine Below.setCell ?_ (by first | exact Nat.le_refl _ | (simp only []; omega)) _ | with_reducible assumption))
  have hs : w0.heap.size = w.heap.size + 1 + 1 := by rw [← hw0]; simp
  have hb0 := hb.below T0
  obtain ⟨a, ha⟩ : ∃ a, w.heap.size = a := ⟨_, rfl⟩
  obtain ⟨b, hb'⟩ : ∃ b, a + 1 = b := ⟨_, rfl⟩
  rw [hw0, ← hs]
  rw [ha] at hs P0 E0
  rw [hb'] at hs E0
  rw [ha, hb']
  have hne : a ≠ b := by omega
  refine (packet_any w0 w0.heap.size A n c l q _ hb0 (below_alloc (Below.refl _ w0) (Nat.le_refl _) _) (Nat.le_refl _) (blk_new w0 _ _ _ rfl) le HLE.out).mono ?_
  intro e w1 hP
  have P1 := P0.below hP.bel
  have E1 := E0.below hP.bel
  have T1 := below_then T0 hP.bel
  clear hw0
  by_cases hE : rdE q l = 0
  · obtain ⟨A1, n1, c1, A2, n2, c2, rfl, k1, k2, a1, a2⟩ := hP.ok hE
    have hR : rdPk q l = rdP l := by unfold rdPk; rw [if_pos hE]
    obtain ⟨p, hp⟩ : ∃ p, rdP l = p := ⟨_, rfl⟩
    rw [hp] at k1 k2 hR ⊢
    have HE := Lib.hid hE
    have HR := Lib.hid hR
    have HA := Lib.hid ha
    have HB := Lib.hid hb'
    have HS := Lib.hid hs
    clear hE hP hp hR ha hb' hs
    have pc := P1.cell
    have ec := E1.cell
    have nb : ∀ (W : World) (j : Nat) (v : Value), (W.setCell ⟨a, j, none⟩ v).cell? ⟨b, 0, none⟩ = W.cell? ⟨b, 0, none⟩ := fun W j v => World.cell?_setCell_far W _ _ v hne
    go_wp2_with fail
    obtain ⟨w2, hw2, S⟩ := store9 P1 (.int .u8 p.tos) (.int .u16 p.id) (.bool p.keep) (.int .u8 p.ttl) (.int .u8 p.proto) (.int .u32 p.src) (.int .u32 p.dst) (.slice A1 n1 c1) (.slice A2 n2 c2)
    rw [hw2]
    have hsz := HA.out
    have hsb := HB.out
    have hss := HS.out
    have P3 := S.blk.far ⟨b, 0, none⟩ (Ne.symm hne) (.int .i64 0)
    have E3 : Blk (w2.setCell ⟨b, 0, none⟩ (.int .i64 0)) b #[.int .i64 0] 29 := (S.other (Ne.symm hne) E1).set_ 0 _
    have T3 := (S.bel T1 (by omega)).setCell (p := ⟨b, 0, none⟩) (by simp; omega) (.int .i64 0)
    have K1 := (S.bs k1 (fun x e => by have := a1 x e; omega)).away ⟨b, 0, none⟩ (fun x e => by have := a1 x e; simp; omega) (.int .i64 0)
    have K2 := (S.bs k2 (fun x e => by have := a2 x e; omega)).away ⟨b, 0, none⟩ (fun x e => by have := a2 x e; simp; omega) (.int .i64 0)
    clear hsz hsb hss hw2 S pc ec nb k1 k2 T1 P1 E1
    generalize w2.setCell ⟨b, 0, none⟩ (.int .i64 0) = w3 at *
    refine leaves_cons (f := 92) (args := #[.pointer (some ⟨a, 0, none⟩), .pointer (some ⟨b, 0, none⟩)]) (by simp) (by simp [go_sem]) ?_
    refine (catch_idle a b _).mono ?_
    rintro e u' w4 ⟨rfl, rfl, rfl⟩
    have pc := P3.cell
    have ec := E3.cell
    simp [Leaves, settle, results, Try.results61, go_sem, pc, ec]
    exact ⟨A1, n1, c1, A2, n2, c2, by rw [HR.out, HE.out], by rw [HR.out]; exact K1, by rw [HR.out]; exact K2, fun x e => Nat.le_trans T0.size (a1 x e), fun x e => Nat.le_trans T0.size (a2 x e), T3⟩
  · have hx := hP.no hE
    subst hx
    clear hP
    have HA := Lib.hid ha
    have HB := Lib.hid hb'
    have HS := Lib.hid hs
    clear ha hb' hs
    go_wp2_with fail
    refine leaves_cons (f := 92) (args := #[.pointer (some ⟨a, 0, none⟩), .pointer (some ⟨b, 0, none⟩)]) (by simp) (by simp [go_sem]) ?_
    refine (catch_fault a b _ _ _ _ _ _ _ _ _ _ _ _ hne P1 E1).mono ?_
    rintro e u' w2 ⟨rfl, rfl, P2, E2, hB⟩
    have pc := P2.cell
    have ec := E2.cell
    have T2 := hB _ _ T1 (by have := HA.out; omega) (by have := HA.out; have := HB.out; omega)
    simp [Leaves, settle, results, Try.results61, go_sem, pc, ec]
    have hR : rdPk q l = zP := by unfold rdPk; rw [if_neg hE]
    exact ⟨none, 0, 0, none, 0, 0, by rw [hR]; rfl, by rw [hR]; exact Bs.none_ _, by rw [hR]; exact Bs.none_ _, fun x e => (by cases e), fun x e => (by cases e), T2⟩
theorem ipQuote_any (A : Option Addr) (n c : Nat) (l : List UInt8) (w : World) (hb : Bs w A n c l) :
    Calls Try.prog 33 #[.slice A n c] w (RdPost w true l) := by
  go_enter Try.func33, Try.ntmps33
  go_wp2_with fail
  refine (read_any A n c l true 8 rfl _ (hb.alloc _)).mono ?_
  intro e w1 hP
  obtain ⟨A1, n1, c1, A2, n2, c2, rfl, k1, k2, a1, a2, T1⟩ := hP.out
  have P1 := (blk_new w #[.int .u8 0, .int .u16 0, .bool false, .int .u8 0, .int .u8 0, .int .u32 0, .int .u32 0, .slice none 0 0, .slice none 0 0] 26 _ rfl).below T1
  have T := below_then ((Below.refl _ w).alloc (Nat.le_refl _) _) T1
  clear hP T1
  have pc := P1.cell
  generalize hp : rdPk true l = p at *
  generalize he : rdE true l = e at *
  have HP := Lib.hid hp
  have HE := Lib.hid he
  clear hp he
  go_wp2_with fail
  obtain ⟨w2, hw2, S⟩ := store9 P1 (.int .u8 p.tos) (.int .u16 p.id) (.bool p.keep) (.int .u8 p.ttl) (.int .u8 p.proto) (.int .u32 p.src) (.int .u32 p.dst) (.slice A1 n1 c1) (.slice A2 n2 c2)
  rw [hw2]
  have K1 := S.bs k1 (fun x e => by have := a1 x e; simp at this; omega)
  have K2 := S.bs k2 (fun x e => by have := a2 x e; simp at this; omega)
  have TF := S.bel T (Nat.le_refl _)
  have pf := S.blk.cell
  clear hw2 S P1 pc k1 k2 T
  refine bodyPost_ret (v := .tuple #[(.agg #[.int .u8 (p).tos, .int .u16 (p).id, .bool (p).keep, .int .u8 (p).ttl, .int .u8 (p).proto, .int .u32 (p).src, .int .u32 (p).dst, .slice A1 n1 c1, .slice A2 n2 c2]), .int .i64 e]) (by simp [results, Try.results33, go_sem, pf]) rfl ⟨A1, n1, c1, A2, n2, c2, by rw [HP.out, HE.out], by rw [HP.out]; exact K1, by rw [HP.out]; exact K2, fun x e => by have := a1 x e; simp at this; omega, fun x e => by have := a2 x e; simp at this; omega, TF⟩
end Go.Proofs.Ytjhpmeagopdaiaa

namespace Go.Proofs.Ytjhpmeagopdaiaa
open Go.RowKit
set_option linter.unusedVariables false
set_option linter.unusedSimpArgs false
set_option maxHeartbeats 4000000
set_option maxRecDepth 100000

def qEch (l : List UInt8) : Bool := isEchoM ⟨bt l 0, bt l 1, 0, []⟩
def inE (q : Pkt) : Int := if q.proto = 6 then 0 else if q.proto = 17 then 0 else if q.proto = 1 then (if qEch q.dat = false then 12 else 0) else if q.proto = 47 then (if begB q.dat = false then 4 else 0) else 12
def inA (q : Pkt) : Int := if q.proto = 6 then get16 q.dat 0 else if q.proto = 17 then get16 q.dat 0 else if q.proto = 1 then get16 q.dat 4 else 0
def inB (q : Pkt) : Int := if q.proto = 6 then get16 q.dat 2 else if q.proto = 17 then get16 q.dat 2 else if q.proto = 1 then get16 q.dat 4 else get16 q.dat 6
def inT (q : Pkt) : Tup := tuP q (inA q) (inB q) (inE q)
def quE (p : Pkt) : Int := if icE p ≠ 0 then icE p else if isErrM (icM p) = false then 12 else if rdE true (icM p).dat ≠ 0 then rdE true (icM p).dat else inE (rdPk true (icM p).dat)
def quQ (p : Pkt) : Pkt := if quE p = 0 then rdPk true (icM p).dat else zP
def quT (p : Pkt) : Tup := if quE p = 0 then inT (rdPk true (icM p).dat) else zT
theorem rd_8 {l : List UInt8} (h : rdE true l = 0) : 8 ≤ (rdPk true l).dat.length := by
  have hr := h
  unfold rdE at h
  split at h
  · rename_i h1; exact absurd h h1
  rename_i h1
  have h1' : lenE true l = 0 := by simpa using h1
  obtain ⟨f1, f2, f3, f4, f5, f6, f7, f8, f9⟩ := len_facts h1'
  split at h
  · cases h
  split at h
  · cases h
  split at h
  · cases h
  split at h
  · cases h
  rename_i h5
  unfold rdPk
  rw [if_pos hr]
  unfold rdP
  simp only [List.length_drop, List.length_take]
  have h6 : ¬ (alOf l - hdOf l < 8) := by
    intro hc
    exact h5 ⟨rfl, hc⟩
  omega
theorem quE_ways (p : Pkt) : (quE p = icE p ∧ icE p ≠ 0) ∨ (quE p = 12 ∧ icE p = 0 ∧ isErrM (icM p) = false) ∨ (icE p = 0 ∧ isErrM (icM p) = true ∧ rdE true (icM p).dat ≠ 0 ∧ quE p = rdE true (icM p).dat) ∨
    (icE p = 0 ∧ isErrM (icM p) = true ∧ rdE true (icM p).dat = 0 ∧ quE p = inE (rdPk true (icM p).dat)) := by
  unfold quE
  by_cases h1 : icE p = 0
  · rw [if_neg (by simp [h1])]
    cases h2 : isErrM (icM p)
    · right; left; simp [h1]
    · rw [if_neg (by simp)]
      by_cases h3 : rdE true (icM p).dat = 0
      · right; right; right; simp [h1, h3]
      · right; right; left; simp [h1, h3]
  · left; simp [h1]
theorem quT_no {p : Pkt} (h : quE p ≠ 0) : quT p = zT ∧ quQ p = zP := by unfold quT quQ; rw [if_neg h, if_neg h]; exact ⟨rfl, rfl⟩
theorem quT_in {p : Pkt} (h : quE p = inE (rdPk true (icM p).dat)) : quT p = inT (rdPk true (icM p).dat) := by
  unfold quT
  split
  · rfl
  · rename_i h1
    rw [h] at h1
    unfold inT tuP
    rw [if_pos h1]
theorem get32_bytes {l : List UInt8} (h : 4 ≤ l.length) : get32 l 0 = ((bt l 0 * 256 + bt l 1) * 256 + bt l 2) * 256 + bt l 3 := by
  rw [get32_in (by omega) (by omega), get16_in (by omega) (by omega), get16_in (by omega) (by omega)]
  show (bt l 0 * 256 + bt l 1) * 65536 + (bt l 2 * 256 + bt l 3) = _
  omega
theorem beg_get32 {l : List UInt8} (h : 8 ≤ l.length) : (get32 (gL ⟨0, bt l 0 == 48, bt l 1 == 129, 0, 0, []⟩) 0 != get32 l 0) = !begB l := by
  obtain ⟨f, hf⟩ : ∃ f : Frm, (⟨0, bt l 0 == 48, bt l 1 == 129, 0, 0, []⟩ : Frm) = f := ⟨_, rfl⟩
  have hfo : f.Ok := by rw [← hf]; exact ⟨by constructor <;> simp, by constructor <;> simp, by constructor <;> simp⟩
  obtain ⟨g0, g1, g2, g3, -, -⟩ := gH_at f hfo (by rw [← hf]; simp) f.dat
  have hL : 8 ≤ (gL f).length := by rw [gL_len]; unfold gN; omega
  rw [hf, get32_bytes (l := l) (by omega), get32_bytes (l := gL f) (by omega)]
  have e : gL f = gH f ++ f.dat := rfl
  rw [← e] at g0 g1 g2 g3
  rw [g0, g1, g2, g3, ← hf]
  have a0 := bt_lo l 0
  have a1 := bt_hi l 0
  have b0 := bt_lo l 1
  have b1 := bt_hi l 1
  have c0 := bt_lo l 2
  have c1 := bt_hi l 2
  have d0 := bt_lo l 3
  have d1 := bt_hi l 3
  unfold begB b0F b1F
  clear hL g0 g1 g2 g3 e hf hfo h
  obtain ⟨a, ha⟩ : ∃ a, bt l 0 = a := ⟨_, rfl⟩
  obtain ⟨b, hb⟩ : ∃ a, bt l 1 = a := ⟨_, rfl⟩
  obtain ⟨c, hc⟩ : ∃ a, bt l 2 = a := ⟨_, rfl⟩
  obtain ⟨d, hd⟩ : ∃ a, bt l 3 = a := ⟨_, rfl⟩
  rw [ha] at a0 a1 ⊢
  rw [hb] at b0 b1 ⊢
  rw [hc] at c0 c1 ⊢
  rw [hd] at d0 d1 ⊢
  clear ha hb hc hd
  rw [Bool.eq_iff_iff]
  simp only [bne_iff_ne, Bool.not_eq_true', Bool.and_eq_false_iff, Bool.or_eq_false_iff, beq_eq_false_iff_ne, beq_iff_eq]
  by_cases h1 : a = 48 <;> by_cases h2 : b = 129 <;> simp only [h1, h2, if_true, if_false] <;> omega
theorem inE_ways (q : Pkt) : (q.proto = 6 ∧ inE q = 0 ∧ inA q = get16 q.dat 0 ∧ inB q = get16 q.dat 2) ∨ (q.proto = 17 ∧ inE q = 0 ∧ inA q = get16 q.dat 0 ∧ inB q = get16 q.dat 2) ∨
    (q.proto = 1 ∧ inE q = (if qEch q.dat = false then 12 else 0) ∧ inA q = get16 q.dat 4 ∧ inB q = get16 q.dat 4) ∨ (q.proto = 47 ∧ inE q = (if begB q.dat = false then 4 else 0) ∧ inA q = 0 ∧ inB q = get16 q.dat 6) ∨
    (q.proto ≠ 6 ∧ q.proto ≠ 17 ∧ q.proto ≠ 1 ∧ q.proto ≠ 47 ∧ inE q = 12) := by
  unfold inE inA inB
  by_cases h6 : q.proto = 6
  · left; rw [h6]; simp
  by_cases h17 : q.proto = 17
  · right; left; rw [h17]; simp
  by_cases h1 : q.proto = 1
  · right; right; left; rw [h1]; simp
  by_cases h47 : q.proto = 47
  · right; right; right; left; rw [h47]; simp
  right; right; right; right; simp [h6, h17, h1, h47]
end Go.Proofs.Ytjhpmeagopdaiaa

