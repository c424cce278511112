import Derived.Test.YtogbncpchmnbdaaIpR1
namespace Go.Proofs.Ytogbncpchmnbdaa
open Go.RowKit
set_option linter.unusedVariables false
set_option linter.unusedSimpArgs false
set_option linter.unusedSimpArgs false
set_option maxHeartbeats 8000000
set_option maxRecDepth 100000

/-- A new block of a packet's cells. -/
def isP (B : Nat) : World → Value → Prop := fun W v => ∃ g, v = .pointer (some ⟨g, 0, none⟩) ∧ B ≤ g ∧ Blk W g #[.int .u8 0, .int .u16 0, .bool false, .int .u8 0, .int .u8 0, .int .u32 0, .int .u32 0, .slice none 0 0, .slice none 0 0] 26
theorem st_isP {B : Nat} : ∀ w w' v, isP B w v → Below w.heap.size w w' → isP B w' v := fun _ _ _ ⟨g, e, h, k⟩ hb => ⟨g, e, h, k.below hb⟩
theorem goes_isP {B : Nat} {W : World} (h : B ≤ W.heap.size) : OpGoes Try.prog (fun v w' => (Kd.p (isP B)).holds w' v ∧ Below W.heap.size W w') (.ok (.value (.pointer (some ⟨W.heap.size, 0, none⟩))) (W.alloc (.cells #[.int .u8 0, .int .u16 0, .bool false, .int .u8 0, .int .u8 0, .int .u32 0, .int .u32 0, .slice none 0 0, .slice none 0 0] 26))) :=
  ⟨⟨_, rfl, h, blk_new W _ _ _ rfl⟩, (Below.refl _ W).alloc (Nat.le_refl _) _⟩
end Go.Proofs.Ytogbncpchmnbdaa
