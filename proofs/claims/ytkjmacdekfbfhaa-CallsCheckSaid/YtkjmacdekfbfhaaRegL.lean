/- One of several operations of a region that draws its order comes up. -/
import Derived.Test.YtkjmacdekfbfhaaRegG
namespace Go.Proofs.Ytkjmacdekfbfhaa
open Go.RowKit
theorem anyG_list {P : Program} {ops : Array Oper} {Q : Exit → Act → World → Prop} {md : Region.Mode} {late : Nat → Bool} {S : World → Prop} {ks : List Nat} {n : Nat} {listed : Array Bool} {a : Act} {w : World} (hr : Region.ready md ops listed = ks) (hne : ks ≠ [])
    (h : ∀ k ∈ ks, ∃ o, ops[k]? = some o ∧ Region.wanted o (yielded ops a.tmps) = true ∧ ∀ Q2 : Exit → Act → World → Prop, (∀ a' w', (late k = false → S w') → anyG P md ops Q late S n (listed.setIfInBounds k true) a' w' → Q2 .normal a' w') → wpList P ops Q2 [o] a w) : anyG P md ops Q late S (n + 1) listed a w := by
  refine ⟨fun h0 => absurd (hr.symm.trans h0) hne, fun k hk => ?_⟩
  rw [hr] at hk
  obtain ⟨o, ho, hw, h1⟩ := h k hk
  have h1 := h1 (fun e a' w' => match e with | .normal => (late k = false → S w') ∧ anyG P md ops Q late S n (listed.setIfInBounds k true) a' w' | e => False) (fun a' w' h1 h2 => ⟨h1, h2⟩)
  unfold wpList at h1
  simp only [hw, if_true] at h1
  unfold wpOp
  simp only [ho, hw, if_true]
  rcases h1 with h1 | h1
  · exact .inl (wp_quietly (fun _ _ _ h => h) (fun ⟨_, _, h⟩ => h) h1)
  · exact absurd h1.2 (fun ⟨_, _, h⟩ => h)
end Go.Proofs.Ytkjmacdekfbfhaa
