/- What is proved here: flywheellaw17.NodeNone, called with any values of its parameters in whatever memory, returns true, and its arguments read afterwards as they read before. No condition. -/
import Derived.Test.YtfeccjjheiillaaRows
import Derived.Test.YtfeccjjheiillaaOpen
import Derived.Test.YtfeccjjheiillaaKNodeNone5
namespace Go.Proofs.Ytfeccjjheiillaa.lawNodeNone
open Go.ChangeShapes Go.WideShapes Go.ChangeAt Go.RowKit
open Go.ChangeMaps (open_string shut_string)
set_option linter.unusedVariables false
set_option linter.unusedSimpArgs false

theorem own : ownKnob Try.prog.godebug = none := by kernel_rfl
theorem laidOut : laidOutB Try.prog = true := by kernel_rfl

set_option maxRecDepth 100000 in
theorem lifted (os : Os) (started : os.Started) (H : Type) (enc : TypeId × Value → H) :
    ReturnsInHanded {} Try.checked os 9 .any (Rows.nodeNoneSpec.pre6 enc Try.prog Try.f9 Rows.nodeNoneRow.domain false) (Rows.nodeNoneSpec.post enc Try.prog Try.f9 false true false false) := by
  refine returnsInHanded_of_change (C := Try.checked) own started (by kernel_rfl) Try.func9
    (ChangeSpec.witness6 (enc := enc) (C := Try.checked) false ⟨#[], #[.agg #[.int .i64 0, .int .i64 0, .int .i64 0, .int .i64 0, .int .i64 0, .int .i64 0, .int .i64 0, .int .i64 0, .int .i64 0, .int .i64 0, .int .i64 0, .int .i64 0, .int .i64 0, .int .i64 0]], []⟩ 8 (by kernel_rfl) (by kernel_rfl) (by kernel_rfl) (by kernel_rfl)) ?_
  intro W base args ds gs before hval0 hW hcnd _
  have hval : ∀ (j : Nat) t v, Try.f9.params[j]? = some t → args[j]? = some v → Value.okWide Try.prog W .any base t v := hval0
  have hW' := hW
  obtain ⟨p, q, hA0, hV, rfl, hfz, hnd⟩ := hW
  have hA : DataW.TrodAll enc Try.prog W 0 (fun _ => true) true Try.f9.params.toList args.toList ds p := hA0
  rw [Try.params9] at hA hval
  obtain ⟨v0, vs0_, d0, ds0, p0, q0_, hargs, rfl, rfl, h0, r0⟩ := trodAll_cons hA
  obtain ⟨rfl, rfl, rfl⟩ := trodAll_nil r0
  obtain rfl : args = #[v0] := by cases args; simp_all
  obtain ⟨rfl, rfl⟩ := trodVars_none hV
  have k0 := h0
  have lt0 : ∀ x ∈ p0, x.block < W.heap.size := by obtain ⟨m, hm⟩ := k0; exact DataW.trod_lt m _ _ _ hm
  obtain ⟨vs0, rfl, g0⟩ := open_flat (n := 8) (ks := [.int .i64, .int .i64, .int .i64, .int .i64, .int .i64, .int .i64, .int .i64, .int .i64, .int .i64, .int .i64, .int .i64, .int .i64, .int .i64, .int .i64]) Try.underlying68 (by kernel_rfl) (hval 0 68 v0 rfl rfl) h0
  obtain ⟨_, _, rfl, ⟨b0_0, rfl, w0_0⟩, g0_0⟩ := g0
  obtain ⟨_, _, rfl, ⟨b0_1, rfl, w0_1⟩, g0_1⟩ := g0_0
  obtain ⟨_, _, rfl, ⟨b0_2, rfl, w0_2⟩, g0_2⟩ := g0_1
  obtain ⟨_, _, rfl, ⟨b0_3, rfl, w0_3⟩, g0_3⟩ := g0_2
  obtain ⟨_, _, rfl, ⟨b0_4, rfl, w0_4⟩, g0_4⟩ := g0_3
  obtain ⟨_, _, rfl, ⟨b0_5, rfl, w0_5⟩, g0_5⟩ := g0_4
  obtain ⟨_, _, rfl, ⟨b0_6, rfl, w0_6⟩, g0_6⟩ := g0_5
  obtain ⟨_, _, rfl, ⟨b0_7, rfl, w0_7⟩, g0_7⟩ := g0_6
  obtain ⟨_, _, rfl, ⟨b0_8, rfl, w0_8⟩, g0_8⟩ := g0_7
  obtain ⟨_, _, rfl, ⟨b0_9, rfl, w0_9⟩, g0_9⟩ := g0_8
  obtain ⟨_, _, rfl, ⟨b0_10, rfl, w0_10⟩, g0_10⟩ := g0_9
  obtain ⟨_, _, rfl, ⟨b0_11, rfl, w0_11⟩, g0_11⟩ := g0_10
  obtain ⟨_, _, rfl, ⟨b0_12, rfl, w0_12⟩, g0_12⟩ := g0_11
  obtain ⟨_, _, rfl, ⟨b0_13, rfl, w0_13⟩, g0_13⟩ := g0_12
  cases g0_13
  clear hA0 hval0
  refine (walk_NodeNone b0_0 b0_1 b0_2 b0_3 b0_4 b0_5 b0_6 b0_7 b0_8 b0_9 b0_10 b0_11 b0_12 b0_13 W (I64_of_wf w0_0) (I64_of_wf w0_1) (I64_of_wf w0_2) (I64_of_wf w0_3) (I64_of_wf w0_4) (I64_of_wf w0_5) (I64_of_wf w0_6) (I64_of_wf w0_7) (I64_of_wf w0_8) (I64_of_wf w0_9) (I64_of_wf w0_10) (I64_of_wf w0_11) (I64_of_wf w0_12) (I64_of_wf w0_13)).mono fun e W' ⟨he, bel⟩ => ?_
  subst he
  exact ⟨_, rfl, _, _, _, [], _, [], hW', trodAll_mk1 (shut_bool Try.underlying4 _), (trodAll_cons_mk (Below.trod laidOut (by kernel_rfl) (of_decide_eq_true (by kernel_rfl)) k0 bel lt0) trodAll_mk0), rfl, bel.frame _, fun h => by cases h⟩

theorem over : Rows.nodeNoneRow.holds Try.pinned (OpenSpec.ofChange Rows.nodeNoneSpec) :=
  OpenClaim.holds_of_wide 9 Try.f9 rfl rfl rfl rfl rfl rfl rfl ⟨rfl, rfl, rfl, rfl, rfl⟩ rfl rfl rfl rfl rfl (by kernel_rfl) Try.func9 (by kernel_rfl)
    (of_decide_eq_true (by kernel_rfl)) (by unfold Func.isWrapper; first | (rw [if_pos (by decide +kernel)]; kernel_rfl) | (rw [if_neg (by decide +kernel)]; exact ⟨rfl, rfl⟩))
    (fun os started H enc _ => lifted os started H enc)

theorem proved : Rows.NodeNoneSaid := over
#print axioms proved
end Go.Proofs.Ytfeccjjheiillaa.lawNodeNone
