/- What is proved here: flywheellaw29.CallsOps, called with any values of its parameters in whatever memory, returns true, and its arguments read afterwards as they read before. No condition. -/
import Derived.Test.YtkjmacdekfbfhaaRows
import Derived.Test.YtkjmacdekfbfhaaOpen
import Derived.Test.YtkjmacdekfbfhaaW29O
namespace Go.Proofs.Ytkjmacdekfbfhaa.lawCallsOps
open Go.ChangeShapes Go.WideShapes Go.ChangeAt Go.RowKit
open Go.ChangeMaps (open_string shut_string)
set_option linter.unusedVariables false
set_option linter.unusedSimpArgs false

theorem own : ownKnob Try.prog.godebug = none := by kernel_rfl
theorem laidOut : laidOutB Try.prog = true := by kernel_rfl

set_option maxRecDepth 100000 in
theorem lifted (os : Os) (started : os.Started) (H : Type) (enc : TypeId × Value → H) :
    ReturnsInHanded {} Try.checked os 3 .any (Rows.callsOpsSpec.pre6 enc Try.prog Try.f3 Rows.callsOpsRow.domain false) (Rows.callsOpsSpec.post enc Try.prog Try.f3 false true false false) := by
  refine returnsInHanded_of_change (C := Try.checked) own started (by kernel_rfl) Try.func3
    (ChangeSpec.witness6 (enc := enc) (C := Try.checked) false ⟨#[], #[.agg #[.int .i64 0, .int .i64 0, .int .i64 0, .int .i64 0], .agg #[.int .i64 0, .string ByteArray.empty, .int .i64 0, .int .i64 0, .int .i64 0, .int .i64 0, .int .i64 0, .int .i64 0, .int .i64 0, .int .i64 0, .int .i64 0]], []⟩ 8 (by kernel_rfl) (by kernel_rfl) (by kernel_rfl) (by kernel_rfl)) ?_
  intro W base args ds gs before hval0 hW hcnd _
  have hval : ∀ (j : Nat) t v, Try.f3.params[j]? = some t → args[j]? = some v → Value.okWide Try.prog W .any base t v := hval0
  have hW' := hW
  obtain ⟨p, q, hA0, hV, rfl, hfz, hnd⟩ := hW
  have hA : DataW.TrodAll enc Try.prog W 0 (fun _ => true) true Try.f3.params.toList args.toList ds p := hA0
  rw [Try.params3] at hA hval
  obtain ⟨v0, vs0_, d0, ds0, p0, q0_, hargs, rfl, rfl, h0, r0⟩ := trodAll_cons hA
  obtain ⟨v1, vs1_, d1, ds1, p1, q1_, rfl, rfl, rfl, h1, r1⟩ := trodAll_cons r0
  obtain ⟨rfl, rfl, rfl⟩ := trodAll_nil r1
  obtain rfl : args = #[v0, v1] := by cases args; simp_all
  obtain ⟨rfl, rfl⟩ := trodVars_none hV
  have k0 := h0
  have lt0 : ∀ x ∈ p0, x.block < W.heap.size := by obtain ⟨m, hm⟩ := k0; exact DataW.trod_lt m _ _ _ hm
  obtain ⟨vs0, rfl, g0⟩ := open_flat (n := 8) (ks := [.int .i64, .int .i64, .int .i64, .int .i64]) Try.underlying23 (by kernel_rfl) (hval 0 23 v0 rfl rfl) h0
  obtain ⟨_, _, rfl, ⟨b0_0, rfl, w0_0⟩, g0_0⟩ := g0
  obtain ⟨_, _, rfl, ⟨b0_1, rfl, w0_1⟩, g0_1⟩ := g0_0
  obtain ⟨_, _, rfl, ⟨b0_2, rfl, w0_2⟩, g0_2⟩ := g0_1
  obtain ⟨_, _, rfl, ⟨b0_3, rfl, w0_3⟩, g0_3⟩ := g0_2
  cases g0_3
  have k1 := h1
  have lt1 : ∀ x ∈ p1, x.block < W.heap.size := by obtain ⟨m, hm⟩ := k1; exact DataW.trod_lt m _ _ _ hm
  obtain ⟨vs1, rfl, g1⟩ := open_flat (n := 8) (ks := [.int .i64, .str, .int .i64, .int .i64, .int .i64, .int .i64, .int .i64, .int .i64, .int .i64, .int .i64, .int .i64]) Try.underlying27 (by kernel_rfl) (hval 1 27 v1 rfl rfl) h1
  obtain ⟨_, _, rfl, ⟨b1_0, rfl, w1_0⟩, g1_0⟩ := g1
  obtain ⟨_, _, rfl, ⟨b1_1, rfl, w1_1⟩, g1_1⟩ := g1_0
  obtain ⟨_, _, rfl, ⟨b1_2, rfl, w1_2⟩, g1_2⟩ := g1_1
  obtain ⟨_, _, rfl, ⟨b1_3, rfl, w1_3⟩, g1_3⟩ := g1_2
  obtain ⟨_, _, rfl, ⟨b1_4, rfl, w1_4⟩, g1_4⟩ := g1_3
  obtain ⟨_, _, rfl, ⟨b1_5, rfl, w1_5⟩, g1_5⟩ := g1_4
  obtain ⟨_, _, rfl, ⟨b1_6, rfl, w1_6⟩, g1_6⟩ := g1_5
  obtain ⟨_, _, rfl, ⟨b1_7, rfl, w1_7⟩, g1_7⟩ := g1_6
  obtain ⟨_, _, rfl, ⟨b1_8, rfl, w1_8⟩, g1_8⟩ := g1_7
  obtain ⟨_, _, rfl, ⟨b1_9, rfl, w1_9⟩, g1_9⟩ := g1_8
  obtain ⟨_, _, rfl, ⟨b1_10, rfl, w1_10⟩, g1_10⟩ := g1_9
  cases g1_10
  clear hA0 hval0
  refine (walk_CallsOps b0_0 b0_1 b0_2 b0_3 b1_0 b1_1 b1_2 b1_3 b1_4 b1_5 b1_6 b1_7 b1_8 b1_9 b1_10 W (I64_of_wf w0_0) (I64_of_wf w0_1) (I64_of_wf w0_2) (I64_of_wf w0_3) (I64_of_wf w1_0) w1_1 (I64_of_wf w1_2) (I64_of_wf w1_3) (I64_of_wf w1_4) (I64_of_wf w1_5) (I64_of_wf w1_6) (I64_of_wf w1_7) (I64_of_wf w1_8) (I64_of_wf w1_9) (I64_of_wf w1_10)).mono fun e W' ⟨he, bel⟩ => ?_
  subst he
  exact ⟨_, rfl, _, _, _, [], _, [], hW', trodAll_mk1 (shut_bool Try.underlying4 _), (trodAll_cons_mk (Below.trod laidOut (by kernel_rfl) (of_decide_eq_true (by kernel_rfl)) k0 bel lt0) (trodAll_cons_mk (Below.trod laidOut (by kernel_rfl) (of_decide_eq_true (by kernel_rfl)) k1 bel lt1) trodAll_mk0)), rfl, bel.frame _, fun h => by cases h⟩

theorem over : Rows.callsOpsRow.holds Try.pinned (OpenSpec.ofChange Rows.callsOpsSpec) :=
  OpenClaim.holds_of_wide 3 Try.f3 rfl rfl rfl rfl rfl rfl rfl ⟨rfl, rfl, rfl, rfl, rfl⟩ rfl rfl rfl rfl rfl (by kernel_rfl) Try.func3 (by kernel_rfl)
    (of_decide_eq_true (by kernel_rfl)) (by unfold Func.isWrapper; first | (rw [if_pos (by decide +kernel)]; kernel_rfl) | (rw [if_neg (by decide +kernel)]; exact ⟨rfl, rfl⟩))
    (fun os started H enc _ => lifted os started H enc)

theorem proved : Rows.CallsOpsSaid := over
#print axioms proved
end Go.Proofs.Ytkjmacdekfbfhaa.lawCallsOps
