/- Chapter 48's laws: awake, AuditRules. (fast region) -/
import Derived.Test.YtjodpffdlggjgaaAudit2
import Derived.Test.YtjodpffdlggjgaaAudit3
import Derived.Test.YtjodpffdlggjgaaAdvDec
namespace Go.Proofs.Ytjodpffdlggjgaa
open Go.RowKit
set_option linter.unusedSimpArgs false
set_option linter.unusedVariables false
set_option maxHeartbeats 8000000
set_option maxRecDepth 100000
def zPol : Pol := ⟨0, 0, 0, 0, 0, 0⟩
theorem zPol_fit : zPol.fit := by unfold Pol.fit zPol I64; simp
theorem rule_48 (w : World) : Calls Try.prog 12 #[.agg #[.int .i64 0, .int .i64 0, .int .i64 0, .int .i64 0, .int .i64 0, .int .i64 0], .slice none 0 0, .agg #[.int .i64 0, .int .i64 0, .int .i64 0, .int .i64 0, .int .i64 0]] w fun e w' => e = .returned (.int .i64 1) ∧ Below w.heap.size w w' := by
  have h := audit_Rule zPol none 0 0 [] ⟨0, 0, 0, 0, 0⟩ w zPol_fit (by unfold Adv.good I64; simp) (slice_nil _ _ _) (by omega)
  rw [show ruleq zPol [] ⟨0, 0, 0, 0, 0⟩ = 1 by decide +kernel] at h
  exact h
theorem awake48 (w : World) : Calls Try.prog 11 #[] w fun e w' => e = .returned (.bool true) ∧ Below w.heap.size w w' := by
  go_enter Try.func11, Try.ntmps11
  go_wp2_with fail
  refine (rule_48 _).mono ?_
  rintro e v1 ⟨rfl, hb1⟩
  have E1 := Lib.hid hb1
  clear hb1
  go_wp2
  go_ret
  exact ⟨rfl, E1.out⟩
theorem walk_AuditRules (a0 a1 a2 a3 a4 a5 : Int) (A : Option Addr) (len cap : Nat) (past : List Adv) (x0 x1 x2 x3 x4 : Int) (w : World) (h0 : I64 a0) (h1 : I64 a1) (h2 : I64 a2) (h3 : I64 a3) (h4 : I64 a4) (h5 : I64 a5) (hs : AdvsAre w A len cap past) (hg : ∀ x ∈ past, x.good) (g0 : I64 x0) (g1 : I64 x1) (g2 : I64 x2) (g3 : I64 x3) (g4 : I64 x4) :
    Calls Try.prog 3 #[.agg #[.int .i64 a0, .int .i64 a1, .int .i64 a2, .int .i64 a3, .int .i64 a4, .int .i64 a5], .slice A len cap, .agg #[.int .i64 x0, .int .i64 x1, .int .i64 x2, .int .i64 x3, .int .i64 x4]] w fun e w' => e = .returned (.bool true) ∧ Below w.heap.size w w' := by
  obtain ⟨p, rfl, rfl, rfl, rfl, rfl, rfl⟩ : ∃ p : Pol, a0 = p.min ∧ a1 = p.max ∧ a2 = p.target ∧ a3 = p.tol ∧ a4 = p.window ∧ a5 = p.hold := ⟨⟨a0, a1, a2, a3, a4, a5⟩, rfl, rfl, rfl, rfl, rfl, rfl⟩
  obtain ⟨a, rfl, rfl, rfl, rfl, rfl⟩ : ∃ a : Adv, x0 = a.tick ∧ x1 = a.load ∧ x2 = a.want ∧ x3 = a.repl ∧ x4 = a.why := ⟨⟨x0, x1, x2, x3, x4⟩, rfl, rfl, rfl, rfl, rfl⟩
  have HP := Lib.hid (show p.fit from ⟨h0, h1, h2, h3, h4, h5⟩)
  have HA := Lib.hid (show a.good from ⟨g0, g1, g2, g3, g4⟩)
  have HS := Lib.hid hs
  have D0 := Lib.hid (DA.start w p a)
  have hle : len ≤ cap := hs.2.1
  have hm : cap ≤ 9223372036854775807 := by have := hs.2.2.1; unfold maxLen at this; omega
  clear h0 h1 h2 h3 h4 h5 hs hg g0 g1 g2 g3 g4
  go_enter Try.func3, Try.ntmps3
  go_wp2_with fail
  refine (awake48 _).mono ?_
  rintro e v1 ⟨rfl, hb1⟩
  have D1 := Lib.hid (D0.out.call hb1)
  clear hb1
  by_cases hl : 60 < len
  · go_wp2
    go_ret
    exact ⟨rfl, D1.out.2.2⟩
  have HR1 := Lib.hid (fun W hW => audit_Rule p A len cap past a W HP.out HA.out hW (by omega))
  have HR2 := Lib.hid (fun W hW => ref48_Rule p A len cap past a W HP.out HA.out hW (by omega))
  generalize ruleq p past a = RQ at *
  go_upto_region 5 with (fail)
  refine wp_region_any (by kernel_rfl) ?_; change wpAny _ _ _ _ _ _ _ (World.drew v1); refine any_of_anyG (late := fun _ => false) (S := fun wS => Below v1.heap.size v1 wS) _ _ _ _ ?_
  have S0 := (Below.refl v1.heap.size v1).drew
  refine anyG_takes (is := [0, 1, 2, 4, 5]) (vs := [_, _, _, _, _]) (m := 5) (listed2 := #[true, true, true, false, true, true, false, false, false, false]) (a2 := ⟨#[_, _, _, _, _, _, _, _, _, _, _, _, _, _, _, _, _, _, _, _, _], _⟩) (by kernel_rfl) (fun j hj => by simp at hj) (by kernel_rfl) (fun _ _ _ _ _ h => h) (Ys.cons rfl (Or.inl ⟨by rfl, fun W1 hW1 => exec_load (ty := 23) (x := .tmp 3) rfl rfl (run_loadAt_blk _ _ _ _ _ _ (D1.out.1.call hW1) Try.underlying23 rfl (by first | kernel_rfl | exact info_num _))⟩) (Ys.cons rfl (Or.inl ⟨by rfl, fun W1 hW1 => by first | rfl | (go_simp; done) | (go_simp; with_reducible rfl)⟩) (Ys.cons rfl (Or.inl ⟨by rfl, fun W1 hW1 => exec_load (ty := 26) (x := .tmp 5) rfl rfl (run_loadAt_blk _ _ _ _ _ _ (D1.out.2.1.call hW1) Try.underlying26 rfl (by first | kernel_rfl | exact info_num _))⟩) (Ys.cons rfl (Or.inl ⟨by rfl, fun W1 hW1 => exec_load (ty := 23) (x := .tmp 3) rfl rfl (run_loadAt_blk _ _ _ _ _ _ (D1.out.1.call hW1) Try.underlying23 rfl (by first | kernel_rfl | exact info_num _))⟩) (Ys.cons rfl (Or.inl ⟨by rfl, fun W1 hW1 => by first | rfl | (go_simp; done) | (go_simp; with_reducible rfl)⟩) (Ys.nil)))))) (S0) (by rfl) (by rfl) ?_
  refine anyG_takes (is := [6]) (vs := [_]) (m := 4) (listed2 := #[true, true, true, false, true, true, true, false, false, false]) (a2 := ⟨#[_, _, _, _, _, _, _, _, _, _, _, _, _, _, _, _, _, _, _, _, _], _⟩) (by kernel_rfl) (fun j hj => by simp at hj) (by kernel_rfl) (fun _ _ _ _ _ h => h) (Ys.cons rfl (Or.inl ⟨by rfl, fun W1 hW1 => exec_load (ty := 26) (x := .tmp 5) rfl rfl (run_loadAt_blk _ _ _ _ _ _ (D1.out.2.1.call hW1) Try.underlying26 rfl (by first | kernel_rfl | exact info_num _))⟩) (Ys.nil)) (S0) (by rfl) (by rfl) ?_
  refine anyG_one (k := 3) (by kernel_rfl) rfl (by rfl) (fun Q2 hQ2 => ?_); go_wp2_with (go_at_call 12; refine (HR1.out _ (slice_keep HS.out (D1.out.2.2.trans (S0.mono D1.out.2.2.size)))).mono ?_; rintro e v4 ⟨rfl, hb4⟩); refine hQ2 _ _ (fun _ => S0.trans (hb4.mono S0.size)) ?_; clear hQ2 Q2
  have S4 := S0.trans (hb4.mono S0.size)
  refine anyG_one (k := 7) (by kernel_rfl) rfl (by rfl) (fun Q2 hQ2 => ?_); go_wp2_with (go_at_call 13; refine (HR2.out _ (slice_keep HS.out (D1.out.2.2.trans (S4.mono D1.out.2.2.size)))).mono ?_; rintro e v5 ⟨rfl, hb5⟩); refine hQ2 _ _ (fun _ => S4.trans (hb5.mono S4.size)) ?_; clear hQ2 Q2
  have S5 := S4.trans (hb5.mono S4.size)
  refine anyG_one (k := 8) (by kernel_rfl) rfl (by rfl) (fun Q2 hQ2 => ?_); go_wp2_with fail; refine hQ2 _ _ (fun _ => S5) ?_; clear hQ2 Q2
  refine anyG_takes (is := [9]) (vs := [_]) (m := 0) (listed2 := #[true, true, true, true, true, true, true, true, true, true]) (a2 := ⟨#[_, _, _, _, _, _, _, _, _, _, _, _, _, _, _, _, _, _, _, _, _], _⟩) (by kernel_rfl) (fun j hj => by simp at hj) (by kernel_rfl) (fun _ _ _ _ _ h => h) (Ys.cons rfl (Or.inl ⟨by rfl, fun W1 hW1 => by first | rfl | (go_simp; done) | (go_simp; with_reducible rfl)⟩) (Ys.nil)) (S5) (by rfl) (by rfl) ?_
  refine anyG_done (by kernel_rfl) ?_ _
  have D5 := Lib.hid (D1.out.call S5)
  go_wp2
  go_ret
  exact ⟨rfl, D5.out.2.2⟩
end Go.Proofs.Ytjodpffdlggjgaa
