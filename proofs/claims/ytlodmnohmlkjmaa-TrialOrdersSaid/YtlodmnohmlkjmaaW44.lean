/- The laws of chapter 44 that judge: awake, TrialJudges, TrialOrders. -/
import Derived.Test.YtlodmnohmlkjmaaTrialR
import Derived.Test.YtlodmnohmlkjmaaAdvSame
import Derived.Test.YtlodmnohmlkjmaaAdvDec
import Derived.Test.YtlodmnohmlkjmaaTotal
namespace Go.Proofs.Ytlodmnohmlkjmaa
open Go.RowKit
set_option linter.unusedSimpArgs false
set_option linter.unusedVariables false
set_option maxHeartbeats 4000000
set_option maxRecDepth 100000
theorem slice_blk {α : Type} {w : World} {g : Nat} {t : TypeId} {cs : Array Value} {size : Nat} {cells : α → List Value} {l : List α} (hsz : ∀ x, (cells x).length = size) (h : Blk w g t cs) (hc : cs = (l.flatMap cells).toArray) (hm : l.length ≤ maxLen) :
    SliceIs w size cells (some ⟨g, 0, none⟩) l.length l.length l := by
  refine ⟨rfl, Nat.le_refl _, hm, (fun h => by cases h), fun a ha => ?_⟩
  cases ha
  refine ⟨fun i x hi j v hj => ?_, fun _ => ⟨h.lt, rfl⟩⟩
  have hj' : j < size := by
    have := (List.getElem?_eq_some_iff.1 hj).1
    rwa [hsz] at this
  have h1 := flatMap_at hsz l i j x hi hj'
  have e : (⟨g, 0, none⟩ : Addr).add (i * size + j) = ⟨g, i * size + j, none⟩ := by
    unfold Addr.add; split <;> simp_all
  rw [e]
  exact h.cellv (by rw [hc]; simpa using h1.trans hj)
theorem slice_nil {α : Type} (w : World) (size : Nat) (cells : α → List Value) : SliceIs w size cells none 0 0 ([] : List α) :=
  ⟨rfl, Nat.le_refl _, Nat.zero_le _, fun _ => ⟨rfl, rfl⟩, fun a ha => by cases ha⟩
theorem ref44_Same (A B : Option Addr) (la ca lb cb : Nat) (xs : List Adv) (n1 n2 n3 n4 n5 n6 : Int) (w : World) (hx : AdvsAre w A la ca xs) (hy : AdvsAre w B lb cb xs) :
    Calls Try.prog 42 #[.agg #[.slice A la ca, .int .i64 n1, .int .i64 n2, .int .i64 n3, .int .i64 n4, .int .i64 n5, .int .i64 n6], .agg #[.slice B lb cb, .int .i64 n1, .int .i64 n2, .int .i64 n3, .int .i64 n4, .int .i64 n5, .int .i64 n6]] w fun e w' => e = .returned (.bool true) ∧ Below w.heap.size w w' := by
  have HX := Lib.hid hx
  have HY := Lib.hid hy
  clear hx hy
  have E0 := Lib.hid (show Below w.heap.size w ((w.alloc (.cells #[.slice A la ca, .int .i64 n1, .int .i64 n2, .int .i64 n3, .int .i64 n4, .int .i64 n5, .int .i64 n6] 63)).alloc (.cells #[.slice B lb cb, .int .i64 n1, .int .i64 n2, .int .i64 n3, .int .i64 n4, .int .i64 n5, .int .i64 n6] 63)) by go_grown)
  have b0 := (Blk.new w 63 #[.slice A la ca, .int .i64 n1, .int .i64 n2, .int .i64 n3, .int .i64 n4, .int .i64 n5, .int .i64 n6]).alloc (.cells #[.slice B lb cb, .int .i64 n1, .int .i64 n2, .int .i64 n3, .int .i64 n4, .int .i64 n5, .int .i64 n6] 63)
  have b1 := Blk.new_ w (.cells #[.slice A la ca, .int .i64 n1, .int .i64 n2, .int .i64 n3, .int .i64 n4, .int .i64 n5, .int .i64 n6] 63) 63 #[.slice B lb cb, .int .i64 n1, .int .i64 n2, .int .i64 n3, .int .i64 n4, .int .i64 n5, .int .i64 n6]
  have B0 := Lib.hid b0
  have B1 := Lib.hid b1
  clear b0 b1
  go_enter Try.func42, Try.ntmps42
  go_wp2_with fail
  refine (ref14_Same A B la ca lb cb xs xs _ (slice_keep HX.out E0.out) (slice_keep HY.out E0.out)).mono ?_
  rintro e v2 ⟨he, hb2⟩
  rw [show decide (xs = xs) = true from decide_eq_true rfl] at he
  subst he
  have c1 := (B0.out.call hb2).cellv (i := 1) (v := .int .i64 n1) rfl
  have c2 := (B0.out.call hb2).cellv (i := 2) (v := .int .i64 n2) rfl
  have c3 := (B0.out.call hb2).cellv (i := 3) (v := .int .i64 n3) rfl
  have c4 := (B0.out.call hb2).cellv (i := 4) (v := .int .i64 n4) rfl
  have c5 := (B0.out.call hb2).cellv (i := 5) (v := .int .i64 n5) rfl
  have c6 := (B0.out.call hb2).cellv (i := 6) (v := .int .i64 n6) rfl
  have d1 := (B1.out.call hb2).cellv (i := 1) (v := .int .i64 n1) rfl
  have d2 := (B1.out.call hb2).cellv (i := 2) (v := .int .i64 n2) rfl
  have d3 := (B1.out.call hb2).cellv (i := 3) (v := .int .i64 n3) rfl
  have d4 := (B1.out.call hb2).cellv (i := 4) (v := .int .i64 n4) rfl
  have d5 := (B1.out.call hb2).cellv (i := 5) (v := .int .i64 n5) rfl
  have d6 := (B1.out.call hb2).cellv (i := 6) (v := .int .i64 n6) rfl
  have E2 := Lib.hid (E0.out.trans (hb2.mono E0.out.size))
  clear hb2
  go_wp2
  go_ret
  exact ⟨rfl, E2.out⟩
def usual44 : Pol := ⟨0, 0, 100, 0, 0, 0⟩
def zero44 : Pol := ⟨0, 0, 0, 0, 0, 0⟩
def adv44 : Adv := ⟨0, 150, 0, 2, 0⟩
theorem judge_1 (A : Option Addr) (w : World) (hs : AdvsAre w A 1 1 [adv44]) :
    Calls Try.prog 43 #[.agg #[.int .i64 0, .int .i64 0, .int .i64 100, .int .i64 0, .int .i64 0, .int .i64 0], .slice A 1 1] w fun e w' => ∃ A' c', e = .returned (.agg #[.slice A' 1 c', .int .i64 0, .int .i64 0, .int .i64 2, .int .i64 2, .int .i64 50, .int .i64 0]) ∧ Below w.heap.size w w' :=
  (trial_Judge usual44 A 1 1 [adv44] w (by unfold Pol.fit usual44 I64; simp) hs (fun x hx => by simp at hx; subst hx; unfold Adv.good adv44 I64; simp) (by omega)).mono fun e w' ⟨v, he, ho, hb⟩ => by
    obtain ⟨A', c', rfl, _⟩ := ho.slice (fun _ => rfl)
    exact ⟨A', c', he, hb⟩
theorem judge_0 (w : World) :
    Calls Try.prog 43 #[.agg #[.int .i64 0, .int .i64 0, .int .i64 0, .int .i64 0, .int .i64 0, .int .i64 0], .slice none 0 0] w fun e w' => ∃ A' c', e = .returned (.agg #[.slice A' 0 c', .int .i64 0, .int .i64 0, .int .i64 0, .int .i64 0, .int .i64 0, .int .i64 0]) ∧ AdvsAre w' A' 0 c' [] ∧ Below w.heap.size w w' :=
  (trial_Judge zero44 none 0 0 [] w (by unfold Pol.fit zero44 I64; simp) (slice_nil _ _ _) (fun x hx => by simp at hx) (by omega)).mono fun e w' ⟨v, he, ho, hb⟩ => by
    obtain ⟨A', c', rfl, h⟩ := ho.slice (fun _ => rfl)
    exact ⟨A', c', he, h, hb⟩
theorem awake44 (w : World) : Calls Try.prog 41 #[] w fun e w' => e = .returned (.bool true) ∧ Below w.heap.size w w' := by
  go_enter Try.func41, Try.ntmps41
  go_wp2_with fail
  refine (judge_1 _ _ (slice_blk (l := [adv44]) (fun _ => rfl) (Blk.new w _ _) rfl (by decide))).mono ?_
  rintro e v1 ⟨A1, c1, rfl, hb1⟩
  have E1 := Lib.hid ((show Below w.heap.size w (w.alloc (.cells #[.int .i64 0, .int .i64 150, .int .i64 0, .int .i64 2, .int .i64 0] 88)) by go_grown).trans (hb1.mono (by simp)))
  clear hb1
  go_wp2_with fail
  refine (judge_0 _).mono ?_
  rintro e v2 ⟨A2, c2, rfl, hs2, hb2⟩
  have hz1 := hb2.size
  simp only [World.size_alloc] at hz1
  have E2 := Lib.hid ((E1.out.alloc E1.out.size (.cells #[.slice A1 1 c1, .int .i64 0, .int .i64 0, .int .i64 2, .int .i64 2, .int .i64 50, .int .i64 0] 64)).trans (hb2.mono (by have := E1.out.size; simp; omega)))
  have HS2 := Lib.hid hs2
  clear hb2 hs2
  go_wp2_with fail
  refine (ref44_Same A2 none 0 c2 0 0 [] 0 0 0 0 0 0 _ HS2.out (slice_nil _ _ _)).mono ?_
  rintro e v3 ⟨rfl, hb3⟩
  go_wp2
  go_ret
  exact ⟨rfl, E2.out.trans (hb3.mono E2.out.size)⟩
theorem walk_TrialJudges (a0 a1 a2 a3 a4 a5 : Int) (A : Option Addr) (len cap : Nat) (l : List Adv) (w : World) (h0 : I64 a0) (h1 : I64 a1) (h2 : I64 a2) (h3 : I64 a3) (h4 : I64 a4) (h5 : I64 a5) (hs : AdvsAre w A len cap l) (hg : ∀ x ∈ l, x.good) :
    Calls Try.prog 8 #[.agg #[.int .i64 a0, .int .i64 a1, .int .i64 a2, .int .i64 a3, .int .i64 a4, .int .i64 a5], .slice A len cap] w fun e w' => e = .returned (.bool true) ∧ Below w.heap.size w w' := by
  obtain ⟨p, rfl, rfl, rfl, rfl, rfl, rfl⟩ : ∃ p : Pol, a0 = p.min ∧ a1 = p.max ∧ a2 = p.target ∧ a3 = p.tol ∧ a4 = p.window ∧ a5 = p.hold := ⟨⟨a0, a1, a2, a3, a4, a5⟩, rfl, rfl, rfl, rfl, rfl, rfl⟩
  have HP := Lib.hid (show p.fit from ⟨h0, h1, h2, h3, h4, h5⟩)
  have HS := Lib.hid hs
  have HG := Lib.hid hg
  have hle : len ≤ cap := hs.2.1
  have hm : cap ≤ 9223372036854775807 := by have := hs.2.2.1; unfold maxLen at this; omega
  clear h0 h1 h2 h3 h4 h5 hs hg
  go_enter Try.func8, Try.ntmps8
  go_wp2_with fail
  refine (awake44 _).mono ?_
  rintro e v1 ⟨rfl, hb1⟩
  have E0 := (show Below w.heap.size w (w.alloc (.cells p.row 23)) by go_grown)
  have B0 := Lib.hid ((Blk.new w 23 p.row).call hb1)
  have E1 := Lib.hid (E0.trans (hb1.mono E0.size))
  clear hb1 E0
  by_cases hl : 60 < len
  · go_wp2
    go_ret
    exact ⟨rfl, E1.out⟩
  · go_wp2
    refine wp_region_any (by kernel_rfl) ?_; change wpAny _ _ _ _ _ _ _ (World.drew v1); refine any_of_anyG (late := fun _ => false) (S := fun w1 => Below v1.heap.size v1 w1) _ _ _ _ ?_
    have S0 := (Below.refl v1.heap.size v1).drew
    refine anyG_take (i := 0) (v := _) rfl (by kernel_rfl) (by kernel_rfl) (by kernel_rfl) (by kernel_rfl) rfl (by kernel_rfl) (fun j hj => by first | (simp at hj; done) | (simp at hj; simp; omega)) (fun _ _ _ h => h) (Or.inl ⟨by rfl, fun W1 hW1 => exec_load (ty := 23) (x := .tmp 2) rfl rfl (run_loadAt_blk _ _ _ _ _ _ (B0.out.call hW1) Try.underlying23 rfl (by first | kernel_rfl | exact info_num _))⟩) (S0) ?_
    refine anyG_take (i := 1) (v := _) rfl (by kernel_rfl) (by kernel_rfl) (by kernel_rfl) (by kernel_rfl) rfl (by kernel_rfl) (fun j hj => by first | (simp at hj; done) | (simp at hj; simp; omega)) (fun _ _ _ h => h) (Or.inl ⟨by rfl, fun W1 hW1 => by first | rfl | (go_simp; done) | (go_simp; with_reducible rfl)⟩) (S0) ?_
    refine anyG_take (i := 3) (v := _) rfl (by kernel_rfl) (by kernel_rfl) (by kernel_rfl) (by kernel_rfl) rfl (by kernel_rfl) (fun j hj => by first | (simp at hj; done) | (simp at hj; simp; omega)) (fun _ _ _ h => h) (Or.inl ⟨by rfl, fun W1 hW1 => exec_load (ty := 23) (x := .tmp 2) rfl rfl (run_loadAt_blk _ _ _ _ _ _ (B0.out.call hW1) Try.underlying23 rfl (by first | kernel_rfl | exact info_num _))⟩) (S0) ?_
    refine anyG_take (i := 4) (v := _) rfl (by kernel_rfl) (by kernel_rfl) (by kernel_rfl) (by kernel_rfl) rfl (by kernel_rfl) (fun j hj => by first | (simp at hj; done) | (simp at hj; simp; omega)) (fun _ _ _ h => h) (Or.inl ⟨by rfl, fun W1 hW1 => by first | rfl | (go_simp; done) | (go_simp; with_reducible rfl)⟩) (S0) ?_
    refine anyG_one (k := 2) (by kernel_rfl) rfl (by rfl) (fun Q2 hQ2 => ?_); go_wp2_with (go_at_call 43; refine (trial_Judge p A len cap l _ HP.out (slice_keep HS.out (E1.out.trans (S0.mono E1.out.size))) HG.out (by omega)).mono ?_; rintro e v2 ⟨vj, rfl, hoj, hb2⟩; obtain ⟨A2, c2, rfl, hs2⟩ := hoj.slice (fun _ => rfl); clear hoj; have HS2 := Lib.hid hs2; clear hs2); refine hQ2 _ _ (fun _ => S0.trans (hb2.mono S0.size)) ?_; clear hQ2 Q2
    have S2 := S0.trans (hb2.mono S0.size)
    refine anyG_one (k := 5) (by kernel_rfl) rfl (by rfl) (fun Q2 hQ2 => ?_); go_wp2_with (go_at_call 44; refine (ref44_Judge p A len cap l _ HP.out (slice_keep HS.out (E1.out.trans (S2.mono E1.out.size))) HG.out (by omega)).mono ?_; rintro e v3 ⟨rfl, hb3⟩); refine hQ2 _ _ (fun _ => S2.trans (hb3.mono S2.size)) ?_; clear hQ2 Q2
    have S3 := S2.trans (hb3.mono S2.size)
    refine anyG_one (k := 6) (by kernel_rfl) rfl (by rfl) (fun Q2 hQ2 => ?_); go_wp2_with (go_at_call 42; refine (ref44_Same A2 A l.length c2 len cap l _ _ _ _ _ _ _ (slice_keep HS2.out hb3) (slice_keep HS.out (E1.out.trans (S3.mono E1.out.size)))).mono ?_; rintro e v4 ⟨rfl, hb4⟩); refine hQ2 _ _ (fun _ => S3.trans (hb4.mono S3.size)) ?_; clear hQ2 Q2
    have S4 := S3.trans (hb4.mono S3.size)
    refine anyG_one (k := 7) (by kernel_rfl) rfl (by rfl) (fun Q2 hQ2 => ?_); go_wp2_with fail; refine hQ2 _ _ (fun _ => S4) ?_; clear hQ2 Q2
    refine anyG_done (by kernel_rfl) ?_ _
    go_wp2
    go_ret
    exact ⟨rfl, E1.out.trans (S4.mono E1.out.size)⟩
end Go.Proofs.Ytlodmnohmlkjmaa
