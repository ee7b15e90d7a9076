/- The laws of chapter 16: awake, DecideTells. -/
import Derived.Test.YtanphcdggmbomaaDec5
import Derived.Test.YtanphcdggmbomaaDec6
import Derived.Test.YtanphcdggmbomaaAdvSame
import Derived.Test.YtanphcdggmbomaaAdvDec
namespace Go.Proofs.Ytanphcdggmbomaa
open Go.RowKit
set_option linter.unusedSimpArgs false
set_option linter.unusedVariables false
set_option maxHeartbeats 8000000
set_option maxRecDepth 100000
theorem eq_advN (a0 a1 a2 a3 a4 b0 b1 b2 b3 b4 : Int) (b : Bool) (hb : ([a0, a1, a2, a3, a4] == [b0, b1, b2, b3, b4]) = b) :
    (∀ (W : World) (op : BinOp) (o1 o2 : Operand), (eqGuard op 28 o1 o2 (.agg #[.int .i64 a0, .int .i64 a1, .int .i64 a2, .int .i64 a3, .int .i64 a4]) (.agg #[.int .i64 b0, .int .i64 b1, .int .i64 b2, .int .i64 b3, .int .i64 b4])).run Try.prog W = .ok () W) ∧
    (∀ W : World, (binOp .eql 28 (.agg #[.int .i64 a0, .int .i64 a1, .int .i64 a2, .int .i64 a3, .int .i64 a4]) (.agg #[.int .i64 b0, .int .i64 b1, .int .i64 b2, .int .i64 b3, .int .i64 b4])).run Try.prog W = .ok (.bool b) W) ∧
    (∀ W : World, (binOp .neq 28 (.agg #[.int .i64 a0, .int .i64 a1, .int .i64 a2, .int .i64 a3, .int .i64 a4]) (.agg #[.int .i64 b0, .int .i64 b1, .int .i64 b2, .int .i64 b3, .int .i64 b4])).run Try.prog W = .ok (.bool (!b)) W) :=
  eq_ints (t := 28) (by kernel_rfl) (by kernel_rfl) (by kernel_rfl) (by kernel_rfl) [.i64, .i64, .i64, .i64, .i64] [a0, a1, a2, a3, a4] [b0, b1, b2, b3, b4] (by kernel_rfl) (by kernel_rfl) (by kernel_rfl) _ _ rfl rfl b hb
def usual16 : Pol := ⟨1, 10, 100, 100, 5, 3⟩
theorem usual16_fit : usual16.fit := by unfold Pol.fit usual16 I64; simp
theorem usual_16 (w : World) : Calls Try.prog 33 #[] w fun e w' => e = .returned (.agg #[.int .i64 1, .int .i64 10, .int .i64 100, .int .i64 100, .int .i64 5, .int .i64 3]) ∧ Below w.heap.size w w' := by
  go_enter Try.func33, Try.ntmps33
  go_wp2
  go_returns
  exact ⟨rfl, by go_grown⟩
theorem of_16 (w : World) (A : Option Addr) (hs : SmpsAre w A 1 1 [⟨1, 250⟩]) : Calls Try.prog 11 #[.agg #[.int .i64 1, .int .i64 10, .int .i64 100, .int .i64 100, .int .i64 5, .int .i64 3], .slice A 1 1, .slice none 0 0] w fun e w' => e = .returned (.tuple #[.agg #[.int .i64 1, .int .i64 250, .int .i64 3, .int .i64 3, .int .i64 2], .int .i64 0]) ∧ Below w.heap.size w w' :=
  (decide_Of usual16 A 1 1 [⟨1, 250⟩] none 0 0 [] w usual16_fit hs (fun x hx => by simp at hx; subst hx; unfold Smp.good I64; simp) (by omega) (slice_nil _ _ _) (by omega)).mono fun _ _ h => by
    rw [show ofq usual16 [⟨1, 250⟩] [] = ⟨1, 250, 3, 3, 2⟩ by decide +kernel, show ofe usual16 [⟨1, 250⟩] = 0 by decide +kernel] at h; exact h
theorem of_16n (w : World) : Calls Try.prog 11 #[.agg #[.int .i64 1, .int .i64 10, .int .i64 100, .int .i64 100, .int .i64 5, .int .i64 3], .slice none 0 0, .slice none 0 0] w fun e w' => e = .returned (.tuple #[.agg #[.int .i64 0, .int .i64 0, .int .i64 0, .int .i64 0, .int .i64 0], .int .i64 5]) ∧ Below w.heap.size w w' :=
  (decide_Of usual16 none 0 0 [] none 0 0 [] w usual16_fit (slice_nil _ _ _) (fun x hx => by simp at hx) (by omega) (slice_nil _ _ _) (by omega)).mono fun _ _ h => by
    rw [show ofq usual16 [] [] = ⟨0, 0, 0, 0, 0⟩ by decide +kernel, show ofe usual16 [] = 5 by decide +kernel] at h; exact h
theorem awake16 (w : World) : Calls Try.prog 10 #[] w fun e w' => e = .returned (.bool true) ∧ Below w.heap.size w w' := by
  obtain ⟨q1, q2, q3⟩ := eq_advN 1 250 3 3 2 1 250 3 3 2 true (by decide)
  clear q3
  go_enter Try.func10, Try.ntmps10
  go_wp2_with fail
  refine (usual_16 _).mono ?_
  rintro e v1 ⟨rfl, hb1⟩
  have E1 := Lib.hid hb1
  clear hb1
  go_wp2_with fail
  refine (of_16 _ _ (slice_blk (l := ([⟨1, 250⟩] : List Smp)) (fun _ => rfl) (Blk.new v1 _ _) rfl (by decide))).mono ?_
  rintro e v2 ⟨rfl, hb2⟩
  have e1 := E1.out.alloc E1.out.size (.cells #[.int .i64 1, .int .i64 250] 66)
  have E2 := Lib.hid (e1.trans (hb2.mono e1.size))
  clear hb2 e1
  go_wp2_with fail
  refine (usual_16 _).mono ?_
  rintro e v3 ⟨rfl, hb3⟩
  have e2 := E2.out.alloc E2.out.size (.cells #[.int .i64 1, .int .i64 250, .int .i64 3, .int .i64 3, .int .i64 2] 28)
  have E3 := Lib.hid (e2.trans (hb3.mono e2.size))
  have B3 := Lib.hid ((Blk.new v2 28 #[.int .i64 1, .int .i64 250, .int .i64 3, .int .i64 3, .int .i64 2]).call hb3)
  clear hb3 e2
  go_wp2_with fail
  refine (of_16n _).mono ?_
  rintro e v4 ⟨rfl, hb4⟩
  have E4 := Lib.hid (E3.out.trans (hb4.mono E3.out.size))
  have B4 := B3.out.call hb4
  have c0 := B4.cellv (i := 0) (v := .int .i64 1) rfl
  have c1 := B4.cellv (i := 1) (v := .int .i64 250) rfl
  have c2 := B4.cellv (i := 2) (v := .int .i64 3) rfl
  have c3 := B4.cellv (i := 3) (v := .int .i64 3) rfl
  have c4 := B4.cellv (i := 4) (v := .int .i64 2) rfl
  have lt := B4.lt
  clear hb4 B4
  go_wp2
  go_ret
  exact ⟨rfl, E4.out.alloc E4.out.size _⟩
theorem bound_in2 (p : Pol) (n : Int) (h : p.okP) : p.min ≤ boundq p n ∧ boundq p n ≤ p.max := by
  obtain ⟨k1, k2, k3, k4, k5, k6, k7, k8, k9⟩ := id h
  unfold boundq clampq
  rw [if_pos h]
  split
  · omega
  · split <;> omega
theorem of_in (p : Pol) (l : List Smp) (past : List Adv) (h : ofe p l = 0) : p.min ≤ (ofq p l past).repl ∧ (ofq p l past).repl ≤ p.max := by
  by_cases hk : p.okP
  · by_cases h0 : l.length = 0
    · rw [(ofq_nil (past := past) hk h0).2] at h; omega
    · rw [(ofq_ok (past := past) hk h0).1]
      exact bound_in2 p _ hk
  · rw [(ofq_no (l := l) (past := past) hk).2] at h; omega
theorem ofe_cases (p : Pol) (l : List Smp) : ofe p l = 0 ∨ ofe p l = 5 ∨ ofe p l = 7 := by
  unfold ofe
  split
  · simp
  · split <;> simp
theorem walk_DecideTells (a0 a1 a2 a3 a4 a5 : Int) (A : Option Addr) (len cap : Nat) (l : List Smp) (B : Option Addr) (len2 cap2 : Nat) (past : List Adv) (w : World) (h0 : I64 a0) (h1 : I64 a1) (h2 : I64 a2) (h3 : I64 a3) (h4 : I64 a4) (h5 : I64 a5) (hs : SmpsAre w A len cap l) (hg : ∀ x ∈ l, x.good) (hs2 : AdvsAre w B len2 cap2 past) (hg2 : ∀ x ∈ past, x.good) :
    Calls Try.prog 3 #[.agg #[.int .i64 a0, .int .i64 a1, .int .i64 a2, .int .i64 a3, .int .i64 a4, .int .i64 a5], .slice A len cap, .slice B len2 cap2] w fun e w' => e = .returned (.bool true) ∧ Below w.heap.size w w' := by
  obtain ⟨p, rfl, rfl, rfl, rfl, rfl, rfl⟩ : ∃ p : Pol, a0 = p.min ∧ a1 = p.max ∧ a2 = p.target ∧ a3 = p.tol ∧ a4 = p.window ∧ a5 = p.hold := ⟨⟨a0, a1, a2, a3, a4, a5⟩, rfl, rfl, rfl, rfl, rfl, rfl⟩
  have HP := Lib.hid (show p.fit from ⟨h0, h1, h2, h3, h4, h5⟩)
  have HS := Lib.hid hs
  have HS2 := Lib.hid hs2
  have HG := Lib.hid hg
  have hle : len ≤ cap := hs.2.1
  have hm : cap ≤ 9223372036854775807 := by have := hs.2.2.1; unfold maxLen at this; omega
  have hle2 : len2 ≤ cap2 := hs2.2.1
  have hm2 : cap2 ≤ 9223372036854775807 := by have := hs2.2.2.1; unfold maxLen at this; omega
  clear h0 h1 h2 h3 h4 h5 hs hg hs2 hg2
  go_enter Try.func3, Try.ntmps3
  go_wp2_with fail
  refine (awake16 _).mono ?_
  rintro e v1 ⟨rfl, hb1⟩
  have E0 := (show Below w.heap.size w (w.alloc (.cells p.row 23)) by go_grown)
  have B0 := Lib.hid ((Blk.new w 23 p.row).call hb1)
  have E1 := Lib.hid (E0.trans (hb1.mono E0.size))
  clear hb1 E0
  by_cases hl : 40 < len
  · go_wp2
    go_ret
    exact ⟨rfl, E1.out⟩
  by_cases hl2 : 40 < len2
  · go_wp2
    go_ret
    exact ⟨rfl, E1.out⟩
  have HO := Lib.hid (fun W hW hW2 => (show Calls Try.prog 11 #[(.agg #[.int .i64 p.min, .int .i64 p.max, .int .i64 p.target, .int .i64 p.tol, .int .i64 p.window, .int .i64 p.hold]), .slice A len cap, .slice B len2 cap2] W fun e w' => e = .returned (.tuple #[.agg #[.int .i64 (ofq p l past).tick, .int .i64 (ofq p l past).load, .int .i64 (ofq p l past).want, .int .i64 (ofq p l past).repl, .int .i64 (ofq p l past).why], .int .i64 (ofe p l)]) ∧ Below W.heap.size W w' from decide_Of p A len cap l B len2 cap2 past W HP.out hW HG.out (by omega) hW2 (by omega)))
  have HR := Lib.hid (fun W hW hW2 => (show Calls Try.prog 12 #[(.agg #[.int .i64 p.min, .int .i64 p.max, .int .i64 p.target, .int .i64 p.tol, .int .i64 p.window, .int .i64 p.hold]), .slice A len cap, .slice B len2 cap2] W fun e w' => e = .returned (.tuple #[.agg #[.int .i64 (ofq p l past).tick, .int .i64 (ofq p l past).load, .int .i64 (ofq p l past).want, .int .i64 (ofq p l past).repl, .int .i64 (ofq p l past).why], .int .i64 (ofe p l)]) ∧ Below W.heap.size W w' from ref16_Of p A len cap l B len2 cap2 past W HP.out hW HG.out (by omega) hW2 (by omega)))
  have HN1 := Lib.hid (fun W hW => decide_Now p B len2 cap2 past W hW (by omega))
  have HN2 := Lib.hid (fun W hW => ref16_Now p B len2 cap2 past W hW (by omega))
  have HIn := Lib.hid (of_in p l past)
  have HEc := ofe_cases p l
  generalize nowq p past = NW at *
  generalize ofe p l = EE at *
  generalize ofq p l past = X at *
  obtain ⟨q1, q2, q3⟩ := eq_advN X.tick X.load X.want X.repl X.why X.tick X.load X.want X.repl X.why true (by simp)
  clear q2
  go_wp2_with (refine Blk.load rfl 23 (.tmp 3) rfl w.heap.size _ _ _ rfl B0.out Try.underlying23 rfl (by kernel_rfl) ?_)
  refine (HO.out _ (slice_keep HS.out E1.out) (slice_keep HS2.out E1.out)).mono ?_
  rintro e v2 ⟨rfl, hb2⟩
  have e2 := E1.out.trans (hb2.mono E1.out.size)
  have E2 := Lib.hid (e2.alloc e2.size (.cells #[.int .i64 X.tick, .int .i64 X.load, .int .i64 X.want, .int .i64 X.repl, .int .i64 X.why] 28))
  have B2 := Lib.hid ((B0.out.call hb2).alloc (.cells #[.int .i64 X.tick, .int .i64 X.load, .int .i64 X.want, .int .i64 X.repl, .int .i64 X.why] 28))
  have X2 := Lib.hid (Blk.new v2 28 #[.int .i64 X.tick, .int .i64 X.load, .int .i64 X.want, .int .i64 X.repl, .int .i64 X.why])
  clear hb2 e2
  go_wp2_with (refine Blk.load rfl 23 (.tmp 3) rfl w.heap.size _ _ _ rfl B2.out Try.underlying23 rfl (by kernel_rfl) ?_)
  refine (HR.out _ (slice_keep HS.out E2.out) (slice_keep HS2.out E2.out)).mono ?_
  rintro e v3 ⟨rfl, hb3⟩
  have e3 := E2.out.trans (hb3.mono E2.out.size)
  have E3 := Lib.hid (e3.alloc e3.size (.cells #[.int .i64 X.tick, .int .i64 X.load, .int .i64 X.want, .int .i64 X.repl, .int .i64 X.why] 28))
  have B3 := Lib.hid ((B2.out.call hb3).alloc (.cells #[.int .i64 X.tick, .int .i64 X.load, .int .i64 X.want, .int .i64 X.repl, .int .i64 X.why] 28))
  have X3 := Lib.hid ((X2.out.call hb3).alloc (.cells #[.int .i64 X.tick, .int .i64 X.load, .int .i64 X.want, .int .i64 X.repl, .int .i64 X.why] 28))
  have Y3 := Lib.hid (Blk.new v3 28 #[.int .i64 X.tick, .int .i64 X.load, .int .i64 X.want, .int .i64 X.repl, .int .i64 X.why])
  clear hb3 e3 E2 B2 X2
  go_upto_region 7 with (fail)
  generalize v2.heap.size = g7 at *
  generalize v3.heap.size = g9 at *
  generalize v3.alloc (.cells #[.int .i64 X.tick, .int .i64 X.load, .int .i64 X.want, .int .i64 X.repl, .int .i64 X.why] 28) = v4 at *
  refine wp_region_any (by kernel_rfl) ?_; change wpAny _ _ _ _ _ _ _ (World.drew v4); refine any_of_anyG (late := fun _ => false) (S := fun wS => Below v4.heap.size v4 wS) _ _ _ _ ?_
  have S0 := (Below.refl v4.heap.size v4).drew
  refine anyG_take (i := 0) (v := _) rfl (by kernel_rfl) (by kernel_rfl) (by kernel_rfl) (by kernel_rfl) rfl (by kernel_rfl) (fun j hj => by first | (simp at hj; done) | (simp at hj; simp; omega)) (fun _ _ _ h => h) (Or.inl ⟨by rfl, fun W1 hW1 => exec_load (ty := 28) (x := .tmp 7) rfl rfl (run_loadAt_blk _ _ _ _ _ _ (X3.out.call hW1) Try.underlying28 rfl (by first | kernel_rfl | exact info_num _))⟩) (S0) ?_
  refine anyG_take (i := 1) (v := _) rfl (by kernel_rfl) (by kernel_rfl) (by kernel_rfl) (by kernel_rfl) rfl (by kernel_rfl) (fun j hj => by first | (simp at hj; done) | (simp at hj; simp; omega)) (fun _ _ _ h => h) (Or.inl ⟨by rfl, fun W1 hW1 => exec_load (ty := 28) (x := .tmp 9) rfl rfl (run_loadAt_blk _ _ _ _ _ _ (Y3.out.call hW1) Try.underlying28 rfl (by first | kernel_rfl | exact info_num _))⟩) (S0) ?_
  refine anyG_one (k := 2) (by kernel_rfl) rfl (by rfl) (fun Q2 hQ2 => ?_); go_wp2_with fail; refine hQ2 _ _ (fun _ => S0) ?_; clear hQ2 Q2
  refine anyG_one (k := 3) (by kernel_rfl) rfl (by rfl) (fun Q2 hQ2 => ?_); go_wp2_with fail; refine hQ2 _ _ (fun _ => S0) ?_; clear hQ2 Q2
  refine anyG_take (i := 4) (v := _) rfl (by kernel_rfl) (by kernel_rfl) (by kernel_rfl) (by kernel_rfl) rfl (by kernel_rfl) (fun j hj => by first | (simp at hj; done) | (simp at hj; simp; omega)) (fun _ _ _ h => h) (Or.inl ⟨by rfl, fun W1 hW1 => by first | rfl | (go_simp; done) | (go_simp; with_reducible rfl)⟩) (S0) ?_
  refine anyG_one (k := 5) (by kernel_rfl) rfl (by rfl) (fun Q2 hQ2 => ?_); go_wp2_with fail; refine hQ2 _ _ (fun _ => S0) ?_; clear hQ2 Q2
  refine anyG_one (k := 6) (by kernel_rfl) rfl (by rfl) (fun Q2 hQ2 => ?_); go_wp2_with fail; refine hQ2 _ _ (fun _ => S0) ?_; clear hQ2 Q2
  refine anyG_one (k := 7) (by kernel_rfl) rfl (by rfl) (fun Q2 hQ2 => ?_); go_wp2_with fail; refine hQ2 _ _ (fun _ => S0) ?_; clear hQ2 Q2
  refine anyG_one (k := 8) (by kernel_rfl) rfl (by rfl) (fun Q2 hQ2 => ?_); go_wp2_with fail; refine hQ2 _ _ (fun _ => S0) ?_; clear hQ2 Q2
  refine anyG_take (i := 9) (v := _) rfl (by kernel_rfl) (by kernel_rfl) (by kernel_rfl) (by kernel_rfl) rfl (by kernel_rfl) (fun j hj => by first | (simp at hj; done) | (simp at hj; simp; omega)) (fun _ _ _ h => h) (Or.inl ⟨by rfl, fun W1 hW1 => exec_load (ty := 23) (x := .tmp 3) rfl rfl (run_loadAt_blk _ _ _ _ _ _ (B3.out.call hW1) Try.underlying23 rfl (by first | kernel_rfl | exact info_num _))⟩) (S0) ?_
  refine anyG_take (i := 10) (v := _) rfl (by kernel_rfl) (by kernel_rfl) (by kernel_rfl) (by kernel_rfl) rfl (by kernel_rfl) (fun j hj => by first | (simp at hj; done) | (simp at hj; simp; omega)) (fun _ _ _ h => h) (Or.inl ⟨by rfl, fun W1 hW1 => by first | rfl | (go_simp; done) | (go_simp; with_reducible rfl)⟩) (S0) ?_
  refine anyG_take (i := 12) (v := _) rfl (by kernel_rfl) (by kernel_rfl) (by kernel_rfl) (by kernel_rfl) rfl (by kernel_rfl) (fun j hj => by first | (simp at hj; done) | (simp at hj; simp; omega)) (fun _ _ _ h => h) (Or.inl ⟨by rfl, fun W1 hW1 => exec_load (ty := 23) (x := .tmp 3) rfl rfl (run_loadAt_blk _ _ _ _ _ _ (B3.out.call hW1) Try.underlying23 rfl (by first | kernel_rfl | exact info_num _))⟩) (S0) ?_
  refine anyG_take (i := 13) (v := _) rfl (by kernel_rfl) (by kernel_rfl) (by kernel_rfl) (by kernel_rfl) rfl (by kernel_rfl) (fun j hj => by first | (simp at hj; done) | (simp at hj; simp; omega)) (fun _ _ _ h => h) (Or.inl ⟨by rfl, fun W1 hW1 => by first | rfl | (go_simp; done) | (go_simp; with_reducible rfl)⟩) (S0) ?_
  refine anyG_one (k := 11) (by kernel_rfl) rfl (by rfl) (fun Q2 hQ2 => ?_); go_wp2_with (go_at_call 13; refine (HN1.out _ (slice_keep HS2.out (E3.out.trans (S0.mono E3.out.size)))).mono ?_; rintro e v5 ⟨rfl, hb5⟩); refine hQ2 _ _ (fun _ => S0.trans (hb5.mono S0.size)) ?_; clear hQ2 Q2
  have S5 := S0.trans (hb5.mono S0.size)
  refine anyG_one (k := 14) (by kernel_rfl) rfl (by rfl) (fun Q2 hQ2 => ?_); go_wp2_with (go_at_call 14; refine (HN2.out _ (slice_keep HS2.out (E3.out.trans (S5.mono E3.out.size)))).mono ?_; rintro e v6 ⟨rfl, hb6⟩); refine hQ2 _ _ (fun _ => S5.trans (hb6.mono S5.size)) ?_; clear hQ2 Q2
  have S6 := S5.trans (hb6.mono S5.size)
  refine anyG_one (k := 15) (by kernel_rfl) rfl (by rfl) (fun Q2 hQ2 => ?_); go_wp2_with fail; refine hQ2 _ _ (fun _ => S6) ?_; clear hQ2 Q2
  refine anyG_one (k := 16) (by kernel_rfl) rfl (by rfl) (fun Q2 hQ2 => ?_); go_wp2_with fail; refine hQ2 _ _ (fun _ => S6) ?_; clear hQ2 Q2
  refine anyG_done (by kernel_rfl) ?_ _
  have E4 := Lib.hid (E3.out.trans (S6.mono E3.out.size))
  have cx := (X3.out.call S6).cellv (i := 3) (v := .int .i64 X.repl) rfl
  have cp0 := (B3.out.call S6).cellv (i := 0) (v := .int .i64 p.min) rfl
  have cp1 := (B3.out.call S6).cellv (i := 1) (v := .int .i64 p.max) rfl
  by_cases hE : EE = 0
  · obtain ⟨r1, r2⟩ := HIn.out hE
    have dE : (EE == 0) = true := by simpa using hE
    clear HEc
    go_wp2
    all_goals first | (exfalso; omega) | (go_ret; exact ⟨rfl, E4.out⟩)
  · have dE : (EE == 0) = false := by simpa using hE
    clear HEc
    go_wp2
    all_goals first | (exfalso; omega) | (go_ret; exact ⟨rfl, E4.out⟩)
end Go.Proofs.Ytanphcdggmbomaa
