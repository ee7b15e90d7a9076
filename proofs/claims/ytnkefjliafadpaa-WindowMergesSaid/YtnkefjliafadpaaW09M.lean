/- window.Merge, and the law WindowMerges: the walk. -/
import Derived.Test.YtnkefjliafadpaaW09O
import Derived.Test.YtnkefjliafadpaaRegT
import Derived.Deep.DeepCutAuto
namespace Go.Proofs.Ytnkefjliafadpaa
open Go.RowKit
set_option linter.unusedSimpArgs false
set_option linter.unusedVariables false
set_option maxHeartbeats 4000000
set_option maxRecDepth 100000
def lowq (a b : Int) : Int := if b < a then b else a
def highq2 (a b : Int) : Int := if a < b then b else a
def mergeq (a b : Stat) : Stat :=
  if a.count < 1 then b else if b.count < 1 then a
  else ⟨satq (a.count + b.count), satq (a.sum + b.sum), lowq a.least b.least, highq2 a.most b.most, ceilq (satq (a.sum + b.sum)) (satq (a.count + b.count))⟩
abbrev zStat : Array Value := #[.int .i64 0, .int .i64 0, .int .i64 0, .int .i64 0, .int .i64 0]
theorem lowq_min (a b : Int) : lowq a b = min a b := by unfold lowq; split <;> omega
theorem highq2_max (a b : Int) : highq2 a b = max a b := by unfold highq2; split <;> omega
theorem minq_app {l m : List Int} (hl : l ≠ []) (hm : m ≠ []) : minq (l ++ m) = min (minq l) (minq m) := by
  have h1 := (minq_le (l ++ m) (by simp [hl]) (min (minq l) (minq m))).2 fun x hx => by
    rcases List.mem_append.1 hx with h | h
    · have := (minq_le l hl (minq l)).1 (Int.le_refl _) x h; omega
    · have := (minq_le m hm (minq m)).1 (Int.le_refl _) x h; omega
  have h2 := (minq_le l hl (minq (l ++ m))).2 fun x hx => (minq_le (l ++ m) (by simp [hl]) _).1 (Int.le_refl _) x (by simp [hx])
  have h3 := (minq_le m hm (minq (l ++ m))).2 fun x hx => (minq_le (l ++ m) (by simp [hl]) _).1 (Int.le_refl _) x (by simp [hx])
  omega
theorem maxq_app {l m : List Int} (hl : l ≠ []) (hm : m ≠ []) : maxq (l ++ m) = max (maxq l) (maxq m) := by
  have h1 := (maxq_le (l ++ m) (by simp [hl]) (max (maxq l) (maxq m))).2 fun x hx => by
    rcases List.mem_append.1 hx with h | h
    · have := (maxq_le l hl (maxq l)).1 (Int.le_refl _) x h; omega
    · have := (maxq_le m hm (maxq m)).1 (Int.le_refl _) x h; omega
  have h2 := (maxq_le l hl (maxq (l ++ m))).2 fun x hx => (maxq_le (l ++ m) (by simp [hl]) _).1 (Int.le_refl _) x (by simp [hx])
  have h3 := (maxq_le m hm (maxq (l ++ m))).2 fun x hx => (maxq_le (l ++ m) (by simp [hl]) _).1 (Int.le_refl _) x (by simp [hx])
  omega
theorem tot_sum (l : List Int) (h : ∀ x ∈ l, 0 ≤ x) : (totq l : Int) = l.sum := by
  induction l with
  | nil => rfl
  | cons x l ih =>
    have h0 := h x (by simp)
    have := ih fun y hy => h y (by simp [hy])
    simp only [totq, List.map_cons, List.sum_cons] at *
    omega
theorem ceil_up (n d : Nat) (hd : 0 < d) : ceilq (n : Int) (d : Int) = ((upq n d : Nat) : Int) := by
  unfold ceilq
  rw [if_neg (by omega)]
  have h := (upq_spec (n := n) (d := d) (q := upq n d) hd).2 rfl
  generalize upq n d = q at *
  have e : (-(n : Int)) / (d : Int) = -(q : Int) := by
    have hq : (q : Int) * d - n ≥ 0 := by
      have := h.1; have : ((n : Nat) : Int) ≤ ((q * d : Nat) : Int) := by exact_mod_cast this
      rw [Int.natCast_mul] at this; omega
    have hr : (q : Int) * d - n < d := by
      rcases h.2 with h0 | h0
      · subst h0
        have := h.1
        simp at this
        omega
      · by_cases hq0 : q = 0
        · subst hq0
          have := h.1
          simp at this
          omega
        · have h1 : (((q - 1) * d : Nat) : Int) < (n : Int) := by exact_mod_cast h0
          rw [Int.natCast_mul, show ((q - 1 : Nat) : Int) = (q : Int) - 1 by omega, Int.sub_mul] at h1
          omega
    exact (fl_uniq (a := -(n : Int)) (b := (d : Int)) (q := -(q : Int)) (r := (q : Int) * d - n) (by omega) (by rw [Int.mul_neg, Int.mul_comm (d : Int)]; omega) hq hr).1
  rw [e]; omega
theorem window_Merge (a b : Stat) (w : World) (h1 : I64 a.count) (h2 : I64 a.sum) (h3 : I64 b.count) (h4 : I64 b.sum) :
    Calls Try.prog 24 #[.agg a.row, .agg b.row] w fun e w' => e = .returned (.agg (mergeq a b).row) ∧ Below w.heap.size w w' := by
  have b0 := ((Blk.new w 32 a.row).alloc (.cells b.row 32)).alloc (.cells zStat 32)
  have b1 := (Blk.new2 w (.cells a.row 32) 32 b.row).alloc (.cells zStat 32)
  have b2 : Blk (((w.alloc (.cells a.row 32)).alloc (.cells b.row 32)).alloc (.cells zStat 32)) (w.heap.size + 1 + 1) 32 zStat := by
    have h := Blk.new ((w.alloc (.cells a.row 32)).alloc (.cells b.row 32)) 32 zStat
    simpa using h
  have e0 : Below w.heap.size w (((w.alloc (.cells a.row 32)).alloc (.cells b.row 32)).alloc (.cells zStat 32)) := by go_grown
  have B0 := Lib.hid b0
  have B1 := Lib.hid b1
  have B2 := Lib.hid b2
  have E0 := Lib.hid e0
  clear b0 b1 b2 e0
  by_cases c1 : a.count < 1
  · have HQ := Lib.hid (show mergeq a b = b by unfold mergeq; rw [if_pos c1])
    go_enter Try.func24, Try.ntmps24
    go_wp2_with (first | (refine Blk.load rfl 32 (.tmp 3) rfl (w.heap.size + 1) _ _ _ rfl B1.out Try.underlying32 rfl (by kernel_rfl) ?_) | (refine wpList_store_row rfl 32 (.tmp 4) (.tmp 9) rfl (w.heap.size + 1 + 1) _ _ _ rfl rfl B2.out (by rfl) (by kernel_rfl) (by simp [Value.oneCell']) ?_; intro w9 hb9 hg9))
    refine bodyPost_ret (results_row rfl _ _ (w.heap.size + 1 + 1) _ _ _ rfl hb9 Try.underlying32 rfl (by kernel_rfl)) rfl ⟨by rw [HQ.out], E0.out.trans (Only.below hg9 (by omega) E0.out.size)⟩
  by_cases c2 : b.count < 1
  · have HQ := Lib.hid (show mergeq a b = a by unfold mergeq; rw [if_neg c1, if_pos c2])
    go_enter Try.func24, Try.ntmps24
    go_wp2_with (first | (refine Blk.load rfl 32 (.tmp 2) rfl w.heap.size _ _ _ rfl B0.out Try.underlying32 rfl (by kernel_rfl) ?_) | (refine wpList_store_row rfl 32 (.tmp 4) (.tmp 14) rfl (w.heap.size + 1 + 1) _ _ _ rfl rfl B2.out (by rfl) (by kernel_rfl) (by simp [Value.oneCell']) ?_; intro w9 hb9 hg9))
    refine bodyPost_ret (results_row rfl _ _ (w.heap.size + 1 + 1) _ _ _ rfl hb9 Try.underlying32 rfl (by kernel_rfl)) rfl ⟨by rw [HQ.out], E0.out.trans (Only.below hg9 (by omega) E0.out.size)⟩
  · have HQ := Lib.hid (show mergeq a b = ⟨satq (a.count + b.count), satq (a.sum + b.sum), lowq a.least b.least, highq2 a.most b.most, ceilq (satq (a.sum + b.sum)) (satq (a.count + b.count))⟩ by unfold mergeq; rw [if_neg c1, if_neg c2])
    have HC := Lib.hid (fun W => sat_Add a.count b.count W h1 h3)
    have HS := Lib.hid (fun W => sat_Add a.sum b.sum W h2 h4)
    have HD := Lib.hid (fun W => sat_Ceil (satq (a.sum + b.sum)) (satq (a.count + b.count)) W (satq_I64 _) (satq_I64 _))
    have HLo := Lib.hid (show lowq a.least b.least = if b.least < a.least then b.least else a.least from rfl)
    have HHi := Lib.hid (show highq2 a.most b.most = if a.most < b.most then b.most else a.most from rfl)
    generalize satq (a.count + b.count) = N at *
    generalize satq (a.sum + b.sum) = S at *
    generalize ceilq S N = C at *
    generalize lowq a.least b.least = LO at *
    generalize highq2 a.most b.most = HI at *
    go_enter Try.func24, Try.ntmps24
    go_upto_region 5 with (fail)
    generalize ((w.alloc (.cells a.row 32)).alloc (.cells b.row 32)).alloc (.cells zStat 32) = W5 at *
    refine wp_region_any (by kernel_rfl) ?_; change wpAny _ _ _ _ _ _ _ (World.drew W5); refine any_of_anyG (late := fun j => [32].contains j) (S := fun wS => Below W5.heap.size W5 wS) _ _ _ _ ?_
    have S0 := (Below.refl W5.heap.size W5).drew
    refine anyG_takes (is := [0, 1, 2, 3, 5]) (vs := [_, .int .i64 a.count, _, .int .i64 b.count, _]) (m := 28) (listed2 := #[true, true, true, true, false, true, false, false, false, false, false, false, false, false, false, false, false, false, false, false, false, false, false, false, false, false, false, false, false, false, false, false, false]) (a2 := ⟨#[_, _, _, _, _, _, _, _, _, _, _, _, _, _, _, _, _, _, _, _, _, _, _, _, _, _, _, _, _, _, _, _, _, _, _, _, _, _, _, _, _, _, _, _, _, _, _], _⟩) (by kernel_rfl) (fun j hj => by first | (simp at hj; done) | (simp at hj; simp; omega)) (by kernel_rfl) (fun _ _ _ _ _ h => h) (Ys.cons rfl (Or.inl ⟨by rfl, fun W1 hW1 => by first | rfl | (go_simp; done) | (go_simp; with_reducible rfl)⟩) (Ys.cons rfl (Or.inl ⟨by rfl, fun W1 hW1 => by have c := (B0.out.call hW1).cellv (i := 0) (v := .int .i64 a.count) rfl; go_simp⟩) (Ys.cons rfl (Or.inl ⟨by rfl, fun W1 hW1 => by first | rfl | (go_simp; done) | (go_simp; with_reducible rfl)⟩) (Ys.cons rfl (Or.inl ⟨by rfl, fun W1 hW1 => by have c := (B1.out.call hW1).cellv (i := 0) (v := .int .i64 b.count) rfl; go_simp⟩) (Ys.cons rfl (Or.inl ⟨by rfl, fun W1 hW1 => by first | rfl | (go_simp; done) | (go_simp; with_reducible rfl)⟩) (Ys.nil)))))) (S0) (by rfl) (by rfl) ?_
    refine anyG_takes (is := [6, 7, 8, 10, 11]) (vs := [.int .i64 a.sum, _, .int .i64 b.sum, _, .int .i64 a.least]) (m := 23) (listed2 := #[true, true, true, true, false, true, true, true, true, false, true, true, false, false, false, false, false, false, false, false, false, false, false, false, false, false, false, false, false, false, false, false, false]) (a2 := ⟨#[_, _, _, _, _, _, _, _, _, _, _, _, _, _, _, _, _, _, _, _, _, _, _, _, _, _, _, _, _, _, _, _, _, _, _, _, _, _, _, _, _, _, _, _, _, _, _], _⟩) (by kernel_rfl) (fun j hj => by first | (simp at hj; done) | (simp at hj; simp; omega)) (by kernel_rfl) (fun _ _ _ _ _ h => h) (Ys.cons rfl (Or.inl ⟨by rfl, fun W1 hW1 => by have c := (B0.out.call hW1).cellv (i := 1) (v := .int .i64 a.sum) rfl; go_simp⟩) (Ys.cons rfl (Or.inl ⟨by rfl, fun W1 hW1 => by first | rfl | (go_simp; done) | (go_simp; with_reducible rfl)⟩) (Ys.cons rfl (Or.inl ⟨by rfl, fun W1 hW1 => by have c := (B1.out.call hW1).cellv (i := 1) (v := .int .i64 b.sum) rfl; go_simp⟩) (Ys.cons rfl (Or.inl ⟨by rfl, fun W1 hW1 => by first | rfl | (go_simp; done) | (go_simp; with_reducible rfl)⟩) (Ys.cons rfl (Or.inl ⟨by rfl, fun W1 hW1 => by have c := (B0.out.call hW1).cellv (i := 2) (v := .int .i64 a.least) rfl; go_simp⟩) (Ys.nil)))))) (S0) (by rfl) (by rfl) ?_
    refine anyG_takes (is := [12, 13, 14, 15, 16]) (vs := [_, .int .i64 b.least, .int .i64 LO, _, .int .i64 a.most]) (m := 18) (listed2 := #[true, true, true, true, false, true, true, true, true, false, true, true, true, true, true, true, true, false, false, false, false, false, false, false, false, false, false, false, false, false, false, false, false]) (a2 := ⟨#[_, _, _, _, _, _, _, _, _, _, _, _, _, _, _, _, _, _, _, _, _, _, _, _, _, _, _, _, _, _, _, _, _, _, _, _, _, _, _, _, _, _, _, _, _, _, _], _⟩) (by kernel_rfl) (fun j hj => by first | (simp at hj; done) | (simp at hj; simp; omega)) (by kernel_rfl) (fun _ _ _ _ _ h => h) (Ys.cons rfl (Or.inl ⟨by rfl, fun W1 hW1 => by first | rfl | (go_simp; done) | (go_simp; with_reducible rfl)⟩) (Ys.cons rfl (Or.inl ⟨by rfl, fun W1 hW1 => by have c := (B1.out.call hW1).cellv (i := 2) (v := .int .i64 b.least) rfl; go_simp⟩) (Ys.cons rfl (Or.inl ⟨by rfl, fun W1 hW1 => by rw [HLo.out]; go_simp⟩) (Ys.cons rfl (Or.inl ⟨by rfl, fun W1 hW1 => by first | rfl | (go_simp; done) | (go_simp; with_reducible rfl)⟩) (Ys.cons rfl (Or.inl ⟨by rfl, fun W1 hW1 => by have c := (B0.out.call hW1).cellv (i := 3) (v := .int .i64 a.most) rfl; go_simp⟩) (Ys.nil)))))) (S0) (by rfl) (by rfl) ?_
    refine anyG_takes (is := [17, 18, 19, 20, 21]) (vs := [_, .int .i64 b.most, .int .i64 HI, _, .int .i64 a.sum]) (m := 13) (listed2 := #[true, true, true, true, false, true, true, true, true, false, true, true, true, true, true, true, true, true, true, true, true, true, false, false, false, false, false, false, false, false, false, false, false]) (a2 := ⟨#[_, _, _, _, _, _, _, _, _, _, _, _, _, _, _, _, _, _, _, _, _, _, _, _, _, _, _, _, _, _, _, _, _, _, _, _, _, _, _, _, _, _, _, _, _, _, _], _⟩) (by kernel_rfl) (fun j hj => by first | (simp at hj; done) | (simp at hj; simp; omega)) (by kernel_rfl) (fun _ _ _ _ _ h => h) (Ys.cons rfl (Or.inl ⟨by rfl, fun W1 hW1 => by first | rfl | (go_simp; done) | (go_simp; with_reducible rfl)⟩) (Ys.cons rfl (Or.inl ⟨by rfl, fun W1 hW1 => by have c := (B1.out.call hW1).cellv (i := 3) (v := .int .i64 b.most) rfl; go_simp⟩) (Ys.cons rfl (Or.inl ⟨by rfl, fun W1 hW1 => by rw [HHi.out]; go_simp⟩) (Ys.cons rfl (Or.inl ⟨by rfl, fun W1 hW1 => by first | rfl | (go_simp; done) | (go_simp; with_reducible rfl)⟩) (Ys.cons rfl (Or.inl ⟨by rfl, fun W1 hW1 => by have c := (B0.out.call hW1).cellv (i := 1) (v := .int .i64 a.sum) rfl; go_simp⟩) (Ys.nil)))))) (S0) (by rfl) (by rfl) ?_
    refine anyG_takes (is := [22, 23, 25, 26, 27]) (vs := [_, .int .i64 b.sum, _, .int .i64 a.count, _]) (m := 8) (listed2 := #[true, true, true, true, false, true, true, true, true, false, true, true, true, true, true, true, true, true, true, true, true, true, true, true, false, true, true, true, false, false, false, false, false]) (a2 := ⟨#[_, _, _, _, _, _, _, _, _, _, _, _, _, _, _, _, _, _, _, _, _, _, _, _, _, _, _, _, _, _, _, _, _, _, _, _, _, _, _, _, _, _, _, _, _, _, _], _⟩) (by kernel_rfl) (fun j hj => by first | (simp at hj; done) | (simp at hj; simp; omega)) (by kernel_rfl) (fun _ _ _ _ _ h => h) (Ys.cons rfl (Or.inl ⟨by rfl, fun W1 hW1 => by first | rfl | (go_simp; done) | (go_simp; with_reducible rfl)⟩) (Ys.cons rfl (Or.inl ⟨by rfl, fun W1 hW1 => by have c := (B1.out.call hW1).cellv (i := 1) (v := .int .i64 b.sum) rfl; go_simp⟩) (Ys.cons rfl (Or.inl ⟨by rfl, fun W1 hW1 => by first | rfl | (go_simp; done) | (go_simp; with_reducible rfl)⟩) (Ys.cons rfl (Or.inl ⟨by rfl, fun W1 hW1 => by have c := (B0.out.call hW1).cellv (i := 0) (v := .int .i64 a.count) rfl; go_simp⟩) (Ys.cons rfl (Or.inl ⟨by rfl, fun W1 hW1 => by first | rfl | (go_simp; done) | (go_simp; with_reducible rfl)⟩) (Ys.nil)))))) (S0) (by rfl) (by rfl) ?_
    refine anyG_takes (is := [28]) (vs := [.int .i64 b.count]) (m := 7) (listed2 := #[true, true, true, true, false, true, true, true, true, false, true, true, true, true, true, true, true, true, true, true, true, true, true, true, false, true, true, true, true, false, false, false, false]) (a2 := ⟨#[_, _, _, _, _, _, _, _, _, _, _, _, _, _, _, _, _, _, _, _, _, _, _, _, _, _, _, _, _, _, _, _, _, _, _, _, _, _, _, _, _, _, _, _, _, _, _], _⟩) (by kernel_rfl) (fun j hj => by first | (simp at hj; done) | (simp at hj; simp; omega)) (by kernel_rfl) (fun _ _ _ _ _ h => h) (Ys.cons rfl (Or.inl ⟨by rfl, fun W1 hW1 => by have c := (B1.out.call hW1).cellv (i := 0) (v := .int .i64 b.count) rfl; go_simp⟩) (Ys.nil)) (S0) (by rfl) (by rfl) ?_
    refine anyG_one (k := 4) (by kernel_rfl) rfl (by rfl) (fun Q2 hQ2 => ?_); go_wp2_with (go_at_call 43; (with_reducible refine (HC.out _).mono ?_); rintro e v1 ⟨rfl, rfl⟩); refine hQ2 _ _ (fun _ => S0) ?_; clear hQ2 Q2
    refine anyG_one (k := 9) (by kernel_rfl) rfl (by rfl) (fun Q2 hQ2 => ?_); go_wp2_with (go_at_call 43; (with_reducible refine (HS.out _).mono ?_); rintro e v1 ⟨rfl, rfl⟩); refine hQ2 _ _ (fun _ => S0) ?_; clear hQ2 Q2
    refine anyG_one (k := 24) (by kernel_rfl) rfl (by rfl) (fun Q2 hQ2 => ?_); go_wp2_with (go_at_call 43; (with_reducible refine (HS.out _).mono ?_); rintro e v1 ⟨rfl, rfl⟩); refine hQ2 _ _ (fun _ => S0) ?_; clear hQ2 Q2
    refine anyG_one (k := 29) (by kernel_rfl) rfl (by rfl) (fun Q2 hQ2 => ?_); go_wp2_with (go_at_call 43; (with_reducible refine (HC.out _).mono ?_); rintro e v1 ⟨rfl, rfl⟩); refine hQ2 _ _ (fun _ => S0) ?_; clear hQ2 Q2
    refine anyG_one (k := 30) (by kernel_rfl) rfl (by rfl) (fun Q2 hQ2 => ?_); go_wp2_with (go_at_call 51; (with_reducible refine (HD.out _).mono ?_); rintro e v1 ⟨rfl, rfl⟩); refine hQ2 _ _ (fun _ => S0) ?_; clear hQ2 Q2
    refine anyG_takes (is := [31]) (vs := [_]) (m := 1) (listed2 := #[true, true, true, true, true, true, true, true, true, true, true, true, true, true, true, true, true, true, true, true, true, true, true, true, true, true, true, true, true, true, true, true, false]) (a2 := ⟨#[_, _, _, _, _, _, _, _, _, _, _, _, _, _, _, _, _, _, _, _, _, _, _, _, _, _, _, _, _, _, _, _, _, _, _, _, _, _, _, _, _, _, _, _, _, _, _], _⟩) (by kernel_rfl) (fun j hj => by first | (simp at hj; done) | (simp at hj; simp; omega)) (by kernel_rfl) (fun _ _ _ _ _ h => h) (Ys.cons rfl (Or.inl ⟨by rfl, fun W1 hW1 => by first | rfl | (go_simp; done) | (go_simp; with_reducible rfl)⟩) (Ys.nil)) (S0) (by rfl) (by rfl) ?_
    refine anyG_of_any _ _ _ _ (by kernel_rfl) ?_
    refine any_one (k := 32) (by kernel_rfl) rfl (by rfl) (fun Q2 hQ2 => ?_); go_wp2_with (refine wpList_store_row rfl 32 (.tmp 4) (.tmp 46) rfl (w.heap.size + 1 + 1) _ _ _ rfl rfl (B2.out.drew) (by rfl) (by kernel_rfl) (by simp [Value.oneCell']) ?_; intro w9 hb9 hg9); (try refine hQ2 _ _ ?_); (try clear hQ2 Q2)
    refine wpAny_done (by kernel_rfl) ?_ _
    go_wp2
    refine bodyPost_ret (results_row rfl _ _ (w.heap.size + 1 + 1) _ _ _ rfl hb9 Try.underlying32 rfl (by kernel_rfl)) rfl ⟨by rw [HQ.out], E0.out.drew.trans (Only.below hg9 (by omega) E0.out.drew.size)⟩
end Go.Proofs.Ytnkefjliafadpaa
