/- The reference's Mean and Is: the Stat of samples is told. -/
import Derived.Test.YtnkefjliafadpaaWin2
import Derived.Test.YtnkefjliafadpaaMeanP
import Derived.Test.YtnkefjliafadpaaNum6
namespace Go.Proofs.Ytnkefjliafadpaa
open Go.RowKit
set_option linter.unusedSimpArgs false
set_option linter.unusedVariables false
set_option maxHeartbeats 4000000
set_option maxRecDepth 100000
theorem ref09_Mean (A : Option Addr) (len cap : Nat) (l : List Int) (w : World) (hs : IntsAre w A len cap l) (hg : ∀ x ∈ l, I64 x) (hn : len ≤ 1000) :
    Calls Try.prog 46 #[.slice A len cap, .int .i64 (meanq l)] w fun e w' => e = .returned (.bool true) ∧ Below w.heap.size w w' := by
  have HS := Lib.hid hs
  have HG := Lib.hid hg
  have hl := hs.1
  clear hs hg
  by_cases h0 : len = 0
  · have HQ := (show meanq l = 0 by unfold meanq; rw [if_pos (by omega)])
    rw [HQ]
    have d0 : ((len : Int) == 0) = true := by simp; omega
    clear h0 HQ hl
    go_enter Try.func46, Try.ntmps46
    go_wp2
    go_ret
    exact ⟨rfl, Below.refl _ _⟩
  · obtain ⟨e1, e2⟩ := mean_plain HG.out (by omega)
    rw [hl] at e1 e2
    have hq := (upq_spec (n := totq l) (d := len) (q := upq (totq l) len) (by omega)).2 rfl
    have hT : totq l < 2 ^ 128 := by
      have h1 := totq_lt l HG.out
      have h2 := Nat.mul_le_mul_right 9223372036854775807 (show l.length ≤ 1000 by omega)
      omega
    have HT := Lib.hid hT
    rw [e1]
    generalize upq (totq l) len = q at *
    have HU := Lib.hid (show upIs (totq l) len q = true from decide_eq_true hq)
    have d0 : ((len : Int) == 0) = false := by simp; omega
    have hq2 : (q : Int) ≤ 9223372036854775807 := by omega
    have HUp := Lib.hid (fun W => num_Up (totq l) len q W HT.out (by omega) (by omega))
    rw [HU.out] at HUp
    clear h0 e1 e2 hq hl hT
    go_enter Try.func46, Try.ntmps46
    go_wp2_with fail
    refine (num_Total A len cap l _ HS.out HG.out (by omega)).mono ?_
    rintro e w1 ⟨rfl, hb1⟩
    generalize totq l = T at *
    go_wp2_with fail
    refine (HUp.out _).mono ?_
    rintro e w2 ⟨rfl, hb2⟩
    go_wp2
    go_ret
    exact ⟨rfl, hb1.trans (hb2.mono hb1.size)⟩
theorem eq_stat0 :
    (∀ (W : World) (op : BinOp) (o1 o2 : Operand), (eqGuard op 32 o1 o2 (.agg #[.int .i64 0, .int .i64 0, .int .i64 0, .int .i64 0, .int .i64 0]) (.agg #[.int .i64 0, .int .i64 0, .int .i64 0, .int .i64 0, .int .i64 0])).run Try.prog W = .ok () W) ∧
    (∀ W : World, (binOp .eql 32 (.agg #[.int .i64 0, .int .i64 0, .int .i64 0, .int .i64 0, .int .i64 0]) (.agg #[.int .i64 0, .int .i64 0, .int .i64 0, .int .i64 0, .int .i64 0])).run Try.prog W = .ok (.bool true) W) :=
  have h := eq_ints (t := 32) (by kernel_rfl) (by kernel_rfl) (by kernel_rfl) (by kernel_rfl) [.i64, .i64, .i64, .i64, .i64] [0, 0, 0, 0, 0] [0, 0, 0, 0, 0] (by kernel_rfl) (by kernel_rfl) (by kernel_rfl) _ _ rfl rfl true (by decide)
  ⟨h.1, h.2.1⟩
theorem fmin_all {l : List Int} {x : Int} (h : l[0]? = some x) : l.foldl min x = minq l := by
  cases l with
  | nil => simp at h
  | cons a l => simp at h; subst h; simp [minq]
theorem fmax_all {l : List Int} {x : Int} (h : l[0]? = some x) : l.foldl max x = maxq l := by
  cases l with
  | nil => simp at h
  | cons a l => simp at h; subst h; simp [maxq]
theorem fold_next {f : Int → Int → Int} {l : List Int} {k : Nat} {x a : Int} (h : l[k]? = some x) : (l.take (k + 1)).foldl f a = f ((l.take k).foldl f a) x := by
  rw [take_next h, List.foldl_append]; rfl
theorem ref09_Is (A : Option Addr) (len cap : Nat) (l : List Smp) (w : World) (hs : SmpsAre w A len cap l) (hg : ∀ x ∈ l, x.good) (hn : len ≤ 200) :
    Calls Try.prog 19 #[.slice A len cap, .agg (statq l).row] w fun e w' => e = .returned (.bool true) ∧ Below w.heap.size w w' := by
  have HS := Lib.hid hs
  have HL := Lib.hid hs.1
  have HG := Lib.hid (fun x hx => (show I64 x by have := valq_bd hg x hx; unfold I64; omega) : ∀ x ∈ valq l, I64 x)
  clear hs hg
  by_cases h0 : len = 0
  · rw [show statq l = ⟨0, 0, 0, 0, 0⟩ by unfold statq; rw [if_pos (by rw [HL.out]; exact h0)]]
    have d0 : ((len : Int) == 0) = true := by simp; omega
    obtain ⟨q1, q2⟩ := eq_stat0
    have E0 := Lib.hid (show Below w.heap.size w (w.alloc (.cells #[.int .i64 0, .int .i64 0, .int .i64 0, .int .i64 0, .int .i64 0] 32)) by go_grown)
    clear h0
    go_enter Try.func19, Try.ntmps19
    go_wp2_with fail
    refine (ref09_Values A len cap l _ (slice_keep HS.out E0.out) (by omega)).mono ?_
    rintro e w1 ⟨v, rfl, ho, hb1⟩
    obtain ⟨A', n', c', rfl, hn', hsl⟩ := ho.shape (fun _ => rfl)
    obtain rfl : n' = len := by rw [hn', valq_len]; exact HL.out
    have E1 := Lib.hid (E0.out.trans (hb1.mono E0.out.size))
    have bs := (Blk.new w 32 #[.int .i64 0, .int .i64 0, .int .i64 0, .int .i64 0, .int .i64 0]).call hb1
    have c0 := bs.cellv (i := 0) (v := .int .i64 0) rfl
    have c1 := bs.cellv (i := 1) (v := .int .i64 0) rfl
    have c2 := bs.cellv (i := 2) (v := .int .i64 0) rfl
    have c3 := bs.cellv (i := 3) (v := .int .i64 0) rfl
    have c4 := bs.cellv (i := 4) (v := .int .i64 0) rfl
    clear hn' ho hsl hb1 E0 bs
    go_wp2
    go_ret
    exact ⟨rfl, E1.out⟩
  · rw [show statq l = ⟨len, sumq (valq l), minq (valq l), maxq (valq l), meanq (valq l)⟩ by unfold statq; rw [if_neg (by rw [HL.out]; exact h0), HL.out]]
    have d0 : ((len : Int) == 0) = false := by simp; omega
    have h1 : 1 ≤ len := by omega
    have E0 := Lib.hid (show Below w.heap.size w (w.alloc (.cells #[.int .i64 (len : Int), .int .i64 (sumq (valq l)), .int .i64 (minq (valq l)), .int .i64 (maxq (valq l)), .int .i64 (meanq (valq l))] 32)) by go_grown)
    clear h0
    go_enter Try.func19, Try.ntmps19
    go_wp2_with fail
    refine (ref09_Values A len cap l _ (slice_keep HS.out E0.out) (by omega)).mono ?_
    rintro e w1 ⟨v, rfl, ho, hb1⟩
    obtain ⟨A', n', c', rfl, hn', hsl⟩ := ho.shape (fun _ => rfl)
    obtain rfl : n' = len := by rw [hn', valq_len]; exact HL.out
    have E1 := Lib.hid (E0.out.trans (hb1.mono E0.out.size))
    have BS := Lib.hid ((Blk.new w 32 #[.int .i64 (n' : Int), .int .i64 (sumq (valq l)), .int .i64 (minq (valq l)), .int .i64 (maxq (valq l)), .int .i64 (meanq (valq l))]).call hb1)
    have SL := Lib.hid hsl
    obtain ⟨b, off, x0, rfl, hx0, hb0, hc0⟩ := IntsAre.at_ hsl (show 0 < n' by omega)
    rw [Nat.add_zero] at hc0
    have HX0 := Lib.hid hx0
    have HVL := Lib.hid hsl.1
    clear hn' ho hsl hb1 E0 hx0 hb0
    generalize valq l = V at *
    go_wp2
    go_loop [6, 7, 8] (fun lo hi i => ∃ k : Nat, k ≤ n' ∧ i = .int .i64 k ∧ lo = .int .i64 ((V.take k).foldl min x0) ∧ hi = .int .i64 ((V.take k).foldl max x0)) (fun _ _ i => n' - (intOf i).toNat)
    case atStart => exact ⟨0, by omega, rfl, rfl, rfl⟩
    case round =>
      obtain ⟨k, hk, rfl, rfl, rfl⟩ := hrel
      clear hc0
      by_cases hlt : k < n'
      · obtain ⟨b', off', x, hab, hx, hb, hc⟩ := IntsAre.at_ SL.out hlt
        cases hab
        have HN := Lib.hid (fold_next (f := min) (a := x0) hx)
        have HM := Lib.hid (fold_next (f := max) (a := x0) hx)
        have hki : (k : Int) < (n' : Int) := by omega
        clear hx
        generalize (V.take k).foldl min x0 = lo at *
        generalize (V.take k).foldl max x0 = hi at *
        by_cases c1 : x < lo
        · have E := Lib.hid (show min lo x = x by omega)
          by_cases c2 : hi < x
          · have F := Lib.hid (show max hi x = x by omega)
            go_wp2
            go_round
            case rel => exact ⟨k + 1, by omega, by go_num, by rw [HN.out, E.out], by rw [HM.out, F.out]⟩
            case measure => simp [intOf]; omega
          · have F := Lib.hid (show max hi x = hi by omega)
            go_wp2
            go_round
            case rel => exact ⟨k + 1, by omega, by go_num, by rw [HN.out, E.out], by rw [HM.out, F.out]⟩
            case measure => simp [intOf]; omega
        · have E := Lib.hid (show min lo x = lo by omega)
          by_cases c2 : hi < x
          · have F := Lib.hid (show max hi x = x by omega)
            go_wp2
            go_round
            case rel => exact ⟨k + 1, by omega, by go_num, by rw [HN.out, E.out], by rw [HM.out, F.out]⟩
            case measure => simp [intOf]; omega
          · have F := Lib.hid (show max hi x = hi by omega)
            go_wp2
            go_round
            case rel => exact ⟨k + 1, by omega, by go_num, by rw [HN.out, E.out], by rw [HM.out, F.out]⟩
            case measure => simp [intOf]; omega
      · have hE : V.take k = V := List.take_of_length_le (by have := HVL.out; omega)
        rw [hE, fmin_all HX0.out, fmax_all HX0.out]
        clear hE
        go_wp2
        refine wp_region_any (by kernel_rfl) ?_; change wpAny _ _ _ _ _ _ _ (World.drew w1); refine any_of_anyG (late := fun _ => false) (S := fun wS => Below w1.heap.size w1 wS) _ _ _ _ ?_
        have S0 := (Below.refl w1.heap.size w1).drew
        refine anyG_take (i := 0) (v := _) rfl (by kernel_rfl) (by kernel_rfl) (by kernel_rfl) (by kernel_rfl) rfl (by kernel_rfl) (fun j hj => by first | (simp at hj; done) | (simp at hj; simp; omega)) (fun _ _ _ h => h) (Or.inl ⟨by rfl, fun W1 hW1 => by first | rfl | (go_simp; done) | (go_simp; with_reducible rfl)⟩) (S0) ?_
        refine anyG_take (i := 1) (v := .int .i64 (n' : Int)) rfl (by kernel_rfl) (by kernel_rfl) (by kernel_rfl) (by kernel_rfl) rfl (by kernel_rfl) (fun j hj => by first | (simp at hj; done) | (simp at hj; simp; omega)) (fun _ _ _ h => h) (Or.inl ⟨by rfl, fun W1 hW1 => by have c := (BS.out.call hW1).cellv (i := 0) (v := .int .i64 (n' : Int)) rfl; go_simp⟩) (S0) ?_
        refine anyG_one (k := 2) (by kernel_rfl) rfl (by rfl) (fun Q2 hQ2 => ?_); go_wp2_with fail; refine hQ2 _ _ (fun _ => S0) ?_; clear hQ2 Q2
        refine anyG_one (k := 3) (by kernel_rfl) rfl (by rfl) (fun Q2 hQ2 => ?_); go_wp2_with fail; refine hQ2 _ _ (fun _ => S0) ?_; clear hQ2 Q2
        refine anyG_one (k := 4) (by kernel_rfl) rfl (by rfl) (fun Q2 hQ2 => ?_); go_wp2_with fail; refine hQ2 _ _ (fun _ => S0) ?_; clear hQ2 Q2
        refine anyG_one (k := 5) (by kernel_rfl) rfl (by rfl) (fun Q2 hQ2 => ?_); go_wp2_with fail; refine hQ2 _ _ (fun _ => S0) ?_; clear hQ2 Q2
        refine anyG_take (i := 6) (v := _) rfl (by kernel_rfl) (by kernel_rfl) (by kernel_rfl) (by kernel_rfl) rfl (by kernel_rfl) (fun j hj => by first | (simp at hj; done) | (simp at hj; simp; omega)) (fun _ _ _ h => h) (Or.inl ⟨by rfl, fun W1 hW1 => by first | rfl | (go_simp; done) | (go_simp; with_reducible rfl)⟩) (S0) ?_
        refine anyG_take (i := 7) (v := .int .i64 (sumq V)) rfl (by kernel_rfl) (by kernel_rfl) (by kernel_rfl) (by kernel_rfl) rfl (by kernel_rfl) (fun j hj => by first | (simp at hj; done) | (simp at hj; simp; omega)) (fun _ _ _ h => h) (Or.inl ⟨by rfl, fun W1 hW1 => by have c := (BS.out.call hW1).cellv (i := 1) (v := .int .i64 (sumq V)) rfl; go_simp⟩) (S0) ?_
        refine anyG_one (k := 8) (by kernel_rfl) rfl (by rfl) (fun Q2 hQ2 => ?_); go_wp2_with fail; refine hQ2 _ _ (fun _ => S0) ?_; clear hQ2 Q2
        refine anyG_one (k := 9) (by kernel_rfl) rfl (by rfl) (fun Q2 hQ2 => ?_); go_wp2_with (go_at_call 45; refine (ref_Sum _ _ _ _ _ (slice_keep SL.out S0) HG.out (by omega)).mono ?_; rintro e v1 ⟨rfl, rfl⟩); refine hQ2 _ _ (fun _ => S0) ?_; clear hQ2 Q2
        refine anyG_one (k := 10) (by kernel_rfl) rfl (by rfl) (fun Q2 hQ2 => ?_); go_wp2_with fail; refine hQ2 _ _ (fun _ => S0) ?_; clear hQ2 Q2
        refine anyG_one (k := 11) (by kernel_rfl) rfl (by rfl) (fun Q2 hQ2 => ?_); go_wp2_with fail; refine hQ2 _ _ (fun _ => S0) ?_; clear hQ2 Q2
        refine anyG_one (k := 12) (by kernel_rfl) rfl (by rfl) (fun Q2 hQ2 => ?_); go_wp2_with fail; refine hQ2 _ _ (fun _ => S0) ?_; clear hQ2 Q2
        refine anyG_take (i := 13) (v := _) rfl (by kernel_rfl) (by kernel_rfl) (by kernel_rfl) (by kernel_rfl) rfl (by kernel_rfl) (fun j hj => by first | (simp at hj; done) | (simp at hj; simp; omega)) (fun _ _ _ h => h) (Or.inl ⟨by rfl, fun W1 hW1 => by first | rfl | (go_simp; done) | (go_simp; with_reducible rfl)⟩) (S0) ?_
        refine anyG_take (i := 14) (v := .int .i64 (minq V)) rfl (by kernel_rfl) (by kernel_rfl) (by kernel_rfl) (by kernel_rfl) rfl (by kernel_rfl) (fun j hj => by first | (simp at hj; done) | (simp at hj; simp; omega)) (fun _ _ _ h => h) (Or.inl ⟨by rfl, fun W1 hW1 => by have c := (BS.out.call hW1).cellv (i := 2) (v := .int .i64 (minq V)) rfl; go_simp⟩) (S0) ?_
        refine anyG_one (k := 15) (by kernel_rfl) rfl (by rfl) (fun Q2 hQ2 => ?_); go_wp2_with fail; refine hQ2 _ _ (fun _ => S0) ?_; clear hQ2 Q2
        refine anyG_one (k := 16) (by kernel_rfl) rfl (by rfl) (fun Q2 hQ2 => ?_); go_wp2_with fail; refine hQ2 _ _ (fun _ => S0) ?_; clear hQ2 Q2
        refine anyG_one (k := 17) (by kernel_rfl) rfl (by rfl) (fun Q2 hQ2 => ?_); go_wp2_with fail; refine hQ2 _ _ (fun _ => S0) ?_; clear hQ2 Q2
        refine anyG_one (k := 18) (by kernel_rfl) rfl (by rfl) (fun Q2 hQ2 => ?_); go_wp2_with fail; refine hQ2 _ _ (fun _ => S0) ?_; clear hQ2 Q2
        refine anyG_take (i := 19) (v := _) rfl (by kernel_rfl) (by kernel_rfl) (by kernel_rfl) (by kernel_rfl) rfl (by kernel_rfl) (fun j hj => by first | (simp at hj; done) | (simp at hj; simp; omega)) (fun _ _ _ h => h) (Or.inl ⟨by rfl, fun W1 hW1 => by first | rfl | (go_simp; done) | (go_simp; with_reducible rfl)⟩) (S0) ?_
        refine anyG_take (i := 20) (v := .int .i64 (maxq V)) rfl (by kernel_rfl) (by kernel_rfl) (by kernel_rfl) (by kernel_rfl) rfl (by kernel_rfl) (fun j hj => by first | (simp at hj; done) | (simp at hj; simp; omega)) (fun _ _ _ h => h) (Or.inl ⟨by rfl, fun W1 hW1 => by have c := (BS.out.call hW1).cellv (i := 3) (v := .int .i64 (maxq V)) rfl; go_simp⟩) (S0) ?_
        refine anyG_one (k := 21) (by kernel_rfl) rfl (by rfl) (fun Q2 hQ2 => ?_); go_wp2_with fail; refine hQ2 _ _ (fun _ => S0) ?_; clear hQ2 Q2
        refine anyG_one (k := 22) (by kernel_rfl) rfl (by rfl) (fun Q2 hQ2 => ?_); go_wp2_with fail; refine hQ2 _ _ (fun _ => S0) ?_; clear hQ2 Q2
        refine anyG_one (k := 23) (by kernel_rfl) rfl (by rfl) (fun Q2 hQ2 => ?_); go_wp2_with fail; refine hQ2 _ _ (fun _ => S0) ?_; clear hQ2 Q2
        refine anyG_one (k := 24) (by kernel_rfl) rfl (by rfl) (fun Q2 hQ2 => ?_); go_wp2_with fail; refine hQ2 _ _ (fun _ => S0) ?_; clear hQ2 Q2
        refine anyG_take (i := 25) (v := _) rfl (by kernel_rfl) (by kernel_rfl) (by kernel_rfl) (by kernel_rfl) rfl (by kernel_rfl) (fun j hj => by first | (simp at hj; done) | (simp at hj; simp; omega)) (fun _ _ _ h => h) (Or.inl ⟨by rfl, fun W1 hW1 => by first | rfl | (go_simp; done) | (go_simp; with_reducible rfl)⟩) (S0) ?_
        refine anyG_one (k := 26) (by kernel_rfl) rfl (by rfl) (fun Q2 hQ2 => ?_); go_wp2_with fail; refine hQ2 _ _ (fun _ => S0) ?_; clear hQ2 Q2
        refine anyG_take (i := 27) (v := .int .i64 (meanq V)) rfl (by kernel_rfl) (by kernel_rfl) (by kernel_rfl) (by kernel_rfl) rfl (by kernel_rfl) (fun j hj => by first | (simp at hj; done) | (simp at hj; simp; omega)) (fun _ _ _ h => h) (Or.inl ⟨by rfl, fun W1 hW1 => by have c := (BS.out.call hW1).cellv (i := 4) (v := .int .i64 (meanq V)) rfl; go_simp⟩) (S0) ?_
        refine anyG_one (k := 28) (by kernel_rfl) rfl (by rfl) (fun Q2 hQ2 => ?_); go_wp2_with (go_at_call 46; refine (ref09_Mean _ _ _ _ _ (slice_keep SL.out S0) HG.out (by omega)).mono ?_; rintro e v3 ⟨rfl, hb3⟩); refine hQ2 _ _ (fun _ => S0.trans (hb3.mono S0.size)) ?_; clear hQ2 Q2
        have S3 := S0.trans (hb3.mono S0.size)
        refine anyG_one (k := 29) (by kernel_rfl) rfl (by rfl) (fun Q2 hQ2 => ?_); go_wp2_with fail; refine hQ2 _ _ (fun _ => S3) ?_; clear hQ2 Q2
        refine anyG_one (k := 30) (by kernel_rfl) rfl (by rfl) (fun Q2 hQ2 => ?_); go_wp2_with fail; refine hQ2 _ _ (fun _ => S3) ?_; clear hQ2 Q2
        refine anyG_done (by kernel_rfl) ?_ _
        go_wp2
        go_ret
        exact ⟨rfl, E1.out.trans (S3.mono E1.out.size)⟩
end Go.Proofs.Ytnkefjliafadpaa
