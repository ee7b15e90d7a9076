/- The law WideScales: the walk. -/
import Derived.Test.YtlodmnohmlkjmaaW02
import Derived.Test.YtlodmnohmlkjmaaNum4
namespace Go.Proofs.Ytlodmnohmlkjmaa
open Go.RowKit
set_option linter.unusedSimpArgs false
set_option linter.unusedVariables false
set_option maxHeartbeats 4000000
set_option maxRecDepth 100000
theorem scale_spec {n c s : Nat} (hc : 1 ≤ c) (hs : s = smallQ (upq n c)) : (s ≠ 9223372036854775807 → upIs n c s = true) ∧ (s = 9223372036854775807 → (s - 1) * c < n) := by
  have h := (upq_spec (n := n) (d := c) (q := upq n c) (by omega)).2 rfl
  unfold smallQ at hs
  unfold upIs
  split at hs
  · subst hs
    refine ⟨fun _ => decide_eq_true h, fun he => ?_⟩
    rcases h.2 with h2 | h2
    · omega
    · exact h2
  · subst hs
    refine ⟨fun hne => absurd rfl hne, fun _ => ?_⟩
    rcases h.2 with h2 | h2
    · omega
    · exact Nat.lt_of_le_of_lt (Nat.mul_le_mul_right c (by omega)) h2
theorem Blk.loadG {P : Program} {op : Oper} {a : Act} {w : World} {K : Act → World → Prop} {Q : Exit → Act → World → Prop} (ty : TypeId) (x : Operand) (ho : op.op = .load ty x)
    (g : Nat) (t : TypeId) (cs : Array Value) (d : TypeDesc) (hx : a.eval x = .pointer (some ⟨g, 0, none⟩)) (hb : Blk w g t cs) (hu : P.underlying ty = some d) (hd : (match d with | .struct _ | .array _ _ => true | _ => false) = true) (hi : (P.info? ty).map (·.size) = some cs.size)
    (h : K (a.put op.dst (.agg cs)) w) : op.wp P a w K Q := by
  unfold Oper.wp
  rw [exec_load ho hx (run_loadAt_blk w g t ty cs d hb hu hd hi)]
  exact h
theorem num_MulT (a b : Int) (M : Nat) (w : World) (ha : U64 a) (hb : U64 b) (hM : M = a.toNat * b.toNat) :
    Calls Try.prog 21 #[.int .u64 a, .int .u64 b] w fun e w' => e = .returned (.agg (bitsA M)) ∧ Below w.heap.size w w' := by
  obtain ⟨x, rfl⟩ := Int.eq_ofNat_of_zero_le ha.1
  obtain ⟨y, rfl⟩ := Int.eq_ofNat_of_zero_le hb.1
  have := ha.2
  have := hb.2
  rw [Int.toNat_natCast, Int.toNat_natCast] at hM
  exact num_MulM x y M w hM (by omega) (by omega)
theorem walk_WideScalesE (p q c : Int) (N : Nat) (w : World) (hp : I64 p) (hq : I64 q) (hc : I64 c) (hN : N < 2 ^ 128) (hx : smallQ (upq (p.toNat * q.toNat) c.toNat) = 9223372036854775807 ∨ p < 0 ∨ q < 0 ∨ c < 1) :
    Calls Try.prog 5 #[.int .i64 p, .int .i64 q, .int .i64 c, .agg #[.int .u64 ((hiQ N : Nat) : Int), .int .u64 ((loQ N : Nat) : Int)]] w fun e w' => e = .returned (.bool true) ∧ Below w.heap.size w w' := by
  have HN := Lib.hid hN
  have HS := Lib.hid (fun W => wide_Scale p q c W hp hq hc)
  by_cases h1 : p < 0
  · rw [show scaleq p q c = 0 from if_pos (.inl h1)] at HS
    go_enter Try.func5, Try.ntmps5
    go_wp2_with (first | (go_at_call 18; refine (awake02 _).mono ?_; rintro e v1 ⟨rfl, hb1⟩))
    have b0 := (Blk.new w 32 #[.int .u64 ((hiQ N : Nat) : Int), .int .u64 ((loQ N : Nat) : Int)]).call hb1
    have e0 : Below w.heap.size w (w.alloc (.cells #[.int .u64 ((hiQ N : Nat) : Int), .int .u64 ((loQ N : Nat) : Int)] 32)) := by go_grown
    have e1 := e0.trans (hb1.mono e0.size)
    have B0 := Lib.hid b0
    have E1 := Lib.hid e1
    clear b0 e0 e1 hb1
    refine wp_region_any (by kernel_rfl) ?_; change wpAny _ _ _ _ _ _ _ (World.drew v1); refine any_of_anyG (late := fun _ => false) (S := fun w1 => Below v1.heap.size v1 w1) _ _ _ _ ?_
    have S0 := (Below.refl v1.heap.size v1).drew
    refine anyG_take (i := 0) (v := _) rfl (by kernel_rfl) (by kernel_rfl) (by kernel_rfl) (by kernel_rfl) rfl (by kernel_rfl) (fun j hj => by first | (simp at hj; done) | (simp at hj; simp; omega)) (fun _ _ _ h => h) (Or.inl ⟨by rfl, fun W1 hW1 => exec_load (ty := 32) (x := .tmp 7) rfl rfl (run_loadAt_blk _ _ _ _ _ _ (B0.out.call hW1) Try.underlying32 rfl (by first | exact info_num _ | kernel_rfl))⟩) (S0) ?_
    refine anyG_take (i := 2) (v := _) rfl (by kernel_rfl) (by kernel_rfl) (by kernel_rfl) (by kernel_rfl) rfl (by kernel_rfl) (fun j hj => by first | (simp at hj; done) | (simp at hj; simp; omega)) (fun _ _ _ h => h) (Or.inl ⟨by rfl, fun W1 hW1 => exec_load (ty := 32) (x := .tmp 7) rfl rfl (run_loadAt_blk _ _ _ _ _ _ (B0.out.call hW1) Try.underlying32 rfl (by first | exact info_num _ | kernel_rfl))⟩) (S0) ?_
    refine anyG_one (k := 1) (by kernel_rfl) rfl (by rfl) (fun Q2 hQ2 => ?_); go_wp2_with (go_at_call 26; refine (wide_SmallN N _ HN.out).mono ?_; rintro e v2 ⟨rfl, hb2⟩); refine hQ2 _ _ (fun _ => S0.trans (hb2.mono S0.size)) ?_; clear hQ2 Q2
    have S2 := S0.trans (hb2.mono S0.size)
    refine anyG_one (k := 3) (by kernel_rfl) rfl (by rfl) (fun Q2 hQ2 => ?_); go_wp2_with (go_at_call 25; refine (law_numN N _ HN.out).mono ?_; rintro e v3 ⟨rfl, hb3⟩); refine hQ2 _ _ (fun _ => S2.trans (hb3.mono S2.size)) ?_; clear hQ2 Q2
    have S3 := S2.trans (hb3.mono S2.size)
    refine anyG_one (k := 4) (by kernel_rfl) rfl (by rfl) (fun Q2 hQ2 => ?_); go_wp2_with (go_at_call 27; refine (num_Small N _ HN.out).mono ?_; rintro e v4 ⟨rfl, hb4⟩); refine hQ2 _ _ (fun _ => S3.trans (hb4.mono S3.size)) ?_; clear hQ2 Q2
    have S4 := S3.trans (hb4.mono S3.size)
    refine anyG_one (k := 5) (by kernel_rfl) rfl (by rfl) (fun Q2 hQ2 => ?_); go_wp2_with fail; refine hQ2 _ _ (fun _ => S4) ?_; clear hQ2 Q2
    refine anyG_done (by kernel_rfl) ?_ _
    have E2 := Lib.hid (E1.out.trans (S4.mono E1.out.size))
    go_wp2_with (go_at_call 28; refine (HS.out _).mono ?_; rintro e v5 ⟨rfl, hb5⟩)
    go_ret
    exact ⟨rfl, E2.out.trans (hb5.mono E2.out.size)⟩
  by_cases h2 : q < 0
  · rw [show scaleq p q c = 0 from if_pos (.inr (.inl h2))] at HS
    go_enter Try.func5, Try.ntmps5
    go_wp2_with (first | (go_at_call 18; refine (awake02 _).mono ?_; rintro e v1 ⟨rfl, hb1⟩))
    have b0 := (Blk.new w 32 #[.int .u64 ((hiQ N : Nat) : Int), .int .u64 ((loQ N : Nat) : Int)]).call hb1
    have e0 : Below w.heap.size w (w.alloc (.cells #[.int .u64 ((hiQ N : Nat) : Int), .int .u64 ((loQ N : Nat) : Int)] 32)) := by go_grown
    have e1 := e0.trans (hb1.mono e0.size)
    have B0 := Lib.hid b0
    have E1 := Lib.hid e1
    clear b0 e0 e1 hb1
    refine wp_region_any (by kernel_rfl) ?_; change wpAny _ _ _ _ _ _ _ (World.drew v1); refine any_of_anyG (late := fun _ => false) (S := fun w1 => Below v1.heap.size v1 w1) _ _ _ _ ?_
    have S0 := (Below.refl v1.heap.size v1).drew
    refine anyG_take (i := 0) (v := _) rfl (by kernel_rfl) (by kernel_rfl) (by kernel_rfl) (by kernel_rfl) rfl (by kernel_rfl) (fun j hj => by first | (simp at hj; done) | (simp at hj; simp; omega)) (fun _ _ _ h => h) (Or.inl ⟨by rfl, fun W1 hW1 => exec_load (ty := 32) (x := .tmp 7) rfl rfl (run_loadAt_blk _ _ _ _ _ _ (B0.out.call hW1) Try.underlying32 rfl (by first | exact info_num _ | kernel_rfl))⟩) (S0) ?_
    refine anyG_take (i := 2) (v := _) rfl (by kernel_rfl) (by kernel_rfl) (by kernel_rfl) (by kernel_rfl) rfl (by kernel_rfl) (fun j hj => by first | (simp at hj; done) | (simp at hj; simp; omega)) (fun _ _ _ h => h) (Or.inl ⟨by rfl, fun W1 hW1 => exec_load (ty := 32) (x := .tmp 7) rfl rfl (run_loadAt_blk _ _ _ _ _ _ (B0.out.call hW1) Try.underlying32 rfl (by first | exact info_num _ | kernel_rfl))⟩) (S0) ?_
    refine anyG_one (k := 1) (by kernel_rfl) rfl (by rfl) (fun Q2 hQ2 => ?_); go_wp2_with (go_at_call 26; refine (wide_SmallN N _ HN.out).mono ?_; rintro e v2 ⟨rfl, hb2⟩); refine hQ2 _ _ (fun _ => S0.trans (hb2.mono S0.size)) ?_; clear hQ2 Q2
    have S2 := S0.trans (hb2.mono S0.size)
    refine anyG_one (k := 3) (by kernel_rfl) rfl (by rfl) (fun Q2 hQ2 => ?_); go_wp2_with (go_at_call 25; refine (law_numN N _ HN.out).mono ?_; rintro e v3 ⟨rfl, hb3⟩); refine hQ2 _ _ (fun _ => S2.trans (hb3.mono S2.size)) ?_; clear hQ2 Q2
    have S3 := S2.trans (hb3.mono S2.size)
    refine anyG_one (k := 4) (by kernel_rfl) rfl (by rfl) (fun Q2 hQ2 => ?_); go_wp2_with (go_at_call 27; refine (num_Small N _ HN.out).mono ?_; rintro e v4 ⟨rfl, hb4⟩); refine hQ2 _ _ (fun _ => S3.trans (hb4.mono S3.size)) ?_; clear hQ2 Q2
    have S4 := S3.trans (hb4.mono S3.size)
    refine anyG_one (k := 5) (by kernel_rfl) rfl (by rfl) (fun Q2 hQ2 => ?_); go_wp2_with fail; refine hQ2 _ _ (fun _ => S4) ?_; clear hQ2 Q2
    refine anyG_done (by kernel_rfl) ?_ _
    have E2 := Lib.hid (E1.out.trans (S4.mono E1.out.size))
    go_wp2_with (go_at_call 28; refine (HS.out _).mono ?_; rintro e v5 ⟨rfl, hb5⟩)
    go_ret
    exact ⟨rfl, E2.out.trans (hb5.mono E2.out.size)⟩
  by_cases h3 : c < 1
  · rw [show scaleq p q c = 0 from if_pos (.inr (.inr h3))] at HS
    go_enter Try.func5, Try.ntmps5
    go_wp2_with (first | (go_at_call 18; refine (awake02 _).mono ?_; rintro e v1 ⟨rfl, hb1⟩))
    have b0 := (Blk.new w 32 #[.int .u64 ((hiQ N : Nat) : Int), .int .u64 ((loQ N : Nat) : Int)]).call hb1
    have e0 : Below w.heap.size w (w.alloc (.cells #[.int .u64 ((hiQ N : Nat) : Int), .int .u64 ((loQ N : Nat) : Int)] 32)) := by go_grown
    have e1 := e0.trans (hb1.mono e0.size)
    have B0 := Lib.hid b0
    have E1 := Lib.hid e1
    clear b0 e0 e1 hb1
    refine wp_region_any (by kernel_rfl) ?_; change wpAny _ _ _ _ _ _ _ (World.drew v1); refine any_of_anyG (late := fun _ => false) (S := fun w1 => Below v1.heap.size v1 w1) _ _ _ _ ?_
    have S0 := (Below.refl v1.heap.size v1).drew
    refine anyG_take (i := 0) (v := _) rfl (by kernel_rfl) (by kernel_rfl) (by kernel_rfl) (by kernel_rfl) rfl (by kernel_rfl) (fun j hj => by first | (simp at hj; done) | (simp at hj; simp; omega)) (fun _ _ _ h => h) (Or.inl ⟨by rfl, fun W1 hW1 => exec_load (ty := 32) (x := .tmp 7) rfl rfl (run_loadAt_blk _ _ _ _ _ _ (B0.out.call hW1) Try.underlying32 rfl (by first | exact info_num _ | kernel_rfl))⟩) (S0) ?_
    refine anyG_take (i := 2) (v := _) rfl (by kernel_rfl) (by kernel_rfl) (by kernel_rfl) (by kernel_rfl) rfl (by kernel_rfl) (fun j hj => by first | (simp at hj; done) | (simp at hj; simp; omega)) (fun _ _ _ h => h) (Or.inl ⟨by rfl, fun W1 hW1 => exec_load (ty := 32) (x := .tmp 7) rfl rfl (run_loadAt_blk _ _ _ _ _ _ (B0.out.call hW1) Try.underlying32 rfl (by first | exact info_num _ | kernel_rfl))⟩) (S0) ?_
    refine anyG_one (k := 1) (by kernel_rfl) rfl (by rfl) (fun Q2 hQ2 => ?_); go_wp2_with (go_at_call 26; refine (wide_SmallN N _ HN.out).mono ?_; rintro e v2 ⟨rfl, hb2⟩); refine hQ2 _ _ (fun _ => S0.trans (hb2.mono S0.size)) ?_; clear hQ2 Q2
    have S2 := S0.trans (hb2.mono S0.size)
    refine anyG_one (k := 3) (by kernel_rfl) rfl (by rfl) (fun Q2 hQ2 => ?_); go_wp2_with (go_at_call 25; refine (law_numN N _ HN.out).mono ?_; rintro e v3 ⟨rfl, hb3⟩); refine hQ2 _ _ (fun _ => S2.trans (hb3.mono S2.size)) ?_; clear hQ2 Q2
    have S3 := S2.trans (hb3.mono S2.size)
    refine anyG_one (k := 4) (by kernel_rfl) rfl (by rfl) (fun Q2 hQ2 => ?_); go_wp2_with (go_at_call 27; refine (num_Small N _ HN.out).mono ?_; rintro e v4 ⟨rfl, hb4⟩); refine hQ2 _ _ (fun _ => S3.trans (hb4.mono S3.size)) ?_; clear hQ2 Q2
    have S4 := S3.trans (hb4.mono S3.size)
    refine anyG_one (k := 5) (by kernel_rfl) rfl (by rfl) (fun Q2 hQ2 => ?_); go_wp2_with fail; refine hQ2 _ _ (fun _ => S4) ?_; clear hQ2 Q2
    refine anyG_done (by kernel_rfl) ?_ _
    have E2 := Lib.hid (E1.out.trans (S4.mono E1.out.size))
    go_wp2_with (go_at_call 28; refine (HS.out _).mono ?_; rintro e v5 ⟨rfl, hb5⟩)
    go_ret
    exact ⟨rfl, E2.out.trans (hb5.mono E2.out.size)⟩
  have hx : smallQ (upq (p.toNat * q.toNat) c.toNat) = 9223372036854775807 := by rcases hx with h | h | h | h <;> first | exact h | omega
  have hsq : scaleq p q c = (smallQ (upq (p.toNat * q.toNat) c.toNat) : Nat) := if_neg (by omega)
  rw [hsq] at HS
  obtain ⟨P, rfl⟩ := Int.eq_ofNat_of_zero_le (show 0 ≤ p by omega)
  obtain ⟨Q, rfl⟩ := Int.eq_ofNat_of_zero_le (show 0 ≤ q by omega)
  obtain ⟨C, rfl⟩ := Int.eq_ofNat_of_zero_le (show 0 ≤ c by omega)
  rw [Int.toNat_natCast, Int.toNat_natCast, Int.toNat_natCast] at HS hx
  unfold I64 at hp hq hc
  clear hsq
  obtain ⟨M, hM⟩ : ∃ M, M = P * Q := ⟨_, rfl⟩
  rw [← hM] at HS hx
  obtain ⟨s, hs⟩ : ∃ s, s = smallQ (upq M C) := ⟨_, rfl⟩
  have hsp := scale_spec (n := M) (c := C) (s := s) (by omega) hs
  have hsb : s ≤ 9223372036854775807 := by rw [hs]; unfold smallQ; split <;> omega
  rw [← hs] at HS
  have hml : M < 2 ^ 126 := by rw [hM]; exact mul_lt126 (by omega) (by omega)
  have HMl := Lib.hid (show M < 2 ^ 128 by omega)
  have HM1 := Lib.hid (fun W => num_MulM P Q M W hM (by omega) (by omega))
  have HUp := Lib.hid (fun W => num_Up M C s W (by omega) (by omega) (by omega))
  by_cases hmax : s = 9223372036854775807
  · have HKM := Lib.hid (hsp.2 hmax)
    subst hmax
    obtain ⟨K, hK⟩ : ∃ K, K = (9223372036854775807 - 1) * C := ⟨_, rfl⟩
    rw [← hK] at HKM
    have HM2 := Lib.hid (fun W => num_MulM 9223372036854775806 C K W (by rw [hK]) (by omega) (by omega))
    have HK := Lib.hid (show K < 2 ^ 128 by have := HKM.out; omega)
    clear hx hsp hs hK hM hml hN
    go_enter Try.func5, Try.ntmps5
    go_wp2_with (first | (go_at_call 18; refine (awake02 _).mono ?_; rintro e v1 ⟨rfl, hb1⟩))
    have b0 := (Blk.new w 32 #[.int .u64 ((hiQ N : Nat) : Int), .int .u64 ((loQ N : Nat) : Int)]).call hb1
    have e0 : Below w.heap.size w (w.alloc (.cells #[.int .u64 ((hiQ N : Nat) : Int), .int .u64 ((loQ N : Nat) : Int)] 32)) := by go_grown
    have e1 := e0.trans (hb1.mono e0.size)
    have B0 := Lib.hid b0
    have E1 := Lib.hid e1
    clear b0 e0 e1 hb1
    refine wp_region_any (by kernel_rfl) ?_; change wpAny _ _ _ _ _ _ _ (World.drew v1); refine any_of_anyG (late := fun _ => false) (S := fun w1 => Below v1.heap.size v1 w1) _ _ _ _ ?_
    have S0 := (Below.refl v1.heap.size v1).drew
    refine anyG_take (i := 0) (v := _) rfl (by kernel_rfl) (by kernel_rfl) (by kernel_rfl) (by kernel_rfl) rfl (by kernel_rfl) (fun j hj => by first | (simp at hj; done) | (simp at hj; simp; omega)) (fun _ _ _ h => h) (Or.inl ⟨by rfl, fun W1 hW1 => exec_load (ty := 32) (x := .tmp 7) rfl rfl (run_loadAt_blk _ _ _ _ _ _ (B0.out.call hW1) Try.underlying32 rfl (by first | exact info_num _ | kernel_rfl))⟩) (S0) ?_
    refine anyG_take (i := 2) (v := _) rfl (by kernel_rfl) (by kernel_rfl) (by kernel_rfl) (by kernel_rfl) rfl (by kernel_rfl) (fun j hj => by first | (simp at hj; done) | (simp at hj; simp; omega)) (fun _ _ _ h => h) (Or.inl ⟨by rfl, fun W1 hW1 => exec_load (ty := 32) (x := .tmp 7) rfl rfl (run_loadAt_blk _ _ _ _ _ _ (B0.out.call hW1) Try.underlying32 rfl (by first | exact info_num _ | kernel_rfl))⟩) (S0) ?_
    refine anyG_one (k := 1) (by kernel_rfl) rfl (by rfl) (fun Q2 hQ2 => ?_); go_wp2_with (go_at_call 26; refine (wide_SmallN N _ HN.out).mono ?_; rintro e v2 ⟨rfl, hb2⟩); refine hQ2 _ _ (fun _ => S0.trans (hb2.mono S0.size)) ?_; clear hQ2 Q2
    have S2 := S0.trans (hb2.mono S0.size)
    refine anyG_one (k := 3) (by kernel_rfl) rfl (by rfl) (fun Q2 hQ2 => ?_); go_wp2_with (go_at_call 25; refine (law_numN N _ HN.out).mono ?_; rintro e v3 ⟨rfl, hb3⟩); refine hQ2 _ _ (fun _ => S2.trans (hb3.mono S2.size)) ?_; clear hQ2 Q2
    have S3 := S2.trans (hb3.mono S2.size)
    refine anyG_one (k := 4) (by kernel_rfl) rfl (by rfl) (fun Q2 hQ2 => ?_); go_wp2_with (go_at_call 27; refine (num_Small N _ HN.out).mono ?_; rintro e v4 ⟨rfl, hb4⟩); refine hQ2 _ _ (fun _ => S3.trans (hb4.mono S3.size)) ?_; clear hQ2 Q2
    have S4 := S3.trans (hb4.mono S3.size)
    refine anyG_one (k := 5) (by kernel_rfl) rfl (by rfl) (fun Q2 hQ2 => ?_); go_wp2_with fail; refine hQ2 _ _ (fun _ => S4) ?_; clear hQ2 Q2
    refine anyG_done (by kernel_rfl) ?_ _
    have E2 := Lib.hid (E1.out.trans (S4.mono E1.out.size))
    go_wp2_with (first | (go_at_call 28; refine (HS.out _).mono ?_; rintro e v5 ⟨rfl, hb5⟩) | (go_at_call 21; refine (HM1.out _).mono ?_; rintro e v6 ⟨rfl, hb6⟩) | (refine wpList_store_fresh rfl 38 _ _ rfl _ _ _ (bitsA _) rfl rfl rfl (by rw [bitsA_size]; kernel_rfl) (info_num _) (bitsA_one _) ?_))
    have g6 := Blk.new v6 38 (bitsA M)
    have E6 := Lib.hid ((E2.out.trans (hb5.mono E2.out.size)).trans (hb6.mono (E2.out.trans (hb5.mono E2.out.size)).size))
    have E7 := Lib.hid (E6.out.alloc E6.out.size (.cells (bitsA M) 38))
    generalize hg6 : v6.heap.size = gm at *
    clear hg6
    generalize v6.alloc (.cells (bitsA M) 38) = W at *
    have G6 := Lib.hid g6
    clear g6
    refine wp_region_any (by kernel_rfl) ?_; change wpAny _ _ _ _ _ _ _ (World.drew W); refine any_of_anyG (late := fun _ => false) (S := fun w1 => Below W.heap.size W w1) _ _ _ _ ?_
    have S0 := (Below.refl W.heap.size W).drew
    refine anyG_take (i := 0) (v := _) rfl (by kernel_rfl) (by kernel_rfl) (by kernel_rfl) (by kernel_rfl) rfl (by kernel_rfl) (fun j hj => by first | (simp at hj; done) | (simp at hj; simp; omega)) (fun _ _ _ h => h) (Or.inl ⟨by rfl, fun W1 hW1 => by first | rfl | go_simp⟩) (S0) ?_
    refine anyG_take (i := 1) (v := .int .i64 9223372036854775806) rfl (by kernel_rfl) (by kernel_rfl) (by kernel_rfl) (by kernel_rfl) rfl (by kernel_rfl) (fun j hj => by first | (simp at hj; done) | (simp at hj; simp; omega)) (fun _ _ _ h => h) (Or.inl ⟨by rfl, fun W1 hW1 => by go_simp; decide⟩) (S0) ?_
    refine anyG_take (i := 2) (v := _) rfl (by kernel_rfl) (by kernel_rfl) (by kernel_rfl) (by kernel_rfl) rfl (by kernel_rfl) (fun j hj => by first | (simp at hj; done) | (simp at hj; simp; omega)) (fun _ _ _ h => h) (Or.inl ⟨by rfl, fun W1 hW1 => by first | rfl | go_simp⟩) (S0) ?_
    refine anyG_take (i := 3) (v := _) rfl (by kernel_rfl) (by kernel_rfl) (by kernel_rfl) (by kernel_rfl) rfl (by kernel_rfl) (fun j hj => by first | (simp at hj; done) | (simp at hj; simp; omega)) (fun _ _ _ h => h) (Or.inl ⟨by rfl, fun W1 hW1 => by first | rfl | go_simp⟩) (S0) ?_
    refine anyG_take (i := 4) (v := _) rfl (by kernel_rfl) (by kernel_rfl) (by kernel_rfl) (by kernel_rfl) rfl (by kernel_rfl) (fun j hj => by first | (simp at hj; done) | (simp at hj; simp; omega)) (fun _ _ _ h => h) (Or.inl ⟨by rfl, fun W1 hW1 => by first | rfl | go_simp⟩) (S0) ?_
    refine anyG_take (i := 6) (v := _) rfl (by kernel_rfl) (by kernel_rfl) (by kernel_rfl) (by kernel_rfl) rfl (by kernel_rfl) (fun j hj => by first | (simp at hj; done) | (simp at hj; simp; omega)) (fun _ _ _ h => h) (Or.inl ⟨by rfl, fun W1 hW1 => exec_load (ty := 38) (x := .tmp 10) rfl rfl (run_loadAt_blk _ _ _ _ _ _ (G6.out.call hW1) Try.underlying38 rfl (by first | exact info_num _ | kernel_rfl))⟩) (S0) ?_
    refine anyG_one (k := 5) (by kernel_rfl) rfl (by rfl) (fun Q2 hQ2 => ?_); go_wp2_with (go_at_call 21; refine (HM2.out _).mono ?_; rintro e v7 ⟨rfl, hb7⟩); refine hQ2 _ _ (fun _ => S0.trans (hb7.mono S0.size)) ?_; clear hQ2 Q2
    have S7 := S0.trans (hb7.mono S0.size)
    refine anyG_one (k := 7) (by kernel_rfl) rfl (by rfl) (fun Q2 hQ2 => ?_); go_wp2_with (go_at_call 29; refine (num_Cmp K M _ HK.out HMl.out).mono ?_; rintro e v8 ⟨rfl, hb8⟩); refine hQ2 _ _ (fun _ => S7.trans (hb8.mono S7.size)) ?_; clear hQ2 Q2
    have S8 := S7.trans (hb8.mono S7.size)
    refine anyG_one (k := 8) (by kernel_rfl) rfl (by rfl) (fun Q2 hQ2 => ?_); go_wp2_with fail; refine hQ2 _ _ (fun _ => S8) ?_; clear hQ2 Q2
    refine anyG_one (k := 9) (by kernel_rfl) rfl (by rfl) (fun Q2 hQ2 => ?_); go_wp2_with fail; refine hQ2 _ _ (fun _ => S8) ?_; clear hQ2 Q2
    refine anyG_done (by kernel_rfl) ?_ _
    go_wp2
    go_ret
    exact ⟨ret_bool (by rw [cmpN_lt]; exact decide_eq_true HKM.out), E7.out.trans (S8.mono E7.out.size)⟩
  · exact absurd (hs.trans hx) hmax
end Go.Proofs.Ytlodmnohmlkjmaa
