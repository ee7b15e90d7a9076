/- The laws on package fnv: each walk, out of the contracts of the functions that it calls. -/
import Derived.Test.YtbklojncaimneaaFnvKey
import Derived.Test.YtbklojncaimneaaBytes
import Derived.Deep.RegionHeld3
namespace Go.Proofs.Ytbklojncaimneaa
open Go.RowKit
set_option linter.unusedSimpArgs false
set_option linter.unusedVariables false
set_option maxHeartbeats 400000

theorem ex_s32 (w : World) : Calls Try.prog 21 #[.string ⟨#[]⟩] w fun e w' => e = .returned (.int .u32 2166136261) ∧ w = w' :=
  (fnv_Sum32 ⟨#[]⟩ w (by decide)).mono fun _ _ h => h
theorem ex_s64 (w : World) : Calls Try.prog 14 #[.string ⟨#[97]⟩] w fun e w' => e = .returned (.int .u64 12638187200555641996) ∧ w = w' :=
  (fnv_Sum64 ⟨#[97]⟩ w (by decide)).mono fun _ _ h => by
    rw [show sum64N (codes (ByteArray.mk #[97]).data.toList) = 12638187200555641996 by decide +kernel] at h; exact h
theorem ex_fold (w : World) : Calls Try.prog 16 #[.int .u64 257, .int .i64 8] w fun e w' => e = .returned (.int .u64 0) ∧ w = w' :=
  (fnv_Fold 257 8 w (by omega)).mono fun _ _ h => by
    rw [show foldq 257 8 = 0 by decide +kernel] at h; exact h
theorem awake04 (w : World) : Calls Try.prog 13 #[] w fun e w' => e = .returned (.bool true) ∧ w = w' := by
  go_enter Try.func13, Try.ntmps13
  go_wp2_with (first | (go_at_call 21; refine (ex_s32 _).mono ?_; rintro e w1 ⟨rfl, rfl⟩) | (go_at_call 14; refine (ex_s64 _).mono ?_; rintro e w1 ⟨rfl, rfl⟩) | (go_at_call 16; refine (ex_fold _).mono ?_; rintro e w1 ⟨rfl, rfl⟩))
  go_ret
  exact ⟨rfl, rfl⟩
theorem walk_FnvFolds (h b : Int) (w : World) (hh : U64 h) (hb : I64 b) :
    Calls Try.prog 4 #[.int .u64 h, .int .i64 b] w fun e w' => e = .returned (.bool true) ∧ Below w.heap.size w w' := by
  obtain ⟨n, rfl⟩ := Int.eq_ofNat_of_zero_le hh.1
  have hn : n < 18446744073709551616 := by have := hh.2; omega
  clear hh
  by_cases h1 : b < 1
  · go_enter Try.func4, Try.ntmps4
    go_wp2_with (first | (go_at_call 13; refine (awake04 _).mono ?_; rintro e w1 ⟨rfl, rfl⟩) | (go_at_call 16; refine (fnv_Fold _ _ _ hn).mono ?_; rintro e w1 ⟨rfl, rfl⟩) | (go_at_call 17; refine (ref_Fold _ _ _ hn).mono ?_; rintro e w1 ⟨rfl, rfl⟩))
    go_ret
    exact ⟨rfl, Below.refl _ _⟩
  · by_cases h2 : 32 < b
    · go_enter Try.func4, Try.ntmps4
      go_wp2_with (first | (go_at_call 13; refine (awake04 _).mono ?_; rintro e w1 ⟨rfl, rfl⟩) | (go_at_call 16; refine (fnv_Fold _ _ _ hn).mono ?_; rintro e w1 ⟨rfl, rfl⟩) | (go_at_call 17; refine (ref_Fold _ _ _ hn).mono ?_; rintro e w1 ⟨rfl, rfl⟩))
      go_ret
      exact ⟨rfl, Below.refl _ _⟩
    · have h3 : 1 ≤ b := by omega
      have h4 : b ≤ 32 := by omega
      clear h1 h2
      go_enter Try.func4, Try.ntmps4
      go_wp2_with (first | (go_at_call 13; refine (awake04 _).mono ?_; rintro e w1 ⟨rfl, rfl⟩) | (go_at_call 16; refine (fnv_Fold _ _ _ hn).mono ?_; rintro e w1 ⟨rfl, rfl⟩) | (go_at_call 17; refine (ref_Fold _ _ _ hn).mono ?_; rintro e w1 ⟨rfl, rfl⟩))
      go_ret
      refine ⟨ret_bool ?_, Below.refl _ _⟩
      have f := foldq_lt n b h3 h4
      have p := pow32 b.toNat (by omega)
      have e : IntKind.u64.wrap (2 ^ b.toNat) = ((2 ^ b.toNat : Nat) : Int) := by rw [pow_cast, IntKind.wrap_u64]; omega
      have f2 : ((foldq n b : Nat) : Int) < IntKind.u64.wrap (2 ^ b.toNat) := by rw [e]; omega
      rw [decide_eq_true f2]
      simp
theorem held_key {w0 W w1 : World} {g : Nat} {v1 v2 : Value} (hb : Below W.heap.size W w1) (c1 : W.cell? ⟨g, 0, none⟩ = some v1) (c2 : W.cell? ⟨g, 1, none⟩ = some v2) (sz : g < W.heap.size) (bel : Below g w0 W) :
    w1.cell? ⟨g, 0, none⟩ = some v1 ∧ w1.cell? ⟨g, 1, none⟩ = some v2 ∧ g < w1.heap.size ∧ Below g w0 w1 :=
  ⟨(hb.cell (p := ⟨g, 0, none⟩) sz).trans c1, (hb.cell (p := ⟨g, 1, none⟩) sz).trans c2, Nat.lt_of_lt_of_le sz hb.size, bel.trans (hb.mono (Nat.le_of_lt sz))⟩
set_option maxRecDepth 100000 in
theorem walk_FnvSums (s : ByteArray) (hi lo : Int) (w : World) (hs : s.size ≤ maxLen) (h1 : U64 hi) (h2 : U64 lo) :
    Calls Try.prog 6 #[.string s, .agg #[.int .u64 hi, .int .u64 lo]] w fun e w' => e = .returned (.bool true) ∧ Below w.heap.size w w' := by
  obtain ⟨m, rfl⟩ := Int.eq_ofNat_of_zero_le h1.1
  obtain ⟨n, rfl⟩ := Int.eq_ofNat_of_zero_le h2.1
  have hm : m < 18446744073709551616 := by have := h1.2; omega
  have hn : n < 18446744073709551616 := by have := h2.2; omega
  have HS := Lib.hid hs
  clear h1 h2
  unfold maxLen at hs
  by_cases hl : s.size ≤ 200
  · go_enter Try.func6, Try.ntmps6
    go_wp2_with (first | (go_at_call 13; refine (awake04 _).mono ?_; rintro e w1 ⟨rfl, rfl⟩) | (go_at_call 21; refine (fnv_Sum32 _ _ HS.out).mono ?_; rintro e w1 ⟨rfl, rfl⟩) | (go_at_call 22; refine (ref_Sum32 _ _ HS.out).mono ?_; rintro e w1 ⟨rfl, rfl⟩) | (go_at_call 14; refine (fnv_Sum64 _ _ HS.out).mono ?_; rintro e w1 ⟨rfl, rfl⟩) | (go_at_call 23; refine (ref_Sum64 _ _ HS.out).mono ?_; rintro e w1 ⟨rfl, rfl⟩))
    go_region_held3 (fun w' => w'.cell? ⟨w.heap.size, 0, none⟩ = some (.int .u64 m) ∧ w'.cell? ⟨w.heap.size, 1, none⟩ = some (.int .u64 n) ∧ w.heap.size < w'.heap.size ∧ Below w.heap.size w w')
      (first
        | (go_split_ands; exact held_key (by assumption) (by assumption) (by assumption) (by assumption) (by assumption))
        | (go_split_ands; exact ⟨by assumption, by assumption, by assumption, by assumption⟩)
        | exact ⟨cell_new_row w _ _ _ 0, cell_new_row w _ _ _ 1, by simp, by go_grown⟩)
      (first
        | (go_at_call 21; refine (fnv_Sum32 _ _ HS.out).mono ?_; rintro e w1 ⟨rfl, rfl⟩)
        | (go_at_call 22; refine (ref_Sum32 _ _ HS.out).mono ?_; rintro e w1 ⟨rfl, rfl⟩)
        | (go_at_call 14; refine (fnv_Sum64 _ _ HS.out).mono ?_; rintro e w1 ⟨rfl, rfl⟩)
        | (go_at_call 23; refine (ref_Sum64 _ _ HS.out).mono ?_; rintro e w1 ⟨rfl, rfl⟩)
        | (go_at_call 24; refine (fnv_Key _ _ _ hm hn).mono ?_; rintro e w1 ⟨rfl, hb⟩)
        | (go_at_call 25; refine (ref_Key _ _ _ hm hn).mono ?_; rintro e w1 ⟨rfl, hb⟩))
    have hh : ∀ w1 : World, (w1.cell? ⟨w.heap.size, 0, none⟩ = some (.int .u64 m) ∧ w1.cell? ⟨w.heap.size, 1, none⟩ = some (.int .u64 n) ∧ w.heap.size < w1.heap.size ∧ Below w.heap.size w w1) → Below w.heap.size w w1 := fun _ h => h.2.2.2
    have hz := hh _ (by assumption)
    clear hh
    go_wp2
    go_ret
    exact ⟨rfl, hz⟩
  · go_enter Try.func6, Try.ntmps6
    go_wp2_with (first | (go_at_call 13; refine (awake04 _).mono ?_; rintro e w1 ⟨rfl, rfl⟩))
    go_ret
    exact ⟨rfl, by go_grown⟩
theorem info_u8 : (Try.prog.info? 5).map (fun i => (i.zero, i.size, i.bytes)) = some (some (.int .u8 0), 1, 1) := by kernel_rfl
theorem below_drewN {B : Nat} {a w : World} (h : Below B a w) (n : Nat) : Below B a (w.drewN n) := ⟨h.os, h.tape, h.output, h.size, h.block⟩
theorem steps_eq (H c d : Nat) (hH : H < 18446744073709551616) (hc : c < 256) (hd : d < 256) : (((step H c : Nat) : Int) == ((step H d : Nat) : Int)) = ((c : Int) == (d : Int)) := by
  by_cases h : c = d
  · subst h; simp
  · have h2 : step H c ≠ step H d := fun e => h (step_inj H c d hH hc hd e)
    have e1 : ((c : Int) == (d : Int)) = false := by simp; omega
    have e2 : (((step H c : Nat) : Int) == ((step H d : Nat) : Int)) = false := by simp; omega
    rw [e1, e2]
theorem quiet_left {P : Program} {f : FuncId} {args : Array Value} {w : World} {n : Nat} {v : Value}
    (h : Calls P f args (w.drewN n) fun e w' => e = .returned v ∧ w.drewN n = w') : Calls P f args (w.drewN n) fun e w'' => e = .returned v ∧ ∃ m, w'' = w.drewN m :=
  h.mono fun _ _ ⟨he, hm⟩ => ⟨he, n, hm.symm⟩
set_option maxRecDepth 100000 in
theorem walk_FnvSteps (s : ByteArray) (c d : Int) (w : World) (hs : s.size ≤ maxLen) (h1 : U8 c) (h2 : U8 d) :
    Calls Try.prog 3 #[.string s, .int .u8 c, .int .u8 d] w fun e w' => e = .returned (.bool true) ∧ Below w.heap.size w w' := by
  obtain ⟨c, rfl⟩ := Int.eq_ofNat_of_zero_le h1.1
  obtain ⟨d, rfl⟩ := Int.eq_ofNat_of_zero_le h2.1
  have hc : c < 256 := by have := h1.2; omega
  have hd : d < 256 := by have := h2.2; omega
  clear h1 h2
  have HS := Lib.hid hs
  unfold maxLen at hs
  obtain ⟨i0, hi, hz0, hz1, hz2⟩ := info_parts info_u8
  by_cases hl : s.size ≤ 200
  · go_enter Try.func3, Try.ntmps3
    go_wp2_with (first | (go_at_call 13; refine (awake04 _).mono ?_; rintro e w1 ⟨rfl, rfl⟩))
    obtain ⟨W1, cap1, hr1, hc1, hm1, hz1', hb1, hat1, hsp1⟩ := conv_bytes (P := Try.prog) w 9 23 5 s HS.out Try.underlying9 Try.underlying23 Try.underlying5
    rw [hr1]
    clear hr1
    have hlen : (s.data.toList.map (·.toNat)).length = s.size := by simp
    have HA1 := Lib.hid hat1
    have HP1 := Lib.hid hsp1
    have HB1 := Lib.hid hb1
    have HL := Lib.hid hlen
    have lt1 : w.heap.size < W1.heap.size := by omega
    clear hat1 hsp1 hb1 hlen hz1'
    go_wp2_with (at_builtin; refine wpList_append_byte _ rfl (.tmp 17) (.tmp 19) _ rfl 5 i0 _ Try.underlying23 hi hz0 hz1 hz2 rfl w.heap.size s.size cap1 (s.data.toList.map (·.toNat)) rfl HL.out hc1 hm1 (HA1.out.alloc lt1 _) (by simp; omega) (spare_alloc HP1.out lt1 _) W1.heap.size 1 c rfl (cell_new_row W1 _ _ _ 0) (by omega) ?_; intro b2 cap2 W2 g1 g2 g3 g4 g5)
    have HA2 := Lib.hid g4
    have HB2 := Lib.hid (HB1.out.trans ((((Below.refl _ _).alloc (Nat.le_of_lt lt1) _)).trans g5))
    clear g4 g5
    obtain ⟨W3, cap3, hr3, hc3, hm3, hz3, hb3, hat3, hsp3⟩ := conv_bytes (P := Try.prog) W2 9 23 5 s HS.out Try.underlying9 Try.underlying23 Try.underlying5
    rw [hr3]
    clear hr3
    have HA3 := Lib.hid hat3
    have HP3 := Lib.hid hsp3
    have HB3 := Lib.hid hb3
    have lt3 : W2.heap.size < W3.heap.size := by omega
    clear hat3 hsp3 hb3 hz3
    go_wp2_with (at_builtin; refine wpList_append_byte _ rfl (.tmp 22) (.tmp 24) _ rfl 5 i0 _ Try.underlying23 hi hz0 hz1 hz2 rfl W2.heap.size s.size cap3 (s.data.toList.map (·.toNat)) rfl HL.out hc3 hm3 (HA3.out.alloc lt3 _) (by simp; omega) (spare_alloc HP3.out lt3 _) W3.heap.size 1 d rfl (cell_new_row W3 _ _ _ 0) (by omega) ?_; intro b4 cap4 W4 k1 k2 k3 k4 k5)
    have HA4 := Lib.hid k4
    have HB4 := Lib.hid (HB3.out.trans ((((Below.refl _ _).alloc (Nat.le_of_lt lt3) _)).trans k5))
    clear k4 k5
    have HA2' := Lib.hid (HA2.out.below HB4.out g2)
    have r2 : ∀ n : Nat, (convert 23 9 (.slice (some ⟨b2, 0, none⟩) (s.size + 1) cap2)).run Try.prog (W4.drewN n) = .ok (.string (strOfNums ((s.data.toList.map (·.toNat) ++ [c]).map fun n : Nat => (n : Int)))) (W4.drewN n) :=
      fun n => run_string_of (W4.drewN n) 23 5 9 Try.underlying23 Try.underlying5 Try.underlying9 b2 _ cap2 _ (by simp) HA2'.out
    have r4 : ∀ n : Nat, (convert 23 9 (.slice (some ⟨b4, 0, none⟩) (s.size + 1) cap4)).run Try.prog (W4.drewN n) = .ok (.string (strOfNums ((s.data.toList.map (·.toNat) ++ [d]).map fun n : Nat => (n : Int)))) (W4.drewN n) :=
      fun n => run_string_of (W4.drewN n) 23 5 9 Try.underlying23 Try.underlying5 Try.underlying9 b4 _ cap4 _ (by simp) HA4.out
    have hz2 : (strOfNums ((s.data.toList.map (·.toNat) ++ [c]).map fun n : Nat => (n : Int))).size ≤ maxLen ∧ codes (strOfNums ((s.data.toList.map (·.toNat) ++ [c]).map fun n : Nat => (n : Int))).data.toList = codes s.data.toList ++ [c] :=
      ⟨by rw [strOfNums_size]; simp; unfold maxLen; omega, codes_strOfNums _ (by
        intro n hn
        simp only [List.mem_append, List.mem_map, List.mem_singleton] at hn
        rcases hn with ⟨x, _, rfl⟩ | rfl
        · exact x.toNat_lt
        · exact hc)⟩
    have hz4 : (strOfNums ((s.data.toList.map (·.toNat) ++ [d]).map fun n : Nat => (n : Int))).size ≤ maxLen ∧ codes (strOfNums ((s.data.toList.map (·.toNat) ++ [d]).map fun n : Nat => (n : Int))).data.toList = codes s.data.toList ++ [d] :=
      ⟨by rw [strOfNums_size]; simp; unfold maxLen; omega, codes_strOfNums _ (by
        intro n hn
        simp only [List.mem_append, List.mem_map, List.mem_singleton] at hn
        rcases hn with ⟨x, _, rfl⟩ | rfl
        · exact x.toNat_lt
        · exact hd)⟩
    generalize strOfNums ((s.data.toList.map (·.toNat) ++ [c]).map fun n : Nat => (n : Int)) = S2 at *
    generalize strOfNums ((s.data.toList.map (·.toNat) ++ [d]).map fun n : Nat => (n : Int)) = S4 at *
    have HZ2 := Lib.hid hz2
    have HZ4 := Lib.hid hz4
    clear hz2 hz4
    go_quiet ((go_at_call 14; refine quiet_left (fnv_Sum64 _ _ ?_); first | (with_reducible exact HZ2.out.1) | (with_reducible exact HZ4.out.1)))
    rw [HZ2.out.2, HZ4.out.2, sum64_snoc, sum64_snoc]
    have hH := sum64_lt (codes s.data.toList)
    have hE := steps_eq _ c d hH hc hd
    clear r2 r4
    go_wp2_with (first | (go_at_call 14; refine (fnv_Sum64 s _ HS.out).mono ?_; rintro e w1 ⟨rfl, rfl⟩) | (go_at_call 15; refine (ref_Step _ _ _ hH hc).mono ?_; rintro e w1 ⟨rfl, rfl⟩))
    go_ret
    exact ⟨ret_bool (by simp), below_drewN (HB2.out.trans (HB4.out.mono (by have := HB2.out.size; omega))) _⟩
  · go_enter Try.func3, Try.ntmps3
    go_wp2_with (first | (go_at_call 13; refine (awake04 _).mono ?_; rintro e w1 ⟨rfl, rfl⟩))
    go_ret
    exact ⟨rfl, Below.refl _ _⟩
end Go.Proofs.Ytbklojncaimneaa
