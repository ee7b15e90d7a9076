/- The law TrialOrders: the walk. -/
import Derived.Test.YtlodmnohmlkjmaaW44
import Derived.Deep.DeepCutAuto
import Derived.Test.YtlodmnohmlkjmaaRegL
namespace Go.Proofs.Ytlodmnohmlkjmaa
open Go.RowKit
set_option linter.unusedSimpArgs false
set_option linter.unusedVariables false
set_option maxHeartbeats 4000000
set_option maxRecDepth 100000
theorem cmp44_le (a b : Res) : cmp44 a b ≤ 0 ↔ (a.short < b.short ∨ a.short = b.short ∧ (a.spare < b.spare ∨ a.spare = b.spare ∧ (a.ch < b.ch ∨ a.ch = b.ch ∧ a.tn ≤ b.tn))) := by
  unfold cmp44 lessq
  (repeat' split) <;> omega
theorem cmp44_neg (a b : Res) : cmp44 b a = -cmp44 a b := by
  unfold cmp44 lessq
  (repeat' split) <;> omega
theorem cmp44_self (a : Res) : cmp44 a a = 0 := by
  unfold cmp44 lessq
  simp
theorem cmp44_bd (a b : Res) : -1 ≤ cmp44 a b ∧ cmp44 a b ≤ 1 := by
  unfold cmp44 lessq
  (repeat' split) <;> omega
theorem cmp44_trans (a b c : Res) (h1 : ¬ 0 < cmp44 a b) (h2 : ¬ 0 < cmp44 b c) : cmp44 a c ≤ 0 := by
  have e1 := (cmp44_le a b).1 (by omega)
  have e2 := (cmp44_le b c).1 (by omega)
  rw [cmp44_le]
  omega
theorem Blk.loadGO {P : Program} {op : Oper} {a : Act} {w : World} {K : Act → World → Prop} {Q : Exit → Act → World → Prop} (ty : TypeId) (x : Operand) (ho : op.op = .load ty x)
    (g : Nat) (t : TypeId) (cs : Array Value) (d : TypeDesc) (hx : a.eval x = .pointer (some ⟨g, 0, none⟩)) (hb : Blk w g t cs) (hu : P.underlying ty = some d) (hd : (match d with | .struct _ | .array _ _ => true | _ => false) = true) (hi : (P.info? ty).map (·.size) = some cs.size)
    (h : K (a.put op.dst (.agg cs)) w) : op.wp P a w K Q := by
  unfold Oper.wp
  rw [exec_load ho hx (run_loadAt_blk w g t ty cs d hb hu hd hi)]
  exact h
theorem walk_TrialOrdersR (a b c : Res) (w : World) :
    Calls Try.prog 11 #[.agg a.row, .agg b.row, .agg c.row] w fun e w' => e = .returned (.bool true) ∧ Below w.heap.size w w' := by
  have h1 := cmp44_bd a b
  have h2 := cmp44_bd b c
  have h3 := cmp44_bd a c
  have ht := cmp44_trans a b c
  have HC := Lib.hid (fun W => trial_Cmp a b W)
  have HR := Lib.hid (fun W => ref44_Cmp a b W)
  have HD := Lib.hid (fun W => trial_Cmp b a W)
  rw [cmp44_neg] at HD
  have HE := Lib.hid (fun W => trial_Cmp a a W)
  rw [cmp44_self] at HE
  have HF := Lib.hid (fun W => trial_Cmp b c W)
  have HG := Lib.hid (fun W => trial_Cmp a c W)
  generalize cmp44 a b = x at *
  generalize cmp44 b c = y at *
  generalize cmp44 a c = z at *
  have HT := Lib.hid ht
  clear ht
  go_enter Try.func11, Try.ntmps11
  go_wp2_with fail
  refine (awake44 _).mono ?_
  rintro e v1 ⟨rfl, hb1⟩
  have b0 := (((Blk.new w 63 a.row).alloc (.cells b.row 63)).alloc (.cells c.row 63)).call hb1
  have b1 := ((Blk.new_ w (.cells a.row 63) 63 b.row).alloc (.cells c.row 63)).call hb1
  have b2 := (Blk.new__ w (.cells a.row 63) (.cells b.row 63) 63 c.row).call hb1
  have e0 : Below w.heap.size w (((w.alloc (.cells a.row 63)).alloc (.cells b.row 63)).alloc (.cells c.row 63)) := by go_grown
  have E1 := Lib.hid (e0.trans (hb1.mono e0.size))
  have B0 := Lib.hid b0
  have B1 := Lib.hid b1
  have B2 := Lib.hid b2
  clear b0 b1 b2 e0 hb1
  go_upto_region 3 with (fail)
  go_cut [7, 8, 9] (fun s7 s8 s9 wx => ∃ g7 g8 g9 : Nat, s7 = .pointer (some ⟨g7, 0, none⟩) ∧ s8 = .pointer (some ⟨g8, 0, none⟩) ∧ s9 = .pointer (some ⟨g9, 0, none⟩) ∧ Blk wx g7 64 a.row ∧ Blk wx g8 64 b.row ∧ Blk wx g9 64 c.row ∧ Below v1.heap.size v1 wx)
  case first =>
    refine wp_region_any (by kernel_rfl) ?_; change wpAny _ _ _ _ _ _ _ (World.drew v1); refine any_of_anyG (late := fun _ => false) (S := fun w1 => Below v1.heap.size v1 w1) _ _ _ _ ?_
    have S0 := (Below.refl v1.heap.size v1).drew
    refine anyG_take (i := 0) (v := _) rfl (by kernel_rfl) (by kernel_rfl) (by kernel_rfl) (by kernel_rfl) rfl (by kernel_rfl) (fun j hj => by first | (simp at hj; done) | (simp at hj; simp; omega)) (fun _ _ _ h => h) (Or.inl ⟨by rfl, fun W1 hW1 => exec_load (ty := 63) (x := .tmp 3) rfl rfl (run_loadAt_blk _ _ _ _ _ _ (B0.out.call hW1) Try.underlying63 rfl (by first | kernel_rfl | exact info_num _))⟩) (S0) ?_
    refine anyG_take (i := 1) (v := _) rfl (by kernel_rfl) (by kernel_rfl) (by kernel_rfl) (by kernel_rfl) rfl (by kernel_rfl) (fun j hj => by first | (simp at hj; done) | (simp at hj; simp; omega)) (fun _ _ _ h => h) (Or.inl ⟨by rfl, fun W1 hW1 => exec_load (ty := 63) (x := .tmp 4) rfl rfl (run_loadAt_blk _ _ _ _ _ _ (B1.out.call hW1) Try.underlying63 rfl (by first | kernel_rfl | exact info_num _))⟩) (S0) ?_
    refine anyG_take (i := 2) (v := _) rfl (by kernel_rfl) (by kernel_rfl) (by kernel_rfl) (by kernel_rfl) rfl (by kernel_rfl) (fun j hj => by first | (simp at hj; done) | (simp at hj; simp; omega)) (fun _ _ _ h => h) (Or.inl ⟨by rfl, fun W1 hW1 => exec_load (ty := 63) (x := .tmp 5) rfl rfl (run_loadAt_blk _ _ _ _ _ _ (B2.out.call hW1) Try.underlying63 rfl (by first | kernel_rfl | exact info_num _))⟩) (S0) ?_
    refine anyG_list (ks := [3, 4, 5]) (by kernel_rfl) (by simp) (fun k hk => ?_)
    simp only [List.mem_cons, List.not_mem_nil, or_false] at hk
    rcases hk with rfl | rfl | rfl
    ·
      refine ⟨_, rfl, by rfl, fun Q2 hQ2 => ?_⟩
      skip
      have nG7 := new_at (S := S0) (z64) 64
      obtain ⟨G7, hG7, bG7, lG7⟩ := nG7
      go_wp2_with fail
      refine hQ2 _ _ (fun _ => S0.alloc S0.size _) ?_
      clear hQ2 Q2
      (try simp only [hG7])
      clear hG7
      have SG7 := S0.alloc S0.size (.cells (z64) 64)
      refine anyG_two (i := 4) (j := 5) (by kernel_rfl) rfl (by rfl) rfl (by rfl) (fun Q2 hQ2 => ?_) (fun Q2 hQ2 => ?_)
      ·
        skip
        have nG8 := new_at (S := SG7) (z64) 64
        obtain ⟨G8, hG8, bG8, lG8⟩ := nG8
        have neG7G8 : G7 ≠ G8 := by have := (bG7).lt; omega
        go_wp2_with fail
        refine hQ2 _ _ (fun _ => SG7.alloc SG7.size _) ?_
        clear hQ2 Q2
        (try simp only [hG8])
        (try simp only [World.size_alloc, World.size_drew] at hG8)
        (try simp only [hG8])
        clear hG8
        have SG8 := SG7.alloc SG7.size (.cells (z64) 64)
        refine anyG_one (k := 5) (by kernel_rfl) rfl (by rfl) (fun Q2 hQ2 => ?_)
        have nG9 := new_at (S := SG8) (z64) 64
        obtain ⟨G9, hG9, bG9, lG9⟩ := nG9
        have neG7G9 : G7 ≠ G9 := by have := ((bG7).alloc (.cells (z64) 64)).lt; omega
        have neG8G9 : G8 ≠ G9 := by have := (bG8).lt; omega
        go_wp2_with fail
        refine hQ2 _ _ (fun _ => SG8.alloc SG8.size _) ?_
        clear hQ2 Q2
        (try simp only [hG9])
        (try simp only [World.size_alloc, World.size_drew] at hG9)
        (try simp only [hG9])
        clear hG9
        have SG9 := SG8.alloc SG8.size (.cells (z64) 64)
        refine anyG_one (k := 6) (by kernel_rfl) rfl (by rfl) (fun Q2 hQ2 => ?_); go_wp2_with (refine wpList_store_row rfl 64 (.tmp 7) _ rfl _ _ _ _ rfl rfl (((bG7).alloc (.cells (z64) 64)).alloc (.cells (z64) 64)) (by rfl) (by kernel_rfl) (by simp [Value.oneCell']) ?_; intro uG7 huG7 hwG7); refine hQ2 _ _ (fun _ => SG9.trans (Only.below hwG7 lG7 SG9.size)) ?_; clear hQ2 Q2
        have SsG7 := SG9.trans (Only.below hwG7 lG7 SG9.size)
        refine anyG_one (k := 7) (by kernel_rfl) rfl (by rfl) (fun Q2 hQ2 => ?_); go_wp2_with (refine wpList_store_row rfl 64 (.tmp 8) _ rfl _ _ _ _ rfl rfl (((bG8).alloc (.cells (z64) 64)).grown hwG7 (by intro e; injection e; omega)) (by rfl) (by kernel_rfl) (by simp [Value.oneCell']) ?_; intro uG8 huG8 hwG8); refine hQ2 _ _ (fun _ => SsG7.trans (Only.below hwG8 lG8 SsG7.size)) ?_; clear hQ2 Q2
        have SsG8 := SsG7.trans (Only.below hwG8 lG8 SsG7.size)
        refine anyG_one (k := 8) (by kernel_rfl) rfl (by rfl) (fun Q2 hQ2 => ?_); go_wp2_with (refine wpList_store_row rfl 64 (.tmp 9) _ rfl _ _ _ _ rfl rfl (((bG9).grown hwG7 (by intro e; injection e; omega)).grown hwG8 (by intro e; injection e; omega)) (by rfl) (by kernel_rfl) (by simp [Value.oneCell']) ?_; intro uG9 huG9 hwG9); refine hQ2 _ _ (fun _ => SsG8.trans (Only.below hwG9 lG9 SsG8.size)) ?_; clear hQ2 Q2
        have SsG9 := SsG8.trans (Only.below hwG9 lG9 SsG8.size)
        refine anyG_done (by kernel_rfl) ?_ _
        go_wp2
        go_meet
        case rel => exact ⟨_, _, _, rfl, rfl, rfl, ((huG7).grown hwG8 (by intro e; injection e; omega)).grown hwG9 (by intro e; injection e; omega), (huG8).grown hwG9 (by intro e; injection e; omega), huG9, SsG9⟩
      ·
        skip
        have nG9 := new_at (S := SG7) (z64) 64
        obtain ⟨G9, hG9, bG9, lG9⟩ := nG9
        have neG7G9 : G7 ≠ G9 := by have := (bG7).lt; omega
        go_wp2_with fail
        refine hQ2 _ _ (fun _ => SG7.alloc SG7.size _) ?_
        clear hQ2 Q2
        (try simp only [hG9])
        (try simp only [World.size_alloc, World.size_drew] at hG9)
        (try simp only [hG9])
        clear hG9
        have SG9 := SG7.alloc SG7.size (.cells (z64) 64)
        refine anyG_one (k := 4) (by kernel_rfl) rfl (by rfl) (fun Q2 hQ2 => ?_)
        have nG8 := new_at (S := SG9) (z64) 64
        obtain ⟨G8, hG8, bG8, lG8⟩ := nG8
        have neG7G8 : G7 ≠ G8 := by have := ((bG7).alloc (.cells (z64) 64)).lt; omega
        have neG9G8 : G9 ≠ G8 := by have := (bG9).lt; omega
        go_wp2_with fail
        refine hQ2 _ _ (fun _ => SG9.alloc SG9.size _) ?_
        clear hQ2 Q2
        (try simp only [hG8])
        (try simp only [World.size_alloc, World.size_drew] at hG8)
        (try simp only [hG8])
        clear hG8
        have SG8 := SG9.alloc SG9.size (.cells (z64) 64)
        refine anyG_one (k := 6) (by kernel_rfl) rfl (by rfl) (fun Q2 hQ2 => ?_); go_wp2_with (refine wpList_store_row rfl 64 (.tmp 7) _ rfl _ _ _ _ rfl rfl (((bG7).alloc (.cells (z64) 64)).alloc (.cells (z64) 64)) (by rfl) (by kernel_rfl) (by simp [Value.oneCell']) ?_; intro uG7 huG7 hwG7); refine hQ2 _ _ (fun _ => SG8.trans (Only.below hwG7 lG7 SG8.size)) ?_; clear hQ2 Q2
        have SsG7 := SG8.trans (Only.below hwG7 lG7 SG8.size)
        refine anyG_one (k := 7) (by kernel_rfl) rfl (by rfl) (fun Q2 hQ2 => ?_); go_wp2_with (refine wpList_store_row rfl 64 (.tmp 8) _ rfl _ _ _ _ rfl rfl ((bG8).grown hwG7 (by intro e; injection e; omega)) (by rfl) (by kernel_rfl) (by simp [Value.oneCell']) ?_; intro uG8 huG8 hwG8); refine hQ2 _ _ (fun _ => SsG7.trans (Only.below hwG8 lG8 SsG7.size)) ?_; clear hQ2 Q2
        have SsG8 := SsG7.trans (Only.below hwG8 lG8 SsG7.size)
        refine anyG_one (k := 8) (by kernel_rfl) rfl (by rfl) (fun Q2 hQ2 => ?_); go_wp2_with (refine wpList_store_row rfl 64 (.tmp 9) _ rfl _ _ _ _ rfl rfl ((((bG9).alloc (.cells (z64) 64)).grown hwG7 (by intro e; injection e; omega)).grown hwG8 (by intro e; injection e; omega)) (by rfl) (by kernel_rfl) (by simp [Value.oneCell']) ?_; intro uG9 huG9 hwG9); refine hQ2 _ _ (fun _ => SsG8.trans (Only.below hwG9 lG9 SsG8.size)) ?_; clear hQ2 Q2
        have SsG9 := SsG8.trans (Only.below hwG9 lG9 SsG8.size)
        refine anyG_done (by kernel_rfl) ?_ _
        go_wp2
        go_meet
        case rel => exact ⟨_, _, _, rfl, rfl, rfl, ((huG7).grown hwG8 (by intro e; injection e; omega)).grown hwG9 (by intro e; injection e; omega), (huG8).grown hwG9 (by intro e; injection e; omega), huG9, SsG9⟩
    ·
      refine ⟨_, rfl, by rfl, fun Q2 hQ2 => ?_⟩
      skip
      have nG8 := new_at (S := S0) (z64) 64
      obtain ⟨G8, hG8, bG8, lG8⟩ := nG8
      go_wp2_with fail
      refine hQ2 _ _ (fun _ => S0.alloc S0.size _) ?_
      clear hQ2 Q2
      (try simp only [hG8])
      clear hG8
      have SG8 := S0.alloc S0.size (.cells (z64) 64)
      refine anyG_two (i := 3) (j := 5) (by kernel_rfl) rfl (by rfl) rfl (by rfl) (fun Q2 hQ2 => ?_) (fun Q2 hQ2 => ?_)
      ·
        skip
        have nG7 := new_at (S := SG8) (z64) 64
        obtain ⟨G7, hG7, bG7, lG7⟩ := nG7
        have neG8G7 : G8 ≠ G7 := by have := (bG8).lt; omega
        go_wp2_with fail
        refine hQ2 _ _ (fun _ => SG8.alloc SG8.size _) ?_
        clear hQ2 Q2
        (try simp only [hG7])
        (try simp only [World.size_alloc, World.size_drew] at hG7)
        (try simp only [hG7])
        clear hG7
        have SG7 := SG8.alloc SG8.size (.cells (z64) 64)
        refine anyG_one (k := 5) (by kernel_rfl) rfl (by rfl) (fun Q2 hQ2 => ?_)
        have nG9 := new_at (S := SG7) (z64) 64
        obtain ⟨G9, hG9, bG9, lG9⟩ := nG9
        have neG8G9 : G8 ≠ G9 := by have := ((bG8).alloc (.cells (z64) 64)).lt; omega
        have neG7G9 : G7 ≠ G9 := by have := (bG7).lt; omega
        go_wp2_with fail
        refine hQ2 _ _ (fun _ => SG7.alloc SG7.size _) ?_
        clear hQ2 Q2
        (try simp only [hG9])
        (try simp only [World.size_alloc, World.size_drew] at hG9)
        (try simp only [hG9])
        clear hG9
        have SG9 := SG7.alloc SG7.size (.cells (z64) 64)
        refine anyG_one (k := 6) (by kernel_rfl) rfl (by rfl) (fun Q2 hQ2 => ?_); go_wp2_with (refine wpList_store_row rfl 64 (.tmp 7) _ rfl _ _ _ _ rfl rfl ((bG7).alloc (.cells (z64) 64)) (by rfl) (by kernel_rfl) (by simp [Value.oneCell']) ?_; intro uG7 huG7 hwG7); refine hQ2 _ _ (fun _ => SG9.trans (Only.below hwG7 lG7 SG9.size)) ?_; clear hQ2 Q2
        have SsG7 := SG9.trans (Only.below hwG7 lG7 SG9.size)
        refine anyG_one (k := 7) (by kernel_rfl) rfl (by rfl) (fun Q2 hQ2 => ?_); go_wp2_with (refine wpList_store_row rfl 64 (.tmp 8) _ rfl _ _ _ _ rfl rfl ((((bG8).alloc (.cells (z64) 64)).alloc (.cells (z64) 64)).grown hwG7 (by intro e; injection e; omega)) (by rfl) (by kernel_rfl) (by simp [Value.oneCell']) ?_; intro uG8 huG8 hwG8); refine hQ2 _ _ (fun _ => SsG7.trans (Only.below hwG8 lG8 SsG7.size)) ?_; clear hQ2 Q2
        have SsG8 := SsG7.trans (Only.below hwG8 lG8 SsG7.size)
        refine anyG_one (k := 8) (by kernel_rfl) rfl (by rfl) (fun Q2 hQ2 => ?_); go_wp2_with (refine wpList_store_row rfl 64 (.tmp 9) _ rfl _ _ _ _ rfl rfl (((bG9).grown hwG7 (by intro e; injection e; omega)).grown hwG8 (by intro e; injection e; omega)) (by rfl) (by kernel_rfl) (by simp [Value.oneCell']) ?_; intro uG9 huG9 hwG9); refine hQ2 _ _ (fun _ => SsG8.trans (Only.below hwG9 lG9 SsG8.size)) ?_; clear hQ2 Q2
        have SsG9 := SsG8.trans (Only.below hwG9 lG9 SsG8.size)
        refine anyG_done (by kernel_rfl) ?_ _
        go_wp2
        go_meet
        case rel => exact ⟨_, _, _, rfl, rfl, rfl, ((huG7).grown hwG8 (by intro e; injection e; omega)).grown hwG9 (by intro e; injection e; omega), (huG8).grown hwG9 (by intro e; injection e; omega), huG9, SsG9⟩
      ·
        skip
        have nG9 := new_at (S := SG8) (z64) 64
        obtain ⟨G9, hG9, bG9, lG9⟩ := nG9
        have neG8G9 : G8 ≠ G9 := by have := (bG8).lt; omega
        go_wp2_with fail
        refine hQ2 _ _ (fun _ => SG8.alloc SG8.size _) ?_
        clear hQ2 Q2
        (try simp only [hG9])
        (try simp only [World.size_alloc, World.size_drew] at hG9)
        (try simp only [hG9])
        clear hG9
        have SG9 := SG8.alloc SG8.size (.cells (z64) 64)
        refine anyG_one (k := 3) (by kernel_rfl) rfl (by rfl) (fun Q2 hQ2 => ?_)
        have nG7 := new_at (S := SG9) (z64) 64
        obtain ⟨G7, hG7, bG7, lG7⟩ := nG7
        have neG8G7 : G8 ≠ G7 := by have := ((bG8).alloc (.cells (z64) 64)).lt; omega
        have neG9G7 : G9 ≠ G7 := by have := (bG9).lt; omega
        go_wp2_with fail
        refine hQ2 _ _ (fun _ => SG9.alloc SG9.size _) ?_
        clear hQ2 Q2
        (try simp only [hG7])
        (try simp only [World.size_alloc, World.size_drew] at hG7)
        (try simp only [hG7])
        clear hG7
        have SG7 := SG9.alloc SG9.size (.cells (z64) 64)
        refine anyG_one (k := 6) (by kernel_rfl) rfl (by rfl) (fun Q2 hQ2 => ?_); go_wp2_with (refine wpList_store_row rfl 64 (.tmp 7) _ rfl _ _ _ _ rfl rfl (bG7) (by rfl) (by kernel_rfl) (by simp [Value.oneCell']) ?_; intro uG7 huG7 hwG7); refine hQ2 _ _ (fun _ => SG7.trans (Only.below hwG7 lG7 SG7.size)) ?_; clear hQ2 Q2
        have SsG7 := SG7.trans (Only.below hwG7 lG7 SG7.size)
        refine anyG_one (k := 7) (by kernel_rfl) rfl (by rfl) (fun Q2 hQ2 => ?_); go_wp2_with (refine wpList_store_row rfl 64 (.tmp 8) _ rfl _ _ _ _ rfl rfl ((((bG8).alloc (.cells (z64) 64)).alloc (.cells (z64) 64)).grown hwG7 (by intro e; injection e; omega)) (by rfl) (by kernel_rfl) (by simp [Value.oneCell']) ?_; intro uG8 huG8 hwG8); refine hQ2 _ _ (fun _ => SsG7.trans (Only.below hwG8 lG8 SsG7.size)) ?_; clear hQ2 Q2
        have SsG8 := SsG7.trans (Only.below hwG8 lG8 SsG7.size)
        refine anyG_one (k := 8) (by kernel_rfl) rfl (by rfl) (fun Q2 hQ2 => ?_); go_wp2_with (refine wpList_store_row rfl 64 (.tmp 9) _ rfl _ _ _ _ rfl rfl ((((bG9).alloc (.cells (z64) 64)).grown hwG7 (by intro e; injection e; omega)).grown hwG8 (by intro e; injection e; omega)) (by rfl) (by kernel_rfl) (by simp [Value.oneCell']) ?_; intro uG9 huG9 hwG9); refine hQ2 _ _ (fun _ => SsG8.trans (Only.below hwG9 lG9 SsG8.size)) ?_; clear hQ2 Q2
        have SsG9 := SsG8.trans (Only.below hwG9 lG9 SsG8.size)
        refine anyG_done (by kernel_rfl) ?_ _
        go_wp2
        go_meet
        case rel => exact ⟨_, _, _, rfl, rfl, rfl, ((huG7).grown hwG8 (by intro e; injection e; omega)).grown hwG9 (by intro e; injection e; omega), (huG8).grown hwG9 (by intro e; injection e; omega), huG9, SsG9⟩
    ·
      refine ⟨_, rfl, by rfl, fun Q2 hQ2 => ?_⟩
      skip
      have nG9 := new_at (S := S0) (z64) 64
      obtain ⟨G9, hG9, bG9, lG9⟩ := nG9
      go_wp2_with fail
      refine hQ2 _ _ (fun _ => S0.alloc S0.size _) ?_
      clear hQ2 Q2
      (try simp only [hG9])
      clear hG9
      have SG9 := S0.alloc S0.size (.cells (z64) 64)
      refine anyG_two (i := 3) (j := 4) (by kernel_rfl) rfl (by rfl) rfl (by rfl) (fun Q2 hQ2 => ?_) (fun Q2 hQ2 => ?_)
      ·
        skip
        have nG7 := new_at (S := SG9) (z64) 64
        obtain ⟨G7, hG7, bG7, lG7⟩ := nG7
        have neG9G7 : G9 ≠ G7 := by have := (bG9).lt; omega
        go_wp2_with fail
        refine hQ2 _ _ (fun _ => SG9.alloc SG9.size _) ?_
        clear hQ2 Q2
        (try simp only [hG7])
        (try simp only [World.size_alloc, World.size_drew] at hG7)
        (try simp only [hG7])
        clear hG7
        have SG7 := SG9.alloc SG9.size (.cells (z64) 64)
        refine anyG_one (k := 4) (by kernel_rfl) rfl (by rfl) (fun Q2 hQ2 => ?_)
        have nG8 := new_at (S := SG7) (z64) 64
        obtain ⟨G8, hG8, bG8, lG8⟩ := nG8
        have neG9G8 : G9 ≠ G8 := by have := ((bG9).alloc (.cells (z64) 64)).lt; omega
        have neG7G8 : G7 ≠ G8 := by have := (bG7).lt; omega
        go_wp2_with fail
        refine hQ2 _ _ (fun _ => SG7.alloc SG7.size _) ?_
        clear hQ2 Q2
        (try simp only [hG8])
        (try simp only [World.size_alloc, World.size_drew] at hG8)
        (try simp only [hG8])
        clear hG8
        have SG8 := SG7.alloc SG7.size (.cells (z64) 64)
        refine anyG_one (k := 6) (by kernel_rfl) rfl (by rfl) (fun Q2 hQ2 => ?_); go_wp2_with (refine wpList_store_row rfl 64 (.tmp 7) _ rfl _ _ _ _ rfl rfl ((bG7).alloc (.cells (z64) 64)) (by rfl) (by kernel_rfl) (by simp [Value.oneCell']) ?_; intro uG7 huG7 hwG7); refine hQ2 _ _ (fun _ => SG8.trans (Only.below hwG7 lG7 SG8.size)) ?_; clear hQ2 Q2
        have SsG7 := SG8.trans (Only.below hwG7 lG7 SG8.size)
        refine anyG_one (k := 7) (by kernel_rfl) rfl (by rfl) (fun Q2 hQ2 => ?_); go_wp2_with (refine wpList_store_row rfl 64 (.tmp 8) _ rfl _ _ _ _ rfl rfl ((bG8).grown hwG7 (by intro e; injection e; omega)) (by rfl) (by kernel_rfl) (by simp [Value.oneCell']) ?_; intro uG8 huG8 hwG8); refine hQ2 _ _ (fun _ => SsG7.trans (Only.below hwG8 lG8 SsG7.size)) ?_; clear hQ2 Q2
        have SsG8 := SsG7.trans (Only.below hwG8 lG8 SsG7.size)
        refine anyG_one (k := 8) (by kernel_rfl) rfl (by rfl) (fun Q2 hQ2 => ?_); go_wp2_with (refine wpList_store_row rfl 64 (.tmp 9) _ rfl _ _ _ _ rfl rfl (((((bG9).alloc (.cells (z64) 64)).alloc (.cells (z64) 64)).grown hwG7 (by intro e; injection e; omega)).grown hwG8 (by intro e; injection e; omega)) (by rfl) (by kernel_rfl) (by simp [Value.oneCell']) ?_; intro uG9 huG9 hwG9); refine hQ2 _ _ (fun _ => SsG8.trans (Only.below hwG9 lG9 SsG8.size)) ?_; clear hQ2 Q2
        have SsG9 := SsG8.trans (Only.below hwG9 lG9 SsG8.size)
        refine anyG_done (by kernel_rfl) ?_ _
        go_wp2
        go_meet
        case rel => exact ⟨_, _, _, rfl, rfl, rfl, ((huG7).grown hwG8 (by intro e; injection e; omega)).grown hwG9 (by intro e; injection e; omega), (huG8).grown hwG9 (by intro e; injection e; omega), huG9, SsG9⟩
      ·
        skip
        have nG8 := new_at (S := SG9) (z64) 64
        obtain ⟨G8, hG8, bG8, lG8⟩ := nG8
        have neG9G8 : G9 ≠ G8 := by have := (bG9).lt; omega
        go_wp2_with fail
        refine hQ2 _ _ (fun _ => SG9.alloc SG9.size _) ?_
        clear hQ2 Q2
        (try simp only [hG8])
        (try simp only [World.size_alloc, World.size_drew] at hG8)
        (try simp only [hG8])
        clear hG8
        have SG8 := SG9.alloc SG9.size (.cells (z64) 64)
        refine anyG_one (k := 3) (by kernel_rfl) rfl (by rfl) (fun Q2 hQ2 => ?_)
        have nG7 := new_at (S := SG8) (z64) 64
        obtain ⟨G7, hG7, bG7, lG7⟩ := nG7
        have neG9G7 : G9 ≠ G7 := by have := ((bG9).alloc (.cells (z64) 64)).lt; omega
        have neG8G7 : G8 ≠ G7 := by have := (bG8).lt; omega
        go_wp2_with fail
        refine hQ2 _ _ (fun _ => SG8.alloc SG8.size _) ?_
        clear hQ2 Q2
        (try simp only [hG7])
        (try simp only [World.size_alloc, World.size_drew] at hG7)
        (try simp only [hG7])
        clear hG7
        have SG7 := SG8.alloc SG8.size (.cells (z64) 64)
        refine anyG_one (k := 6) (by kernel_rfl) rfl (by rfl) (fun Q2 hQ2 => ?_); go_wp2_with (refine wpList_store_row rfl 64 (.tmp 7) _ rfl _ _ _ _ rfl rfl (bG7) (by rfl) (by kernel_rfl) (by simp [Value.oneCell']) ?_; intro uG7 huG7 hwG7); refine hQ2 _ _ (fun _ => SG7.trans (Only.below hwG7 lG7 SG7.size)) ?_; clear hQ2 Q2
        have SsG7 := SG7.trans (Only.below hwG7 lG7 SG7.size)
        refine anyG_one (k := 7) (by kernel_rfl) rfl (by rfl) (fun Q2 hQ2 => ?_); go_wp2_with (refine wpList_store_row rfl 64 (.tmp 8) _ rfl _ _ _ _ rfl rfl (((bG8).alloc (.cells (z64) 64)).grown hwG7 (by intro e; injection e; omega)) (by rfl) (by kernel_rfl) (by simp [Value.oneCell']) ?_; intro uG8 huG8 hwG8); refine hQ2 _ _ (fun _ => SsG7.trans (Only.below hwG8 lG8 SsG7.size)) ?_; clear hQ2 Q2
        have SsG8 := SsG7.trans (Only.below hwG8 lG8 SsG7.size)
        refine anyG_one (k := 8) (by kernel_rfl) rfl (by rfl) (fun Q2 hQ2 => ?_); go_wp2_with (refine wpList_store_row rfl 64 (.tmp 9) _ rfl _ _ _ _ rfl rfl (((((bG9).alloc (.cells (z64) 64)).alloc (.cells (z64) 64)).grown hwG7 (by intro e; injection e; omega)).grown hwG8 (by intro e; injection e; omega)) (by rfl) (by kernel_rfl) (by simp [Value.oneCell']) ?_; intro uG9 huG9 hwG9); refine hQ2 _ _ (fun _ => SsG8.trans (Only.below hwG9 lG9 SsG8.size)) ?_; clear hQ2 Q2
        have SsG9 := SsG8.trans (Only.below hwG9 lG9 SsG8.size)
        refine anyG_done (by kernel_rfl) ?_ _
        go_wp2
        go_meet
        case rel => exact ⟨_, _, _, rfl, rfl, rfl, ((huG7).grown hwG8 (by intro e; injection e; omega)).grown hwG9 (by intro e; injection e; omega), (huG8).grown hwG9 (by intro e; injection e; omega), huG9, SsG9⟩
  case rest =>
    obtain ⟨g7, g8, g9, rfl, rfl, rfl, b7, b8, b9, hbx⟩ := hcut
    have B7 := Lib.hid b7
    have B8 := Lib.hid b8
    have B9 := Lib.hid b9
    have B3 := Lib.hid (B0.out.call hbx)
    have B4 := Lib.hid (B1.out.call hbx)
    have E2 := Lib.hid (E1.out.trans (hbx.mono E1.out.size))
    clear b7 b8 b9 hbx
    go_upto_region 4 with (fail)
    refine wp_region_any (by kernel_rfl) ?_; change wpAny _ _ _ _ _ _ _ (World.drew wc); refine any_of_anyG (late := fun _ => false) (S := fun w1 => Below wc.heap.size wc w1) _ _ _ _ ?_
    have S0 := (Below.refl wc.heap.size wc).drew
    refine anyG_take (i := 0) (v := _) rfl (by kernel_rfl) (by kernel_rfl) (by kernel_rfl) (by kernel_rfl) rfl (by kernel_rfl) (fun j hj => by first | (simp at hj; done) | (simp at hj; simp; omega)) (fun _ _ _ h => h) (Or.inl ⟨by rfl, fun W1 hW1 => exec_load (ty := 64) (x := .tmp 7) rfl rfl (run_loadAt_blk _ _ _ _ _ _ (B7.out.call hW1) Try.underlying64 rfl (by first | kernel_rfl | exact info_num _))⟩) (S0) ?_
    refine anyG_take (i := 1) (v := _) rfl (by kernel_rfl) (by kernel_rfl) (by kernel_rfl) (by kernel_rfl) rfl (by kernel_rfl) (fun j hj => by first | (simp at hj; done) | (simp at hj; simp; omega)) (fun _ _ _ h => h) (Or.inl ⟨by rfl, fun W1 hW1 => exec_load (ty := 64) (x := .tmp 8) rfl rfl (run_loadAt_blk _ _ _ _ _ _ (B8.out.call hW1) Try.underlying64 rfl (by first | kernel_rfl | exact info_num _))⟩) (S0) ?_
    refine anyG_take (i := 3) (v := _) rfl (by kernel_rfl) (by kernel_rfl) (by kernel_rfl) (by kernel_rfl) rfl (by kernel_rfl) (fun j hj => by first | (simp at hj; done) | (simp at hj; simp; omega)) (fun _ _ _ h => h) (Or.inl ⟨by rfl, fun W1 hW1 => exec_load (ty := 63) (x := .tmp 3) rfl rfl (run_loadAt_blk _ _ _ _ _ _ (B3.out.call hW1) Try.underlying63 rfl (by first | kernel_rfl | exact info_num _))⟩) (S0) ?_
    refine anyG_take (i := 4) (v := _) rfl (by kernel_rfl) (by kernel_rfl) (by kernel_rfl) (by kernel_rfl) rfl (by kernel_rfl) (fun j hj => by first | (simp at hj; done) | (simp at hj; simp; omega)) (fun _ _ _ h => h) (Or.inl ⟨by rfl, fun W1 hW1 => exec_load (ty := 63) (x := .tmp 4) rfl rfl (run_loadAt_blk _ _ _ _ _ _ (B4.out.call hW1) Try.underlying63 rfl (by first | kernel_rfl | exact info_num _))⟩) (S0) ?_
    refine anyG_one (k := 2) (by kernel_rfl) rfl (by rfl) (fun Q2 hQ2 => ?_); go_wp2_with (go_at_call 54; refine (HC.out _).mono ?_; rintro e v41 ⟨rfl, hb41⟩); refine hQ2 _ _ (fun _ => S0.trans (hb41.mono S0.size)) ?_; clear hQ2 Q2
    have S41 := S0.trans (hb41.mono S0.size)
    refine anyG_one (k := 5) (by kernel_rfl) rfl (by rfl) (fun Q2 hQ2 => ?_); go_wp2_with (go_at_call 55; refine (HR.out _).mono ?_; rintro e v42 ⟨rfl, hb42⟩); refine hQ2 _ _ (fun _ => S41.trans (hb42.mono S41.size)) ?_; clear hQ2 Q2
    have S42 := S41.trans (hb42.mono S41.size)
    refine anyG_one (k := 6) (by kernel_rfl) rfl (by rfl) (fun Q2 hQ2 => ?_); go_wp2_with fail; refine hQ2 _ _ (fun _ => S42) ?_; clear hQ2 Q2
    refine anyG_one (k := 7) (by kernel_rfl) rfl (by rfl) (fun Q2 hQ2 => ?_); go_wp2_with fail; refine hQ2 _ _ (fun _ => S42) ?_; clear hQ2 Q2
    refine anyG_take (i := 8) (v := _) rfl (by kernel_rfl) (by kernel_rfl) (by kernel_rfl) (by kernel_rfl) rfl (by kernel_rfl) (fun j hj => by first | (simp at hj; done) | (simp at hj; simp; omega)) (fun _ _ _ h => h) (Or.inl ⟨by rfl, fun W1 hW1 => exec_load (ty := 64) (x := .tmp 7) rfl rfl (run_loadAt_blk _ _ _ _ _ _ (B7.out.call hW1) Try.underlying64 rfl (by first | kernel_rfl | exact info_num _))⟩) (S42) ?_
    refine anyG_take (i := 9) (v := _) rfl (by kernel_rfl) (by kernel_rfl) (by kernel_rfl) (by kernel_rfl) rfl (by kernel_rfl) (fun j hj => by first | (simp at hj; done) | (simp at hj; simp; omega)) (fun _ _ _ h => h) (Or.inl ⟨by rfl, fun W1 hW1 => exec_load (ty := 64) (x := .tmp 8) rfl rfl (run_loadAt_blk _ _ _ _ _ _ (B8.out.call hW1) Try.underlying64 rfl (by first | kernel_rfl | exact info_num _))⟩) (S42) ?_
    refine anyG_take (i := 11) (v := _) rfl (by kernel_rfl) (by kernel_rfl) (by kernel_rfl) (by kernel_rfl) rfl (by kernel_rfl) (fun j hj => by first | (simp at hj; done) | (simp at hj; simp; omega)) (fun _ _ _ h => h) (Or.inl ⟨by rfl, fun W1 hW1 => exec_load (ty := 64) (x := .tmp 8) rfl rfl (run_loadAt_blk _ _ _ _ _ _ (B8.out.call hW1) Try.underlying64 rfl (by first | kernel_rfl | exact info_num _))⟩) (S42) ?_
    refine anyG_take (i := 12) (v := _) rfl (by kernel_rfl) (by kernel_rfl) (by kernel_rfl) (by kernel_rfl) rfl (by kernel_rfl) (fun j hj => by first | (simp at hj; done) | (simp at hj; simp; omega)) (fun _ _ _ h => h) (Or.inl ⟨by rfl, fun W1 hW1 => exec_load (ty := 64) (x := .tmp 7) rfl rfl (run_loadAt_blk _ _ _ _ _ _ (B7.out.call hW1) Try.underlying64 rfl (by first | kernel_rfl | exact info_num _))⟩) (S42) ?_
    refine anyG_one (k := 10) (by kernel_rfl) rfl (by rfl) (fun Q2 hQ2 => ?_); go_wp2_with (go_at_call 54; refine (HC.out _).mono ?_; rintro e v43 ⟨rfl, hb43⟩); refine hQ2 _ _ (fun _ => S42.trans (hb43.mono S42.size)) ?_; clear hQ2 Q2
    have S43 := S42.trans (hb43.mono S42.size)
    refine anyG_one (k := 13) (by kernel_rfl) rfl (by rfl) (fun Q2 hQ2 => ?_); go_wp2_with (go_at_call 54; refine (HD.out _).mono ?_; rintro e v44 ⟨rfl, hb44⟩); refine hQ2 _ _ (fun _ => S43.trans (hb44.mono S43.size)) ?_; clear hQ2 Q2
    have S44 := S43.trans (hb44.mono S43.size)
    refine anyG_one (k := 14) (by kernel_rfl) rfl (by rfl) (fun Q2 hQ2 => ?_); go_wp2_with fail; refine hQ2 _ _ (fun _ => S44) ?_; clear hQ2 Q2
    refine anyG_one (k := 15) (by kernel_rfl) rfl (by rfl) (fun Q2 hQ2 => ?_); go_wp2_with fail; refine hQ2 _ _ (fun _ => S44) ?_; clear hQ2 Q2
    refine anyG_one (k := 16) (by kernel_rfl) rfl (by rfl) (fun Q2 hQ2 => ?_); go_wp2_with fail; refine hQ2 _ _ (fun _ => S44) ?_; clear hQ2 Q2
    refine anyG_one (k := 17) (by kernel_rfl) rfl (by rfl) (fun Q2 hQ2 => ?_); go_wp2_with fail; refine hQ2 _ _ (fun _ => S44) ?_; clear hQ2 Q2
    refine anyG_take (i := 18) (v := _) rfl (by kernel_rfl) (by kernel_rfl) (by kernel_rfl) (by kernel_rfl) rfl (by kernel_rfl) (fun j hj => by first | (simp at hj; done) | (simp at hj; simp; omega)) (fun _ _ _ h => h) (Or.inl ⟨by rfl, fun W1 hW1 => exec_load (ty := 64) (x := .tmp 7) rfl rfl (run_loadAt_blk _ _ _ _ _ _ (B7.out.call hW1) Try.underlying64 rfl (by first | kernel_rfl | exact info_num _))⟩) (S44) ?_
    refine anyG_take (i := 19) (v := _) rfl (by kernel_rfl) (by kernel_rfl) (by kernel_rfl) (by kernel_rfl) rfl (by kernel_rfl) (fun j hj => by first | (simp at hj; done) | (simp at hj; simp; omega)) (fun _ _ _ h => h) (Or.inl ⟨by rfl, fun W1 hW1 => exec_load (ty := 64) (x := .tmp 7) rfl rfl (run_loadAt_blk _ _ _ _ _ _ (B7.out.call hW1) Try.underlying64 rfl (by first | kernel_rfl | exact info_num _))⟩) (S44) ?_
    refine anyG_one (k := 20) (by kernel_rfl) rfl (by rfl) (fun Q2 hQ2 => ?_); go_wp2_with (go_at_call 54; refine (HE.out _).mono ?_; rintro e v45 ⟨rfl, hb45⟩); refine hQ2 _ _ (fun _ => S44.trans (hb45.mono S44.size)) ?_; clear hQ2 Q2
    have S45 := S44.trans (hb45.mono S44.size)
    refine anyG_one (k := 21) (by kernel_rfl) rfl (by rfl) (fun Q2 hQ2 => ?_); go_wp2_with fail; refine hQ2 _ _ (fun _ => S45) ?_; clear hQ2 Q2
    refine anyG_one (k := 22) (by kernel_rfl) rfl (by rfl) (fun Q2 hQ2 => ?_); go_wp2_with fail; refine hQ2 _ _ (fun _ => S45) ?_; clear hQ2 Q2
    refine anyG_done (by kernel_rfl) ?_ _
    have B7' := Lib.hid (B7.out.call S45)
    have B8' := Lib.hid (B8.out.call S45)
    have B9' := Lib.hid (B9.out.call S45)
    have E3 := Lib.hid (E2.out.trans (S45.mono E2.out.size))
    go_wp2_with (first | (refine Blk.load rfl 64 (.tmp 7) rfl g7 _ _ _ rfl (B7'.out) Try.underlying64 rfl (by kernel_rfl) ?_) | (refine Blk.loadGO 64 (.tmp 7) rfl g7 _ _ _ rfl (B7'.out) Try.underlying64 rfl (by kernel_rfl) ?_) | (refine Blk.load rfl 64 (.tmp 8) rfl g8 _ _ _ rfl (B8'.out) Try.underlying64 rfl (by kernel_rfl) ?_) | (refine Blk.loadGO 64 (.tmp 8) rfl g8 _ _ _ rfl (B8'.out) Try.underlying64 rfl (by kernel_rfl) ?_) | (refine Blk.load rfl 64 (.tmp 9) rfl g9 _ _ _ rfl (B9'.out) Try.underlying64 rfl (by kernel_rfl) ?_) | (refine Blk.loadGO 64 (.tmp 9) rfl g9 _ _ _ rfl (B9'.out) Try.underlying64 rfl (by kernel_rfl) ?_))
    refine (HC.out _).mono ?_
    rintro e v46 ⟨rfl, hb46⟩
    by_cases hx : 0 < x
    · go_wp2
      go_ret
      exact ⟨rfl, E3.out.trans (hb46.mono E3.out.size)⟩
    · have mb0 := (B8'.out.call hb46).cellv (i := 0) (v := .slice b.A b.len b.cap) rfl
      have mb1 := (B8'.out.call hb46).cellv (i := 1) (v := .int .i64 b.ch) rfl
      have mb2 := (B8'.out.call hb46).cellv (i := 2) (v := .int .i64 b.tn) rfl
      have mb3 := (B8'.out.call hb46).cellv (i := 3) (v := .int .i64 b.least) rfl
      have mb4 := (B8'.out.call hb46).cellv (i := 4) (v := .int .i64 b.most) rfl
      have mb5 := (B8'.out.call hb46).cellv (i := 5) (v := .int .i64 b.spare) rfl
      have mb6 := (B8'.out.call hb46).cellv (i := 6) (v := .int .i64 b.short) rfl
      have mc0 := (B9'.out.call hb46).cellv (i := 0) (v := .slice c.A c.len c.cap) rfl
      have mc1 := (B9'.out.call hb46).cellv (i := 1) (v := .int .i64 c.ch) rfl
      have mc2 := (B9'.out.call hb46).cellv (i := 2) (v := .int .i64 c.tn) rfl
      have mc3 := (B9'.out.call hb46).cellv (i := 3) (v := .int .i64 c.least) rfl
      have mc4 := (B9'.out.call hb46).cellv (i := 4) (v := .int .i64 c.most) rfl
      have mc5 := (B9'.out.call hb46).cellv (i := 5) (v := .int .i64 c.spare) rfl
      have mc6 := (B9'.out.call hb46).cellv (i := 6) (v := .int .i64 c.short) rfl
      go_wp2_with fail
      refine (HF.out _).mono ?_
      rintro e v47 ⟨rfl, hb47⟩
      have E4 := E3.out.trans (hb46.mono E3.out.size)
      have E5 := Lib.hid (E4.trans (hb47.mono E4.size))
      clear E4
      by_cases hy : 0 < y
      · go_wp2
        go_ret
        exact ⟨rfl, E5.out⟩
      · have hz := HT.out (by omega) (by omega)
        clear mb0 mb1 mb2 mb3 mb4 mb5 mb6 mc0 mc1 mc2 mc3 mc4 mc5 mc6
        have na0 := ((B7'.out.call hb46).call hb47).cellv (i := 0) (v := .slice a.A a.len a.cap) rfl
        have na1 := ((B7'.out.call hb46).call hb47).cellv (i := 1) (v := .int .i64 a.ch) rfl
        have na2 := ((B7'.out.call hb46).call hb47).cellv (i := 2) (v := .int .i64 a.tn) rfl
        have na3 := ((B7'.out.call hb46).call hb47).cellv (i := 3) (v := .int .i64 a.least) rfl
        have na4 := ((B7'.out.call hb46).call hb47).cellv (i := 4) (v := .int .i64 a.most) rfl
        have na5 := ((B7'.out.call hb46).call hb47).cellv (i := 5) (v := .int .i64 a.spare) rfl
        have na6 := ((B7'.out.call hb46).call hb47).cellv (i := 6) (v := .int .i64 a.short) rfl
        have nc0 := ((B9'.out.call hb46).call hb47).cellv (i := 0) (v := .slice c.A c.len c.cap) rfl
        have nc1 := ((B9'.out.call hb46).call hb47).cellv (i := 1) (v := .int .i64 c.ch) rfl
        have nc2 := ((B9'.out.call hb46).call hb47).cellv (i := 2) (v := .int .i64 c.tn) rfl
        have nc3 := ((B9'.out.call hb46).call hb47).cellv (i := 3) (v := .int .i64 c.least) rfl
        have nc4 := ((B9'.out.call hb46).call hb47).cellv (i := 4) (v := .int .i64 c.most) rfl
        have nc5 := ((B9'.out.call hb46).call hb47).cellv (i := 5) (v := .int .i64 c.spare) rfl
        have nc6 := ((B9'.out.call hb46).call hb47).cellv (i := 6) (v := .int .i64 c.short) rfl
        go_wp2_with fail
        refine (HG.out _).mono ?_
        rintro e v48 ⟨rfl, hb48⟩
        go_wp2
        go_ret
        exact ⟨rfl, E5.out.trans (hb48.mono E5.out.size)⟩
theorem walk_TrialOrders (aA : Option Addr) (al ac : Nat) (a1 a2 a3 a4 a5 a6 : Int) (bA : Option Addr) (bl bc : Nat) (b1 b2 b3 b4 b5 b6 : Int) (cA : Option Addr) (cl cc : Nat) (c1 c2 c3 c4 c5 c6 : Int) (w : World) (ha1 : I64 a1) (ha2 : I64 a2) (ha3 : I64 a3) (ha4 : I64 a4) (ha5 : I64 a5) (ha6 : I64 a6) (hb1 : I64 b1) (hb2 : I64 b2) (hb3 : I64 b3) (hb4 : I64 b4) (hb5 : I64 b5) (hb6 : I64 b6) (hc1 : I64 c1) (hc2 : I64 c2) (hc3 : I64 c3) (hc4 : I64 c4) (hc5 : I64 c5) (hc6 : I64 c6) :
    Calls Try.prog 11 #[.agg #[.slice aA al ac, .int .i64 a1, .int .i64 a2, .int .i64 a3, .int .i64 a4, .int .i64 a5, .int .i64 a6], .agg #[.slice bA bl bc, .int .i64 b1, .int .i64 b2, .int .i64 b3, .int .i64 b4, .int .i64 b5, .int .i64 b6], .agg #[.slice cA cl cc, .int .i64 c1, .int .i64 c2, .int .i64 c3, .int .i64 c4, .int .i64 c5, .int .i64 c6]] w fun e w' => e = .returned (.bool true) ∧ Below w.heap.size w w' :=
  walk_TrialOrdersR ⟨aA, al, ac, a1, a2, a3, a4, a5, a6⟩ ⟨bA, bl, bc, b1, b2, b3, b4, b5, b6⟩ ⟨cA, cl, cc, c1, c2, c3, c4, c5, c6⟩ w
end Go.Proofs.Ytlodmnohmlkjmaa
