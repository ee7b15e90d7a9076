/- slices.stableCmpFunc at samples: the cases of 20 to 60 samples (printed by gen_stable.py). -/
import Derived.Test.YtkjmacdekfbfhaaStab9
namespace Go.Proofs.Ytkjmacdekfbfhaa
open Go.RowKit
set_option linter.unusedSimpArgs false
set_option linter.unusedVariables false
set_option maxHeartbeats 8000000
set_option maxRecDepth 100000
theorem stable_2 (g c : Nat) (A : List Smp) (w : World) (lA : A.length = 20) (h : Arr w g (A)) : Calls Try.prog 125 #[.slice (some ⟨g, 0, none⟩) 20 c, .int .i64 20, fTop] w (SrtP w g (isrtS geb (A))) := by
  have A0 := Lib.hid h
  have U0 := Lib.hid (Upd.refl (fun k => k = g) w)
  have HLA := Lib.hid (show A.length = _ from rfl)
  have EA := Lib.hid lA
  clear h lA
  go_enter Try.func125, Try.ntmps125
  go_wp2
  refine wp_loop_rounds 2 ?_
  rw [rounds_succ]
  have HC1 := Lib.hid (show Calls Try.prog 157 #[.slice (some ⟨g, 0, none⟩) 20 c, .int .i64 0, .int .i64 20, fTop] w (SrtP w g (isrtS geb (A))) from slices_ins g 20 c 0 20 (([] : List Smp)) (A) (([] : List Smp)) _ w (by have := EA.out; first | omega | (simp only [List.length_append, List.length_nil, isrtS_len]; done) | (simp only [List.length_append, List.length_nil, isrtS_len]; omega)) (by have := EA.out; first | omega | (simp only [List.length_append, List.length_nil, isrtS_len]; done) | (simp only [List.length_append, List.length_nil, isrtS_len]; omega)) (by have := EA.out; first | omega | (simp only [List.length_append, List.length_nil, isrtS_len]; done) | (simp only [List.length_append, List.length_nil, isrtS_len]; omega)) (by have := EA.out; first | omega | (simp only [List.length_append, List.length_nil, isrtS_len]; done) | (simp only [List.length_append, List.length_nil, isrtS_len]; omega)) (by simp [isrtS]) (by simpa [isrtS] using A0.out))
  go_wp2_with fail
  with_reducible (refine Calls.mono HC1.out ?_)
  rintro e1 w1 ⟨rfl, ha1, hu1⟩
  have A1 := Lib.hid ha1
  have U1 := Lib.hid (U0.out.trans hu1 (fun k hk => .inl hk))
  clear ha1 hu1
  go_wp2
  rw [rounds_succ]
  have HC2 := Lib.hid (show Calls Try.prog 157 #[.slice (some ⟨g, 0, none⟩) 20 c, .int .i64 20, .int .i64 20, fTop] w1 (SrtP w1 g (isrtS geb (A))) from slices_ins g 20 c 20 20 (isrtS geb (A)) (([] : List Smp)) (([] : List Smp)) _ w1 (by have := EA.out; first | omega | (simp only [List.length_append, List.length_nil, isrtS_len]; done) | (simp only [List.length_append, List.length_nil, isrtS_len]; omega)) (by have := EA.out; first | omega | (simp only [List.length_append, List.length_nil, isrtS_len]; done) | (simp only [List.length_append, List.length_nil, isrtS_len]; omega)) (by have := EA.out; first | omega | (simp only [List.length_append, List.length_nil, isrtS_len]; done) | (simp only [List.length_append, List.length_nil, isrtS_len]; omega)) (by have := EA.out; first | omega | (simp only [List.length_append, List.length_nil, isrtS_len]; done) | (simp only [List.length_append, List.length_nil, isrtS_len]; omega)) (by simp [isrtS]) (by simpa [isrtS] using A1.out))
  go_wp2_with fail
  with_reducible (refine Calls.mono HC2.out ?_)
  rintro e2 w2 ⟨rfl, ha2, hu2⟩
  have A2 := Lib.hid ha2
  have U2 := Lib.hid (U1.out.trans hu2 (fun k hk => .inl hk))
  clear ha2 hu2
  go_wp2
  refine wp_loop_rounds 1 ?_
  rw [rounds_succ]
  go_wp2
  go_returns
  exact ⟨rfl, by simpa using A2.out, U2.out⟩
theorem stable_3 (g c : Nat) (n : Nat) (A B : List Smp) (w : World) (lA : A.length = 20) (hn : 20 + B.length = n) (h1 : 20 < n) (h2 : n < 40) (h : Arr w g (A ++ B)) : Calls Try.prog 125 #[.slice (some ⟨g, 0, none⟩) n c, .int .i64 n, fTop] w (SrtP w g (isrtS geb (A ++ B))) := by
  have A0 := Lib.hid h
  have U0 := Lib.hid (Upd.refl (fun k => k = g) w)
  have HLA := Lib.hid (show A.length = _ from rfl)
  have HLB := Lib.hid (show B.length = _ from rfl)
  have EA := Lib.hid lA
  have En := Lib.hid hn
  have g20 : (20 : Int) ≤ (n : Int) := by omega
  have gl20 : (20 : Int) < (n : Int) := by omega
  have gm40 : (n : Int) < (40 : Int) := by omega
  have gm60 : (n : Int) < (60 : Int) := by omega
  have gm80 : (n : Int) < (80 : Int) := by omega
  have H1 := Lib.hid h1
  have H2 := Lib.hid h2
  clear h lA hn h1 h2
  go_enter Try.func125, Try.ntmps125
  go_wp2
  refine wp_loop_rounds 2 ?_
  rw [rounds_succ]
  have HC1 := Lib.hid (show Calls Try.prog 157 #[.slice (some ⟨g, 0, none⟩) n c, .int .i64 0, .int .i64 20, fTop] w (SrtP w g (isrtS geb (A) ++ B)) from slices_ins g n c 0 20 (([] : List Smp)) (A) (B) _ w (by have := EA.out; have := En.out; have := H1.out; have := H2.out; first | omega | (simp only [List.length_append, List.length_nil, isrtS_len]; done) | (simp only [List.length_append, List.length_nil, isrtS_len]; omega)) (by have := EA.out; have := En.out; have := H1.out; have := H2.out; first | omega | (simp only [List.length_append, List.length_nil, isrtS_len]; done) | (simp only [List.length_append, List.length_nil, isrtS_len]; omega)) (by have := EA.out; have := En.out; have := H1.out; have := H2.out; first | omega | (simp only [List.length_append, List.length_nil, isrtS_len]; done) | (simp only [List.length_append, List.length_nil, isrtS_len]; omega)) (by have := EA.out; have := En.out; have := H1.out; have := H2.out; first | omega | (simp only [List.length_append, List.length_nil, isrtS_len]; done) | (simp only [List.length_append, List.length_nil, isrtS_len]; omega)) (by simp [isrtS]) (by simpa [isrtS] using A0.out))
  go_wp2_with fail
  with_reducible (refine Calls.mono HC1.out ?_)
  rintro e1 w1 ⟨rfl, ha1, hu1⟩
  have A1 := Lib.hid ha1
  have U1 := Lib.hid (U0.out.trans hu1 (fun k hk => .inl hk))
  clear ha1 hu1
  go_wp2
  rw [rounds_succ]
  have HC2 := Lib.hid (show Calls Try.prog 157 #[.slice (some ⟨g, 0, none⟩) n c, .int .i64 20, .int .i64 n, fTop] w1 (SrtP w1 g (isrtS geb (A) ++ isrtS geb (B))) from slices_ins g n c 20 n (isrtS geb (A)) (B) (([] : List Smp)) _ w1 (by have := EA.out; have := En.out; have := H1.out; have := H2.out; first | omega | (simp only [List.length_append, List.length_nil, isrtS_len]; done) | (simp only [List.length_append, List.length_nil, isrtS_len]; omega)) (by have := EA.out; have := En.out; have := H1.out; have := H2.out; first | omega | (simp only [List.length_append, List.length_nil, isrtS_len]; done) | (simp only [List.length_append, List.length_nil, isrtS_len]; omega)) (by have := EA.out; have := En.out; have := H1.out; have := H2.out; first | omega | (simp only [List.length_append, List.length_nil, isrtS_len]; done) | (simp only [List.length_append, List.length_nil, isrtS_len]; omega)) (by have := EA.out; have := En.out; have := H1.out; have := H2.out; first | omega | (simp only [List.length_append, List.length_nil, isrtS_len]; done) | (simp only [List.length_append, List.length_nil, isrtS_len]; omega)) (by simp [isrtS]) (by simpa [isrtS] using A1.out))
  go_wp2_with fail
  with_reducible (refine Calls.mono HC2.out ?_)
  rintro e2 w2 ⟨rfl, ha2, hu2⟩
  have A2 := Lib.hid ha2
  have U2 := Lib.hid (U1.out.trans hu2 (fun k hk => .inl hk))
  clear ha2 hu2
  go_wp2
  refine wp_loop_rounds 2 ?_
  rw [rounds_succ]
  go_wp2
  refine wp_loop_rounds 1 ?_
  rw [rounds_succ]
  have HC3 := Lib.hid (show Calls Try.prog 158 #[.slice (some ⟨g, 0, none⟩) n c, .int .i64 0, .int .i64 20, .int .i64 n, fTop] w2 (SrtP w2 g (isrtS geb (A ++ B))) from slices_mrg g n c 0 20 n (([] : List Smp)) (A) (B) (([] : List Smp)) _ w2 (by have := EA.out; have := En.out; have := H1.out; have := H2.out; first | omega | (simp only [List.length_append, List.length_nil, isrtS_len]; done) | (simp only [List.length_append, List.length_nil, isrtS_len]; omega)) (by have := EA.out; have := En.out; have := H1.out; have := H2.out; first | omega | (simp only [List.length_append, List.length_nil, isrtS_len]; done) | (simp only [List.length_append, List.length_nil, isrtS_len]; omega)) (by have := EA.out; have := En.out; have := H1.out; have := H2.out; first | omega | (simp only [List.length_append, List.length_nil, isrtS_len]; done) | (simp only [List.length_append, List.length_nil, isrtS_len]; omega)) (by have := EA.out; have := En.out; have := H1.out; have := H2.out; first | omega | (simp only [List.length_append, List.length_nil, isrtS_len]; done) | (simp only [List.length_append, List.length_nil, isrtS_len]; omega)) (by have := EA.out; have := En.out; have := H1.out; have := H2.out; first | omega | (simp only [List.length_append, List.length_nil, isrtS_len]; done) | (simp only [List.length_append, List.length_nil, isrtS_len]; omega)) (by have := EA.out; have := En.out; have := H1.out; have := H2.out; first | omega | (simp only [List.length_append, List.length_nil, isrtS_len]; done) | (simp only [List.length_append, List.length_nil, isrtS_len]; omega)) (by have := EA.out; have := En.out; have := H1.out; have := H2.out; first | omega | (simp only [List.length_append, List.length_nil, isrtS_len]; done) | (simp only [List.length_append, List.length_nil, isrtS_len]; omega)) (by simp) (by simpa using A2.out))
  go_wp2_with fail
  with_reducible (refine Calls.mono HC3.out ?_)
  rintro e3 w3 ⟨rfl, ha3, hu3⟩
  have A3 := Lib.hid ha3
  have U3 := Lib.hid (U2.out.trans hu3 (fun k hk => .inl hk))
  clear ha3 hu3
  go_wp2
  rw [rounds_succ]
  go_wp2
  go_returns
  exact ⟨rfl, by simpa using A3.out, U3.out⟩
theorem stable_4 (g c : Nat) (A B : List Smp) (w : World) (lA : A.length = 20) (lB : B.length = 20) (h : Arr w g (A ++ B)) : Calls Try.prog 125 #[.slice (some ⟨g, 0, none⟩) 40 c, .int .i64 40, fTop] w (SrtP w g (isrtS geb (A ++ B))) := by
  have A0 := Lib.hid h
  have U0 := Lib.hid (Upd.refl (fun k => k = g) w)
  have HLA := Lib.hid (show A.length = _ from rfl)
  have HLB := Lib.hid (show B.length = _ from rfl)
  have EA := Lib.hid lA
  have EB := Lib.hid lB
  clear h lA lB
  go_enter Try.func125, Try.ntmps125
  go_wp2
  refine wp_loop_rounds 3 ?_
  rw [rounds_succ]
  have HC1 := Lib.hid (show Calls Try.prog 157 #[.slice (some ⟨g, 0, none⟩) 40 c, .int .i64 0, .int .i64 20, fTop] w (SrtP w g (isrtS geb (A) ++ B)) from slices_ins g 40 c 0 20 (([] : List Smp)) (A) (B) _ w (by have := EA.out; have := EB.out; first | omega | (simp only [List.length_append, List.length_nil, isrtS_len]; done) | (simp only [List.length_append, List.length_nil, isrtS_len]; omega)) (by have := EA.out; have := EB.out; first | omega | (simp only [List.length_append, List.length_nil, isrtS_len]; done) | (simp only [List.length_append, List.length_nil, isrtS_len]; omega)) (by have := EA.out; have := EB.out; first | omega | (simp only [List.length_append, List.length_nil, isrtS_len]; done) | (simp only [List.length_append, List.length_nil, isrtS_len]; omega)) (by have := EA.out; have := EB.out; first | omega | (simp only [List.length_append, List.length_nil, isrtS_len]; done) | (simp only [List.length_append, List.length_nil, isrtS_len]; omega)) (by simp [isrtS]) (by simpa [isrtS] using A0.out))
  go_wp2_with fail
  with_reducible (refine Calls.mono HC1.out ?_)
  rintro e1 w1 ⟨rfl, ha1, hu1⟩
  have A1 := Lib.hid ha1
  have U1 := Lib.hid (U0.out.trans hu1 (fun k hk => .inl hk))
  clear ha1 hu1
  go_wp2
  rw [rounds_succ]
  have HC2 := Lib.hid (show Calls Try.prog 157 #[.slice (some ⟨g, 0, none⟩) 40 c, .int .i64 20, .int .i64 40, fTop] w1 (SrtP w1 g (isrtS geb (A) ++ isrtS geb (B))) from slices_ins g 40 c 20 40 (isrtS geb (A)) (B) (([] : List Smp)) _ w1 (by have := EA.out; have := EB.out; first | omega | (simp only [List.length_append, List.length_nil, isrtS_len]; done) | (simp only [List.length_append, List.length_nil, isrtS_len]; omega)) (by have := EA.out; have := EB.out; first | omega | (simp only [List.length_append, List.length_nil, isrtS_len]; done) | (simp only [List.length_append, List.length_nil, isrtS_len]; omega)) (by have := EA.out; have := EB.out; first | omega | (simp only [List.length_append, List.length_nil, isrtS_len]; done) | (simp only [List.length_append, List.length_nil, isrtS_len]; omega)) (by have := EA.out; have := EB.out; first | omega | (simp only [List.length_append, List.length_nil, isrtS_len]; done) | (simp only [List.length_append, List.length_nil, isrtS_len]; omega)) (by simp [isrtS]) (by simpa [isrtS] using A1.out))
  go_wp2_with fail
  with_reducible (refine Calls.mono HC2.out ?_)
  rintro e2 w2 ⟨rfl, ha2, hu2⟩
  have A2 := Lib.hid ha2
  have U2 := Lib.hid (U1.out.trans hu2 (fun k hk => .inl hk))
  clear ha2 hu2
  go_wp2
  rw [rounds_succ]
  have HC3 := Lib.hid (show Calls Try.prog 157 #[.slice (some ⟨g, 0, none⟩) 40 c, .int .i64 40, .int .i64 40, fTop] w2 (SrtP w2 g (isrtS geb (A) ++ isrtS geb (B))) from slices_ins g 40 c 40 40 (isrtS geb (A) ++ isrtS geb (B)) (([] : List Smp)) (([] : List Smp)) _ w2 (by have := EA.out; have := EB.out; first | omega | (simp only [List.length_append, List.length_nil, isrtS_len]; done) | (simp only [List.length_append, List.length_nil, isrtS_len]; omega)) (by have := EA.out; have := EB.out; first | omega | (simp only [List.length_append, List.length_nil, isrtS_len]; done) | (simp only [List.length_append, List.length_nil, isrtS_len]; omega)) (by have := EA.out; have := EB.out; first | omega | (simp only [List.length_append, List.length_nil, isrtS_len]; done) | (simp only [List.length_append, List.length_nil, isrtS_len]; omega)) (by have := EA.out; have := EB.out; first | omega | (simp only [List.length_append, List.length_nil, isrtS_len]; done) | (simp only [List.length_append, List.length_nil, isrtS_len]; omega)) (by simp [isrtS]) (by simpa [isrtS] using A2.out))
  go_wp2_with fail
  with_reducible (refine Calls.mono HC3.out ?_)
  rintro e3 w3 ⟨rfl, ha3, hu3⟩
  have A3 := Lib.hid ha3
  have U3 := Lib.hid (U2.out.trans hu3 (fun k hk => .inl hk))
  clear ha3 hu3
  go_wp2
  refine wp_loop_rounds 2 ?_
  rw [rounds_succ]
  go_wp2
  refine wp_loop_rounds 2 ?_
  rw [rounds_succ]
  have HC4 := Lib.hid (show Calls Try.prog 158 #[.slice (some ⟨g, 0, none⟩) 40 c, .int .i64 0, .int .i64 20, .int .i64 40, fTop] w3 (SrtP w3 g (isrtS geb (A ++ B))) from slices_mrg g 40 c 0 20 40 (([] : List Smp)) (A) (B) (([] : List Smp)) _ w3 (by have := EA.out; have := EB.out; first | omega | (simp only [List.length_append, List.length_nil, isrtS_len]; done) | (simp only [List.length_append, List.length_nil, isrtS_len]; omega)) (by have := EA.out; have := EB.out; first | omega | (simp only [List.length_append, List.length_nil, isrtS_len]; done) | (simp only [List.length_append, List.length_nil, isrtS_len]; omega)) (by have := EA.out; have := EB.out; first | omega | (simp only [List.length_append, List.length_nil, isrtS_len]; done) | (simp only [List.length_append, List.length_nil, isrtS_len]; omega)) (by have := EA.out; have := EB.out; first | omega | (simp only [List.length_append, List.length_nil, isrtS_len]; done) | (simp only [List.length_append, List.length_nil, isrtS_len]; omega)) (by have := EA.out; have := EB.out; first | omega | (simp only [List.length_append, List.length_nil, isrtS_len]; done) | (simp only [List.length_append, List.length_nil, isrtS_len]; omega)) (by have := EA.out; have := EB.out; first | omega | (simp only [List.length_append, List.length_nil, isrtS_len]; done) | (simp only [List.length_append, List.length_nil, isrtS_len]; omega)) (by have := EA.out; have := EB.out; first | omega | (simp only [List.length_append, List.length_nil, isrtS_len]; done) | (simp only [List.length_append, List.length_nil, isrtS_len]; omega)) (by simp) (by simpa using A3.out))
  go_wp2_with fail
  with_reducible (refine Calls.mono HC4.out ?_)
  rintro e4 w4 ⟨rfl, ha4, hu4⟩
  have A4 := Lib.hid ha4
  have U4 := Lib.hid (U3.out.trans hu4 (fun k hk => .inl hk))
  clear ha4 hu4
  go_wp2
  rw [rounds_succ]
  go_wp2
  rw [rounds_succ]
  go_wp2
  go_returns
  exact ⟨rfl, by simpa using A4.out, U4.out⟩
theorem stable_5 (g c : Nat) (n : Nat) (A B C : List Smp) (w : World) (lA : A.length = 20) (lB : B.length = 20) (hn : 40 + C.length = n) (h1 : 40 < n) (h2 : n < 60) (h : Arr w g (A ++ B ++ C)) : Calls Try.prog 125 #[.slice (some ⟨g, 0, none⟩) n c, .int .i64 n, fTop] w (SrtP w g (isrtS geb (A ++ B ++ C))) := by
  have A0 := Lib.hid h
  have U0 := Lib.hid (Upd.refl (fun k => k = g) w)
  have HLA := Lib.hid (show A.length = _ from rfl)
  have HLB := Lib.hid (show B.length = _ from rfl)
  have HLC := Lib.hid (show C.length = _ from rfl)
  have EA := Lib.hid lA
  have EB := Lib.hid lB
  have En := Lib.hid hn
  have g20 : (20 : Int) ≤ (n : Int) := by omega
  have gl20 : (20 : Int) < (n : Int) := by omega
  have g40 : (40 : Int) ≤ (n : Int) := by omega
  have gl40 : (40 : Int) < (n : Int) := by omega
  have gm60 : (n : Int) < (60 : Int) := by omega
  have gm80 : (n : Int) < (80 : Int) := by omega
  have gm100 : (n : Int) < (100 : Int) := by omega
  have H1 := Lib.hid h1
  have H2 := Lib.hid h2
  clear h lA lB hn h1 h2
  go_enter Try.func125, Try.ntmps125
  go_wp2
  refine wp_loop_rounds 3 ?_
  rw [rounds_succ]
  have HC1 := Lib.hid (show Calls Try.prog 157 #[.slice (some ⟨g, 0, none⟩) n c, .int .i64 0, .int .i64 20, fTop] w (SrtP w g (isrtS geb (A) ++ B ++ C)) from slices_ins g n c 0 20 (([] : List Smp)) (A) (B ++ C) _ w (by have := EA.out; have := EB.out; have := En.out; have := H1.out; have := H2.out; first | omega | (simp only [List.length_append, List.length_nil, isrtS_len]; done) | (simp only [List.length_append, List.length_nil, isrtS_len]; omega)) (by have := EA.out; have := EB.out; have := En.out; have := H1.out; have := H2.out; first | omega | (simp only [List.length_append, List.length_nil, isrtS_len]; done) | (simp only [List.length_append, List.length_nil, isrtS_len]; omega)) (by have := EA.out; have := EB.out; have := En.out; have := H1.out; have := H2.out; first | omega | (simp only [List.length_append, List.length_nil, isrtS_len]; done) | (simp only [List.length_append, List.length_nil, isrtS_len]; omega)) (by have := EA.out; have := EB.out; have := En.out; have := H1.out; have := H2.out; first | omega | (simp only [List.length_append, List.length_nil, isrtS_len]; done) | (simp only [List.length_append, List.length_nil, isrtS_len]; omega)) (by simp [isrtS]) (by simpa [isrtS] using A0.out))
  go_wp2_with fail
  with_reducible (refine Calls.mono HC1.out ?_)
  rintro e1 w1 ⟨rfl, ha1, hu1⟩
  have A1 := Lib.hid ha1
  have U1 := Lib.hid (U0.out.trans hu1 (fun k hk => .inl hk))
  clear ha1 hu1
  go_wp2
  rw [rounds_succ]
  have HC2 := Lib.hid (show Calls Try.prog 157 #[.slice (some ⟨g, 0, none⟩) n c, .int .i64 20, .int .i64 40, fTop] w1 (SrtP w1 g (isrtS geb (A) ++ isrtS geb (B) ++ C)) from slices_ins g n c 20 40 (isrtS geb (A)) (B) (C) _ w1 (by have := EA.out; have := EB.out; have := En.out; have := H1.out; have := H2.out; first | omega | (simp only [List.length_append, List.length_nil, isrtS_len]; done) | (simp only [List.length_append, List.length_nil, isrtS_len]; omega)) (by have := EA.out; have := EB.out; have := En.out; have := H1.out; have := H2.out; first | omega | (simp only [List.length_append, List.length_nil, isrtS_len]; done) | (simp only [List.length_append, List.length_nil, isrtS_len]; omega)) (by have := EA.out; have := EB.out; have := En.out; have := H1.out; have := H2.out; first | omega | (simp only [List.length_append, List.length_nil, isrtS_len]; done) | (simp only [List.length_append, List.length_nil, isrtS_len]; omega)) (by have := EA.out; have := EB.out; have := En.out; have := H1.out; have := H2.out; first | omega | (simp only [List.length_append, List.length_nil, isrtS_len]; done) | (simp only [List.length_append, List.length_nil, isrtS_len]; omega)) (by simp [isrtS]) (by simpa [isrtS] using A1.out))
  go_wp2_with fail
  with_reducible (refine Calls.mono HC2.out ?_)
  rintro e2 w2 ⟨rfl, ha2, hu2⟩
  have A2 := Lib.hid ha2
  have U2 := Lib.hid (U1.out.trans hu2 (fun k hk => .inl hk))
  clear ha2 hu2
  go_wp2
  rw [rounds_succ]
  have HC3 := Lib.hid (show Calls Try.prog 157 #[.slice (some ⟨g, 0, none⟩) n c, .int .i64 40, .int .i64 n, fTop] w2 (SrtP w2 g (isrtS geb (A) ++ isrtS geb (B) ++ isrtS geb (C))) from slices_ins g n c 40 n (isrtS geb (A) ++ isrtS geb (B)) (C) (([] : List Smp)) _ w2 (by have := EA.out; have := EB.out; have := En.out; have := H1.out; have := H2.out; first | omega | (simp only [List.length_append, List.length_nil, isrtS_len]; done) | (simp only [List.length_append, List.length_nil, isrtS_len]; omega)) (by have := EA.out; have := EB.out; have := En.out; have := H1.out; have := H2.out; first | omega | (simp only [List.length_append, List.length_nil, isrtS_len]; done) | (simp only [List.length_append, List.length_nil, isrtS_len]; omega)) (by have := EA.out; have := EB.out; have := En.out; have := H1.out; have := H2.out; first | omega | (simp only [List.length_append, List.length_nil, isrtS_len]; done) | (simp only [List.length_append, List.length_nil, isrtS_len]; omega)) (by have := EA.out; have := EB.out; have := En.out; have := H1.out; have := H2.out; first | omega | (simp only [List.length_append, List.length_nil, isrtS_len]; done) | (simp only [List.length_append, List.length_nil, isrtS_len]; omega)) (by simp [isrtS]) (by simpa [isrtS] using A2.out))
  go_wp2_with fail
  with_reducible (refine Calls.mono HC3.out ?_)
  rintro e3 w3 ⟨rfl, ha3, hu3⟩
  have A3 := Lib.hid ha3
  have U3 := Lib.hid (U2.out.trans hu3 (fun k hk => .inl hk))
  clear ha3 hu3
  go_wp2
  refine wp_loop_rounds 3 ?_
  rw [rounds_succ]
  go_wp2
  refine wp_loop_rounds 2 ?_
  rw [rounds_succ]
  have HC4 := Lib.hid (show Calls Try.prog 158 #[.slice (some ⟨g, 0, none⟩) n c, .int .i64 0, .int .i64 20, .int .i64 40, fTop] w3 (SrtP w3 g (isrtS geb (A ++ B) ++ isrtS geb (C))) from slices_mrg g n c 0 20 40 (([] : List Smp)) (A) (B) (isrtS geb (C)) _ w3 (by have := EA.out; have := EB.out; have := En.out; have := H1.out; have := H2.out; first | omega | (simp only [List.length_append, List.length_nil, isrtS_len]; done) | (simp only [List.length_append, List.length_nil, isrtS_len]; omega)) (by have := EA.out; have := EB.out; have := En.out; have := H1.out; have := H2.out; first | omega | (simp only [List.length_append, List.length_nil, isrtS_len]; done) | (simp only [List.length_append, List.length_nil, isrtS_len]; omega)) (by have := EA.out; have := EB.out; have := En.out; have := H1.out; have := H2.out; first | omega | (simp only [List.length_append, List.length_nil, isrtS_len]; done) | (simp only [List.length_append, List.length_nil, isrtS_len]; omega)) (by have := EA.out; have := EB.out; have := En.out; have := H1.out; have := H2.out; first | omega | (simp only [List.length_append, List.length_nil, isrtS_len]; done) | (simp only [List.length_append, List.length_nil, isrtS_len]; omega)) (by have := EA.out; have := EB.out; have := En.out; have := H1.out; have := H2.out; first | omega | (simp only [List.length_append, List.length_nil, isrtS_len]; done) | (simp only [List.length_append, List.length_nil, isrtS_len]; omega)) (by have := EA.out; have := EB.out; have := En.out; have := H1.out; have := H2.out; first | omega | (simp only [List.length_append, List.length_nil, isrtS_len]; done) | (simp only [List.length_append, List.length_nil, isrtS_len]; omega)) (by have := EA.out; have := EB.out; have := En.out; have := H1.out; have := H2.out; first | omega | (simp only [List.length_append, List.length_nil, isrtS_len]; done) | (simp only [List.length_append, List.length_nil, isrtS_len]; omega)) (by simp) (by simpa using A3.out))
  go_wp2_with fail
  with_reducible (refine Calls.mono HC4.out ?_)
  rintro e4 w4 ⟨rfl, ha4, hu4⟩
  have A4 := Lib.hid ha4
  have U4 := Lib.hid (U3.out.trans hu4 (fun k hk => .inl hk))
  clear ha4 hu4
  go_wp2
  rw [rounds_succ]
  go_wp2
  rw [rounds_succ]
  go_wp2
  refine wp_loop_rounds 1 ?_
  rw [rounds_succ]
  have HC5 := Lib.hid (show Calls Try.prog 158 #[.slice (some ⟨g, 0, none⟩) n c, .int .i64 0, .int .i64 40, .int .i64 n, fTop] w4 (SrtP w4 g (isrtS geb (A ++ B ++ C))) from slices_mrg g n c 0 40 n (([] : List Smp)) (A ++ B) (C) (([] : List Smp)) _ w4 (by have := EA.out; have := EB.out; have := En.out; have := H1.out; have := H2.out; first | omega | (simp only [List.length_append, List.length_nil, isrtS_len]; done) | (simp only [List.length_append, List.length_nil, isrtS_len]; omega)) (by have := EA.out; have := EB.out; have := En.out; have := H1.out; have := H2.out; first | omega | (simp only [List.length_append, List.length_nil, isrtS_len]; done) | (simp only [List.length_append, List.length_nil, isrtS_len]; omega)) (by have := EA.out; have := EB.out; have := En.out; have := H1.out; have := H2.out; first | omega | (simp only [List.length_append, List.length_nil, isrtS_len]; done) | (simp only [List.length_append, List.length_nil, isrtS_len]; omega)) (by have := EA.out; have := EB.out; have := En.out; have := H1.out; have := H2.out; first | omega | (simp only [List.length_append, List.length_nil, isrtS_len]; done) | (simp only [List.length_append, List.length_nil, isrtS_len]; omega)) (by have := EA.out; have := EB.out; have := En.out; have := H1.out; have := H2.out; first | omega | (simp only [List.length_append, List.length_nil, isrtS_len]; done) | (simp only [List.length_append, List.length_nil, isrtS_len]; omega)) (by have := EA.out; have := EB.out; have := En.out; have := H1.out; have := H2.out; first | omega | (simp only [List.length_append, List.length_nil, isrtS_len]; done) | (simp only [List.length_append, List.length_nil, isrtS_len]; omega)) (by have := EA.out; have := EB.out; have := En.out; have := H1.out; have := H2.out; first | omega | (simp only [List.length_append, List.length_nil, isrtS_len]; done) | (simp only [List.length_append, List.length_nil, isrtS_len]; omega)) (by simp) (by simpa using A4.out))
  go_wp2_with fail
  with_reducible (refine Calls.mono HC5.out ?_)
  rintro e5 w5 ⟨rfl, ha5, hu5⟩
  have A5 := Lib.hid ha5
  have U5 := Lib.hid (U4.out.trans hu5 (fun k hk => .inl hk))
  clear ha5 hu5
  go_wp2
  rw [rounds_succ]
  go_wp2
  go_returns
  exact ⟨rfl, by simpa using A5.out, U5.out⟩
theorem stable_6 (g c : Nat) (A B C : List Smp) (w : World) (lA : A.length = 20) (lB : B.length = 20) (lC : C.length = 20) (h : Arr w g (A ++ B ++ C)) : Calls Try.prog 125 #[.slice (some ⟨g, 0, none⟩) 60 c, .int .i64 60, fTop] w (SrtP w g (isrtS geb (A ++ B ++ C))) := by
  have A0 := Lib.hid h
  have U0 := Lib.hid (Upd.refl (fun k => k = g) w)
  have HLA := Lib.hid (show A.length = _ from rfl)
  have HLB := Lib.hid (show B.length = _ from rfl)
  have HLC := Lib.hid (show C.length = _ from rfl)
  have EA := Lib.hid lA
  have EB := Lib.hid lB
  have EC := Lib.hid lC
  clear h lA lB lC
  go_enter Try.func125, Try.ntmps125
  go_wp2
  refine wp_loop_rounds 4 ?_
  rw [rounds_succ]
  have HC1 := Lib.hid (show Calls Try.prog 157 #[.slice (some ⟨g, 0, none⟩) 60 c, .int .i64 0, .int .i64 20, fTop] w (SrtP w g (isrtS geb (A) ++ B ++ C)) from slices_ins g 60 c 0 20 (([] : List Smp)) (A) (B ++ C) _ w (by have := EA.out; have := EB.out; have := EC.out; first | omega | (simp only [List.length_append, List.length_nil, isrtS_len]; done) | (simp only [List.length_append, List.length_nil, isrtS_len]; omega)) (by have := EA.out; have := EB.out; have := EC.out; first | omega | (simp only [List.length_append, List.length_nil, isrtS_len]; done) | (simp only [List.length_append, List.length_nil, isrtS_len]; omega)) (by have := EA.out; have := EB.out; have := EC.out; first | omega | (simp only [List.length_append, List.length_nil, isrtS_len]; done) | (simp only [List.length_append, List.length_nil, isrtS_len]; omega)) (by have := EA.out; have := EB.out; have := EC.out; first | omega | (simp only [List.length_append, List.length_nil, isrtS_len]; done) | (simp only [List.length_append, List.length_nil, isrtS_len]; omega)) (by simp [isrtS]) (by simpa [isrtS] using A0.out))
  go_wp2_with fail
  with_reducible (refine Calls.mono HC1.out ?_)
  rintro e1 w1 ⟨rfl, ha1, hu1⟩
  have A1 := Lib.hid ha1
  have U1 := Lib.hid (U0.out.trans hu1 (fun k hk => .inl hk))
  clear ha1 hu1
  go_wp2
  rw [rounds_succ]
  have HC2 := Lib.hid (show Calls Try.prog 157 #[.slice (some ⟨g, 0, none⟩) 60 c, .int .i64 20, .int .i64 40, fTop] w1 (SrtP w1 g (isrtS geb (A) ++ isrtS geb (B) ++ C)) from slices_ins g 60 c 20 40 (isrtS geb (A)) (B) (C) _ w1 (by have := EA.out; have := EB.out; have := EC.out; first | omega | (simp only [List.length_append, List.length_nil, isrtS_len]; done) | (simp only [List.length_append, List.length_nil, isrtS_len]; omega)) (by have := EA.out; have := EB.out; have := EC.out; first | omega | (simp only [List.length_append, List.length_nil, isrtS_len]; done) | (simp only [List.length_append, List.length_nil, isrtS_len]; omega)) (by have := EA.out; have := EB.out; have := EC.out; first | omega | (simp only [List.length_append, List.length_nil, isrtS_len]; done) | (simp only [List.length_append, List.length_nil, isrtS_len]; omega)) (by have := EA.out; have := EB.out; have := EC.out; first | omega | (simp only [List.length_append, List.length_nil, isrtS_len]; done) | (simp only [List.length_append, List.length_nil, isrtS_len]; omega)) (by simp [isrtS]) (by simpa [isrtS] using A1.out))
  go_wp2_with fail
  with_reducible (refine Calls.mono HC2.out ?_)
  rintro e2 w2 ⟨rfl, ha2, hu2⟩
  have A2 := Lib.hid ha2
  have U2 := Lib.hid (U1.out.trans hu2 (fun k hk => .inl hk))
  clear ha2 hu2
  go_wp2
  rw [rounds_succ]
  have HC3 := Lib.hid (show Calls Try.prog 157 #[.slice (some ⟨g, 0, none⟩) 60 c, .int .i64 40, .int .i64 60, fTop] w2 (SrtP w2 g (isrtS geb (A) ++ isrtS geb (B) ++ isrtS geb (C))) from slices_ins g 60 c 40 60 (isrtS geb (A) ++ isrtS geb (B)) (C) (([] : List Smp)) _ w2 (by have := EA.out; have := EB.out; have := EC.out; first | omega | (simp only [List.length_append, List.length_nil, isrtS_len]; done) | (simp only [List.length_append, List.length_nil, isrtS_len]; omega)) (by have := EA.out; have := EB.out; have := EC.out; first | omega | (simp only [List.length_append, List.length_nil, isrtS_len]; done) | (simp only [List.length_append, List.length_nil, isrtS_len]; omega)) (by have := EA.out; have := EB.out; have := EC.out; first | omega | (simp only [List.length_append, List.length_nil, isrtS_len]; done) | (simp only [List.length_append, List.length_nil, isrtS_len]; omega)) (by have := EA.out; have := EB.out; have := EC.out; first | omega | (simp only [List.length_append, List.length_nil, isrtS_len]; done) | (simp only [List.length_append, List.length_nil, isrtS_len]; omega)) (by simp [isrtS]) (by simpa [isrtS] using A2.out))
  go_wp2_with fail
  with_reducible (refine Calls.mono HC3.out ?_)
  rintro e3 w3 ⟨rfl, ha3, hu3⟩
  have A3 := Lib.hid ha3
  have U3 := Lib.hid (U2.out.trans hu3 (fun k hk => .inl hk))
  clear ha3 hu3
  go_wp2
  rw [rounds_succ]
  have HC4 := Lib.hid (show Calls Try.prog 157 #[.slice (some ⟨g, 0, none⟩) 60 c, .int .i64 60, .int .i64 60, fTop] w3 (SrtP w3 g (isrtS geb (A) ++ isrtS geb (B) ++ isrtS geb (C))) from slices_ins g 60 c 60 60 (isrtS geb (A) ++ isrtS geb (B) ++ isrtS geb (C)) (([] : List Smp)) (([] : List Smp)) _ w3 (by have := EA.out; have := EB.out; have := EC.out; first | omega | (simp only [List.length_append, List.length_nil, isrtS_len]; done) | (simp only [List.length_append, List.length_nil, isrtS_len]; omega)) (by have := EA.out; have := EB.out; have := EC.out; first | omega | (simp only [List.length_append, List.length_nil, isrtS_len]; done) | (simp only [List.length_append, List.length_nil, isrtS_len]; omega)) (by have := EA.out; have := EB.out; have := EC.out; first | omega | (simp only [List.length_append, List.length_nil, isrtS_len]; done) | (simp only [List.length_append, List.length_nil, isrtS_len]; omega)) (by have := EA.out; have := EB.out; have := EC.out; first | omega | (simp only [List.length_append, List.length_nil, isrtS_len]; done) | (simp only [List.length_append, List.length_nil, isrtS_len]; omega)) (by simp [isrtS]) (by simpa [isrtS] using A3.out))
  go_wp2_with fail
  with_reducible (refine Calls.mono HC4.out ?_)
  rintro e4 w4 ⟨rfl, ha4, hu4⟩
  have A4 := Lib.hid ha4
  have U4 := Lib.hid (U3.out.trans hu4 (fun k hk => .inl hk))
  clear ha4 hu4
  go_wp2
  refine wp_loop_rounds 3 ?_
  rw [rounds_succ]
  go_wp2
  refine wp_loop_rounds 2 ?_
  rw [rounds_succ]
  have HC5 := Lib.hid (show Calls Try.prog 158 #[.slice (some ⟨g, 0, none⟩) 60 c, .int .i64 0, .int .i64 20, .int .i64 40, fTop] w4 (SrtP w4 g (isrtS geb (A ++ B) ++ isrtS geb (C))) from slices_mrg g 60 c 0 20 40 (([] : List Smp)) (A) (B) (isrtS geb (C)) _ w4 (by have := EA.out; have := EB.out; have := EC.out; first | omega | (simp only [List.length_append, List.length_nil, isrtS_len]; done) | (simp only [List.length_append, List.length_nil, isrtS_len]; omega)) (by have := EA.out; have := EB.out; have := EC.out; first | omega | (simp only [List.length_append, List.length_nil, isrtS_len]; done) | (simp only [List.length_append, List.length_nil, isrtS_len]; omega)) (by have := EA.out; have := EB.out; have := EC.out; first | omega | (simp only [List.length_append, List.length_nil, isrtS_len]; done) | (simp only [List.length_append, List.length_nil, isrtS_len]; omega)) (by have := EA.out; have := EB.out; have := EC.out; first | omega | (simp only [List.length_append, List.length_nil, isrtS_len]; done) | (simp only [List.length_append, List.length_nil, isrtS_len]; omega)) (by have := EA.out; have := EB.out; have := EC.out; first | omega | (simp only [List.length_append, List.length_nil, isrtS_len]; done) | (simp only [List.length_append, List.length_nil, isrtS_len]; omega)) (by have := EA.out; have := EB.out; have := EC.out; first | omega | (simp only [List.length_append, List.length_nil, isrtS_len]; done) | (simp only [List.length_append, List.length_nil, isrtS_len]; omega)) (by have := EA.out; have := EB.out; have := EC.out; first | omega | (simp only [List.length_append, List.length_nil, isrtS_len]; done) | (simp only [List.length_append, List.length_nil, isrtS_len]; omega)) (by simp) (by simpa using A4.out))
  go_wp2_with fail
  with_reducible (refine Calls.mono HC5.out ?_)
  rintro e5 w5 ⟨rfl, ha5, hu5⟩
  have A5 := Lib.hid ha5
  have U5 := Lib.hid (U4.out.trans hu5 (fun k hk => .inl hk))
  clear ha5 hu5
  go_wp2
  rw [rounds_succ]
  go_wp2
  rw [rounds_succ]
  go_wp2
  refine wp_loop_rounds 1 ?_
  rw [rounds_succ]
  have HC6 := Lib.hid (show Calls Try.prog 158 #[.slice (some ⟨g, 0, none⟩) 60 c, .int .i64 0, .int .i64 40, .int .i64 60, fTop] w5 (SrtP w5 g (isrtS geb (A ++ B ++ C))) from slices_mrg g 60 c 0 40 60 (([] : List Smp)) (A ++ B) (C) (([] : List Smp)) _ w5 (by have := EA.out; have := EB.out; have := EC.out; first | omega | (simp only [List.length_append, List.length_nil, isrtS_len]; done) | (simp only [List.length_append, List.length_nil, isrtS_len]; omega)) (by have := EA.out; have := EB.out; have := EC.out; first | omega | (simp only [List.length_append, List.length_nil, isrtS_len]; done) | (simp only [List.length_append, List.length_nil, isrtS_len]; omega)) (by have := EA.out; have := EB.out; have := EC.out; first | omega | (simp only [List.length_append, List.length_nil, isrtS_len]; done) | (simp only [List.length_append, List.length_nil, isrtS_len]; omega)) (by have := EA.out; have := EB.out; have := EC.out; first | omega | (simp only [List.length_append, List.length_nil, isrtS_len]; done) | (simp only [List.length_append, List.length_nil, isrtS_len]; omega)) (by have := EA.out; have := EB.out; have := EC.out; first | omega | (simp only [List.length_append, List.length_nil, isrtS_len]; done) | (simp only [List.length_append, List.length_nil, isrtS_len]; omega)) (by have := EA.out; have := EB.out; have := EC.out; first | omega | (simp only [List.length_append, List.length_nil, isrtS_len]; done) | (simp only [List.length_append, List.length_nil, isrtS_len]; omega)) (by have := EA.out; have := EB.out; have := EC.out; first | omega | (simp only [List.length_append, List.length_nil, isrtS_len]; done) | (simp only [List.length_append, List.length_nil, isrtS_len]; omega)) (by simp) (by simpa using A5.out))
  go_wp2_with fail
  with_reducible (refine Calls.mono HC6.out ?_)
  rintro e6 w6 ⟨rfl, ha6, hu6⟩
  have A6 := Lib.hid ha6
  have U6 := Lib.hid (U5.out.trans hu6 (fun k hk => .inl hk))
  clear ha6 hu6
  go_wp2
  rw [rounds_succ]
  go_wp2
  go_returns
  exact ⟨rfl, by simpa using A6.out, U6.out⟩
end Go.Proofs.Ytkjmacdekfbfhaa
