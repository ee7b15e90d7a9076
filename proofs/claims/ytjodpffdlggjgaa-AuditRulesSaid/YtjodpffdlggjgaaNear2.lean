/- The reference of package control: Near. -/
import Derived.Test.YtjodpffdlggjgaaNear
namespace Go.Proofs.Ytjodpffdlggjgaa
open Go.RowKit
set_option linter.unusedSimpArgs false
set_option linter.unusedVariables false
set_option maxHeartbeats 4000000
set_option maxRecDepth 100000
theorem ref_Near_no (p : Pol) (load now : Int) (w : World) (h : ¬ (p.okP ∧ 1 ≤ now ∧ now ≤ 1073741824)) :
    Calls Try.prog 80 #[(.agg #[.int .i64 p.min, .int .i64 p.max, .int .i64 p.target, .int .i64 p.tol, .int .i64 p.window, .int .i64 p.hold]), .int .i64 load, .int .i64 now] w fun e w' => e = .returned (.bool (nearq p load now)) ∧ Below w.heap.size w w' := by
  have HQ := Lib.hid (show nearq p load now = false from if_neg h)
  by_cases hk : p.okP
  · have e1 := polOk_true hk
    by_cases h1 : now < 1
    · clear h hk
      go_enter Try.func80, Try.ntmps80
      go_wp2_with (first | (go_at_call 49; refine (ref_Right p _).mono ?_; rw [e1]; rintro e v1 ⟨rfl, hb1⟩))
      go_ret
      exact ⟨ret_bool HQ.out.symm, Below.trans (by go_grown) (hb1.mono (by simp))⟩
    · have h2 : 1073741824 < now := by
        rcases Int.lt_or_le 1073741824 now with h3 | h3
        · exact h3
        · exact absurd ⟨hk, by omega, h3⟩ h
      clear h hk h1
      go_enter Try.func80, Try.ntmps80
      go_wp2_with (first | (go_at_call 49; refine (ref_Right p _).mono ?_; rw [e1]; rintro e v1 ⟨rfl, hb1⟩))
      go_ret
      exact ⟨ret_bool HQ.out.symm, Below.trans (by go_grown) (hb1.mono (by simp))⟩
  · have e1 := polOk_false hk
    clear h hk
    go_enter Try.func80, Try.ntmps80
    go_wp2_with (first | (go_at_call 49; refine (ref_Right p _).mono ?_; rw [e1]; rintro e v1 ⟨rfl, hb1⟩))
    go_ret
    exact ⟨ret_bool HQ.out.symm, Below.trans (by go_grown) (hb1.mono (by simp))⟩
theorem Blk.loadG2 {P : Program} {op : Oper} {a : Act} {w : World} {K : Act → World → Prop} {Q : Exit → Act → World → Prop} (ty : TypeId) (x : Operand) (ho : op.op = .load ty x)
    (g : Nat) (t : TypeId) (cs : Array Value) (d : TypeDesc) (hx : a.eval x = .pointer (some ⟨g, 0, none⟩)) (hb : Blk w g t cs) (hu : P.underlying ty = some d) (hd : (match d with | .struct _ | .array _ _ => true | _ => false) = true) (hi : (P.info? ty).map (·.size) = some cs.size)
    (h : K (a.put op.dst (.agg cs)) w) : op.wp P a w K Q := by
  unfold Oper.wp
  rw [exec_load ho hx (run_loadAt_blk w g t ty cs d hb hu hd hi)]
  exact h
theorem num_AddM (a b M : Nat) (w : World) (hM : M = a + b) (hl : M < 2 ^ 127) :
    Calls Try.prog 110 #[.agg (bitsA a), .agg (bitsA b)] w fun e w' => e = .returned (.tuple #[.agg (bitsA M), .bool true]) ∧ Below w.heap.size w w' := by
  have := num_Add a b w (by omega) (by omega)
  rw [show addRow a b = M by unfold addRow; rw [if_pos (by omega), hM], show addFits a b = true from decide_eq_true (by omega)] at this
  exact this
set_option maxHeartbeats 8000000 in
theorem ref_Near_ok (p : Pol) (load now : Int) (w : World) (hp : p.fit) (hn : I64 load) (hk : p.okP) (h1 : 1 ≤ now) (h2 : now ≤ 1073741824) :
    Calls Try.prog 80 #[(.agg #[.int .i64 p.min, .int .i64 p.max, .int .i64 p.target, .int .i64 p.tol, .int .i64 p.window, .int .i64 p.hold]), .int .i64 load, .int .i64 now] w fun e w' => e = .returned (.bool (nearq p load now)) ∧ Below w.heap.size w w' := by
  have hq : nearq p load now = (decide (hasq load ≤ shouldq p now + slackq p now) && decide (shouldq p now ≤ hasq load + slackq p now)) := if_pos ⟨hk, h1, h2⟩
  have e1 := polOk_true hk
  obtain ⟨k1, k2, k3, k4, k5, k6, k7, k8, k9⟩ := hk
  have hT := hp.2.2.1
  unfold I64 at hT
  have hLb := loadq_bd hn
  obtain ⟨L, hL⟩ := Int.eq_ofNat_of_zero_le hLb.1
  obtain ⟨n, rfl⟩ := Int.eq_ofNat_of_zero_le (show 0 ≤ now by omega)
  obtain ⟨G, hG⟩ := Int.eq_ofNat_of_zero_le (show 0 ≤ p.target by omega)
  obtain ⟨T, hTol⟩ := Int.eq_ofNat_of_zero_le k6
  obtain ⟨H, hH⟩ : ∃ H, H = L * 1000 := ⟨_, rfl⟩
  obtain ⟨O, hO⟩ : ∃ O, O = n * G := ⟨_, rfl⟩
  have hOb : O ≤ 1073741824 * 9223372036854775807 := by rw [hO]; exact Nat.mul_le_mul (by omega) (by omega)
  have q1 : hasq load = H := by unfold hasq; rw [hL, hH]; rfl
  have q2 : shouldq p n = 1000 * O := by
    unfold shouldq; rw [hG, hO]
    rw [show ((n : Int) * 1000).toNat = n * 1000 by omega, Int.toNat_natCast, Nat.mul_right_comm, Nat.mul_comm]
  have q3 : slackq p n = T * O := by
    unfold slackq; rw [hTol, hG, hO, ← Int.natCast_mul, Int.toNat_natCast, Int.toNat_natCast, Nat.mul_comm n T, Nat.mul_assoc]
  rw [q1, q2, q3] at hq
  have hTO : T * O ≤ 999 * (1073741824 * 9223372036854775807) := Nat.mul_le_mul (by omega) hOb
  have hHb : H < 2 ^ 74 := by omega
  have HQ := Lib.hid hq
  have HLd := Lib.hid (fun W => ref_Load load W)
  rw [hL] at HLd
  have HM1 := Lib.hid (fun W => num_MulM L 1000 H W hH (by omega) (by omega))
  rw [show ((1000 : Nat) : Int) = 1000 from rfl] at HM1
  have HM2 := Lib.hid (fun W => num_MulM n G O W hO (by omega) (by omega))
  have hrow : p.row = #[.int .i64 p.min, .int .i64 p.max, .int .i64 (G : Int), .int .i64 (T : Int), .int .i64 p.window, .int .i64 p.hold] := by rw [← hG, ← hTol]
  rw [hG, hTol]
  have HR := Lib.hid (fun W => ref_Right p W)
  rw [hG, hTol] at HR
  have e2 : polOk p = true := polOk_true ⟨k1, k2, k3, k4, by omega, by omega, by omega, k8, k9⟩
  rw [e2] at HR
  have bT : T ≤ 999 := by omega
  have bn1 : 1 ≤ (n : Int) := h1
  have bG : G ≤ 9223372036854775807 := by omega
  have bL : L ≤ 9223372036854775807 := by omega
  have d1 : decide ((n : Int) < 1) = false := by simp; omega
  have d2 : decide (1073741824 < (n : Int)) = false := by simp; omega
  have bn2 : (n : Int) ≤ 1073741824 := h2
  clear hT hLb hL hG hTol q1 q2 q3 hq hp hn k1 k2 k3 k4 k5 k6 k7 k8 k9 h1 h2 hH hO e1 e2
  go_enter Try.func80, Try.ntmps80
  go_wp2_with (first | (go_at_call 49; refine (HR.out _).mono ?_; rintro e v1 ⟨rfl, hb1⟩) | (go_at_call 109; refine (HLd.out _).mono ?_; rintro e w1 ⟨rfl, rfl⟩) | (go_at_call 108; (with_reducible refine (HM1.out _).mono ?_); rintro e v2 ⟨rfl, hb2⟩; have pb2 := Lib.hid (((Blk.new w 23 #[.int .i64 p.min, .int .i64 p.max, .int .i64 (G : Int), .int .i64 (T : Int), .int .i64 p.window, .int .i64 p.hold]).call hb1).call hb2); have ct2 := (pb2.out.alloc (.cells (bitsA H) 146)).cellv (i := 2) (v := .int .i64 (G : Int)) rfl; have cs2 := pb2.out.cellv (i := 2) (v := .int .i64 (G : Int)) rfl; have lt2 := pb2.out.lt) | (go_at_call 108; (with_reducible refine (HM2.out _).mono ?_); rintro e v3 ⟨rfl, hb3⟩) | (refine wpList_store_fresh rfl 146 _ _ rfl _ _ _ (bitsA _) rfl rfl rfl (by rw [bitsA_size]; kernel_rfl) (info_num _) (bitsA_one _) ?_) | (refine wpList_store_fresh2 rfl 146 _ _ rfl _ _ _ (bitsA 0) rfl _ rfl (by simp) (by rw [← zeros_num]; rfl) (by rw [bitsA_size]; kernel_rfl) (info_num _) (bitsA_one _) ?_))
  have e0 : Below w.heap.size w (w.alloc (.cells #[.int .i64 p.min, .int .i64 p.max, .int .i64 (G : Int), .int .i64 (T : Int), .int .i64 p.window, .int .i64 p.hold] 23)) := by go_grown
  have e1 := e0.trans (hb1.mono e0.size)
  have e2 := e1.trans (hb2.mono e1.size)
  have e3 := e2.alloc e2.size (.cells (bitsA H) 146)
  have e4 := e3.trans (hb3.mono e3.size)
  have e5 := ((e4.alloc e4.size (.cells (bitsA O) 146)).alloc (by have := e4.size; simp; omega) (.cells (bitsA 0) 146)).alloc (by have := e4.size; simp; omega) (.cells (bitsA 0) 146)
  have s3 := hb3.size
  simp only [World.size_alloc] at s3
  have kp := ((((pb2.out.alloc (.cells (bitsA H) 146)).call hb3).alloc (.cells (bitsA O) 146)).alloc (.cells (bitsA 0) 146)).alloc (.cells (bitsA 0) 146)
  have kh := ((((Blk.new v2 146 (bitsA H)).call hb3).alloc (.cells (bitsA O) 146)).alloc (.cells (bitsA 0) 146)).alloc (.cells (bitsA 0) 146)
  have ko := ((Blk.new v3 146 (bitsA O)).alloc (.cells (bitsA 0) 146)).alloc (.cells (bitsA 0) 146)
  have ks := (Blk.new_ v3 (.cells (bitsA O) 146) 146 (bitsA 0)).alloc (.cells (bitsA 0) 146)
  have kl := Blk.new__ v3 (.cells (bitsA O) 146) (.cells (bitsA 0) 146) 146 (bitsA 0)
  have x1 : w.heap.size < v2.heap.size := lt2
  have x2 : v2.heap.size < v3.heap.size := by omega
  clear ct2 cs2 lt2 pb2 e0 e1 e2 e3 e4 s3 hb1 hb2 hb3
  generalize hgh : v2.heap.size = gh at *
  generalize hgo : v3.heap.size = go at *
  clear hgh hgo
  generalize ((v3.alloc (.cells (bitsA O) 146)).alloc (.cells (bitsA 0) 146)).alloc (.cells (bitsA 0) 146) = W at *
  go_loopw [11] (fun i wr => ∃ k S Sl : Nat, k ≤ 1000 ∧ i = .int .i64 k ∧ S = k * O ∧ Sl = (min k T) * O ∧ Blk wr w.heap.size 23 #[.int .i64 p.min, .int .i64 p.max, .int .i64 (G : Int), .int .i64 (T : Int), .int .i64 p.window, .int .i64 p.hold] ∧ Blk wr gh 146 (bitsA H) ∧ Blk wr go 146 (bitsA O) ∧ Blk wr (go + 1) 146 (bitsA S) ∧ Blk wr (go + 1 + 1) 146 (bitsA Sl) ∧ Below w.heap.size w wr) (fun i _ => 1000 - (intOf i).toNat)
  case atStart => exact ⟨0, 0, 0, by omega, rfl, by simp, by simp, kp, kh, ko, ks, kl, e5⟩
  case round =>
    obtain ⟨k, S, Sl, hk, rfl, hS, hSl, h0, hh, ho, hs, hl, hbel⟩ := hrel
    clear kp kh ko ks kl e5
    have P0 := Lib.hid h0
    have PH := Lib.hid hh
    have PO := Lib.hid ho
    have PS := Lib.hid hs
    have PL := Lib.hid hl
    have PB := Lib.hid hbel
    clear h0 hh ho hs hl hbel
    by_cases hlt : k < 1000
    · obtain ⟨S2, hS2⟩ : ∃ S2, S2 = S + O := ⟨_, rfl⟩
      have hS3 : S2 = (k + 1) * O := by rw [hS2, hS, Nat.add_mul, Nat.one_mul]
      have hSb : S2 ≤ 1000 * (1073741824 * 9223372036854775807) := by rw [hS3]; exact Nat.mul_le_mul (by omega) hOb
      have A1 := Lib.hid (fun W => num_AddM S O S2 W hS2 (by omega))
      have HS3 := Lib.hid hS3
      by_cases hkT : k < T
      · obtain ⟨L2, hL2⟩ : ∃ L2, L2 = Sl + O := ⟨_, rfl⟩
        have hL3 : L2 = (min (k + 1) T) * O := by rw [hL2, hSl, show min k T = k by omega, show min (k + 1) T = k + 1 by omega, Nat.add_mul, Nat.one_mul]
        have hLb : L2 ≤ 1000 * (1073741824 * 9223372036854775807) := by rw [hL3]; exact Nat.mul_le_mul (by omega) hOb
        have A2 := Lib.hid (fun W => num_AddM Sl O L2 W hL2 (by omega))
        have HL3 := Lib.hid hL3
        have dkT : (k : Int) < (T : Int) := by omega
        clear hS hSl hS2 hS3 hL2 hL3 hSb hLb
        go_wp2_with (first | (refine Blk.load rfl 146 (.tmp 9) rfl (go + 1) _ _ _ rfl (PS.out) Try.underlying146 rfl (info_num _) ?_) | (refine Blk.load rfl 146 (.tmp 8) rfl go _ _ _ rfl (PO.out) Try.underlying146 rfl (info_num _) ?_) | (go_at_call 110; (with_reducible refine (A1.out _).mono ?_); rintro e v4 ⟨rfl, hb4⟩) | (refine wpList_store_row rfl 146 (.tmp 9) _ rfl (go + 1) _ _ (bitsA _) rfl rfl (PS.out.call hb4) (by rw [bitsA_size, bitsA_size]) (info_num _) (bitsA_one _) ?_; intro u5 hu5 hw5; have Q0 := Lib.hid ((P0.out.call hb4).grown hw5 (by simp; omega)); have QH := Lib.hid ((PH.out.call hb4).grown hw5 (by simp; omega)); have QO := Lib.hid ((PO.out.call hb4).grown hw5 (by simp <;> omega)); have QL := Lib.hid ((PL.out.call hb4).grown hw5 (by simp <;> omega)); have QS := Lib.hid hu5; have e6 := PB.out.trans (hb4.mono PB.out.size); have QB := Lib.hid (e6.trans (Only.below hw5 (by omega) e6.size)); have ct5 := Q0.out.cellv (i := 3) (v := .int .i64 (T : Int)) rfl; clear e6 hu5 hw5) | (refine Blk.load rfl 146 (.tmp 10) rfl (go + 1 + 1) _ _ _ rfl (QL.out) Try.underlying146 rfl (info_num _) ?_) | (refine Blk.load rfl 146 (.tmp 8) rfl go _ _ _ rfl (QO.out) Try.underlying146 rfl (info_num _) ?_) | (go_at_call 110; (with_reducible refine (A2.out _).mono ?_); rintro e v6 ⟨rfl, hb6⟩) | (refine wpList_store_row rfl 146 (.tmp 10) _ rfl (go + 1 + 1) _ _ (bitsA _) rfl rfl (QL.out.call hb6) (by rw [bitsA_size, bitsA_size]) (info_num _) (bitsA_one _) ?_; intro u7 hu7 hw7))
        go_roundw
        case rel =>
          have e8 := QB.out.trans (hb6.mono QB.out.size)
          exact ⟨k + 1, S2, L2, by omega, by go_num, HS3.out, HL3.out, (Q0.out.call hb6).grown hw7 (by simp; omega), (QH.out.call hb6).grown hw7 (by simp; omega), (QO.out.call hb6).grown hw7 (by simp <;> omega), (QS.out.call hb6).grown hw7 (by simp <;> omega), hu7, e8.trans (Only.below hw7 (by omega) e8.size)⟩
        case measure => simp [intOf]; omega
      · have hL3 : Sl = (min (k + 1) T) * O := by rw [hSl, show min k T = T by omega, show min (k + 1) T = T by omega]
        have HL3 := Lib.hid hL3
        have dkT : decide ((k : Int) < (T : Int)) = false := by simp; omega
        have dkT2 : decide (k < T) = false := by simp; omega
        clear hS hSl hS2 hS3 hL3 hSb hkT
        go_wp2_with (first | (refine Blk.load rfl 146 (.tmp 9) rfl (go + 1) _ _ _ rfl (PS.out) Try.underlying146 rfl (info_num _) ?_) | (refine Blk.load rfl 146 (.tmp 8) rfl go _ _ _ rfl (PO.out) Try.underlying146 rfl (info_num _) ?_) | (go_at_call 110; (with_reducible refine (A1.out _).mono ?_); rintro e v4 ⟨rfl, hb4⟩) | (refine wpList_store_row rfl 146 (.tmp 9) _ rfl (go + 1) _ _ (bitsA _) rfl rfl (PS.out.call hb4) (by rw [bitsA_size, bitsA_size]) (info_num _) (bitsA_one _) ?_; intro u5 hu5 hw5; have Q0 := Lib.hid ((P0.out.call hb4).grown hw5 (by simp; omega)); have ct5 := Q0.out.cellv (i := 3) (v := .int .i64 (T : Int)) rfl))
        go_roundw
        case rel =>
          have e6 := PB.out.trans (hb4.mono PB.out.size)
          exact ⟨k + 1, S2, Sl, by omega, by go_num, HS3.out, HL3.out, Q0.out, (PH.out.call hb4).grown hw5 (by simp; omega), (PO.out.call hb4).grown hw5 (by simp <;> omega), hu5, (PL.out.call hb4).grown hw5 (by simp <;> omega), e6.trans (Only.below hw5 (by omega) e6.size)⟩
        case measure => simp [intOf]; omega
    · obtain rfl : k = 1000 := by omega
      rw [show min 1000 T = T by omega] at hSl
      subst hS hSl
      have hSb : 1000 * O ≤ 1000 * (1073741824 * 9223372036854775807) := Nat.mul_le_mul (by omega) hOb
      obtain ⟨S, hS⟩ : ∃ S, S = 1000 * O := ⟨_, rfl⟩
      obtain ⟨Sl, hSl⟩ : ∃ Sl, Sl = T * O := ⟨_, rfl⟩
      rw [← hS] at PS HQ hSb
      rw [← hSl] at PL HQ hTO
      obtain ⟨U, hU⟩ : ∃ U, U = S + Sl := ⟨_, rfl⟩
      obtain ⟨D, hD⟩ : ∃ D, D = H + Sl := ⟨_, rfl⟩
      have A1 := Lib.hid (fun W => num_AddM S Sl U W hU (by omega))
      have A2 := Lib.hid (fun W => num_AddM H Sl D W hD (by omega))
      have C1 := Lib.hid (fun W => num_Cmp H U W (by omega) (by omega))
      have C2 := Lib.hid (fun W => num_Cmp S D W (by omega) (by omega))
      rw [← hU, ← hD] at HQ
      have c1 := cmpN_le H U
      have c2 := Lib.hid (cmpN_le S D)
      clear hS hSl hU hD hSb hTO hHb
      by_cases hle : H ≤ U
      · have dc : decide (cmpN H U ≤ 0) = true := by rw [c1]; exact decide_eq_true hle
        have HLE := Lib.hid (decide_eq_true hle)
        clear c1 hle
        go_wp2_with (first | (refine Blk.load rfl 146 (.tmp 9) rfl (go + 1) _ _ _ rfl (PS.out) Try.underlying146 rfl (info_num _) ?_) | (refine Blk.load rfl 146 (.tmp 10) rfl (go + 1 + 1) _ _ _ rfl (PL.out) Try.underlying146 rfl (info_num _) ?_) | (go_at_call 110; (with_reducible refine (A1.out _).mono ?_); rintro e v4 ⟨rfl, hb4⟩) | (refine wpList_store_fresh rfl 146 _ _ rfl _ _ _ (bitsA _) rfl rfl rfl (by rw [bitsA_size]; kernel_rfl) (info_num _) (bitsA_one _) ?_) | (refine Blk.load rfl 146 (.tmp 7) rfl gh _ _ _ rfl ((PH.out.call hb4).alloc _) Try.underlying146 rfl (info_num _) ?_) | (refine Blk.load rfl 146 (.tmp 10) rfl (go + 1 + 1) _ _ _ rfl ((PL.out.call hb4).alloc _) Try.underlying146 rfl (info_num _) ?_) | (go_at_call 110; (with_reducible refine (A2.out _).mono ?_); rintro e v6 ⟨rfl, hb6⟩) | (refine Blk.load rfl 146 (.tmp 7) rfl gh _ _ _ rfl ((((PH.out.call hb4).alloc _).call hb6).alloc _) Try.underlying146 rfl (info_num _) ?_) | (refine Blk.load rfl 146 (.tmp 12) rfl v4.heap.size _ _ _ rfl (((Blk.new v4 _ _).call hb6).alloc _) Try.underlying146 rfl (info_num _) ?_) | (go_at_call 111; (with_reducible refine (C1.out _).mono ?_); rintro e v8 ⟨rfl, hb8⟩))
        refine Blk.loadG2 146 (.tmp 9) rfl (go + 1) _ _ _ rfl (((((PS.out.call hb4).alloc _).call hb6).alloc _).call hb8) Try.underlying146 rfl (info_num _) ?_
        go_wp2_with fail
        refine Blk.loadG2 146 (.tmp 14) rfl v6.heap.size _ _ _ rfl ((Blk.new v6 _ _).call hb8) Try.underlying146 rfl (info_num _) ?_
        go_wp2_with (go_at_call 111; (with_reducible refine (C2.out _).mono ?_); rintro e v9 ⟨rfl, hb9⟩)
        go_ret
        have e4 := PB.out.trans (hb4.mono PB.out.size)
        have e5 := e4.alloc e4.size (.cells (bitsA U) 146)
        have e6 := e5.trans (hb6.mono e5.size)
        have e7 := e6.alloc e6.size (.cells (bitsA D) 146)
        have e8 := e7.trans (hb8.mono e7.size)
        exact ⟨ret_bool (by rw [HQ.out, ← c2.out, HLE.out]; simp), e8.trans (hb9.mono e8.size)⟩
      · have dc : decide (cmpN H U ≤ 0) = false := by rw [c1]; exact decide_eq_false hle
        have HLE := Lib.hid (decide_eq_false hle)
        clear c1 hle
        go_wp2_with (first | (refine Blk.load rfl 146 (.tmp 9) rfl (go + 1) _ _ _ rfl (PS.out) Try.underlying146 rfl (info_num _) ?_) | (refine Blk.load rfl 146 (.tmp 10) rfl (go + 1 + 1) _ _ _ rfl (PL.out) Try.underlying146 rfl (info_num _) ?_) | (go_at_call 110; (with_reducible refine (A1.out _).mono ?_); rintro e v4 ⟨rfl, hb4⟩) | (refine wpList_store_fresh rfl 146 _ _ rfl _ _ _ (bitsA _) rfl rfl rfl (by rw [bitsA_size]; kernel_rfl) (info_num _) (bitsA_one _) ?_) | (refine Blk.load rfl 146 (.tmp 7) rfl gh _ _ _ rfl ((PH.out.call hb4).alloc _) Try.underlying146 rfl (info_num _) ?_) | (refine Blk.load rfl 146 (.tmp 10) rfl (go + 1 + 1) _ _ _ rfl ((PL.out.call hb4).alloc _) Try.underlying146 rfl (info_num _) ?_) | (go_at_call 110; (with_reducible refine (A2.out _).mono ?_); rintro e v6 ⟨rfl, hb6⟩) | (refine Blk.load rfl 146 (.tmp 7) rfl gh _ _ _ rfl ((((PH.out.call hb4).alloc _).call hb6).alloc _) Try.underlying146 rfl (info_num _) ?_) | (refine Blk.load rfl 146 (.tmp 12) rfl v4.heap.size _ _ _ rfl (((Blk.new v4 _ _).call hb6).alloc _) Try.underlying146 rfl (info_num _) ?_) | (go_at_call 111; (with_reducible refine (C1.out _).mono ?_); rintro e v8 ⟨rfl, hb8⟩))
        go_ret
        have e4 := PB.out.trans (hb4.mono PB.out.size)
        have e5 := e4.alloc e4.size (.cells (bitsA U) 146)
        have e6 := e5.trans (hb6.mono e5.size)
        have e7 := e6.alloc e6.size (.cells (bitsA D) 146)
        have e8 := e7.trans (hb8.mono e7.size)
        exact ⟨ret_bool (by rw [HQ.out, HLE.out]; rfl), e8⟩
theorem ref_Near (p : Pol) (load now : Int) (w : World) (hp : p.fit) (hn : I64 load) :
    Calls Try.prog 80 #[(.agg #[.int .i64 p.min, .int .i64 p.max, .int .i64 p.target, .int .i64 p.tol, .int .i64 p.window, .int .i64 p.hold]), .int .i64 load, .int .i64 now] w fun e w' => e = .returned (.bool (nearq p load now)) ∧ Below w.heap.size w w' := by
  by_cases h : p.okP ∧ 1 ≤ now ∧ now ≤ 1073741824
  · exact ref_Near_ok p load now w hp hn h.1 h.2.1 h.2.2
  · exact ref_Near_no p load now w h
def openq (p : Pol) (load now : Int) : Int := if nearq p load now then now else wantq p load
theorem ref_Open (p : Pol) (load now : Int) (w : World) (hp : p.fit) (hn : I64 load) :
    Calls Try.prog 52 #[(.agg #[.int .i64 p.min, .int .i64 p.max, .int .i64 p.target, .int .i64 p.tol, .int .i64 p.window, .int .i64 p.hold]), .int .i64 load, .int .i64 now] w fun e w' => e = .returned (.int .i64 (openq p load now)) ∧ Below w.heap.size w w' := by
  cases h : nearq p load now
  · have HQ := Lib.hid (show openq p load now = wantq p load by unfold openq; rw [h]; rfl)
    go_enter Try.func52, Try.ntmps52
    go_wp2_with (first | (go_at_call 80; refine (ref_Near p load now _ hp hn).mono ?_; rw [h]; rintro e v1 ⟨rfl, hb1⟩; obtain ⟨hc1, hf1⟩ := bcell hb1; have hs1 := hb1.size; simp only [World.size_alloc] at hs1) | (go_at_call 81; refine (ref_Want p load _ hp hn).mono ?_; rintro e v2 ⟨rfl, hb2⟩))
    go_ret
    have e1 : Below w.heap.size w v1 := Below.trans (by go_grown) (hb1.mono (by simp))
    exact ⟨ret_int HQ.out.symm, e1.trans (hb2.mono e1.size)⟩
  · have HQ := Lib.hid (show openq p load now = now by unfold openq; rw [h]; rfl)
    go_enter Try.func52, Try.ntmps52
    go_wp2_with (first | (go_at_call 80; refine (ref_Near p load now _ hp hn).mono ?_; rw [h]; rintro e v1 ⟨rfl, hb1⟩))
    go_ret
    exact ⟨ret_int HQ.out.symm, Below.trans (by go_grown) (hb1.mono (by simp))⟩
end Go.Proofs.Ytjodpffdlggjgaa
