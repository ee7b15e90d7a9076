/- Several texts in one. -/
import Derived.Test.YtjodpffdlggjgaaMean
import Derived.Test.YtjodpffdlggjgaaRegT
import Derived.Test.YtjodpffdlggjgaaKDecideFollows1
/- Plain facts on the mean that is rounded up. -/
namespace Go.Proofs.Ytjodpffdlggjgaa
set_option linter.unusedVariables false
theorem tot_low (l : List Int) (a : Int) (h0 : 0 ≤ a) (h : ∀ x ∈ l, a ≤ x) : a.toNat * l.length ≤ totq l := by
  induction l with
  | nil => simp [totq]
  | cons x l ih =>
    have h1 := ih (fun y hy => h y (by simp [hy]))
    have h2 := h x (by simp)
    simp only [totq, List.map_cons, List.sum_cons, List.length_cons, Nat.mul_add, Nat.mul_one] at *
    omega
theorem tot_high (l : List Int) (b : Int) (h : ∀ x ∈ l, x ≤ b) : totq l ≤ b.toNat * l.length := by
  induction l with
  | nil => simp [totq]
  | cons x l ih =>
    have h1 := ih (fun y hy => h y (by simp [hy]))
    have h2 := h x (by simp)
    simp only [totq, List.map_cons, List.sum_cons, List.length_cons, Nat.mul_add, Nat.mul_one] at *
    omega
theorem upq_le {n d q : Nat} (hd : 0 < d) (h : n ≤ q * d) : upq n d ≤ q := by
  have h2 := (upq_spec (n := n) (d := d) (q := upq n d) hd).2 rfl
  rcases Nat.lt_or_ge q (upq n d) with hlt | hge
  · rcases h2.2 with h3 | h3
    · omega
    · have := Nat.mul_le_mul_right d (show q ≤ upq n d - 1 by omega)
      omega
  · exact hge
theorem le_upq {n d q : Nat} (hd : 0 < d) (h : q * d ≤ n) : q ≤ upq n d := by
  have h2 := ((upq_spec (n := n) (d := d) (q := upq n d) hd).2 rfl).1
  exact Nat.le_of_mul_le_mul_right (Nat.le_trans h h2) hd
theorem mean_plain {l : List Int} (hg : ∀ x ∈ l, I64 x) (hl : 0 < l.length) : meanq l = (upq (totq l) l.length : Nat) ∧ upq (totq l) l.length ≤ 9223372036854775807 := by
  have h1 := upq_le (q := 9223372036854775807) (d := l.length) hl (by have := totq_lt l hg; rw [Nat.mul_comm]; exact this)
  refine ⟨?_, h1⟩
  unfold meanq smallQ
  rw [if_neg (by omega), if_pos (by omega)]
end Go.Proofs.Ytjodpffdlggjgaa
/- The reference's mean by halving. -/
namespace Go.Proofs.Ytjodpffdlggjgaa
open Go.RowKit
set_option linter.unusedSimpArgs false
set_option linter.unusedVariables false
set_option maxHeartbeats 4000000
set_option maxRecDepth 100000
theorem cmpN_ge (X Y : Nat) : decide (0 ≤ cmpN X Y) = decide (Y ≤ X) := by
  unfold cmpN
  rw [Bool.eq_iff_iff]
  simp only [decide_eq_true_eq]
  split <;> (try split) <;> omega
theorem ref16_atLeastN (A : Option Addr) (len cap : Nat) (l : List Int) (M : Nat) (w : World) (hs : IntsAre w A len cap l) (hg : ∀ x ∈ l, I64 x) (hn : len ≤ 1000) (hM : M ≤ 9223372036854775807) :
    Calls Try.prog 120 #[.slice A len cap, .int .i64 (M : Int)] w fun e w' => e = .returned (.bool (decide (totq l ≤ M * len))) ∧ Below w.heap.size w w' := by
  have HS := Lib.hid hs
  have HG := Lib.hid hg
  have hl := hs.1
  have hT : totq l < 2 ^ 128 := by
    have h1 := totq_lt l hg
    have h2 := Nat.mul_le_mul_right 9223372036854775807 (show l.length ≤ 1000 by omega)
    omega
  have HT := Lib.hid hT
  clear hs hg hT
  by_cases h0 : len = 0
  · have HQ := Lib.hid (show decide (totq l ≤ M * len) = true by
      have : l = [] := List.eq_nil_of_length_eq_zero (by omega)
      subst this
      simp [totq])
    have d0 : ((len : Int) == 0) = true := by simp; omega
    clear h0 hl
    go_enter Try.func120, Try.ntmps120
    go_wp2
    go_ret
    exact ⟨by rw [HQ.out]; rfl, Below.refl _ _⟩
  · have d0 : ((len : Int) == 0) = false := by simp; omega
    obtain ⟨P, hP⟩ : ∃ P, P = M * len := ⟨_, rfl⟩
    have hPl : P < 2 ^ 128 := by rw [hP]; exact mul_lt128q (by omega) (by omega)
    have HPl := Lib.hid hPl
    have HM := Lib.hid (fun W => num_MulM M len P W hP (by omega) (by omega))
    rw [← hP]
    have HTot := Lib.hid (fun W hW => num_Total A len cap l W hW HG.out (by omega))
    have hM2 : (M : Int) ≤ 9223372036854775807 := by omega
    generalize totq l = T at *
    have HC := Lib.hid (fun W => num_Cmp P T W HPl.out HT.out)
    have HR := Lib.hid (cmpN_ge P T)
    generalize cmpN P T = C at *
    clear h0 hl hP hPl
    go_enter Try.func120, Try.ntmps120
    go_wp2_with (first | (go_at_call 108; refine (HM.out _).mono ?_; rintro e v1 ⟨rfl, hb1⟩) | (refine wpList_store_fresh rfl 146 _ _ rfl _ _ _ (bitsA _) rfl rfl rfl (by rw [bitsA_size]; kernel_rfl) (info_num _) (bitsA_one _) ?_))
    have BP := Lib.hid (Blk.new v1 146 (bitsA P))
    have E1 := Lib.hid (hb1.alloc hb1.size (.cells (bitsA P) 146))
    clear hb1
    generalize v1.heap.size = g at *
    generalize v1.alloc (.cells (bitsA P) 146) = v2 at *
    refine wp_region_any (by kernel_rfl) ?_; change wpAny _ _ _ _ _ _ _ (World.drew v2); refine any_of_anyG (late := fun _ => false) (S := fun wS => Below v2.heap.size v2 wS) _ _ _ _ ?_
    have S0 := (Below.refl v2.heap.size v2).drew
    refine anyG_takes (is := [0, 1]) (vs := [_, _]) (m := 4) (listed2 := #[true, true, false, false, false, false]) (a2 := ⟨#[_, _, _, _, _, _, _, _, _, _, _, _, _, _, _, _, _, _, _, _], _⟩) (by kernel_rfl) (fun j hj => by simp at hj) (by kernel_rfl) (fun _ _ _ _ _ h => h) (Ys.cons rfl (Or.inl ⟨by rfl, fun W1 hW1 => exec_load (ty := 146) (x := .tmp 5) rfl rfl (run_loadAt_blk _ _ _ _ _ _ (BP.out.call hW1) Try.underlying146 rfl (by first | exact info_num _ | kernel_rfl))⟩) (Ys.cons rfl (Or.inl ⟨by rfl, fun W1 hW1 => by first | rfl | (go_simp; done) | (go_simp; with_reducible rfl)⟩) (Ys.nil))) (S0) (by rfl) (by rfl) ?_
    refine anyG_one (k := 2) (by kernel_rfl) rfl (by rfl) (fun Q2 hQ2 => ?_); go_wp2_with (go_at_call 137; refine (HTot.out _ (slice_keep HS.out (E1.out.trans (S0.mono E1.out.size)))).mono ?_; rintro e v3 ⟨rfl, hb3⟩); refine hQ2 _ _ (fun _ => S0.trans (hb3.mono S0.size)) ?_; clear hQ2 Q2
    have S3 := S0.trans (hb3.mono S0.size)
    refine anyG_one (k := 3) (by kernel_rfl) rfl (by rfl) (fun Q2 hQ2 => ?_); go_wp2_with (go_at_call 111; refine (HC.out _).mono ?_; rintro e v4 ⟨rfl, hb4⟩); refine hQ2 _ _ (fun _ => S3.trans (hb4.mono S3.size)) ?_; clear hQ2 Q2
    have S4 := S3.trans (hb4.mono S3.size)
    refine anyG_one (k := 4) (by kernel_rfl) rfl (by rfl) (fun Q2 hQ2 => ?_); go_wp2_with fail; refine hQ2 _ _ (fun _ => S4) ?_; clear hQ2 Q2
    refine anyG_takes (is := [5]) (vs := [_]) (m := 0) (listed2 := #[true, true, true, true, true, true]) (a2 := ⟨#[_, _, _, _, _, _, _, _, _, _, _, _, _, _, _, _, _, _, _, _], _⟩) (by kernel_rfl) (fun j hj => by simp at hj) (by kernel_rfl) (fun _ _ _ _ _ h => h) (Ys.cons rfl (Or.inl ⟨by rfl, fun W1 hW1 => by first | rfl | (go_simp; done) | (go_simp; with_reducible rfl)⟩) (Ys.nil)) (S4) (by rfl) (by rfl) ?_
    refine anyG_done (by kernel_rfl) ?_ _
    go_wp2
    go_ret
    exact ⟨ret_bool HR.out, E1.out.trans (S4.mono E1.out.size)⟩
theorem mean_least {l : List Int} (hg : ∀ x ∈ l, I64 x) (h0 : ∀ x ∈ l, 0 ≤ x) (M : Nat) : decide (totq l ≤ M * l.length) = decide (meanq l ≤ (M : Int)) ∧ 0 ≤ meanq l ∧ meanq l ≤ 9223372036854775807 := by
  by_cases hl : l.length = 0
  · have e : l = [] := List.eq_nil_of_length_eq_zero hl
    subst e
    simp [totq, meanq]
  · obtain ⟨h1, h2⟩ := mean_plain hg (by omega)
    have h3 := (upq_spec (n := totq l) (d := l.length) (q := upq (totq l) l.length) (by omega)).2 rfl
    rw [h1]
    refine ⟨?_, by omega, by omega⟩
    rw [Bool.eq_iff_iff]
    simp only [decide_eq_true_eq]
    constructor
    · intro h
      have := upq_le (by omega) h
      omega
    · intro h
      have := Nat.mul_le_mul_right l.length (show upq (totq l) l.length ≤ M by omega)
      omega
theorem ref16_atLeast (A : Option Addr) (len cap : Nat) (l : List Int) (m : Int) (w : World) (hs : IntsAre w A len cap l) (hg : ∀ x ∈ l, I64 x) (hg0 : ∀ x ∈ l, 0 ≤ x) (hn : len ≤ 1000) (h0 : 0 ≤ m) (h1 : m ≤ 9223372036854775807) :
    Calls Try.prog 120 #[.slice A len cap, .int .i64 m] w fun e w' => e = .returned (.bool (decide (meanq l ≤ m))) ∧ Below w.heap.size w w' := by
  obtain ⟨M, rfl⟩ := Int.eq_ofNat_of_zero_le h0
  have := ref16_atLeastN A len cap l M w hs hg hn (by omega)
  rw [← hs.1, (mean_least hg hg0 M).1] at this
  rw [← hs.1]
  exact this
theorem ref16_Mean (A : Option Addr) (len cap : Nat) (l : List Smp) (w : World) (hs : SmpsAre w A len cap l) (hg : ∀ x ∈ l, x.good) (hn : len ≤ 200) :
    Calls Try.prog 97 #[.slice A len cap] w fun e w' => e = .returned (.int .i64 (meanq (valq l))) ∧ Below w.heap.size w w' := by
  have HS := Lib.hid hs
  have HL := Lib.hid hs.1
  have HG := Lib.hid (fun x hx => (show I64 x by have := valq_bd hg x hx; unfold I64; omega) : ∀ x ∈ valq l, I64 x)
  have HG0 := Lib.hid (fun x hx => (valq_bd hg x hx).1 : ∀ x ∈ valq l, 0 ≤ x)
  obtain ⟨-, m0, m1⟩ := mean_least HG.out HG0.out 0
  clear hs hg
  go_enter Try.func97, Try.ntmps97
  go_wp2_with fail
  refine (ref09_Values A len cap l _ HS.out (by omega)).mono ?_
  rintro e w1 ⟨v, rfl, ho, hb1⟩
  obtain ⟨A', n', c', rfl, hn', hsl⟩ := ho.shape (fun _ => rfl)
  have hn2 : n' ≤ 200 := by rw [hn', valq_len]; have := HL.out; omega
  have SL := Lib.hid hsl
  have HB := Lib.hid hb1
  clear hn' ho hsl hb1
  have HAt := Lib.hid (fun W m hW h0 h1 => ref16_atLeast A' n' c' (valq l) m W hW HG.out HG0.out (by omega) h0 h1)
  generalize hMN : meanq (valq l) = MN at *
  have HMN := Lib.hid hMN
  clear hMN
  go_wp2
  go_loopw [4, 5] (fun lo hi wr => ∃ a b : Int, lo = .int .i64 a ∧ hi = .int .i64 b ∧ 0 ≤ a ∧ a ≤ MN ∧ MN ≤ b ∧ b ≤ 9223372036854775807 ∧ Below w1.heap.size w1 wr) (fun lo hi _ => (intOf hi - intOf lo).toNat)
  case atStart => exact ⟨0, 9223372036854775807, rfl, rfl, by omega, m0, m1, by omega, Below.refl _ _⟩
  case round =>
    obtain ⟨a, b, rfl, rfl, ha, h1, h2, h3, hbel⟩ := hrel
    by_cases hlt : a < b
    · have q1 : a ≤ a + (b - a) / 2 ∧ a + (b - a) / 2 < b := by omega
      obtain ⟨q2, q3⟩ := q1
      have HBl := Lib.hid hbel
      go_wp2_with fail
      refine (HAt.out _ _ (slice_keep SL.out HBl.out) (by omega) (by omega)).mono ?_
      rintro e w2 ⟨rfl, hb2⟩
      have E2 := Lib.hid (HBl.out.trans (hb2.mono HBl.out.size))
      clear hb2 hbel
      by_cases c : MN ≤ a + (b - a) / 2
      · go_wp2
        go_roundw
        case rel => exact ⟨_, _, rfl, rfl, ha, h1, c, by omega, E2.out⟩
        case measure => simp [intOf]; omega
      · go_wp2
        go_roundw
        case rel => exact ⟨_, _, rfl, rfl, by omega, by omega, h2, by omega, E2.out⟩
        case measure => simp [intOf]; omega
    · go_wp2
      go_ret
      exact ⟨ret_int (by rw [HMN.out]; omega), HB.out.trans (hbel.mono HB.out.size)⟩
end Go.Proofs.Ytjodpffdlggjgaa
/- The reference of package control: Near. -/
namespace Go.Proofs.Ytjodpffdlggjgaa
open Go.RowKit
set_option linter.unusedSimpArgs false
set_option linter.unusedVariables false
set_option maxHeartbeats 4000000
set_option maxRecDepth 100000
theorem ref_Near_no (p : Pol) (load now : Int) (w : World) (h : ¬ (p.okP ∧ 1 ≤ now ∧ now ≤ 1073741824)) :
    Calls Try.prog 80 #[(.agg #[.int .i64 p.min, .int .i64 p.max, .int .i64 p.target, .int .i64 p.tol, .int .i64 p.window, .int .i64 p.hold]), .int .i64 load, .int .i64 now] w fun e w' => e = .returned (.bool (nearq p load now)) ∧ Below w.heap.size w w' := by
  have HQ := Lib.hid (show nearq p load now = false from if_neg h)
  by_cases hk : p.okP
  · have e1 := polOk_true hk
    by_cases h1 : now < 1
    · clear h hk
      go_enter Try.func80, Try.ntmps80
      go_wp2_with (first | (go_at_call 49; refine (ref_Right p _).mono ?_; rw [e1]; rintro e v1 ⟨rfl, hb1⟩))
      go_ret
      exact ⟨ret_bool HQ.out.symm, Below.trans (by go_grown) (hb1.mono (by simp))⟩
    · have h2 : 1073741824 < now := by
        rcases Int.lt_or_le 1073741824 now with h3 | h3
        · exact h3
        · exact absurd ⟨hk, by omega, h3⟩ h
      clear h hk h1
      go_enter Try.func80, Try.ntmps80
      go_wp2_with (first | (go_at_call 49; refine (ref_Right p _).mono ?_; rw [e1]; rintro e v1 ⟨rfl, hb1⟩))
      go_ret
      exact ⟨ret_bool HQ.out.symm, Below.trans (by go_grown) (hb1.mono (by simp))⟩
  · have e1 := polOk_false hk
    clear h hk
    go_enter Try.func80, Try.ntmps80
    go_wp2_with (first | (go_at_call 49; refine (ref_Right p _).mono ?_; rw [e1]; rintro e v1 ⟨rfl, hb1⟩))
    go_ret
    exact ⟨ret_bool HQ.out.symm, Below.trans (by go_grown) (hb1.mono (by simp))⟩
theorem Blk.loadG2 {P : Program} {op : Oper} {a : Act} {w : World} {K : Act → World → Prop} {Q : Exit → Act → World → Prop} (ty : TypeId) (x : Operand) (ho : op.op = .load ty x)
    (g : Nat) (t : TypeId) (cs : Array Value) (d : TypeDesc) (hx : a.eval x = .pointer (some ⟨g, 0, none⟩)) (hb : Blk w g t cs) (hu : P.underlying ty = some d) (hd : (match d with | .struct _ | .array _ _ => true | _ => false) = true) (hi : (P.info? ty).map (·.size) = some cs.size)
    (h : K (a.put op.dst (.agg cs)) w) : op.wp P a w K Q := by
  unfold Oper.wp
  rw [exec_load ho hx (run_loadAt_blk w g t ty cs d hb hu hd hi)]
  exact h
theorem num_AddM (a b M : Nat) (w : World) (hM : M = a + b) (hl : M < 2 ^ 127) :
    Calls Try.prog 110 #[.agg (bitsA a), .agg (bitsA b)] w fun e w' => e = .returned (.tuple #[.agg (bitsA M), .bool true]) ∧ Below w.heap.size w w' := by
  have := num_Add a b w (by omega) (by omega)
  rw [show addRow a b = M by unfold addRow; rw [if_pos (by omega), hM], show addFits a b = true from decide_eq_true (by omega)] at this
  exact this
set_option maxHeartbeats 8000000 in
theorem ref_Near_ok (p : Pol) (load now : Int) (w : World) (hp : p.fit) (hn : I64 load) (hk : p.okP) (h1 : 1 ≤ now) (h2 : now ≤ 1073741824) :
    Calls Try.prog 80 #[(.agg #[.int .i64 p.min, .int .i64 p.max, .int .i64 p.target, .int .i64 p.tol, .int .i64 p.window, .int .i64 p.hold]), .int .i64 load, .int .i64 now] w fun e w' => e = .returned (.bool (nearq p load now)) ∧ Below w.heap.size w w' := by
  have hq : nearq p load now = (decide (hasq load ≤ shouldq p now + slackq p now) && decide (shouldq p now ≤ hasq load + slackq p now)) := if_pos ⟨hk, h1, h2⟩
  have e1 := polOk_true hk
  obtain ⟨k1, k2, k3, k4, k5, k6, k7, k8, k9⟩ := hk
  have hT := hp.2.2.1
  unfold I64 at hT
  have hLb := loadq_bd hn
  obtain ⟨L, hL⟩ := Int.eq_ofNat_of_zero_le hLb.1
  obtain ⟨n, rfl⟩ := Int.eq_ofNat_of_zero_le (show 0 ≤ now by omega)
  obtain ⟨G, hG⟩ := Int.eq_ofNat_of_zero_le (show 0 ≤ p.target by omega)
  obtain ⟨T, hTol⟩ := Int.eq_ofNat_of_zero_le k6
  obtain ⟨H, hH⟩ : ∃ H, H = L * 1000 := ⟨_, rfl⟩
  obtain ⟨O, hO⟩ : ∃ O, O = n * G := ⟨_, rfl⟩
  have hOb : O ≤ 1073741824 * 9223372036854775807 := by rw [hO]; exact Nat.mul_le_mul (by omega) (by omega)
  have q1 : hasq load = H := by unfold hasq; rw [hL, hH]; rfl
  have q2 : shouldq p n = 1000 * O := by
    unfold shouldq; rw [hG, hO]
    rw [show ((n : Int) * 1000).toNat = n * 1000 by omega, Int.toNat_natCast, Nat.mul_right_comm, Nat.mul_comm]
  have q3 : slackq p n = T * O := by
    unfold slackq; rw [hTol, hG, hO, ← Int.natCast_mul, Int.toNat_natCast, Int.toNat_natCast, Nat.mul_comm n T, Nat.mul_assoc]
  rw [q1, q2, q3] at hq
  have hTO : T * O ≤ 999 * (1073741824 * 9223372036854775807) := Nat.mul_le_mul (by omega) hOb
  have hHb : H < 2 ^ 74 := by omega
  have HQ := Lib.hid hq
  have HLd := Lib.hid (fun W => ref_Load load W)
  rw [hL] at HLd
  have HM1 := Lib.hid (fun W => num_MulM L 1000 H W hH (by omega) (by omega))
  rw [show ((1000 : Nat) : Int) = 1000 from rfl] at HM1
  have HM2 := Lib.hid (fun W => num_MulM n G O W hO (by omega) (by omega))
  have hrow : p.row = #[.int .i64 p.min, .int .i64 p.max, .int .i64 (G : Int), .int .i64 (T : Int), .int .i64 p.window, .int .i64 p.hold] := by rw [← hG, ← hTol]
  rw [hG, hTol]
  have HR := Lib.hid (fun W => ref_Right p W)
  rw [hG, hTol] at HR
  have e2 : polOk p = true := polOk_true ⟨k1, k2, k3, k4, by omega, by omega, by omega, k8, k9⟩
  rw [e2] at HR
  have bT : T ≤ 999 := by omega
  have bn1 : 1 ≤ (n : Int) := h1
  have bG : G ≤ 9223372036854775807 := by omega
  have bL : L ≤ 9223372036854775807 := by omega
  have d1 : decide ((n : Int) < 1) = false := by simp; omega
  have d2 : decide (1073741824 < (n : Int)) = false := by simp; omega
  have bn2 : (n : Int) ≤ 1073741824 := h2
  clear hT hLb hL hG hTol q1 q2 q3 hq hp hn k1 k2 k3 k4 k5 k6 k7 k8 k9 h1 h2 hH hO e1 e2
  go_enter Try.func80, Try.ntmps80
  go_wp2_with (first | (go_at_call 49; refine (HR.out _).mono ?_; rintro e v1 ⟨rfl, hb1⟩) | (go_at_call 109; refine (HLd.out _).mono ?_; rintro e w1 ⟨rfl, rfl⟩) | (go_at_call 108; (with_reducible refine (HM1.out _).mono ?_); rintro e v2 ⟨rfl, hb2⟩; have pb2 := Lib.hid (((Blk.new w 23 #[.int .i64 p.min, .int .i64 p.max, .int .i64 (G : Int), .int .i64 (T : Int), .int .i64 p.window, .int .i64 p.hold]).call hb1).call hb2); have ct2 := (pb2.out.alloc (.cells (bitsA H) 146)).cellv (i := 2) (v := .int .i64 (G : Int)) rfl; have cs2 := pb2.out.cellv (i := 2) (v := .int .i64 (G : Int)) rfl; have lt2 := pb2.out.lt) | (go_at_call 108; (with_reducible refine (HM2.out _).mono ?_); rintro e v3 ⟨rfl, hb3⟩) | (refine wpList_store_fresh rfl 146 _ _ rfl _ _ _ (bitsA _) rfl rfl rfl (by rw [bitsA_size]; kernel_rfl) (info_num _) (bitsA_one _) ?_) | (refine wpList_store_fresh2 rfl 146 _ _ rfl _ _ _ (bitsA 0) rfl _ rfl (by simp) (by rw [← zeros_num]; rfl) (by rw [bitsA_size]; kernel_rfl) (info_num _) (bitsA_one _) ?_))
  have e0 : Below w.heap.size w (w.alloc (.cells #[.int .i64 p.min, .int .i64 p.max, .int .i64 (G : Int), .int .i64 (T : Int), .int .i64 p.window, .int .i64 p.hold] 23)) := by go_grown
  have e1 := e0.trans (hb1.mono e0.size)
  have e2 := e1.trans (hb2.mono e1.size)
  have e3 := e2.alloc e2.size (.cells (bitsA H) 146)
  have e4 := e3.trans (hb3.mono e3.size)
  have e5 := ((e4.alloc e4.size (.cells (bitsA O) 146)).alloc (by have := e4.size; simp; omega) (.cells (bitsA 0) 146)).alloc (by have := e4.size; simp; omega) (.cells (bitsA 0) 146)
  have s3 := hb3.size
  simp only [World.size_alloc] at s3
  have kp := ((((pb2.out.alloc (.cells (bitsA H) 146)).call hb3).alloc (.cells (bitsA O) 146)).alloc (.cells (bitsA 0) 146)).alloc (.cells (bitsA 0) 146)
  have kh := ((((Blk.new v2 146 (bitsA H)).call hb3).alloc (.cells (bitsA O) 146)).alloc (.cells (bitsA 0) 146)).alloc (.cells (bitsA 0) 146)
  have ko := ((Blk.new v3 146 (bitsA O)).alloc (.cells (bitsA 0) 146)).alloc (.cells (bitsA 0) 146)
  have ks := (Blk.new_ v3 (.cells (bitsA O) 146) 146 (bitsA 0)).alloc (.cells (bitsA 0) 146)
  have kl := Blk.new__ v3 (.cells (bitsA O) 146) (.cells (bitsA 0) 146) 146 (bitsA 0)
  have x1 : w.heap.size < v2.heap.size := lt2
  have x2 : v2.heap.size < v3.heap.size := by omega
  clear ct2 cs2 lt2 pb2 e0 e1 e2 e3 e4 s3 hb1 hb2 hb3
  generalize hgh : v2.heap.size = gh at *
  generalize hgo : v3.heap.size = go at *
  clear hgh hgo
  generalize ((v3.alloc (.cells (bitsA O) 146)).alloc (.cells (bitsA 0) 146)).alloc (.cells (bitsA 0) 146) = W at *
  go_loopw [11] (fun i wr => ∃ k S Sl : Nat, k ≤ 1000 ∧ i = .int .i64 k ∧ S = k * O ∧ Sl = (min k T) * O ∧ Blk wr w.heap.size 23 #[.int .i64 p.min, .int .i64 p.max, .int .i64 (G : Int), .int .i64 (T : Int), .int .i64 p.window, .int .i64 p.hold] ∧ Blk wr gh 146 (bitsA H) ∧ Blk wr go 146 (bitsA O) ∧ Blk wr (go + 1) 146 (bitsA S) ∧ Blk wr (go + 1 + 1) 146 (bitsA Sl) ∧ Below w.heap.size w wr) (fun i _ => 1000 - (intOf i).toNat)
  case atStart => exact ⟨0, 0, 0, by omega, rfl, by simp, by simp, kp, kh, ko, ks, kl, e5⟩
  case round =>
    obtain ⟨k, S, Sl, hk, rfl, hS, hSl, h0, hh, ho, hs, hl, hbel⟩ := hrel
    clear kp kh ko ks kl e5
    have P0 := Lib.hid h0
    have PH := Lib.hid hh
    have PO := Lib.hid ho
    have PS := Lib.hid hs
    have PL := Lib.hid hl
    have PB := Lib.hid hbel
    clear h0 hh ho hs hl hbel
    by_cases hlt : k < 1000
    · obtain ⟨S2, hS2⟩ : ∃ S2, S2 = S + O := ⟨_, rfl⟩
      have hS3 : S2 = (k + 1) * O := by rw [hS2, hS, Nat.add_mul, Nat.one_mul]
      have hSb : S2 ≤ 1000 * (1073741824 * 9223372036854775807) := by rw [hS3]; exact Nat.mul_le_mul (by omega) hOb
      have A1 := Lib.hid (fun W => num_AddM S O S2 W hS2 (by omega))
      have HS3 := Lib.hid hS3
      by_cases hkT : k < T
      · obtain ⟨L2, hL2⟩ : ∃ L2, L2 = Sl + O := ⟨_, rfl⟩
        have hL3 : L2 = (min (k + 1) T) * O := by rw [hL2, hSl, show min k T = k by omega, show min (k + 1) T = k + 1 by omega, Nat.add_mul, Nat.one_mul]
        have hLb : L2 ≤ 1000 * (1073741824 * 9223372036854775807) := by rw [hL3]; exact Nat.mul_le_mul (by omega) hOb
        have A2 := Lib.hid (fun W => num_AddM Sl O L2 W hL2 (by omega))
        have HL3 := Lib.hid hL3
        have dkT : (k : Int) < (T : Int) := by omega
        clear hS hSl hS2 hS3 hL2 hL3 hSb hLb
        go_wp2_with (first | (refine Blk.load rfl 146 (.tmp 9) rfl (go + 1) _ _ _ rfl (PS.out) Try.underlying146 rfl (info_num _) ?_) | (refine Blk.load rfl 146 (.tmp 8) rfl go _ _ _ rfl (PO.out) Try.underlying146 rfl (info_num _) ?_) | (go_at_call 110; (with_reducible refine (A1.out _).mono ?_); rintro e v4 ⟨rfl, hb4⟩) | (refine wpList_store_row rfl 146 (.tmp 9) _ rfl (go + 1) _ _ (bitsA _) rfl rfl (PS.out.call hb4) (by rw [bitsA_size, bitsA_size]) (info_num _) (bitsA_one _) ?_; intro u5 hu5 hw5; have Q0 := Lib.hid ((P0.out.call hb4).grown hw5 (by simp; omega)); have QH := Lib.hid ((PH.out.call hb4).grown hw5 (by simp; omega)); have QO := Lib.hid ((PO.out.call hb4).grown hw5 (by simp <;> omega)); have QL := Lib.hid ((PL.out.call hb4).grown hw5 (by simp <;> omega)); have QS := Lib.hid hu5; have e6 := PB.out.trans (hb4.mono PB.out.size); have QB := Lib.hid (e6.trans (Only.below hw5 (by omega) e6.size)); have ct5 := Q0.out.cellv (i := 3) (v := .int .i64 (T : Int)) rfl; clear e6 hu5 hw5) | (refine Blk.load rfl 146 (.tmp 10) rfl (go + 1 + 1) _ _ _ rfl (QL.out) Try.underlying146 rfl (info_num _) ?_) | (refine Blk.load rfl 146 (.tmp 8) rfl go _ _ _ rfl (QO.out) Try.underlying146 rfl (info_num _) ?_) | (go_at_call 110; (with_reducible refine (A2.out _).mono ?_); rintro e v6 ⟨rfl, hb6⟩) | (refine wpList_store_row rfl 146 (.tmp 10) _ rfl (go + 1 + 1) _ _ (bitsA _) rfl rfl (QL.out.call hb6) (by rw [bitsA_size, bitsA_size]) (info_num _) (bitsA_one _) ?_; intro u7 hu7 hw7))
        go_roundw
        case rel =>
          have e8 := QB.out.trans (hb6.mono QB.out.size)
          exact ⟨k + 1, S2, L2, by omega, by go_num, HS3.out, HL3.out, (Q0.out.call hb6).grown hw7 (by simp; omega), (QH.out.call hb6).grown hw7 (by simp; omega), (QO.out.call hb6).grown hw7 (by simp <;> omega), (QS.out.call hb6).grown hw7 (by simp <;> omega), hu7, e8.trans (Only.below hw7 (by omega) e8.size)⟩
        case measure => simp [intOf]; omega
      · have hL3 : Sl = (min (k + 1) T) * O := by rw [hSl, show min k T = T by omega, show min (k + 1) T = T by omega]
        have HL3 := Lib.hid hL3
        have dkT : decide ((k : Int) < (T : Int)) = false := by simp; omega
        have dkT2 : decide (k < T) = false := by simp; omega
        clear hS hSl hS2 hS3 hL3 hSb hkT
        go_wp2_with (first | (refine Blk.load rfl 146 (.tmp 9) rfl (go + 1) _ _ _ rfl (PS.out) Try.underlying146 rfl (info_num _) ?_) | (refine Blk.load rfl 146 (.tmp 8) rfl go _ _ _ rfl (PO.out) Try.underlying146 rfl (info_num _) ?_) | (go_at_call 110; (with_reducible refine (A1.out _).mono ?_); rintro e v4 ⟨rfl, hb4⟩) | (refine wpList_store_row rfl 146 (.tmp 9) _ rfl (go + 1) _ _ (bitsA _) rfl rfl (PS.out.call hb4) (by rw [bitsA_size, bitsA_size]) (info_num _) (bitsA_one _) ?_; intro u5 hu5 hw5; have Q0 := Lib.hid ((P0.out.call hb4).grown hw5 (by simp; omega)); have ct5 := Q0.out.cellv (i := 3) (v := .int .i64 (T : Int)) rfl))
        go_roundw
        case rel =>
          have e6 := PB.out.trans (hb4.mono PB.out.size)
          exact ⟨k + 1, S2, Sl, by omega, by go_num, HS3.out, HL3.out, Q0.out, (PH.out.call hb4).grown hw5 (by simp; omega), (PO.out.call hb4).grown hw5 (by simp <;> omega), hu5, (PL.out.call hb4).grown hw5 (by simp <;> omega), e6.trans (Only.below hw5 (by omega) e6.size)⟩
        case measure => simp [intOf]; omega
    · obtain rfl : k = 1000 := by omega
      rw [show min 1000 T = T by omega] at hSl
      subst hS hSl
      have hSb : 1000 * O ≤ 1000 * (1073741824 * 9223372036854775807) := Nat.mul_le_mul (by omega) hOb
      obtain ⟨S, hS⟩ : ∃ S, S = 1000 * O := ⟨_, rfl⟩
      obtain ⟨Sl, hSl⟩ : ∃ Sl, Sl = T * O := ⟨_, rfl⟩
      rw [← hS] at PS HQ hSb
      rw [← hSl] at PL HQ hTO
      obtain ⟨U, hU⟩ : ∃ U, U = S + Sl := ⟨_, rfl⟩
      obtain ⟨D, hD⟩ : ∃ D, D = H + Sl := ⟨_, rfl⟩
      have A1 := Lib.hid (fun W => num_AddM S Sl U W hU (by omega))
      have A2 := Lib.hid (fun W => num_AddM H Sl D W hD (by omega))
      have C1 := Lib.hid (fun W => num_Cmp H U W (by omega) (by omega))
      have C2 := Lib.hid (fun W => num_Cmp S D W (by omega) (by omega))
      rw [← hU, ← hD] at HQ
      have c1 := cmpN_le H U
      have c2 := Lib.hid (cmpN_le S D)
      clear hS hSl hU hD hSb hTO hHb
      by_cases hle : H ≤ U
      · have dc : decide (cmpN H U ≤ 0) = true := by rw [c1]; exact decide_eq_true hle
        have HLE := Lib.hid (decide_eq_true hle)
        clear c1 hle
        go_wp2_with (first | (refine Blk.load rfl 146 (.tmp 9) rfl (go + 1) _ _ _ rfl (PS.out) Try.underlying146 rfl (info_num _) ?_) | (refine Blk.load rfl 146 (.tmp 10) rfl (go + 1 + 1) _ _ _ rfl (PL.out) Try.underlying146 rfl (info_num _) ?_) | (go_at_call 110; (with_reducible refine (A1.out _).mono ?_); rintro e v4 ⟨rfl, hb4⟩) | (refine wpList_store_fresh rfl 146 _ _ rfl _ _ _ (bitsA _) rfl rfl rfl (by rw [bitsA_size]; kernel_rfl) (info_num _) (bitsA_one _) ?_) | (refine Blk.load rfl 146 (.tmp 7) rfl gh _ _ _ rfl ((PH.out.call hb4).alloc _) Try.underlying146 rfl (info_num _) ?_) | (refine Blk.load rfl 146 (.tmp 10) rfl (go + 1 + 1) _ _ _ rfl ((PL.out.call hb4).alloc _) Try.underlying146 rfl (info_num _) ?_) | (go_at_call 110; (with_reducible refine (A2.out _).mono ?_); rintro e v6 ⟨rfl, hb6⟩) | (refine Blk.load rfl 146 (.tmp 7) rfl gh _ _ _ rfl ((((PH.out.call hb4).alloc _).call hb6).alloc _) Try.underlying146 rfl (info_num _) ?_) | (refine Blk.load rfl 146 (.tmp 12) rfl v4.heap.size _ _ _ rfl (((Blk.new v4 _ _).call hb6).alloc _) Try.underlying146 rfl (info_num _) ?_) | (go_at_call 111; (with_reducible refine (C1.out _).mono ?_); rintro e v8 ⟨rfl, hb8⟩))
        refine Blk.loadG2 146 (.tmp 9) rfl (go + 1) _ _ _ rfl (((((PS.out.call hb4).alloc _).call hb6).alloc _).call hb8) Try.underlying146 rfl (info_num _) ?_
        go_wp2_with fail
        refine Blk.loadG2 146 (.tmp 14) rfl v6.heap.size _ _ _ rfl ((Blk.new v6 _ _).call hb8) Try.underlying146 rfl (info_num _) ?_
        go_wp2_with (go_at_call 111; (with_reducible refine (C2.out _).mono ?_); rintro e v9 ⟨rfl, hb9⟩)
        go_ret
        have e4 := PB.out.trans (hb4.mono PB.out.size)
        have e5 := e4.alloc e4.size (.cells (bitsA U) 146)
        have e6 := e5.trans (hb6.mono e5.size)
        have e7 := e6.alloc e6.size (.cells (bitsA D) 146)
        have e8 := e7.trans (hb8.mono e7.size)
        exact ⟨ret_bool (by rw [HQ.out, ← c2.out, HLE.out]; simp), e8.trans (hb9.mono e8.size)⟩
      · have dc : decide (cmpN H U ≤ 0) = false := by rw [c1]; exact decide_eq_false hle
        have HLE := Lib.hid (decide_eq_false hle)
        clear c1 hle
        go_wp2_with (first | (refine Blk.load rfl 146 (.tmp 9) rfl (go + 1) _ _ _ rfl (PS.out) Try.underlying146 rfl (info_num _) ?_) | (refine Blk.load rfl 146 (.tmp 10) rfl (go + 1 + 1) _ _ _ rfl (PL.out) Try.underlying146 rfl (info_num _) ?_) | (go_at_call 110; (with_reducible refine (A1.out _).mono ?_); rintro e v4 ⟨rfl, hb4⟩) | (refine wpList_store_fresh rfl 146 _ _ rfl _ _ _ (bitsA _) rfl rfl rfl (by rw [bitsA_size]; kernel_rfl) (info_num _) (bitsA_one _) ?_) | (refine Blk.load rfl 146 (.tmp 7) rfl gh _ _ _ rfl ((PH.out.call hb4).alloc _) Try.underlying146 rfl (info_num _) ?_) | (refine Blk.load rfl 146 (.tmp 10) rfl (go + 1 + 1) _ _ _ rfl ((PL.out.call hb4).alloc _) Try.underlying146 rfl (info_num _) ?_) | (go_at_call 110; (with_reducible refine (A2.out _).mono ?_); rintro e v6 ⟨rfl, hb6⟩) | (refine Blk.load rfl 146 (.tmp 7) rfl gh _ _ _ rfl ((((PH.out.call hb4).alloc _).call hb6).alloc _) Try.underlying146 rfl (info_num _) ?_) | (refine Blk.load rfl 146 (.tmp 12) rfl v4.heap.size _ _ _ rfl (((Blk.new v4 _ _).call hb6).alloc _) Try.underlying146 rfl (info_num _) ?_) | (go_at_call 111; (with_reducible refine (C1.out _).mono ?_); rintro e v8 ⟨rfl, hb8⟩))
        go_ret
        have e4 := PB.out.trans (hb4.mono PB.out.size)
        have e5 := e4.alloc e4.size (.cells (bitsA U) 146)
        have e6 := e5.trans (hb6.mono e5.size)
        have e7 := e6.alloc e6.size (.cells (bitsA D) 146)
        have e8 := e7.trans (hb8.mono e7.size)
        exact ⟨ret_bool (by rw [HQ.out, HLE.out]; rfl), e8⟩
theorem ref_Near (p : Pol) (load now : Int) (w : World) (hp : p.fit) (hn : I64 load) :
    Calls Try.prog 80 #[(.agg #[.int .i64 p.min, .int .i64 p.max, .int .i64 p.target, .int .i64 p.tol, .int .i64 p.window, .int .i64 p.hold]), .int .i64 load, .int .i64 now] w fun e w' => e = .returned (.bool (nearq p load now)) ∧ Below w.heap.size w w' := by
  by_cases h : p.okP ∧ 1 ≤ now ∧ now ≤ 1073741824
  · exact ref_Near_ok p load now w hp hn h.1 h.2.1 h.2.2
  · exact ref_Near_no p load now w h
def openq (p : Pol) (load now : Int) : Int := if nearq p load now then now else wantq p load
theorem ref_Open (p : Pol) (load now : Int) (w : World) (hp : p.fit) (hn : I64 load) :
    Calls Try.prog 52 #[(.agg #[.int .i64 p.min, .int .i64 p.max, .int .i64 p.target, .int .i64 p.tol, .int .i64 p.window, .int .i64 p.hold]), .int .i64 load, .int .i64 now] w fun e w' => e = .returned (.int .i64 (openq p load now)) ∧ Below w.heap.size w w' := by
  cases h : nearq p load now
  · have HQ := Lib.hid (show openq p load now = wantq p load by unfold openq; rw [h]; rfl)
    go_enter Try.func52, Try.ntmps52
    go_wp2_with (first | (go_at_call 80; refine (ref_Near p load now _ hp hn).mono ?_; rw [h]; rintro e v1 ⟨rfl, hb1⟩; obtain ⟨hc1, hf1⟩ := bcell hb1; have hs1 := hb1.size; simp only [World.size_alloc] at hs1) | (go_at_call 81; refine (ref_Want p load _ hp hn).mono ?_; rintro e v2 ⟨rfl, hb2⟩))
    go_ret
    have e1 : Below w.heap.size w v1 := Below.trans (by go_grown) (hb1.mono (by simp))
    exact ⟨ret_int HQ.out.symm, e1.trans (hb2.mono e1.size)⟩
  · have HQ := Lib.hid (show openq p load now = now by unfold openq; rw [h]; rfl)
    go_enter Try.func52, Try.ntmps52
    go_wp2_with (first | (go_at_call 80; refine (ref_Near p load now _ hp hn).mono ?_; rw [h]; rintro e v1 ⟨rfl, hb1⟩))
    go_ret
    exact ⟨ret_int HQ.out.symm, Below.trans (by go_grown) (hb1.mono (by simp))⟩
end Go.Proofs.Ytjodpffdlggjgaa
/- decide.Of and the reference's. -/
namespace Go.Proofs.Ytjodpffdlggjgaa
open Go.RowKit
set_option linter.unusedSimpArgs false
set_option linter.unusedVariables false
set_option maxHeartbeats 8000000
set_option maxRecDepth 100000
/-- What is decided, where the policy may be and there are samples. -/
def decq (p : Pol) (l : List Smp) (past : List Adv) : Adv :=
  let tick := latestq l
  let load := meanq (valq (cutq l (fromq tick p.window) tick))
  let now := nowq p past
  let op := openq p load now
  let want := boundq p op
  let th := boundq p (steadyq p tick want past).1
  ⟨tick, load, want, th, whyq p (steadyq p tick want past).2 op now th⟩
def zAdv : Adv := ⟨0, 0, 0, 0, 0⟩
def ofq (p : Pol) (l : List Smp) (past : List Adv) : Adv := if ¬ p.okP then zAdv else if l.length = 0 then zAdv else decq p l past
def ofe (p : Pol) (l : List Smp) : Int := if ¬ p.okP then 7 else if l.length = 0 then 5 else 0
theorem statq_mean (l : List Smp) : (statq l).mean = meanq (valq l) := by
  unfold statq
  split
  · rename_i h
    rw [List.eq_nil_of_length_eq_zero h]; rfl
  · rfl
theorem latestq_I64 {l : List Smp} (hg : ∀ x ∈ l, x.good) : I64 (latestq l) := by
  unfold latestq
  cases l with
  | nil => unfold maxq I64; simp
  | cons a l =>
    show I64 ((l.map Smp.tick).foldl max a.tick)
    have key : ∀ (l : List Smp), (∀ x ∈ l, x.good) → ∀ m, I64 m → I64 ((l.map Smp.tick).foldl max m) := by
      intro l
      induction l with
      | nil => intro _ m hm; exact hm
      | cons x l ih =>
        intro hx m hm
        refine ih (fun y hy => hx y (by simp [hy])) _ ?_
        have := (hx x (by simp)).1
        unfold I64 at *
        omega
    exact key l (fun x hx => hg x (by simp [hx])) _ (hg a (by simp)).1
theorem boundq_I64 (p : Pol) (n : Int) (hp : p.fit) (hn : I64 n) : I64 (boundq p n) := by
  unfold boundq clampq
  have h1 := hp.1
  have h2 := hp.2.1
  unfold I64 at *
  split
  · split
    · omega
    · split <;> omega
  · omega
theorem ofq_nil {p : Pol} {l : List Smp} {past : List Adv} (hk : p.okP) (h : l.length = 0) : ofq p l past = zAdv ∧ ofe p l = 5 := by
  unfold ofq ofe
  exact ⟨by rw [if_neg (not_not_intro hk), if_pos h], by rw [if_neg (not_not_intro hk), if_pos h]⟩
theorem ofq_ok {p : Pol} {l : List Smp} {past : List Adv} (hk : p.okP) (h : l.length ≠ 0) : ofq p l past = decq p l past ∧ ofe p l = 0 := by
  unfold ofq ofe
  exact ⟨by rw [if_neg (not_not_intro hk), if_neg h], by rw [if_neg (not_not_intro hk), if_neg h]⟩
theorem ofq_no {p : Pol} {l : List Smp} {past : List Adv} (hk : ¬ p.okP) : ofq p l past = zAdv ∧ ofe p l = 7 := by
  unfold ofq ofe
  exact ⟨if_pos hk, if_pos hk⟩
theorem raw_open2 (p : Pol) (load now : Int) : rawq p load now = boundq p (openq p load now) := by
  unfold rawq openq; split <;> rfl
abbrev z28 : Array Value := #[.int .i64 0, .int .i64 0, .int .i64 0, .int .i64 0, .int .i64 0]
def DI (w wr : World) (p : Pol) : Prop := Blk wr w.heap.size 23 p.row ∧ Blk wr (w.heap.size + 1) 26 z28 ∧ Below w.heap.size w wr
theorem DI.call {w wr w' : World} {p : Pol} (h : DI w wr p) (hb : Below wr.heap.size wr w') : DI w w' p := ⟨h.1.call hb, h.2.1.call hb, h.2.2.trans (hb.mono h.2.2.size)⟩
theorem DI.start (w : World) (p : Pol) : DI w ((w.alloc (.cells p.row 23)).alloc (.cells z28 26)) p :=
  ⟨(Blk.new w _ _).alloc _, Blk.new2 w _ _ _, by go_grown⟩
end Go.Proofs.Ytjodpffdlggjgaa
/- decide.Of: the walk. -/
namespace Go.Proofs.Ytjodpffdlggjgaa
open Go.RowKit
set_option linter.unusedSimpArgs false
set_option linter.unusedVariables false
set_option maxHeartbeats 8000000
set_option maxRecDepth 100000
theorem decide_Of (p : Pol) (A : Option Addr) (len cap : Nat) (l : List Smp) (B : Option Addr) (len2 cap2 : Nat) (past : List Adv) (w : World) (hp : p.fit) (hs : SmpsAre w A len cap l) (hg : ∀ x ∈ l, x.good) (hn : len ≤ 200) (hs2 : AdvsAre w B len2 cap2 past) (hn2 : len2 ≤ 1000) :
    Calls Try.prog 64 #[(.agg #[.int .i64 p.min, .int .i64 p.max, .int .i64 p.target, .int .i64 p.tol, .int .i64 p.window, .int .i64 p.hold]), .slice A len cap, .slice B len2 cap2] w fun e w' => e = .returned (.tuple #[.agg (ofq p l past).cells.toArray, .int .i64 (ofe p l)]) ∧ Below w.heap.size w w' := by
  have HS := Lib.hid hs
  have HS2 := Lib.hid hs2
  have HL := Lib.hid hs.1
  have HG := Lib.hid hg
  have HP := Lib.hid hp
  have HT := latestq_I64 hg
  have D0 := Lib.hid (DI.start w p)
  clear hs hs2 hg hp
  by_cases hk : p.okP
  · have HC := Lib.hid (fun W => policy_Check p W)
    rw [polErr_ok hk] at HC
    by_cases h0 : len = 0
    · have HQ := Lib.hid (ofq_nil (past := past) hk (show l.length = 0 by rw [HL.out]; exact h0))
      subst h0
      clear hk
      go_enter Try.func64, Try.ntmps64
      go_wp2_with fail
      refine (HC.out _).mono ?_
      rintro e v1 ⟨rfl, hb1⟩
      have D1 := Lib.hid (D0.out.call hb1)
      clear hb1
      go_wp2_with fail
      refine (decide_latest_no cap A _).mono ?_
      rintro e v2 ⟨rfl, rfl⟩
      go_wp2_with (refine wpList_store_row rfl 26 (.tmp 6) (.tmp 31) rfl (w.heap.size + 1) _ _ _ rfl rfl D1.out.2.1 (by rfl) (by kernel_rfl) (by simp [Value.oneCell']) ?_; intro w9 hb9 hg9)
      refine bodyPost_ret (results_row_tmp rfl _ _ (w.heap.size + 1) _ _ _ rfl hb9 Try.underlying26 rfl (by kernel_rfl)) rfl ⟨by rw [HQ.out.1, HQ.out.2]; rfl, D1.out.2.2.trans (Only.below hg9 (by omega) D1.out.2.2.size)⟩
    · have HQ := Lib.hid (ofq_ok (past := past) hk (show l.length ≠ 0 by rw [HL.out]; exact h0))
      have h1 : 1 ≤ len := by omega
      have HDq := Lib.hid (show decq p l past = (let tick := latestq l; let load := meanq (valq (cutq l (fromq tick p.window) tick)); let now := nowq p past; let op := openq p load now; let want := boundq p op; let th := boundq p (steadyq p tick want past).1; (⟨tick, load, want, th, whyq p (steadyq p tick want past).2 op now th⟩ : Adv)) from rfl)
      have HLa := Lib.hid (fun W hW => decide_latest A len cap l W hW h1 (by omega))
      have HAt := Lib.hid (fun W hW => window_At A len cap l (latestq l) p.window W hW HG.out hn HT HP.out.2.2.2.2.1)
      have hM := statq_mean (cutq l (fromq (latestq l) p.window) (latestq l))
      have hMI : I64 (meanq (valq (cutq l (fromq (latestq l) p.window) (latestq l)))) := by
        have := mean_least (l := valq (cutq l (fromq (latestq l) p.window) (latestq l))) (fun x hx => by have := valq_bd (cutq_good HG.out _ _) x hx; unfold I64; omega) (fun x hx => (valq_bd (cutq_good HG.out _ _) x hx).1) 0
        unfold I64; omega
      dsimp only at HDq
      rw [← hM] at HDq hMI
      generalize statq (cutq l (fromq (latestq l) p.window) (latestq l)) = ST at *
      generalize latestq l = T at *
      have HNo := Lib.hid (fun W hW => decide_Now p B len2 cap2 past W hW hn2)
      generalize nowq p past = NW at *
      have HWa := Lib.hid (fun W => control_Want p ST.mean W HP.out hMI)
      have HNe := Lib.hid (fun W => control_Near p ST.mean NW W HP.out hMI)
      have HRa := Lib.hid (fun W => control_Raw p ST.mean NW W HP.out hMI)
      rw [raw_open2] at HRa
      have HOp := Lib.hid (show openq p ST.mean NW = if nearq p ST.mean NW then NW else wantq p ST.mean from rfl)
      generalize openq p ST.mean NW = OP at *
      generalize boundq p OP = WT at *
      have HSt := Lib.hid (fun W hW => steady_Of p T WT B len2 cap2 past W HP.out hW hn2 HT)
      generalize steadyq p T WT past = SQ at *
      obtain ⟨sn, sh⟩ := SQ
      dsimp only at HSt HDq
      have HBo := Lib.hid (fun W => control_Bound p sn W)
      generalize boundq p sn = TH at *
      have HWh := Lib.hid (fun W => decide_why p sh OP NW TH W)
      generalize whyq p sh OP NW TH = WY at *
      clear hM h0 hk HT hMI
      go_enter Try.func64, Try.ntmps64
      go_wp2_with fail
      refine (HC.out _).mono ?_
      rintro e v1 ⟨rfl, hb1⟩
      have D1 := Lib.hid (D0.out.call hb1)
      clear hb1
      go_wp2_with fail
      refine (HLa.out _ (slice_keep HS.out D1.out.2.2)).mono ?_
      rintro e v2 ⟨rfl, hb2⟩
      have D2 := Lib.hid (D1.out.call hb2)
      clear hb2
      go_wp2
      refine wp_region_any (by kernel_rfl) ?_; change wpAny _ _ _ _ _ _ _ (World.drew v2); refine any_of_anyG (late := fun _ => false) (S := fun wS => Below v2.heap.size v2 wS) _ _ _ _ ?_
      have S0 := (Below.refl v2.heap.size v2).drew
      refine anyG_take (i := 0) (v := _) rfl (by kernel_rfl) (by kernel_rfl) (by kernel_rfl) (by kernel_rfl) rfl (by kernel_rfl) (fun j hj => by first | (simp at hj; done) | (simp at hj; simp; omega)) (fun _ _ _ h => h) (Or.inl ⟨by rfl, fun W1 hW1 => by first | rfl | (go_simp; done) | (go_simp; with_reducible rfl)⟩) (S0) ?_
      refine anyG_take (i := 1) (v := _) rfl (by kernel_rfl) (by kernel_rfl) (by kernel_rfl) (by kernel_rfl) rfl (by kernel_rfl) (fun j hj => by first | (simp at hj; done) | (simp at hj; simp; omega)) (fun _ _ _ h => h) (Or.inl ⟨by rfl, fun W1 hW1 => by first | rfl | (go_simp; done) | (go_simp; with_reducible rfl)⟩) (S0) ?_
      refine anyG_take (i := 2) (v := _) rfl (by kernel_rfl) (by kernel_rfl) (by kernel_rfl) (by kernel_rfl) rfl (by kernel_rfl) (fun j hj => by first | (simp at hj; done) | (simp at hj; simp; omega)) (fun _ _ _ h => h) (Or.inl ⟨by rfl, fun W1 hW1 => by first | rfl | (go_simp; done) | (go_simp; with_reducible rfl)⟩) (S0) ?_
      refine anyG_take (i := 3) (v := .int .i64 p.window) rfl (by kernel_rfl) (by kernel_rfl) (by kernel_rfl) (by kernel_rfl) rfl (by kernel_rfl) (fun j hj => by first | (simp at hj; done) | (simp at hj; simp; omega)) (fun _ _ _ h => h) (Or.inl ⟨by rfl, fun W1 hW1 => by have c := (D2.out.1.call hW1).cellv (i := 4) (v := .int .i64 p.window) rfl; go_simp⟩) (S0) ?_
      refine anyG_take (i := 6) (v := _) rfl (by kernel_rfl) (by kernel_rfl) (by kernel_rfl) (by kernel_rfl) rfl (by kernel_rfl) (fun j hj => by first | (simp at hj; done) | (simp at hj; simp; omega)) (fun _ _ _ h => h) (Or.inl ⟨by rfl, fun W1 hW1 => exec_load (ty := 23) (x := .tmp 3) rfl rfl (run_loadAt_blk _ _ _ _ _ _ (D2.out.1.call hW1) Try.underlying23 rfl (by first | kernel_rfl | exact info_num _))⟩) (S0) ?_
      refine anyG_take (i := 7) (v := _) rfl (by kernel_rfl) (by kernel_rfl) (by kernel_rfl) (by kernel_rfl) rfl (by kernel_rfl) (fun j hj => by first | (simp at hj; done) | (simp at hj; simp; omega)) (fun _ _ _ h => h) (Or.inl ⟨by rfl, fun W1 hW1 => by first | rfl | (go_simp; done) | (go_simp; with_reducible rfl)⟩) (S0) ?_
      refine anyG_one (k := 4) (by kernel_rfl) rfl (by rfl) (fun Q2 hQ2 => ?_); go_wp2_with (go_at_call 94; refine (HAt.out _ (slice_keep HS.out (D2.out.call S0).2.2)).mono ?_; rintro e v3 ⟨rfl, hb3⟩); refine hQ2 _ _ (fun _ => S0.trans (hb3.mono S0.size)) ?_; clear hQ2 Q2
      have S3 := S0.trans (hb3.mono S0.size)
      refine anyG_take (i := 5) (v := .int .i64 ST.mean) rfl (by kernel_rfl) (by kernel_rfl) (by kernel_rfl) (by kernel_rfl) rfl (by kernel_rfl) (fun j hj => by first | (simp at hj; done) | (simp at hj; simp; omega)) (fun _ _ _ h => h) (Or.inl ⟨by rfl, fun W1 hW1 => by first | kernel_rfl | (go_simp; done)⟩) (S3) ?_
      refine anyG_one (k := 8) (by kernel_rfl) rfl (by rfl) (fun Q2 hQ2 => ?_); go_wp2_with (go_at_call 43; refine (HNo.out _ (slice_keep HS2.out (D2.out.call S3).2.2)).mono ?_; rintro e v4 ⟨rfl, hb4⟩); refine hQ2 _ _ (fun _ => S3.trans (hb4.mono S3.size)) ?_; clear hQ2 Q2
      have S4 := S3.trans (hb4.mono S3.size)
      refine anyG_one (k := 9) (by kernel_rfl) rfl (by rfl) (fun Q2 hQ2 => ?_); go_wp2_with fail; refine hQ2 _ _ (fun _ => S4) ?_; clear hQ2 Q2
      refine anyG_one (k := 10) (by kernel_rfl) rfl (by rfl) (fun Q2 hQ2 => ?_); go_wp2_with fail; refine hQ2 _ _ (fun _ => S4) ?_; clear hQ2 Q2
      refine anyG_done (by kernel_rfl) ?_ _
      have D4 := Lib.hid (D2.out.call S4)
      go_wp2_with (refine Blk.load rfl 23 (.tmp 3) rfl w.heap.size _ _ _ rfl D4.out.1 Try.underlying23 rfl (by kernel_rfl) ?_)
      refine (HWa.out _).mono ?_
      rintro e v5 ⟨rfl, hb5⟩
      have D5 := Lib.hid (D4.out.call hb5)
      clear hb5
      go_wp2_with (refine Blk.load rfl 23 (.tmp 3) rfl w.heap.size _ _ _ rfl D5.out.1 Try.underlying23 rfl (by kernel_rfl) ?_)
      refine (HNe.out _).mono ?_
      rintro e v6 ⟨rfl, hb6⟩
      have D6 := Lib.hid (D5.out.call hb6)
      clear hb6
      cases hnr : nearq p ST.mean NW
      all_goals
        rw [hnr] at HOp
        clear hnr
        simp only [Bool.false_eq_true, if_false, if_true] at HOp
        go_wp2_with (refine Blk.load rfl 23 (.tmp 3) rfl w.heap.size _ _ _ rfl D6.out.1 Try.underlying23 rfl (by kernel_rfl) ?_)
        refine (HRa.out _).mono ?_
        rintro e v7 ⟨rfl, hb7⟩
        have D7 := Lib.hid (D6.out.call hb7)
        clear hb7
        go_wp2_with (refine Blk.load rfl 23 (.tmp 3) rfl w.heap.size _ _ _ rfl D7.out.1 Try.underlying23 rfl (by kernel_rfl) ?_)
        refine (HSt.out _ (slice_keep HS2.out D7.out.2.2)).mono ?_
        rintro e v8 ⟨rfl, hb8⟩
        have D8 := Lib.hid (D7.out.call hb8)
        clear hb8
        go_wp2_with (refine Blk.load rfl 23 (.tmp 3) rfl w.heap.size _ _ _ rfl D8.out.1 Try.underlying23 rfl (by kernel_rfl) ?_)
        refine (HBo.out _).mono ?_
        rintro e v9 ⟨rfl, hb9⟩
        have D9 := Lib.hid (D8.out.call hb9)
        clear hb9
        first | (rw [HOp.out] at HWh) | skip
        go_wp2_with (refine Blk.load rfl 23 (.tmp 3) rfl w.heap.size _ _ _ rfl D9.out.1 Try.underlying23 rfl (by kernel_rfl) ?_)
        refine (HWh.out _).mono ?_
        rintro e v10 ⟨rfl, hb10⟩
        have D10 := Lib.hid (D9.out.call hb10)
        clear hb10
        go_wp2_with (refine wpList_store_row rfl 26 (.tmp 6) (.tmp 74) rfl (w.heap.size + 1) _ _ _ rfl rfl D10.out.2.1 (by rfl) (by kernel_rfl) (by simp [Value.oneCell']) ?_; intro w9 hb9 hg9)
        refine bodyPost_ret (results_row_tmp rfl _ _ (w.heap.size + 1) _ _ _ rfl hb9 Try.underlying26 rfl (by kernel_rfl)) rfl ⟨by rw [HQ.out.1, HQ.out.2, HDq.out]; rfl, D10.out.2.2.trans (Only.below hg9 (by omega) D10.out.2.2.size)⟩
  · have HC := Lib.hid (fun W => policy_Check p W)
    rw [polErr_no hk] at HC
    have HQ := Lib.hid (ofq_no (l := l) (past := past) hk)
    clear hk HT
    go_enter Try.func64, Try.ntmps64
    go_wp2_with fail
    refine (HC.out _).mono ?_
    rintro e v1 ⟨rfl, hb1⟩
    have D1 := Lib.hid (D0.out.call hb1)
    clear hb1
    go_wp2_with (refine wpList_store_row rfl 26 (.tmp 6) (.tmp 22) rfl (w.heap.size + 1) _ _ _ rfl rfl D1.out.2.1 (by rfl) (by kernel_rfl) (by simp [Value.oneCell']) ?_; intro w9 hb9 hg9)
    refine bodyPost_ret (results_row_tmp rfl _ _ (w.heap.size + 1) _ _ _ rfl hb9 Try.underlying26 rfl (by kernel_rfl)) rfl ⟨by rw [HQ.out.1, HQ.out.2]; rfl, D1.out.2.2.trans (Only.below hg9 (by omega) D1.out.2.2.size)⟩
end Go.Proofs.Ytjodpffdlggjgaa
