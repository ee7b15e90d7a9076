/- Several texts in one. -/
import Derived.Test.YtjodpffdlggjgaaMean
import Derived.Test.YtjodpffdlggjgaaKLoopKeeps4
import Derived.Test.YtjodpffdlggjgaaRegT
import Derived.Test.YtjodpffdlggjgaaKLoopKeeps1
import Derived.Test.YtjodpffdlggjgaaKLoopKeeps3
import Derived.Test.YtjodpffdlggjgaaRegL
/- Plain facts on the mean that is rounded up. -/
namespace Go.Proofs.Ytjodpffdlggjgaa
set_option linter.unusedVariables false
theorem tot_low (l : List Int) (a : Int) (h0 : 0 ≤ a) (h : ∀ x ∈ l, a ≤ x) : a.toNat * l.length ≤ totq l := by
  induction l with
  | nil => simp [totq]
  | cons x l ih =>
    have h1 := ih (fun y hy => h y (by simp [hy]))
    have h2 := h x (by simp)
    simp only [totq, List.map_cons, List.sum_cons, List.length_cons, Nat.mul_add, Nat.mul_one] at *
    omega
theorem tot_high (l : List Int) (b : Int) (h : ∀ x ∈ l, x ≤ b) : totq l ≤ b.toNat * l.length := by
  induction l with
  | nil => simp [totq]
  | cons x l ih =>
    have h1 := ih (fun y hy => h y (by simp [hy]))
    have h2 := h x (by simp)
    simp only [totq, List.map_cons, List.sum_cons, List.length_cons, Nat.mul_add, Nat.mul_one] at *
    omega
theorem upq_le {n d q : Nat} (hd : 0 < d) (h : n ≤ q * d) : upq n d ≤ q := by
  have h2 := (upq_spec (n := n) (d := d) (q := upq n d) hd).2 rfl
  rcases Nat.lt_or_ge q (upq n d) with hlt | hge
  · rcases h2.2 with h3 | h3
    · omega
    · have := Nat.mul_le_mul_right d (show q ≤ upq n d - 1 by omega)
      omega
  · exact hge
theorem le_upq {n d q : Nat} (hd : 0 < d) (h : q * d ≤ n) : q ≤ upq n d := by
  have h2 := ((upq_spec (n := n) (d := d) (q := upq n d) hd).2 rfl).1
  exact Nat.le_of_mul_le_mul_right (Nat.le_trans h h2) hd
theorem mean_plain {l : List Int} (hg : ∀ x ∈ l, I64 x) (hl : 0 < l.length) : meanq l = (upq (totq l) l.length : Nat) ∧ upq (totq l) l.length ≤ 9223372036854775807 := by
  have h1 := upq_le (q := 9223372036854775807) (d := l.length) hl (by have := totq_lt l hg; rw [Nat.mul_comm]; exact this)
  refine ⟨?_, h1⟩
  unfold meanq smallQ
  rw [if_neg (by omega), if_pos (by omega)]
end Go.Proofs.Ytjodpffdlggjgaa
/- The reference's mean by halving. -/
namespace Go.Proofs.Ytjodpffdlggjgaa
open Go.RowKit
set_option linter.unusedSimpArgs false
set_option linter.unusedVariables false
set_option maxHeartbeats 4000000
set_option maxRecDepth 100000
theorem cmpN_ge (X Y : Nat) : decide (0 ≤ cmpN X Y) = decide (Y ≤ X) := by
  unfold cmpN
  rw [Bool.eq_iff_iff]
  simp only [decide_eq_true_eq]
  split <;> (try split) <;> omega
theorem ref16_atLeastN (A : Option Addr) (len cap : Nat) (l : List Int) (M : Nat) (w : World) (hs : IntsAre w A len cap l) (hg : ∀ x ∈ l, I64 x) (hn : len ≤ 1000) (hM : M ≤ 9223372036854775807) :
    Calls Try.prog 120 #[.slice A len cap, .int .i64 (M : Int)] w fun e w' => e = .returned (.bool (decide (totq l ≤ M * len))) ∧ Below w.heap.size w w' := by
  have HS := Lib.hid hs
  have HG := Lib.hid hg
  have hl := hs.1
  have hT : totq l < 2 ^ 128 := by
    have h1 := totq_lt l hg
    have h2 := Nat.mul_le_mul_right 9223372036854775807 (show l.length ≤ 1000 by omega)
    omega
  have HT := Lib.hid hT
  clear hs hg hT
  by_cases h0 : len = 0
  · have HQ := Lib.hid (show decide (totq l ≤ M * len) = true by
      have : l = [] := List.eq_nil_of_length_eq_zero (by omega)
      subst this
      simp [totq])
    have d0 : ((len : Int) == 0) = true := by simp; omega
    clear h0 hl
    go_enter Try.func120, Try.ntmps120
    go_wp2
    go_ret
    exact ⟨by rw [HQ.out]; rfl, Below.refl _ _⟩
  · have d0 : ((len : Int) == 0) = false := by simp; omega
    obtain ⟨P, hP⟩ : ∃ P, P = M * len := ⟨_, rfl⟩
    have hPl : P < 2 ^ 128 := by rw [hP]; exact mul_lt128q (by omega) (by omega)
    have HPl := Lib.hid hPl
    have HM := Lib.hid (fun W => num_MulM M len P W hP (by omega) (by omega))
    rw [← hP]
    have HTot := Lib.hid (fun W hW => num_Total A len cap l W hW HG.out (by omega))
    have hM2 : (M : Int) ≤ 9223372036854775807 := by omega
    generalize totq l = T at *
    have HC := Lib.hid (fun W => num_Cmp P T W HPl.out HT.out)
    have HR := Lib.hid (cmpN_ge P T)
    generalize cmpN P T = C at *
    clear h0 hl hP hPl
    go_enter Try.func120, Try.ntmps120
    go_wp2_with (first | (go_at_call 108; refine (HM.out _).mono ?_; rintro e v1 ⟨rfl, hb1⟩) | (refine wpList_store_fresh rfl 146 _ _ rfl _ _ _ (bitsA _) rfl rfl rfl (by rw [bitsA_size]; kernel_rfl) (info_num _) (bitsA_one _) ?_))
    have BP := Lib.hid (Blk.new v1 146 (bitsA P))
    have E1 := Lib.hid (hb1.alloc hb1.size (.cells (bitsA P) 146))
    clear hb1
    generalize v1.heap.size = g at *
    generalize v1.alloc (.cells (bitsA P) 146) = v2 at *
    refine wp_region_any (by kernel_rfl) ?_; change wpAny _ _ _ _ _ _ _ (World.drew v2); refine any_of_anyG (late := fun _ => false) (S := fun wS => Below v2.heap.size v2 wS) _ _ _ _ ?_
    have S0 := (Below.refl v2.heap.size v2).drew
    refine anyG_takes (is := [0, 1]) (vs := [_, _]) (m := 4) (listed2 := #[true, true, false, false, false, false]) (a2 := ⟨#[_, _, _, _, _, _, _, _, _, _, _, _, _, _, _, _, _, _, _, _], _⟩) (by kernel_rfl) (fun j hj => by simp at hj) (by kernel_rfl) (fun _ _ _ _ _ h => h) (Ys.cons rfl (Or.inl ⟨by rfl, fun W1 hW1 => exec_load (ty := 146) (x := .tmp 5) rfl rfl (run_loadAt_blk _ _ _ _ _ _ (BP.out.call hW1) Try.underlying146 rfl (by first | exact info_num _ | kernel_rfl))⟩) (Ys.cons rfl (Or.inl ⟨by rfl, fun W1 hW1 => by first | rfl | (go_simp; done) | (go_simp; with_reducible rfl)⟩) (Ys.nil))) (S0) (by rfl) (by rfl) ?_
    refine anyG_one (k := 2) (by kernel_rfl) rfl (by rfl) (fun Q2 hQ2 => ?_); go_wp2_with (go_at_call 137; refine (HTot.out _ (slice_keep HS.out (E1.out.trans (S0.mono E1.out.size)))).mono ?_; rintro e v3 ⟨rfl, hb3⟩); refine hQ2 _ _ (fun _ => S0.trans (hb3.mono S0.size)) ?_; clear hQ2 Q2
    have S3 := S0.trans (hb3.mono S0.size)
    refine anyG_one (k := 3) (by kernel_rfl) rfl (by rfl) (fun Q2 hQ2 => ?_); go_wp2_with (go_at_call 111; refine (HC.out _).mono ?_; rintro e v4 ⟨rfl, hb4⟩); refine hQ2 _ _ (fun _ => S3.trans (hb4.mono S3.size)) ?_; clear hQ2 Q2
    have S4 := S3.trans (hb4.mono S3.size)
    refine anyG_one (k := 4) (by kernel_rfl) rfl (by rfl) (fun Q2 hQ2 => ?_); go_wp2_with fail; refine hQ2 _ _ (fun _ => S4) ?_; clear hQ2 Q2
    refine anyG_takes (is := [5]) (vs := [_]) (m := 0) (listed2 := #[true, true, true, true, true, true]) (a2 := ⟨#[_, _, _, _, _, _, _, _, _, _, _, _, _, _, _, _, _, _, _, _], _⟩) (by kernel_rfl) (fun j hj => by simp at hj) (by kernel_rfl) (fun _ _ _ _ _ h => h) (Ys.cons rfl (Or.inl ⟨by rfl, fun W1 hW1 => by first | rfl | (go_simp; done) | (go_simp; with_reducible rfl)⟩) (Ys.nil)) (S4) (by rfl) (by rfl) ?_
    refine anyG_done (by kernel_rfl) ?_ _
    go_wp2
    go_ret
    exact ⟨ret_bool HR.out, E1.out.trans (S4.mono E1.out.size)⟩
theorem mean_least {l : List Int} (hg : ∀ x ∈ l, I64 x) (h0 : ∀ x ∈ l, 0 ≤ x) (M : Nat) : decide (totq l ≤ M * l.length) = decide (meanq l ≤ (M : Int)) ∧ 0 ≤ meanq l ∧ meanq l ≤ 9223372036854775807 := by
  by_cases hl : l.length = 0
  · have e : l = [] := List.eq_nil_of_length_eq_zero hl
    subst e
    simp [totq, meanq]
  · obtain ⟨h1, h2⟩ := mean_plain hg (by omega)
    have h3 := (upq_spec (n := totq l) (d := l.length) (q := upq (totq l) l.length) (by omega)).2 rfl
    rw [h1]
    refine ⟨?_, by omega, by omega⟩
    rw [Bool.eq_iff_iff]
    simp only [decide_eq_true_eq]
    constructor
    · intro h
      have := upq_le (by omega) h
      omega
    · intro h
      have := Nat.mul_le_mul_right l.length (show upq (totq l) l.length ≤ M by omega)
      omega
theorem ref16_atLeast (A : Option Addr) (len cap : Nat) (l : List Int) (m : Int) (w : World) (hs : IntsAre w A len cap l) (hg : ∀ x ∈ l, I64 x) (hg0 : ∀ x ∈ l, 0 ≤ x) (hn : len ≤ 1000) (h0 : 0 ≤ m) (h1 : m ≤ 9223372036854775807) :
    Calls Try.prog 120 #[.slice A len cap, .int .i64 m] w fun e w' => e = .returned (.bool (decide (meanq l ≤ m))) ∧ Below w.heap.size w w' := by
  obtain ⟨M, rfl⟩ := Int.eq_ofNat_of_zero_le h0
  have := ref16_atLeastN A len cap l M w hs hg hn (by omega)
  rw [← hs.1, (mean_least hg hg0 M).1] at this
  rw [← hs.1]
  exact this
theorem ref16_Mean (A : Option Addr) (len cap : Nat) (l : List Smp) (w : World) (hs : SmpsAre w A len cap l) (hg : ∀ x ∈ l, x.good) (hn : len ≤ 200) :
    Calls Try.prog 97 #[.slice A len cap] w fun e w' => e = .returned (.int .i64 (meanq (valq l))) ∧ Below w.heap.size w w' := by
  have HS := Lib.hid hs
  have HL := Lib.hid hs.1
  have HG := Lib.hid (fun x hx => (show I64 x by have := valq_bd hg x hx; unfold I64; omega) : ∀ x ∈ valq l, I64 x)
  have HG0 := Lib.hid (fun x hx => (valq_bd hg x hx).1 : ∀ x ∈ valq l, 0 ≤ x)
  obtain ⟨-, m0, m1⟩ := mean_least HG.out HG0.out 0
  clear hs hg
  go_enter Try.func97, Try.ntmps97
  go_wp2_with fail
  refine (ref09_Values A len cap l _ HS.out (by omega)).mono ?_
  rintro e w1 ⟨v, rfl, ho, hb1⟩
  obtain ⟨A', n', c', rfl, hn', hsl⟩ := ho.shape (fun _ => rfl)
  have hn2 : n' ≤ 200 := by rw [hn', valq_len]; have := HL.out; omega
  have SL := Lib.hid hsl
  have HB := Lib.hid hb1
  clear hn' ho hsl hb1
  have HAt := Lib.hid (fun W m hW h0 h1 => ref16_atLeast A' n' c' (valq l) m W hW HG.out HG0.out (by omega) h0 h1)
  generalize hMN : meanq (valq l) = MN at *
  have HMN := Lib.hid hMN
  clear hMN
  go_wp2
  go_loopw [4, 5] (fun lo hi wr => ∃ a b : Int, lo = .int .i64 a ∧ hi = .int .i64 b ∧ 0 ≤ a ∧ a ≤ MN ∧ MN ≤ b ∧ b ≤ 9223372036854775807 ∧ Below w1.heap.size w1 wr) (fun lo hi _ => (intOf hi - intOf lo).toNat)
  case atStart => exact ⟨0, 9223372036854775807, rfl, rfl, by omega, m0, m1, by omega, Below.refl _ _⟩
  case round =>
    obtain ⟨a, b, rfl, rfl, ha, h1, h2, h3, hbel⟩ := hrel
    by_cases hlt : a < b
    · have q1 : a ≤ a + (b - a) / 2 ∧ a + (b - a) / 2 < b := by omega
      obtain ⟨q2, q3⟩ := q1
      have HBl := Lib.hid hbel
      go_wp2_with fail
      refine (HAt.out _ _ (slice_keep SL.out HBl.out) (by omega) (by omega)).mono ?_
      rintro e w2 ⟨rfl, hb2⟩
      have E2 := Lib.hid (HBl.out.trans (hb2.mono HBl.out.size))
      clear hb2 hbel
      by_cases c : MN ≤ a + (b - a) / 2
      · go_wp2
        go_roundw
        case rel => exact ⟨_, _, rfl, rfl, ha, h1, c, by omega, E2.out⟩
        case measure => simp [intOf]; omega
      · go_wp2
        go_roundw
        case rel => exact ⟨_, _, rfl, rfl, by omega, by omega, h2, by omega, E2.out⟩
        case measure => simp [intOf]; omega
    · go_wp2
      go_ret
      exact ⟨ret_int (by rw [HMN.out]; omega), HB.out.trans (hbel.mono HB.out.size)⟩
end Go.Proofs.Ytjodpffdlggjgaa
/- The reference of package control: Near. -/
namespace Go.Proofs.Ytjodpffdlggjgaa
open Go.RowKit
set_option linter.unusedSimpArgs false
set_option linter.unusedVariables false
set_option maxHeartbeats 4000000
set_option maxRecDepth 100000
theorem ref_Near_no (p : Pol) (load now : Int) (w : World) (h : ¬ (p.okP ∧ 1 ≤ now ∧ now ≤ 1073741824)) :
    Calls Try.prog 80 #[(.agg #[.int .i64 p.min, .int .i64 p.max, .int .i64 p.target, .int .i64 p.tol, .int .i64 p.window, .int .i64 p.hold]), .int .i64 load, .int .i64 now] w fun e w' => e = .returned (.bool (nearq p load now)) ∧ Below w.heap.size w w' := by
  have HQ := Lib.hid (show nearq p load now = false from if_neg h)
  by_cases hk : p.okP
  · have e1 := polOk_true hk
    by_cases h1 : now < 1
    · clear h hk
      go_enter Try.func80, Try.ntmps80
      go_wp2_with (first | (go_at_call 49; refine (ref_Right p _).mono ?_; rw [e1]; rintro e v1 ⟨rfl, hb1⟩))
      go_ret
      exact ⟨ret_bool HQ.out.symm, Below.trans (by go_grown) (hb1.mono (by simp))⟩
    · have h2 : 1073741824 < now := by
        rcases Int.lt_or_le 1073741824 now with h3 | h3
        · exact h3
        · exact absurd ⟨hk, by omega, h3⟩ h
      clear h hk h1
      go_enter Try.func80, Try.ntmps80
      go_wp2_with (first | (go_at_call 49; refine (ref_Right p _).mono ?_; rw [e1]; rintro e v1 ⟨rfl, hb1⟩))
      go_ret
      exact ⟨ret_bool HQ.out.symm, Below.trans (by go_grown) (hb1.mono (by simp))⟩
  · have e1 := polOk_false hk
    clear h hk
    go_enter Try.func80, Try.ntmps80
    go_wp2_with (first | (go_at_call 49; refine (ref_Right p _).mono ?_; rw [e1]; rintro e v1 ⟨rfl, hb1⟩))
    go_ret
    exact ⟨ret_bool HQ.out.symm, Below.trans (by go_grown) (hb1.mono (by simp))⟩
theorem Blk.loadG2 {P : Program} {op : Oper} {a : Act} {w : World} {K : Act → World → Prop} {Q : Exit → Act → World → Prop} (ty : TypeId) (x : Operand) (ho : op.op = .load ty x)
    (g : Nat) (t : TypeId) (cs : Array Value) (d : TypeDesc) (hx : a.eval x = .pointer (some ⟨g, 0, none⟩)) (hb : Blk w g t cs) (hu : P.underlying ty = some d) (hd : (match d with | .struct _ | .array _ _ => true | _ => false) = true) (hi : (P.info? ty).map (·.size) = some cs.size)
    (h : K (a.put op.dst (.agg cs)) w) : op.wp P a w K Q := by
  unfold Oper.wp
  rw [exec_load ho hx (run_loadAt_blk w g t ty cs d hb hu hd hi)]
  exact h
theorem num_AddM (a b M : Nat) (w : World) (hM : M = a + b) (hl : M < 2 ^ 127) :
    Calls Try.prog 110 #[.agg (bitsA a), .agg (bitsA b)] w fun e w' => e = .returned (.tuple #[.agg (bitsA M), .bool true]) ∧ Below w.heap.size w w' := by
  have := num_Add a b w (by omega) (by omega)
  rw [show addRow a b = M by unfold addRow; rw [if_pos (by omega), hM], show addFits a b = true from decide_eq_true (by omega)] at this
  exact this
set_option maxHeartbeats 8000000 in
theorem ref_Near_ok (p : Pol) (load now : Int) (w : World) (hp : p.fit) (hn : I64 load) (hk : p.okP) (h1 : 1 ≤ now) (h2 : now ≤ 1073741824) :
    Calls Try.prog 80 #[(.agg #[.int .i64 p.min, .int .i64 p.max, .int .i64 p.target, .int .i64 p.tol, .int .i64 p.window, .int .i64 p.hold]), .int .i64 load, .int .i64 now] w fun e w' => e = .returned (.bool (nearq p load now)) ∧ Below w.heap.size w w' := by
  have hq : nearq p load now = (decide (hasq load ≤ shouldq p now + slackq p now) && decide (shouldq p now ≤ hasq load + slackq p now)) := if_pos ⟨hk, h1, h2⟩
  have e1 := polOk_true hk
  obtain ⟨k1, k2, k3, k4, k5, k6, k7, k8, k9⟩ := hk
  have hT := hp.2.2.1
  unfold I64 at hT
  have hLb := loadq_bd hn
  obtain ⟨L, hL⟩ := Int.eq_ofNat_of_zero_le hLb.1
  obtain ⟨n, rfl⟩ := Int.eq_ofNat_of_zero_le (show 0 ≤ now by omega)
  obtain ⟨G, hG⟩ := Int.eq_ofNat_of_zero_le (show 0 ≤ p.target by omega)
  obtain ⟨T, hTol⟩ := Int.eq_ofNat_of_zero_le k6
  obtain ⟨H, hH⟩ : ∃ H, H = L * 1000 := ⟨_, rfl⟩
  obtain ⟨O, hO⟩ : ∃ O, O = n * G := ⟨_, rfl⟩
  have hOb : O ≤ 1073741824 * 9223372036854775807 := by rw [hO]; exact Nat.mul_le_mul (by omega) (by omega)
  have q1 : hasq load = H := by unfold hasq; rw [hL, hH]; rfl
  have q2 : shouldq p n = 1000 * O := by
    unfold shouldq; rw [hG, hO]
    rw [show ((n : Int) * 1000).toNat = n * 1000 by omega, Int.toNat_natCast, Nat.mul_right_comm, Nat.mul_comm]
  have q3 : slackq p n = T * O := by
    unfold slackq; rw [hTol, hG, hO, ← Int.natCast_mul, Int.toNat_natCast, Int.toNat_natCast, Nat.mul_comm n T, Nat.mul_assoc]
  rw [q1, q2, q3] at hq
  have hTO : T * O ≤ 999 * (1073741824 * 9223372036854775807) := Nat.mul_le_mul (by omega) hOb
  have hHb : H < 2 ^ 74 := by omega
  have HQ := Lib.hid hq
  have HLd := Lib.hid (fun W => ref_Load load W)
  rw [hL] at HLd
  have HM1 := Lib.hid (fun W => num_MulM L 1000 H W hH (by omega) (by omega))
  rw [show ((1000 : Nat) : Int) = 1000 from rfl] at HM1
  have HM2 := Lib.hid (fun W => num_MulM n G O W hO (by omega) (by omega))
  have hrow : p.row = #[.int .i64 p.min, .int .i64 p.max, .int .i64 (G : Int), .int .i64 (T : Int), .int .i64 p.window, .int .i64 p.hold] := by rw [← hG, ← hTol]
  rw [hG, hTol]
  have HR := Lib.hid (fun W => ref_Right p W)
  rw [hG, hTol] at HR
  have e2 : polOk p = true := polOk_true ⟨k1, k2, k3, k4, by omega, by omega, by omega, k8, k9⟩
  rw [e2] at HR
  have bT : T ≤ 999 := by omega
  have bn1 : 1 ≤ (n : Int) := h1
  have bG : G ≤ 9223372036854775807 := by omega
  have bL : L ≤ 9223372036854775807 := by omega
  have d1 : decide ((n : Int) < 1) = false := by simp; omega
  have d2 : decide (1073741824 < (n : Int)) = false := by simp; omega
  have bn2 : (n : Int) ≤ 1073741824 := h2
  clear hT hLb hL hG hTol q1 q2 q3 hq hp hn k1 k2 k3 k4 k5 k6 k7 k8 k9 h1 h2 hH hO e1 e2
  go_enter Try.func80, Try.ntmps80
  go_wp2_with (first | (go_at_call 49; refine (HR.out _).mono ?_; rintro e v1 ⟨rfl, hb1⟩) | (go_at_call 109; refine (HLd.out _).mono ?_; rintro e w1 ⟨rfl, rfl⟩) | (go_at_call 108; (with_reducible refine (HM1.out _).mono ?_); rintro e v2 ⟨rfl, hb2⟩; have pb2 := Lib.hid (((Blk.new w 23 #[.int .i64 p.min, .int .i64 p.max, .int .i64 (G : Int), .int .i64 (T : Int), .int .i64 p.window, .int .i64 p.hold]).call hb1).call hb2); have ct2 := (pb2.out.alloc (.cells (bitsA H) 146)).cellv (i := 2) (v := .int .i64 (G : Int)) rfl; have cs2 := pb2.out.cellv (i := 2) (v := .int .i64 (G : Int)) rfl; have lt2 := pb2.out.lt) | (go_at_call 108; (with_reducible refine (HM2.out _).mono ?_); rintro e v3 ⟨rfl, hb3⟩) | (refine wpList_store_fresh rfl 146 _ _ rfl _ _ _ (bitsA _) rfl rfl rfl (by rw [bitsA_size]; kernel_rfl) (info_num _) (bitsA_one _) ?_) | (refine wpList_store_fresh2 rfl 146 _ _ rfl _ _ _ (bitsA 0) rfl _ rfl (by simp) (by rw [← zeros_num]; rfl) (by rw [bitsA_size]; kernel_rfl) (info_num _) (bitsA_one _) ?_))
  have e0 : Below w.heap.size w (w.alloc (.cells #[.int .i64 p.min, .int .i64 p.max, .int .i64 (G : Int), .int .i64 (T : Int), .int .i64 p.window, .int .i64 p.hold] 23)) := by go_grown
  have e1 := e0.trans (hb1.mono e0.size)
  have e2 := e1.trans (hb2.mono e1.size)
  have e3 := e2.alloc e2.size (.cells (bitsA H) 146)
  have e4 := e3.trans (hb3.mono e3.size)
  have e5 := ((e4.alloc e4.size (.cells (bitsA O) 146)).alloc (by have := e4.size; simp; omega) (.cells (bitsA 0) 146)).alloc (by have := e4.size; simp; omega) (.cells (bitsA 0) 146)
  have s3 := hb3.size
  simp only [World.size_alloc] at s3
  have kp := ((((pb2.out.alloc (.cells (bitsA H) 146)).call hb3).alloc (.cells (bitsA O) 146)).alloc (.cells (bitsA 0) 146)).alloc (.cells (bitsA 0) 146)
  have kh := ((((Blk.new v2 146 (bitsA H)).call hb3).alloc (.cells (bitsA O) 146)).alloc (.cells (bitsA 0) 146)).alloc (.cells (bitsA 0) 146)
  have ko := ((Blk.new v3 146 (bitsA O)).alloc (.cells (bitsA 0) 146)).alloc (.cells (bitsA 0) 146)
  have ks := (Blk.new_ v3 (.cells (bitsA O) 146) 146 (bitsA 0)).alloc (.cells (bitsA 0) 146)
  have kl := Blk.new__ v3 (.cells (bitsA O) 146) (.cells (bitsA 0) 146) 146 (bitsA 0)
  have x1 : w.heap.size < v2.heap.size := lt2
  have x2 : v2.heap.size < v3.heap.size := by omega
  clear ct2 cs2 lt2 pb2 e0 e1 e2 e3 e4 s3 hb1 hb2 hb3
  generalize hgh : v2.heap.size = gh at *
  generalize hgo : v3.heap.size = go at *
  clear hgh hgo
  generalize ((v3.alloc (.cells (bitsA O) 146)).alloc (.cells (bitsA 0) 146)).alloc (.cells (bitsA 0) 146) = W at *
  go_loopw [11] (fun i wr => ∃ k S Sl : Nat, k ≤ 1000 ∧ i = .int .i64 k ∧ S = k * O ∧ Sl = (min k T) * O ∧ Blk wr w.heap.size 23 #[.int .i64 p.min, .int .i64 p.max, .int .i64 (G : Int), .int .i64 (T : Int), .int .i64 p.window, .int .i64 p.hold] ∧ Blk wr gh 146 (bitsA H) ∧ Blk wr go 146 (bitsA O) ∧ Blk wr (go + 1) 146 (bitsA S) ∧ Blk wr (go + 1 + 1) 146 (bitsA Sl) ∧ Below w.heap.size w wr) (fun i _ => 1000 - (intOf i).toNat)
  case atStart => exact ⟨0, 0, 0, by omega, rfl, by simp, by simp, kp, kh, ko, ks, kl, e5⟩
  case round =>
    obtain ⟨k, S, Sl, hk, rfl, hS, hSl, h0, hh, ho, hs, hl, hbel⟩ := hrel
    clear kp kh ko ks kl e5
    have P0 := Lib.hid h0
    have PH := Lib.hid hh
    have PO := Lib.hid ho
    have PS := Lib.hid hs
    have PL := Lib.hid hl
    have PB := Lib.hid hbel
    clear h0 hh ho hs hl hbel
    by_cases hlt : k < 1000
    · obtain ⟨S2, hS2⟩ : ∃ S2, S2 = S + O := ⟨_, rfl⟩
      have hS3 : S2 = (k + 1) * O := by rw [hS2, hS, Nat.add_mul, Nat.one_mul]
      have hSb : S2 ≤ 1000 * (1073741824 * 9223372036854775807) := by rw [hS3]; exact Nat.mul_le_mul (by omega) hOb
      have A1 := Lib.hid (fun W => num_AddM S O S2 W hS2 (by omega))
      have HS3 := Lib.hid hS3
      by_cases hkT : k < T
      · obtain ⟨L2, hL2⟩ : ∃ L2, L2 = Sl + O := ⟨_, rfl⟩
        have hL3 : L2 = (min (k + 1) T) * O := by rw [hL2, hSl, show min k T = k by omega, show min (k + 1) T = k + 1 by omega, Nat.add_mul, Nat.one_mul]
        have hLb : L2 ≤ 1000 * (1073741824 * 9223372036854775807) := by rw [hL3]; exact Nat.mul_le_mul (by omega) hOb
        have A2 := Lib.hid (fun W => num_AddM Sl O L2 W hL2 (by omega))
        have HL3 := Lib.hid hL3
        have dkT : (k : Int) < (T : Int) := by omega
        clear hS hSl hS2 hS3 hL2 hL3 hSb hLb
        go_wp2_with (first | (refine Blk.load rfl 146 (.tmp 9) rfl (go + 1) _ _ _ rfl (PS.out) Try.underlying146 rfl (info_num _) ?_) | (refine Blk.load rfl 146 (.tmp 8) rfl go _ _ _ rfl (PO.out) Try.underlying146 rfl (info_num _) ?_) | (go_at_call 110; (with_reducible refine (A1.out _).mono ?_); rintro e v4 ⟨rfl, hb4⟩) | (refine wpList_store_row rfl 146 (.tmp 9) _ rfl (go + 1) _ _ (bitsA _) rfl rfl (PS.out.call hb4) (by rw [bitsA_size, bitsA_size]) (info_num _) (bitsA_one _) ?_; intro u5 hu5 hw5; have Q0 := Lib.hid ((P0.out.call hb4).grown hw5 (by simp; omega)); have QH := Lib.hid ((PH.out.call hb4).grown hw5 (by simp; omega)); have QO := Lib.hid ((PO.out.call hb4).grown hw5 (by simp <;> omega)); have QL := Lib.hid ((PL.out.call hb4).grown hw5 (by simp <;> omega)); have QS := Lib.hid hu5; have e6 := PB.out.trans (hb4.mono PB.out.size); have QB := Lib.hid (e6.trans (Only.below hw5 (by omega) e6.size)); have ct5 := Q0.out.cellv (i := 3) (v := .int .i64 (T : Int)) rfl; clear e6 hu5 hw5) | (refine Blk.load rfl 146 (.tmp 10) rfl (go + 1 + 1) _ _ _ rfl (QL.out) Try.underlying146 rfl (info_num _) ?_) | (refine Blk.load rfl 146 (.tmp 8) rfl go _ _ _ rfl (QO.out) Try.underlying146 rfl (info_num _) ?_) | (go_at_call 110; (with_reducible refine (A2.out _).mono ?_); rintro e v6 ⟨rfl, hb6⟩) | (refine wpList_store_row rfl 146 (.tmp 10) _ rfl (go + 1 + 1) _ _ (bitsA _) rfl rfl (QL.out.call hb6) (by rw [bitsA_size, bitsA_size]) (info_num _) (bitsA_one _) ?_; intro u7 hu7 hw7))
        go_roundw
        case rel =>
          have e8 := QB.out.trans (hb6.mono QB.out.size)
          exact ⟨k + 1, S2, L2, by omega, by go_num, HS3.out, HL3.out, (Q0.out.call hb6).grown hw7 (by simp; omega), (QH.out.call hb6).grown hw7 (by simp; omega), (QO.out.call hb6).grown hw7 (by simp <;> omega), (QS.out.call hb6).grown hw7 (by simp <;> omega), hu7, e8.trans (Only.below hw7 (by omega) e8.size)⟩
        case measure => simp [intOf]; omega
      · have hL3 : Sl = (min (k + 1) T) * O := by rw [hSl, show min k T = T by omega, show min (k + 1) T = T by omega]
        have HL3 := Lib.hid hL3
        have dkT : decide ((k : Int) < (T : Int)) = false := by simp; omega
        have dkT2 : decide (k < T) = false := by simp; omega
        clear hS hSl hS2 hS3 hL3 hSb hkT
        go_wp2_with (first | (refine Blk.load rfl 146 (.tmp 9) rfl (go + 1) _ _ _ rfl (PS.out) Try.underlying146 rfl (info_num _) ?_) | (refine Blk.load rfl 146 (.tmp 8) rfl go _ _ _ rfl (PO.out) Try.underlying146 rfl (info_num _) ?_) | (go_at_call 110; (with_reducible refine (A1.out _).mono ?_); rintro e v4 ⟨rfl, hb4⟩) | (refine wpList_store_row rfl 146 (.tmp 9) _ rfl (go + 1) _ _ (bitsA _) rfl rfl (PS.out.call hb4) (by rw [bitsA_size, bitsA_size]) (info_num _) (bitsA_one _) ?_; intro u5 hu5 hw5; have Q0 := Lib.hid ((P0.out.call hb4).grown hw5 (by simp; omega)); have ct5 := Q0.out.cellv (i := 3) (v := .int .i64 (T : Int)) rfl))
        go_roundw
        case rel =>
          have e6 := PB.out.trans (hb4.mono PB.out.size)
          exact ⟨k + 1, S2, Sl, by omega, by go_num, HS3.out, HL3.out, Q0.out, (PH.out.call hb4).grown hw5 (by simp; omega), (PO.out.call hb4).grown hw5 (by simp <;> omega), hu5, (PL.out.call hb4).grown hw5 (by simp <;> omega), e6.trans (Only.below hw5 (by omega) e6.size)⟩
        case measure => simp [intOf]; omega
    · obtain rfl : k = 1000 := by omega
      rw [show min 1000 T = T by omega] at hSl
      subst hS hSl
      have hSb : 1000 * O ≤ 1000 * (1073741824 * 9223372036854775807) := Nat.mul_le_mul (by omega) hOb
      obtain ⟨S, hS⟩ : ∃ S, S = 1000 * O := ⟨_, rfl⟩
      obtain ⟨Sl, hSl⟩ : ∃ Sl, Sl = T * O := ⟨_, rfl⟩
      rw [← hS] at PS HQ hSb
      rw [← hSl] at PL HQ hTO
      obtain ⟨U, hU⟩ : ∃ U, U = S + Sl := ⟨_, rfl⟩
      obtain ⟨D, hD⟩ : ∃ D, D = H + Sl := ⟨_, rfl⟩
      have A1 := Lib.hid (fun W => num_AddM S Sl U W hU (by omega))
      have A2 := Lib.hid (fun W => num_AddM H Sl D W hD (by omega))
      have C1 := Lib.hid (fun W => num_Cmp H U W (by omega) (by omega))
      have C2 := Lib.hid (fun W => num_Cmp S D W (by omega) (by omega))
      rw [← hU, ← hD] at HQ
      have c1 := cmpN_le H U
      have c2 := Lib.hid (cmpN_le S D)
      clear hS hSl hU hD hSb hTO hHb
      by_cases hle : H ≤ U
      · have dc : decide (cmpN H U ≤ 0) = true := by rw [c1]; exact decide_eq_true hle
        have HLE := Lib.hid (decide_eq_true hle)
        clear c1 hle
        go_wp2_with (first | (refine Blk.load rfl 146 (.tmp 9) rfl (go + 1) _ _ _ rfl (PS.out) Try.underlying146 rfl (info_num _) ?_) | (refine Blk.load rfl 146 (.tmp 10) rfl (go + 1 + 1) _ _ _ rfl (PL.out) Try.underlying146 rfl (info_num _) ?_) | (go_at_call 110; (with_reducible refine (A1.out _).mono ?_); rintro e v4 ⟨rfl, hb4⟩) | (refine wpList_store_fresh rfl 146 _ _ rfl _ _ _ (bitsA _) rfl rfl rfl (by rw [bitsA_size]; kernel_rfl) (info_num _) (bitsA_one _) ?_) | (refine Blk.load rfl 146 (.tmp 7) rfl gh _ _ _ rfl ((PH.out.call hb4).alloc _) Try.underlying146 rfl (info_num _) ?_) | (refine Blk.load rfl 146 (.tmp 10) rfl (go + 1 + 1) _ _ _ rfl ((PL.out.call hb4).alloc _) Try.underlying146 rfl (info_num _) ?_) | (go_at_call 110; (with_reducible refine (A2.out _).mono ?_); rintro e v6 ⟨rfl, hb6⟩) | (refine Blk.load rfl 146 (.tmp 7) rfl gh _ _ _ rfl ((((PH.out.call hb4).alloc _).call hb6).alloc _) Try.underlying146 rfl (info_num _) ?_) | (refine Blk.load rfl 146 (.tmp 12) rfl v4.heap.size _ _ _ rfl (((Blk.new v4 _ _).call hb6).alloc _) Try.underlying146 rfl (info_num _) ?_) | (go_at_call 111; (with_reducible refine (C1.out _).mono ?_); rintro e v8 ⟨rfl, hb8⟩))
        refine Blk.loadG2 146 (.tmp 9) rfl (go + 1) _ _ _ rfl (((((PS.out.call hb4).alloc _).call hb6).alloc _).call hb8) Try.underlying146 rfl (info_num _) ?_
        go_wp2_with fail
        refine Blk.loadG2 146 (.tmp 14) rfl v6.heap.size _ _ _ rfl ((Blk.new v6 _ _).call hb8) Try.underlying146 rfl (info_num _) ?_
        go_wp2_with (go_at_call 111; (with_reducible refine (C2.out _).mono ?_); rintro e v9 ⟨rfl, hb9⟩)
        go_ret
        have e4 := PB.out.trans (hb4.mono PB.out.size)
        have e5 := e4.alloc e4.size (.cells (bitsA U) 146)
        have e6 := e5.trans (hb6.mono e5.size)
        have e7 := e6.alloc e6.size (.cells (bitsA D) 146)
        have e8 := e7.trans (hb8.mono e7.size)
        exact ⟨ret_bool (by rw [HQ.out, ← c2.out, HLE.out]; simp), e8.trans (hb9.mono e8.size)⟩
      · have dc : decide (cmpN H U ≤ 0) = false := by rw [c1]; exact decide_eq_false hle
        have HLE := Lib.hid (decide_eq_false hle)
        clear c1 hle
        go_wp2_with (first | (refine Blk.load rfl 146 (.tmp 9) rfl (go + 1) _ _ _ rfl (PS.out) Try.underlying146 rfl (info_num _) ?_) | (refine Blk.load rfl 146 (.tmp 10) rfl (go + 1 + 1) _ _ _ rfl (PL.out) Try.underlying146 rfl (info_num _) ?_) | (go_at_call 110; (with_reducible refine (A1.out _).mono ?_); rintro e v4 ⟨rfl, hb4⟩) | (refine wpList_store_fresh rfl 146 _ _ rfl _ _ _ (bitsA _) rfl rfl rfl (by rw [bitsA_size]; kernel_rfl) (info_num _) (bitsA_one _) ?_) | (refine Blk.load rfl 146 (.tmp 7) rfl gh _ _ _ rfl ((PH.out.call hb4).alloc _) Try.underlying146 rfl (info_num _) ?_) | (refine Blk.load rfl 146 (.tmp 10) rfl (go + 1 + 1) _ _ _ rfl ((PL.out.call hb4).alloc _) Try.underlying146 rfl (info_num _) ?_) | (go_at_call 110; (with_reducible refine (A2.out _).mono ?_); rintro e v6 ⟨rfl, hb6⟩) | (refine Blk.load rfl 146 (.tmp 7) rfl gh _ _ _ rfl ((((PH.out.call hb4).alloc _).call hb6).alloc _) Try.underlying146 rfl (info_num _) ?_) | (refine Blk.load rfl 146 (.tmp 12) rfl v4.heap.size _ _ _ rfl (((Blk.new v4 _ _).call hb6).alloc _) Try.underlying146 rfl (info_num _) ?_) | (go_at_call 111; (with_reducible refine (C1.out _).mono ?_); rintro e v8 ⟨rfl, hb8⟩))
        go_ret
        have e4 := PB.out.trans (hb4.mono PB.out.size)
        have e5 := e4.alloc e4.size (.cells (bitsA U) 146)
        have e6 := e5.trans (hb6.mono e5.size)
        have e7 := e6.alloc e6.size (.cells (bitsA D) 146)
        have e8 := e7.trans (hb8.mono e7.size)
        exact ⟨ret_bool (by rw [HQ.out, HLE.out]; rfl), e8⟩
theorem ref_Near (p : Pol) (load now : Int) (w : World) (hp : p.fit) (hn : I64 load) :
    Calls Try.prog 80 #[(.agg #[.int .i64 p.min, .int .i64 p.max, .int .i64 p.target, .int .i64 p.tol, .int .i64 p.window, .int .i64 p.hold]), .int .i64 load, .int .i64 now] w fun e w' => e = .returned (.bool (nearq p load now)) ∧ Below w.heap.size w w' := by
  by_cases h : p.okP ∧ 1 ≤ now ∧ now ≤ 1073741824
  · exact ref_Near_ok p load now w hp hn h.1 h.2.1 h.2.2
  · exact ref_Near_no p load now w h
def openq (p : Pol) (load now : Int) : Int := if nearq p load now then now else wantq p load
theorem ref_Open (p : Pol) (load now : Int) (w : World) (hp : p.fit) (hn : I64 load) :
    Calls Try.prog 52 #[(.agg #[.int .i64 p.min, .int .i64 p.max, .int .i64 p.target, .int .i64 p.tol, .int .i64 p.window, .int .i64 p.hold]), .int .i64 load, .int .i64 now] w fun e w' => e = .returned (.int .i64 (openq p load now)) ∧ Below w.heap.size w w' := by
  cases h : nearq p load now
  · have HQ := Lib.hid (show openq p load now = wantq p load by unfold openq; rw [h]; rfl)
    go_enter Try.func52, Try.ntmps52
    go_wp2_with (first | (go_at_call 80; refine (ref_Near p load now _ hp hn).mono ?_; rw [h]; rintro e v1 ⟨rfl, hb1⟩; obtain ⟨hc1, hf1⟩ := bcell hb1; have hs1 := hb1.size; simp only [World.size_alloc] at hs1) | (go_at_call 81; refine (ref_Want p load _ hp hn).mono ?_; rintro e v2 ⟨rfl, hb2⟩))
    go_ret
    have e1 : Below w.heap.size w v1 := Below.trans (by go_grown) (hb1.mono (by simp))
    exact ⟨ret_int HQ.out.symm, e1.trans (hb2.mono e1.size)⟩
  · have HQ := Lib.hid (show openq p load now = now by unfold openq; rw [h]; rfl)
    go_enter Try.func52, Try.ntmps52
    go_wp2_with (first | (go_at_call 80; refine (ref_Near p load now _ hp hn).mono ?_; rw [h]; rintro e v1 ⟨rfl, hb1⟩))
    go_ret
    exact ⟨ret_int HQ.out.symm, Below.trans (by go_grown) (hb1.mono (by simp))⟩
end Go.Proofs.Ytjodpffdlggjgaa
/- decide.Of and the reference's. -/
namespace Go.Proofs.Ytjodpffdlggjgaa
open Go.RowKit
set_option linter.unusedSimpArgs false
set_option linter.unusedVariables false
set_option maxHeartbeats 8000000
set_option maxRecDepth 100000
/-- What is decided, where the policy may be and there are samples. -/
def decq (p : Pol) (l : List Smp) (past : List Adv) : Adv :=
  let tick := latestq l
  let load := meanq (valq (cutq l (fromq tick p.window) tick))
  let now := nowq p past
  let op := openq p load now
  let want := boundq p op
  let th := boundq p (steadyq p tick want past).1
  ⟨tick, load, want, th, whyq p (steadyq p tick want past).2 op now th⟩
def zAdv : Adv := ⟨0, 0, 0, 0, 0⟩
def ofq (p : Pol) (l : List Smp) (past : List Adv) : Adv := if ¬ p.okP then zAdv else if l.length = 0 then zAdv else decq p l past
def ofe (p : Pol) (l : List Smp) : Int := if ¬ p.okP then 7 else if l.length = 0 then 5 else 0
theorem statq_mean (l : List Smp) : (statq l).mean = meanq (valq l) := by
  unfold statq
  split
  · rename_i h
    rw [List.eq_nil_of_length_eq_zero h]; rfl
  · rfl
theorem latestq_I64 {l : List Smp} (hg : ∀ x ∈ l, x.good) : I64 (latestq l) := by
  unfold latestq
  cases l with
  | nil => unfold maxq I64; simp
  | cons a l =>
    show I64 ((l.map Smp.tick).foldl max a.tick)
    have key : ∀ (l : List Smp), (∀ x ∈ l, x.good) → ∀ m, I64 m → I64 ((l.map Smp.tick).foldl max m) := by
      intro l
      induction l with
      | nil => intro _ m hm; exact hm
      | cons x l ih =>
        intro hx m hm
        refine ih (fun y hy => hx y (by simp [hy])) _ ?_
        have := (hx x (by simp)).1
        unfold I64 at *
        omega
    exact key l (fun x hx => hg x (by simp [hx])) _ (hg a (by simp)).1
theorem boundq_I64 (p : Pol) (n : Int) (hp : p.fit) (hn : I64 n) : I64 (boundq p n) := by
  unfold boundq clampq
  have h1 := hp.1
  have h2 := hp.2.1
  unfold I64 at *
  split
  · split
    · omega
    · split <;> omega
  · omega
theorem ofq_nil {p : Pol} {l : List Smp} {past : List Adv} (hk : p.okP) (h : l.length = 0) : ofq p l past = zAdv ∧ ofe p l = 5 := by
  unfold ofq ofe
  exact ⟨by rw [if_neg (not_not_intro hk), if_pos h], by rw [if_neg (not_not_intro hk), if_pos h]⟩
theorem ofq_ok {p : Pol} {l : List Smp} {past : List Adv} (hk : p.okP) (h : l.length ≠ 0) : ofq p l past = decq p l past ∧ ofe p l = 0 := by
  unfold ofq ofe
  exact ⟨by rw [if_neg (not_not_intro hk), if_neg h], by rw [if_neg (not_not_intro hk), if_neg h]⟩
theorem ofq_no {p : Pol} {l : List Smp} {past : List Adv} (hk : ¬ p.okP) : ofq p l past = zAdv ∧ ofe p l = 7 := by
  unfold ofq ofe
  exact ⟨if_pos hk, if_pos hk⟩
theorem raw_open2 (p : Pol) (load now : Int) : rawq p load now = boundq p (openq p load now) := by
  unfold rawq openq; split <;> rfl
abbrev z28 : Array Value := #[.int .i64 0, .int .i64 0, .int .i64 0, .int .i64 0, .int .i64 0]
def DI (w wr : World) (p : Pol) : Prop := Blk wr w.heap.size 23 p.row ∧ Blk wr (w.heap.size + 1) 26 z28 ∧ Below w.heap.size w wr
theorem DI.call {w wr w' : World} {p : Pol} (h : DI w wr p) (hb : Below wr.heap.size wr w') : DI w w' p := ⟨h.1.call hb, h.2.1.call hb, h.2.2.trans (hb.mono h.2.2.size)⟩
theorem DI.start (w : World) (p : Pol) : DI w ((w.alloc (.cells p.row 23)).alloc (.cells z28 26)) p :=
  ⟨(Blk.new w _ _).alloc _, Blk.new2 w _ _ _, by go_grown⟩
end Go.Proofs.Ytjodpffdlggjgaa
/- Decisions made sample by sample: what they are; what the call keeps. -/
namespace Go.Proofs.Ytjodpffdlggjgaa
open Go.RowKit
set_option linter.unusedSimpArgs false
set_option linter.unusedVariables false
structure Fst where
  smps : List Smp
  past : List Adv
  out : List Adv
def fstep (p : Pol) (sm rm : Int) (st : Fst) (x : Smp) : Fst :=
  if errr sm x = 0 then
    if ofe p (putr st.smps sm x) = 0 then ⟨putr st.smps sm x, hush st.past rm (ofq p (putr st.smps sm x) st.past), if 1 ≤ rm ∧ rm ≤ 64 then st.out ++ [ofq p (putr st.smps sm x) st.past] else st.out⟩
    else ⟨putr st.smps sm x, st.past, st.out⟩
  else st
def folq (p : Pol) (sm rm : Int) (l : List Smp) : Fst := l.foldl (fstep p sm rm) ⟨[], [], []⟩
theorem folq_next (p : Pol) (sm rm : Int) {l : List Smp} {k : Nat} {x : Smp} (h : l[k]? = some x) : folq p sm rm (l.take (k + 1)) = fstep p sm rm (folq p sm rm (l.take k)) x := by
  unfold folq; rw [take_snoc2 h, List.foldl_append]; rfl
theorem fstep_no {p : Pol} {sm rm : Int} {st : Fst} {x : Smp} (h : errr sm x ≠ 0) : fstep p sm rm st x = st := if_neg h
theorem putr_no {l : List Smp} {sm : Int} {x : Smp} (h : errr sm x ≠ 0) : putr l sm x = l := by
  unfold putr
  split
  · rename_i hg
    unfold errr at h
    unfold putv
    split
    · rename_i h0
      rw [if_pos h0, if_pos hg] at h
      exact absurd rfl h
    · rfl
  · rfl
theorem len_putr (l : List Smp) (sm : Int) (x : Smp) : (putr l sm x).length ≤ l.length + 1 := by
  unfold putr putv putq
  split
  · split
    · split
      · rw [List.length_drop]; have := len_putL l x; omega
      · exact len_putL l x
    · omega
  · omega
theorem good_putr {l : List Smp} (h : ∀ y ∈ l, y.good) {x : Smp} (hx : x.good) (sm : Int) : ∀ y ∈ putr l sm x, y.good := by
  unfold putr
  split
  · exact good_putv h hx _
  · exact h
theorem fstep_smps (p : Pol) (sm rm : Int) (st : Fst) (x : Smp) : (fstep p sm rm st x).smps = putr st.smps sm x := by
  unfold fstep
  split
  · split <;> rfl
  · rename_i h; exact (putr_no h).symm
/-- What holds of all states along the way. -/
theorem folq_all (P : Nat → Fst → Prop) (p : Pol) (sm rm : Int) (l : List Smp) (h0 : P 0 ⟨[], [], []⟩) (hs : ∀ n st x, x ∈ l → P n st → P (n + 1) (fstep p sm rm st x)) : ∀ k, k ≤ l.length → P k (folq p sm rm (l.take k)) := by
  intro k
  induction k with
  | zero => intro _; exact h0
  | succ k ih =>
    intro hk
    have hx : l[k]? = some l[k] := List.getElem?_eq_getElem (by omega)
    rw [folq_next p sm rm hx]
    exact hs k _ _ (List.getElem_mem _) (ih (by omega))
theorem folq_len (p : Pol) (sm rm : Int) (l : List Smp) (k : Nat) (hk : k ≤ l.length) : (folq p sm rm (l.take k)).smps.length ≤ k ∧ (folq p sm rm (l.take k)).out.length ≤ k := by
  refine folq_all (fun n st => st.smps.length ≤ n ∧ st.out.length ≤ n) p sm rm l ⟨Nat.le_refl _, Nat.le_refl _⟩ (fun n st x _ h => ⟨?_, ?_⟩) k hk
  · rw [fstep_smps]; have := len_putr st.smps sm x; omega
  · unfold fstep
    split
    · split
      · dsimp only
        split
        · rw [List.length_append]; simp; omega
        · omega
      · dsimp only; omega
    · omega
theorem folq_good (p : Pol) (sm rm : Int) (l : List Smp) (hg : ∀ x ∈ l, x.good) (k : Nat) (hk : k ≤ l.length) : ∀ x ∈ (folq p sm rm (l.take k)).smps, x.good :=
  folq_all (fun n st => ∀ x ∈ st.smps, x.good) p sm rm l (fun x hx => by cases hx) (fun n st x hx h => by rw [fstep_smps]; exact good_putr h (hg x hx) sm) k hk
theorem folq_bad (p : Pol) (sm rm : Int) (l : List Smp) (hb : ¬ goodS sm ∨ ¬ (1 ≤ rm ∧ rm ≤ 64)) : (folq p sm rm l).out = [] := by
  have h := folq_all (fun n st => st.out = []) p sm rm l rfl (fun n st x _ h => by
    unfold fstep
    split
    · rename_i he
      split
      · dsimp only
        rw [if_neg]
        · exact h
        · rcases hb with hb | hb
          · unfold errr at he; rw [if_neg hb] at he
            split at he
            · cases he
            · rename_i h1; exact absurd he h1
          · exact hb
      · exact h
    · exact h) l.length (Nat.le_refl _)
  rwa [List.take_length] at h
/-- A series, a history and a list of the call's own, each by itself. -/
def FolIn (w1 wr : World) (ps ph : Option Addr) (v : Value) (st : Fst) (sm rm : Int) : Prop :=
  ∃ FS FH, SerV wr ps FS st.smps sm ∧ HistAt wr ph FH st.past rm ∧ OwnA wr w1.heap.size v st.out ∧ (∀ k, FS k → w1.heap.size ≤ k ∧ ¬ FH k ∧ v.ownBlock ≠ some k) ∧ (∀ k, FH k → w1.heap.size ≤ k ∧ v.ownBlock ≠ some k) ∧ Below w1.heap.size w1 wr ∧ w1.heap.size ≤ wr.heap.size
theorem FolIn.call {w1 wr w' : World} {ps ph : Option Addr} {v : Value} {st : Fst} {sm rm : Int} (h : FolIn w1 wr ps ph v st sm rm) (hb : Below wr.heap.size wr w') : FolIn w1 w' ps ph v st sm rm := by
  obtain ⟨FS, FH, h1, h2, h3, h4, h5, h6, h7⟩ := h
  exact ⟨FS, FH, h1.call hb, h2.call hb, h3.call hb, h4, h5, h6.trans (hb.mono h7), Nat.le_trans h7 hb.size⟩
theorem FolIn.ser {w1 wr : World} {ps ph : Option Addr} {v : Value} {st : Fst} {sm rm : Int} (h : FolIn w1 wr ps ph v st sm rm) : ∃ F, SerV wr ps F st.smps sm ∧ ∀ x e w', PutV ps F st.smps sm x wr e w' → e = .returned (.int .i64 (errr sm x)) ∧ FolIn w1 w' ps ph v ⟨putr st.smps sm x, st.past, st.out⟩ sm rm := by
  obtain ⟨FS, FH, h1, h2, h3, h4, h5, h6, h7⟩ := h
  refine ⟨FS, h1, ?_⟩
  rintro x e w' ⟨F', rfl, k1, k2, k3⟩
  have hlt := World.ownsRow.lt h3
  refine ⟨rfl, F', FH, k1, h2.upd k2 (fun k hk hs => (h4 k hs).2.1 hk), h3.upd k2 (fun k hk hs => (h4 k hs).2.2 hk), ?_, h5, h6.trans (k2.below (fun k hk => (h4 k hk).1) h7), Nat.le_trans h7 k2.size⟩
  intro k hk
  rcases k3 k hk with hk | hk
  · exact h4 k hk
  · exact ⟨Nat.le_trans h7 hk, fun hf => by have := h2.2 k hf; omega, fun hv => by have := (hlt k hv).2; omega⟩
theorem FolIn.hist {w1 wr : World} {ps ph : Option Addr} {v : Value} {st : Fst} {sm rm : Int} (h : FolIn w1 wr ps ph v st sm rm) : ∃ F, HistAt wr ph F st.past rm ∧ ∀ x e w', AddPost ph F st.past rm x wr e w' → e = .returned (.bool (decide (1 ≤ rm ∧ rm ≤ 64))) ∧ FolIn w1 w' ps ph v ⟨st.smps, hush st.past rm x, st.out⟩ sm rm := by
  obtain ⟨FS, FH, h1, h2, h3, h4, h5, h6, h7⟩ := h
  refine ⟨FH, h2, ?_⟩
  rintro x e w' ⟨F', rfl, k1, k2, k3⟩
  have hlt := World.ownsRow.lt h3
  refine ⟨rfl, FS, F', h1.upd k2 (fun k hk hs => (h4 k hk).2.1 hs), k1, h3.upd k2 (fun k hk hs => (h5 k hs).2 hk), ?_, ?_, h6.trans (k2.below (fun k hk => (h5 k hk).1) h7), Nat.le_trans h7 k2.size⟩
  · intro k hk
    refine ⟨(h4 k hk).1, fun hf => ?_, (h4 k hk).2.2⟩
    rcases k3 k hf with hf | hf
    · exact (h4 k hk).2.1 hf
    · have := h1.2 k hk; omega
  · intro k hk
    rcases k3 k hk with hk | hk
    · exact h5 k hk
    · exact ⟨Nat.le_trans h7 hk, fun hv => by have := (hlt k hv).2; omega⟩
theorem FolIn.hist2 {w1 wr : World} {ps ph : Option Addr} {v : Value} {st : Fst} {sm rm : Int} (h : FolIn w1 wr ps ph v st sm rm) : ∃ F, (∀ k, F k → k < wr.heap.size) ∧ ∀ wS, Below wr.heap.size wr wS → HistAt wS ph F st.past rm ∧ ∀ x e w', AddPost ph F st.past rm x wS e w' → e = .returned (.bool (decide (1 ≤ rm ∧ rm ≤ 64))) ∧ FolIn w1 w' ps ph v ⟨st.smps, hush st.past rm x, st.out⟩ sm rm ∧ Upd F wS w' := by
  obtain ⟨FS, FH, h1, h2, h3, h4, h5, h6, h7⟩ := h
  refine ⟨FH, h2.2, fun wS hb => ⟨h2.call hb, ?_⟩⟩
  rintro x e w' ⟨F', rfl, k1, k2, k3⟩
  have h3' := h3.call hb
  have h1' := h1.call hb
  have h7' := Nat.le_trans h7 hb.size
  have hlt := World.ownsRow.lt h3'
  refine ⟨rfl, ⟨FS, F', h1'.upd k2 (fun k hk hs => (h4 k hk).2.1 hs), k1, h3'.upd k2 (fun k hk hs => (h5 k hs).2 hk), ?_, ?_, (h6.trans (hb.mono h7)).trans (k2.below (fun k hk => (h5 k hk).1) h7'), Nat.le_trans h7' k2.size⟩, k2⟩
  · intro k hk
    refine ⟨(h4 k hk).1, fun hf => ?_, (h4 k hk).2.2⟩
    rcases k3 k hf with hf | hf
    · exact (h4 k hk).2.1 hf
    · have := h1'.2 k hk; omega
  · intro k hk
    rcases k3 k hk with hk | hk
    · exact h5 k hk
    · exact ⟨Nat.le_trans h7' hk, fun hv => by have := (hlt k hv).2; omega⟩
theorem FolIn.ser2 {w1 wr : World} {ps ph : Option Addr} {v : Value} {st : Fst} {sm rm : Int} (h : FolIn w1 wr ps ph v st sm rm) : ∃ FS FH, SerV wr ps FS st.smps sm ∧ HistAt wr ph FH st.past rm := by
  obtain ⟨FS, FH, h1, h2, h3, h4, h5, h6, h7⟩ := h; exact ⟨FS, FH, h1, h2⟩
theorem fstep_ok {p : Pol} {sm rm : Int} {st : Fst} {x : Smp} (h : errr sm x = 0) (h2 : ofe p (putr st.smps sm x) = 0) (h3 : 1 ≤ rm ∧ rm ≤ 64) : fstep p sm rm st x = ⟨putr st.smps sm x, hush st.past rm (ofq p (putr st.smps sm x) st.past), st.out ++ [ofq p (putr st.smps sm x) st.past]⟩ := by
  unfold fstep; rw [if_pos h, if_pos h2, if_pos h3]
theorem fstep_full {p : Pol} {sm rm : Int} {st : Fst} {x : Smp} (h : errr sm x = 0) (h2 : ofe p (putr st.smps sm x) = 0) (h3 : ¬ (1 ≤ rm ∧ rm ≤ 64)) : fstep p sm rm st x = ⟨putr st.smps sm x, hush st.past rm (ofq p (putr st.smps sm x) st.past), st.out⟩ := by
  unfold fstep; rw [if_pos h, if_pos h2, if_neg h3]
theorem fstep_skip {p : Pol} {sm rm : Int} {st : Fst} {x : Smp} (h : errr sm x = 0) (h2 : ofe p (putr st.smps sm x) ≠ 0) : fstep p sm rm st x = ⟨putr st.smps sm x, st.past, st.out⟩ := by
  unfold fstep; rw [if_pos h, if_neg h2]
theorem FolIn.push {w1 wr w' : World} {ps ph : Option Addr} {v v' : Value} {st : Fst} {sm rm : Int} {a : Adv} (h : FolIn w1 wr ps ph v st sm rm) (ho : OwnA w' w1.heap.size v' (st.out ++ [a])) (hu : Upd (fun k => v.ownBlock = some k) wr w') (hw : v'.ownBlock = v.ownBlock ∨ v'.ownBlock = some wr.heap.size) : FolIn w1 w' ps ph v' ⟨st.smps, st.past, st.out ++ [a]⟩ sm rm := by
  obtain ⟨FS, FH, h1, h2, h3, h4, h5, h6, h7⟩ := h
  have hlt := World.ownsRow.lt h3
  refine ⟨FS, FH, h1.upd hu (fun k hk hs => (h4 k hk).2.2 hs), h2.upd hu (fun k hk hs => (h5 k hk).2 hs), ho, fun k hk => ⟨(h4 k hk).1, (h4 k hk).2.1, fun e => ?_⟩, fun k hk => ⟨(h5 k hk).1, fun e => ?_⟩, h6.trans (hu.below (fun k hk => (hlt k hk).1) h7), Nat.le_trans h7 hu.size⟩
  · rcases hw with hw | hw
    · exact (h4 k hk).2.2 (hw.symm.trans e)
    · rw [hw] at e; injection e with e; have := h1.2 k hk; omega
  · rcases hw with hw | hw
    · exact (h5 k hk).2 (hw.symm.trans e)
    · rw [hw] at e; injection e with e; have := h2.2 k hk; omega
theorem FolIn.own {w1 wr : World} {ps ph : Option Addr} {v : Value} {st : Fst} {sm rm : Int} (h : FolIn w1 wr ps ph v st sm rm) : OwnA wr w1.heap.size v st.out := by
  obtain ⟨FS, FH, h1, h2, h3, h4, h5, h6, h7⟩ := h; exact h3
theorem FolIn.bel {w1 wr : World} {ps ph : Option Addr} {v : Value} {st : Fst} {sm rm : Int} (h : FolIn w1 wr ps ph v st sm rm) : Below w1.heap.size w1 wr := by
  obtain ⟨FS, FH, h1, h2, h3, h4, h5, h6, h7⟩ := h; exact h6
theorem FolIn.size {w1 wr : World} {ps ph : Option Addr} {v : Value} {st : Fst} {sm rm : Int} (h : FolIn w1 wr ps ph v st sm rm) : w1.heap.size ≤ wr.heap.size := by
  obtain ⟨FS, FH, h1, h2, h3, h4, h5, h6, h7⟩ := h; exact h7
theorem FolIn.start {w1 v1 v2 : World} {ps ph : Option Addr} {sm rm : Int} {FS FH : Nat → Prop} (h1 : SerV v1 ps FS [] sm) (h2 : ∀ k, FS k → w1.heap.size ≤ k) (h3 : Below w1.heap.size w1 v1) (h4 : HistAt v2 ph FH [] rm) (h5 : ∀ k, FH k → v1.heap.size ≤ k) (h6 : Below v1.heap.size v1 v2) : FolIn w1 v2 ps ph (.slice none 0 0) ⟨[], [], []⟩ sm rm :=
  ⟨FS, FH, h1.call h6, h4, Own.nil _ _ _ _ _, fun k hk => ⟨h2 k hk, fun hf => by have := h5 k hf; have := h1.2 k hk; omega, by simp [Value.ownBlock]⟩, fun k hk => ⟨Nat.le_trans h3.size (h5 k hk), by simp [Value.ownBlock]⟩, h3.trans (h6.mono h3.size), Nat.le_trans h3.size h6.size⟩
end Go.Proofs.Ytjodpffdlggjgaa
/- Package audit and its reference: which rule a decision breaks. (fast region) -/
namespace Go.Proofs.Ytjodpffdlggjgaa
open Go.RowKit
set_option linter.unusedSimpArgs false
set_option linter.unusedVariables false
set_option maxHeartbeats 4000000
set_option maxRecDepth 100000
def whyOk (a : Adv) (now : Int) : Bool := if a.why = 2 then decide (now < a.repl) else if a.why = 3 then decide (a.repl < now) else if a.why = 1 then a.repl == now else true
def polHas (p : Pol) (n : Int) : Bool := decide (p.okP ∧ p.min ≤ n ∧ n ≤ p.max)
def ruleq (p : Pol) (past : List Adv) (a : Adv) : Int :=
  if a.why < 1 then 1 else if 6 < a.why then 1 else if polHas p a.repl = false then 2 else if a.want ≠ rawq p a.load (nowq p past) then 3
  else if a.repl ≠ boundq p (steadyq p a.tick a.want past).1 then 4 else if (steadyq p a.tick a.want past).2 ≠ decide (a.why = 4) then 4
  else if whyOk a (nowq p past) = false then 5 else 0
abbrev Adv.row (a : Adv) : Array Value := #[.int .i64 a.tick, .int .i64 a.load, .int .i64 a.want, .int .i64 a.repl, .int .i64 a.why]
def DA (w wr : World) (p : Pol) (a : Adv) : Prop := Blk wr w.heap.size 23 p.row ∧ Blk wr (w.heap.size + 1) 26 a.row ∧ Below w.heap.size w wr
theorem DA.call {w wr w' : World} {p : Pol} {a : Adv} (h : DA w wr p a) (hb : Below wr.heap.size wr w') : DA w w' p a := ⟨h.1.call hb, h.2.1.call hb, h.2.2.trans (hb.mono h.2.2.size)⟩
theorem DA.start (w : World) (p : Pol) (a : Adv) : DA w ((w.alloc (.cells p.row 23)).alloc (.cells a.row 26)) p a :=
  ⟨(Blk.new w _ _).alloc _, Blk.new2 w _ _ _, by go_grown⟩
theorem DA.cells {w wr : World} {p : Pol} {a : Adv} (h : DA w wr p a) : wr.cell? ⟨w.heap.size + 1, 0, none⟩ = some (.int .i64 a.tick) ∧ wr.cell? ⟨w.heap.size + 1, 1, none⟩ = some (.int .i64 a.load) ∧ wr.cell? ⟨w.heap.size + 1, 2, none⟩ = some (.int .i64 a.want) ∧ wr.cell? ⟨w.heap.size + 1, 3, none⟩ = some (.int .i64 a.repl) ∧ wr.cell? ⟨w.heap.size + 1, 4, none⟩ = some (.int .i64 a.why) ∧ wr.cell? ⟨w.heap.size, 0, none⟩ = some (.int .i64 p.min) ∧ wr.cell? ⟨w.heap.size, 1, none⟩ = some (.int .i64 p.max) :=
  ⟨h.2.1.cellv rfl, h.2.1.cellv rfl, h.2.1.cellv rfl, h.2.1.cellv rfl, h.2.1.cellv rfl, h.1.cellv rfl, h.1.cellv rfl⟩
theorem audit_why (p : Pol) (a : Adv) (now : Int) (w : World) :
    Calls Try.prog 48 #[(.agg #[.int .i64 p.min, .int .i64 p.max, .int .i64 p.target, .int .i64 p.tol, .int .i64 p.window, .int .i64 p.hold]), .agg a.row, .int .i64 now] w fun e w' => e = .returned (.bool (whyOk a now)) ∧ Below w.heap.size w w' := by
  have HQ := Lib.hid (show whyOk a now = if a.why = 2 then decide (now < a.repl) else if a.why = 3 then decide (a.repl < now) else if a.why = 1 then a.repl == now else true from rfl)
  by_cases k2 : a.why = 2
  · have HE := Lib.hid (show whyOk a now = decide (now < a.repl) by rw [HQ.out, if_pos k2])
    have d2 : (a.why == 2) = true := by simpa using k2
    clear k2 HQ
    go_enter Try.func48, Try.ntmps48
    go_wp2
    go_ret
    exact ⟨ret_bool HE.out.symm, by go_grown⟩
  have d2 : (a.why == 2) = false := by simpa using k2
  by_cases k3 : a.why = 3
  · have HE := Lib.hid (show whyOk a now = decide (a.repl < now) by rw [HQ.out, if_neg k2, if_pos k3])
    have d3 : (a.why == 3) = true := by simpa using k3
    clear k2 k3 HQ
    go_enter Try.func48, Try.ntmps48
    go_wp2
    go_ret
    exact ⟨ret_bool HE.out.symm, by go_grown⟩
  have d3 : (a.why == 3) = false := by simpa using k3
  by_cases k1 : a.why = 1
  · have HE := Lib.hid (show whyOk a now = (a.repl == now) by rw [HQ.out, if_neg k2, if_neg k3, if_pos k1])
    have d1 : (a.why == 1) = true := by simpa using k1
    clear k1 k2 k3 HQ
    go_enter Try.func48, Try.ntmps48
    go_wp2
    go_ret
    exact ⟨ret_bool HE.out.symm, by go_grown⟩
  · have HE := Lib.hid (show whyOk a now = true by rw [HQ.out, if_neg k2, if_neg k3, if_neg k1])
    have d1 : (a.why == 1) = false := by simpa using k1
    clear k1 k2 k3 HQ
    go_enter Try.func48, Try.ntmps48
    go_wp2
    go_ret
    exact ⟨ret_bool HE.out.symm, by go_grown⟩
theorem polHas_eq (p : Pol) (n : Int) (b : Bool) (h : b = decide p.okP) : (b && decide (p.min ≤ n) && decide (n ≤ p.max)) = polHas p n := by
  subst h; unfold polHas; rw [Bool.eq_iff_iff]; simp [and_assoc]
theorem policy_Has (p : Pol) (n : Int) (w : World) :
    Calls Try.prog 45 #[(.agg #[.int .i64 p.min, .int .i64 p.max, .int .i64 p.target, .int .i64 p.tol, .int .i64 p.window, .int .i64 p.hold]), .int .i64 n] w fun e w' => e = .returned (.bool (polHas p n)) ∧ Below w.heap.size w w' := by
  by_cases hk : p.okP
  · have HC := Lib.hid (fun W => policy_Check p W)
    rw [polErr_ok hk] at HC
    have HE := Lib.hid (polHas_eq p n true (by simp [hk]))
    clear hk
    by_cases h1 : p.min ≤ n
    · have d1 : decide (p.min ≤ n) = true := by simpa using h1
      rw [d1] at HE
      go_enter Try.func45, Try.ntmps45
      go_wp2_with fail
      refine (HC.out _).mono ?_
      rintro e v1 ⟨rfl, hb1⟩
      have B1 := (Blk.new w 23 p.row).call hb1
      have E1 := Lib.hid (Below.trans (show Below w.heap.size w (w.alloc (.cells p.row 23)) by go_grown) (hb1.mono (by simp)))
      have c0 := B1.cellv (i := 0) (v := .int .i64 p.min) rfl
      have c1 := B1.cellv (i := 1) (v := .int .i64 p.max) rfl
      clear hb1 B1
      go_wp2
      go_ret
      exact ⟨ret_bool (by rw [← HE.out]; simp), E1.out⟩
    · have d1 : decide (p.min ≤ n) = false := by simpa using h1
      rw [d1] at HE
      go_enter Try.func45, Try.ntmps45
      go_wp2_with fail
      refine (HC.out _).mono ?_
      rintro e v1 ⟨rfl, hb1⟩
      have B1 := (Blk.new w 23 p.row).call hb1
      have E1 := Lib.hid (Below.trans (show Below w.heap.size w (w.alloc (.cells p.row 23)) by go_grown) (hb1.mono (by simp)))
      have c0 := B1.cellv (i := 0) (v := .int .i64 p.min) rfl
      clear hb1 B1
      go_wp2
      go_ret
      exact ⟨ret_bool (by rw [← HE.out]; simp), E1.out⟩
  · have HC := Lib.hid (fun W => policy_Check p W)
    rw [polErr_no hk] at HC
    have HE := Lib.hid (show polHas p n = false by unfold polHas; simp [hk])
    clear hk
    go_enter Try.func45, Try.ntmps45
    go_wp2_with fail
    refine (HC.out _).mono ?_
    rintro e v1 ⟨rfl, hb1⟩
    have E1 := Lib.hid (Below.trans (show Below w.heap.size w (w.alloc (.cells p.row 23)) by go_grown) (hb1.mono (by simp)))
    clear hb1
    go_wp2
    go_ret
    exact ⟨ret_bool HE.out.symm, E1.out⟩
end Go.Proofs.Ytjodpffdlggjgaa
/- Which rules decisions break, one after the other; those that are made break none. -/
namespace Go.Proofs.Ytjodpffdlggjgaa
open Go.RowKit
set_option linter.unusedSimpArgs false
set_option linter.unusedVariables false
def pastq (room : Int) (past l : List Adv) : List Adv := l.foldl (fun q a => hush q room a) past
def ruls (p : Pol) (room : Int) : List Adv → List Adv → List Int
  | past, [] => []
  | past, a :: l => ruleq p past a :: ruls p room (hush past room a) l
theorem ruls_snoc (p : Pol) (room : Int) (l : List Adv) (x : Adv) : ∀ past, ruls p room past (l ++ [x]) = ruls p room past l ++ [ruleq p (pastq room past l) x] := by
  induction l with
  | nil => intro past; rfl
  | cons a l ih => intro past; show _ :: ruls p room _ (l ++ [x]) = _; rw [ih]; rfl
theorem pastq_snoc (room : Int) (l : List Adv) (x : Adv) (past : List Adv) : pastq room past (l ++ [x]) = hush (pastq room past l) room x := by
  unfold pastq; rw [List.foldl_append]; rfl
theorem ruls_next (p : Pol) (room : Int) {l : List Adv} {k : Nat} {x : Adv} (h : l[k]? = some x) : ruls p room [] (l.take (k + 1)) = ruls p room [] (l.take k) ++ [ruleq p (pastq room [] (l.take k)) x] ∧ pastq room [] (l.take (k + 1)) = hush (pastq room [] (l.take k)) room x := by
  rw [take_snoc2 h]; exact ⟨ruls_snoc p room _ x [], pastq_snoc room _ x []⟩
theorem ruls_len (p : Pol) (room : Int) (l : List Adv) : ∀ past, (ruls p room past l).length = l.length := by
  induction l with
  | nil => intro past; rfl
  | cons a l ih => intro past; show (_ :: ruls p room _ l).length = _; rw [List.length_cons, ih]; rfl
theorem ruls_take (p : Pol) (room : Int) (l : List Adv) (k : Nat) : ∀ past, (ruls p room past l).take k = ruls p room past (l.take k) := by
  induction l generalizing k with
  | nil => intro past; simp [ruls]
  | cons a l ih =>
    intro past
    cases k with
    | zero => rfl
    | succ k => show _ :: (ruls p room _ l).take k = _ :: ruls p room _ (l.take k); rw [ih]
theorem pastq_len (room : Int) (l : List Adv) : (pastq room [] l).length ≤ 64 := by
  have key : ∀ (l past : List Adv), past.length ≤ 64 → (pastq room past l).length ≤ 64 := by
    intro l
    induction l with
    | nil => intro past h; exact h
    | cons a l ih =>
      intro past h
      refine ih _ ?_
      show (hush past room a).length ≤ 64
      unfold hush
      split
      · unfold pushq
        split
        · rw [List.length_drop, List.length_append]; simp; omega
        · omega
      · simp
  exact key l [] (by simp)
/-- i is the place of the first number of rs that is not 0, which is r; or there is none. -/
def IsFirst (rs : List Int) (i r : Int) : Prop := (i = -1 ∧ r = 0 ∧ ∀ x ∈ rs, x = 0) ∨ ∃ k : Nat, i = k ∧ rs[k]? = some r ∧ r ≠ 0 ∧ ∀ j, j < k → rs[j]? = some 0
theorem IsFirst.zero {rs : List Int} {i r : Int} (h : IsFirst rs i r) (hz : ∀ x ∈ rs, x = 0) : i = -1 ∧ r = 0 := by
  rcases h with ⟨h1, h2, -⟩ | ⟨k, -, h2, h3, -⟩
  · exact ⟨h1, h2⟩
  · exact absurd (hz r (List.mem_of_getElem? h2)) h3
theorem IsFirst.same {rs : List Int} {i r i' r' : Int} (h : IsFirst rs i r) (h' : IsFirst rs i' r') : i = i' ∧ r = r' := by
  rcases h with ⟨rfl, rfl, hz⟩ | ⟨k, rfl, h2, h3, h4⟩
  · obtain ⟨h1, h2⟩ := h'.zero hz; exact ⟨h1.symm, h2.symm⟩
  · rcases h' with ⟨-, -, hz⟩ | ⟨k', rfl, h2', h3', h4'⟩
    · exact absurd (hz r (List.mem_of_getElem? h2)) h3
    · have : k = k' := by
        rcases Nat.lt_trichotomy k k' with hlt | he | hgt
        · have := h4' k hlt; rw [h2] at this; injection this with this; exact absurd this h3
        · exact he
        · have := h4 k' hgt; rw [h2'] at this; injection this with this; exact absurd this h3'
      subst this
      rw [h2] at h2'; injection h2' with h2'
      exact ⟨rfl, h2'⟩
theorem meanq_I64 (l : List Int) : I64 (meanq l) := by
  unfold meanq smallQ I64
  split
  · omega
  · split <;> omega
theorem made_fine (p : Pol) (l : List Smp) (past : List Adv) (hk : p.okP) (hg : ∀ x ∈ l, x.good) : ruleq p past (decq p l past) = 0 ∧ (decq p l past).good := by
  obtain ⟨k1, k2, k3, k4, k5, k6, k7, k8, k9⟩ := id hk
  have hb : ∀ n, p.min ≤ boundq p n ∧ boundq p n ≤ p.max := fun n => by
    unfold boundq clampq
    rw [if_pos hk]
    split
    · omega
    · split <;> omega
  have hT := latestq_I64 hg
  unfold decq
  dsimp only
  generalize latestq l = T at *
  have hM := meanq_I64 (valq (cutq l (fromq T p.window) T))
  generalize meanq (valq (cutq l (fromq T p.window) T)) = load at *
  have hr := raw_open2 p load (nowq p past)
  generalize openq p load (nowq p past) = op at *
  generalize hS : steadyq p T (boundq p op) past = S
  obtain ⟨s1, s2⟩ := S
  have h1 := hb op
  have h2 := hb s1
  refine ⟨?_, ?_⟩
  · unfold ruleq
    dsimp only
    rw [hS]
    have hw : 1 ≤ whyq p s2 op (nowq p past) (boundq p s1) ∧ whyq p s2 op (nowq p past) (boundq p s1) ≤ 6 ∧ (s2 = decide (whyq p s2 op (nowq p past) (boundq p s1) = 4)) ∧ (whyq p s2 op (nowq p past) (boundq p s1) = 2 → nowq p past < boundq p s1) ∧ (whyq p s2 op (nowq p past) (boundq p s1) = 3 → boundq p s1 < nowq p past) ∧ (whyq p s2 op (nowq p past) (boundq p s1) = 1 → boundq p s1 = nowq p past) := by
      unfold whyq
      cases s2
      · simp only [Bool.false_eq_true, if_false]
        split
        · simp
        · split
          · simp
          · split
            · simp; omega
            · split
              · simp; omega
              · simp; omega
      · simp
    generalize whyq p s2 op (nowq p past) (boundq p s1) = y at *
    obtain ⟨w1, w2, w3, w4, w5, w6⟩ := hw
    rw [if_neg (by omega), if_neg (by omega)]
    have hh : polHas p (boundq p s1) = true := by unfold polHas; exact decide_eq_true ⟨hk, h2.1, h2.2⟩
    rw [if_neg (by rw [hh]; simp), if_neg (by rw [hr]; simp), if_neg (by simp), if_neg (by simpa using w3)]
    refine if_neg ?_
    unfold whyOk
    dsimp only
    split
    · rename_i e; simp; exact w4 e
    · split
      · rename_i e; simp; exact w5 e
      · split
        · rename_i e; simp; exact w6 e
        · simp
  · refine ⟨hT, hM, ?_, ?_, ?_⟩
    · show I64 (boundq p op); unfold I64; omega
    · show I64 (boundq p s1); unfold I64; omega
    · show I64 (whyq p s2 op (nowq p past) (boundq p s1)); unfold I64 whyq
      split
      · omega
      · split
        · omega
        · split
          · omega
          · split
            · omega
            · split <;> omega
theorem fine_next (p : Pol) (sm rm : Int) (st : Fst) (x : Smp) (hg : ∀ y ∈ st.smps, y.good) (hx : x.good) (h1 : st.past = pastq rm [] st.out) (h2 : ∀ r ∈ ruls p rm [] st.out, r = 0) (h3 : ∀ a ∈ st.out, a.good) (hr : 1 ≤ rm ∧ rm ≤ 64) :
    (fstep p sm rm st x).past = pastq rm [] (fstep p sm rm st x).out ∧ (∀ r ∈ ruls p rm [] (fstep p sm rm st x).out, r = 0) ∧ ∀ a ∈ (fstep p sm rm st x).out, a.good := by
  by_cases he : errr sm x = 0
  · by_cases ho : ofe p (putr st.smps sm x) = 0
    · rw [fstep_ok he ho hr]
      have hk : p.okP := Classical.byContradiction fun hn => by rw [(ofq_no (past := st.past) hn).2] at ho; omega
      have hl : (putr st.smps sm x).length ≠ 0 := fun hn => by rw [(ofq_nil (past := st.past) hk hn).2] at ho; omega
      rw [(ofq_ok (past := st.past) hk hl).1]
      obtain ⟨m1, m2⟩ := made_fine p (putr st.smps sm x) st.past hk (good_putr hg hx sm)
      refine ⟨?_, fun r hr => ?_, fun a ha => ?_⟩
      · show hush st.past rm _ = _
        rw [pastq_snoc, ← h1]
      · replace hr : r ∈ ruls p rm [] (st.out ++ [decq p (putr st.smps sm x) st.past]) := hr
        rw [ruls_snoc, ← h1, m1] at hr
        rcases List.mem_append.1 hr with hr | hr
        · exact h2 r hr
        · simpa using hr
      · rcases List.mem_append.1 ha with ha | ha
        · exact h3 a ha
        · simp at ha; subst ha; exact m2
    · rw [fstep_skip he ho]; exact ⟨h1, h2, h3⟩
  · rw [fstep_no he]; exact ⟨h1, h2, h3⟩
theorem fol_fine (p : Pol) (sm rm : Int) (l : List Smp) (hg : ∀ x ∈ l, x.good) : (∀ r ∈ ruls p rm [] (folq p sm rm l).out, r = 0) ∧ ∀ a ∈ (folq p sm rm l).out, a.good := by
  by_cases hr : 1 ≤ rm ∧ rm ≤ 64
  · have h := folq_all (fun n st => (∀ y ∈ st.smps, y.good) ∧ st.past = pastq rm [] st.out ∧ (∀ r ∈ ruls p rm [] st.out, r = 0) ∧ ∀ a ∈ st.out, a.good) p sm rm l ⟨fun y hy => (by cases hy), rfl, fun r hr => (by cases hr), fun a ha => (by cases ha)⟩ (fun n st x hx h => ⟨by rw [fstep_smps]; exact good_putr h.1 (hg x hx) sm, fine_next p sm rm st x h.1 (hg x hx) h.2.1 h.2.2.1 h.2.2.2 hr⟩) l.length (Nat.le_refl _)
    rw [List.take_length] at h
    exact ⟨h.2.2.1, h.2.2.2⟩
  · rw [folq_bad p sm rm l (.inr hr)]
    exact ⟨fun r hr => (by cases hr), fun a ha => (by cases ha)⟩
end Go.Proofs.Ytjodpffdlggjgaa
