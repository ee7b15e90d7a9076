/- Several texts in one. -/
import Derived.Test.YtjodpffdlggjgaaGreatKTrialRuns2
import Derived.Test.YtjodpffdlggjgaaGreatOwn
import Derived.Test.YtjodpffdlggjgaaGreatSat
import Derived.Test.YtjodpffdlggjgaaGreatPolicy
import Derived.Test.YtjodpffdlggjgaaGreatCmp44
import Derived.Test.YtjodpffdlggjgaaGreatSame
import Derived.Test.YtjodpffdlggjgaaGreatKTrialRuns1
/- flywheelref45.Run: the walk; one contract for both Runs. (fast region) -/
namespace Go.Proofs.YtjodpffdlggjgaaGreat
open Go.RowKit
set_option linter.unusedSimpArgs false
set_option linter.unusedVariables false
set_option maxHeartbeats 8000000
set_option maxRecDepth 100000
theorem tests_badR {sm rm : Int} (hb : ¬ goodS sm ∨ ¬ (1 ≤ rm ∧ rm ≤ 64)) : (decide (sm < 1) = true) ∨ (decide (sm < 1) = false ∧ decide (256 < sm) = true) ∨ (decide (sm < 1) = false ∧ decide (256 < sm) = false ∧ decide (rm < 1) = true) ∨ (decide (sm < 1) = false ∧ decide (256 < sm) = false ∧ decide (rm < 1) = false ∧ decide (64 < rm) = true) := by
  unfold goodS at hb
  simp only [decide_eq_true_eq, decide_eq_false_iff_not]
  omega
def RI3 (w wr : World) (p : Pol) : Prop := Blk wr w.heap.size 23 p.row ∧ Blk wr (w.heap.size + 1) 34 z7 ∧ Below w.heap.size w wr
theorem RI3.start (w : World) (p : Pol) : RI3 w ((w.alloc (.cells p.row 23)).alloc (.cells z7 34)) p :=
  ⟨(Blk.new w _ _).alloc _, Blk.new2 w _ _ _, by go_grown⟩
theorem RI3.call {w wr w' : World} {p : Pol} (h : RI3 w wr p) (hb : Below wr.heap.size wr w') : RI3 w w' p := ⟨h.1.call hb, h.2.1.call hb, h.2.2.trans (hb.mono h.2.2.size)⟩
theorem ref45_Run_pol (p : Pol) (A : Option Addr) (len cap : Nat) (sm rm : Int) (w : World) (hk : ¬ p.okP) :
    Calls Tryz.prog 22 #[(.agg #[.int .i64 p.min, .int .i64 p.max, .int .i64 p.target, .int .i64 p.tol, .int .i64 p.window, .int .i64 p.hold]), .slice A len cap, .int .i64 sm, .int .i64 rm] w (RunNo w 7) := by
  have D0 := Lib.hid (RI3.start w p)
  have HC := Lib.hid (fun W => ref_Right p W)
  rw [polOk_false hk] at HC
  clear hk
  go_enter Tryz.func22, Tryz.ntmps22
  go_wp2_with (first
    | (refine Blk.load rfl 23 (.tmp 4) rfl _ _ _ _ rfl D0.out.1 Tryz.underlying23 rfl (by kernel_rfl) ?_)
    | (go_at_call 9; refine (HC.out _).mono ?_; rintro e v1 ⟨rfl, hb1⟩; have D1 := Lib.hid (D0.out.call hb1); clear hb1)
    | (refine wpList_store_row rfl 34 (.tmp 8) (.tmp 13) rfl (w.heap.size + 1) _ _ _ rfl rfl D1.out.2.1 (by rfl) (by kernel_rfl) (by simp [Value.oneCell']) ?_; intro w9 hb9 hg9))
  refine bodyPost_ret (results_row_tmp rfl _ _ (w.heap.size + 1) _ _ _ rfl hb9 Tryz.underlying34 rfl (by kernel_rfl)) rfl ⟨rfl, D1.out.2.2.trans (Only.below hg9 (by omega) D1.out.2.2.size)⟩
theorem ref45_Run_arg (p : Pol) (A : Option Addr) (len cap : Nat) (sm rm : Int) (w : World) (hk : p.okP) (hb : ¬ goodS sm ∨ ¬ (1 ≤ rm ∧ rm ≤ 64)) :
    Calls Tryz.prog 22 #[(.agg #[.int .i64 p.min, .int .i64 p.max, .int .i64 p.target, .int .i64 p.tol, .int .i64 p.window, .int .i64 p.hold]), .slice A len cap, .int .i64 sm, .int .i64 rm] w (RunNo w 1) := by
  have D0 := Lib.hid (RI3.start w p)
  have HC := Lib.hid (fun W => ref_Right p W)
  rw [polOk_true hk] at HC
  have hd := tests_badR hb
  clear hb hk
  rcases hd with d1 | ⟨d1, d2⟩ | ⟨d1, d2, d3⟩ | ⟨d1, d2, d3, d4⟩
  all_goals
    go_enter Tryz.func22, Tryz.ntmps22
    go_wp2_with (first
      | (refine Blk.load rfl 23 (.tmp 4) rfl _ _ _ _ rfl D0.out.1 Tryz.underlying23 rfl (by kernel_rfl) ?_)
      | (go_at_call 9; refine (HC.out _).mono ?_; rintro e v1 ⟨rfl, hb1⟩; have D1 := Lib.hid (D0.out.call hb1); clear hb1)
      | (refine wpList_store_row rfl 34 (.tmp 8) (.tmp 28) rfl (w.heap.size + 1) _ _ _ rfl rfl D1.out.2.1 (by rfl) (by kernel_rfl) (by simp [Value.oneCell']) ?_; intro w9 hb9 hg9))
    refine bodyPost_ret (results_row_tmp rfl _ _ (w.heap.size + 1) _ _ _ rfl hb9 Tryz.underlying34 rfl (by kernel_rfl)) rfl ⟨rfl, D1.out.2.2.trans (Only.below hg9 (by omega) D1.out.2.2.size)⟩
theorem ref45_Run_okF (p : Pol) (A : Option Addr) (len cap : Nat) (l : List Smp) (S R : Nat) (w : World) (hp : p.fit) (hk : p.okP) (hs : SmpsAre w A len cap l) (hg : ∀ x ∈ l, x.good) (hn : len ≤ 200) (s1 : 1 ≤ S) (s2 : S ≤ 256) (r1 : 1 ≤ R) (r2 : R ≤ 64) :
    Calls Tryz.prog 22 #[(.agg #[.int .i64 p.min, .int .i64 p.max, .int .i64 p.target, .int .i64 p.tol, .int .i64 p.window, .int .i64 p.hold]), .slice A len cap, .int .i64 S, .int .i64 R] w (RunYesF p (folq p S R l).out w) := by
  have HS := Lib.hid hs
  have HP := Lib.hid hp
  have D0 := Lib.hid (RI3.start w p)
  have HC := Lib.hid (fun W => ref_Right p W)
  rw [polOk_true hk] at HC
  have d1 : decide ((S : Int) < 1) = false := by simp; omega
  have d2 : decide ((256 : Int) < (S : Int)) = false := by simp; omega
  have d3 : decide ((R : Int) < 1) = false := by simp; omega
  have d4 : decide ((64 : Int) < (R : Int)) = false := by simp; omega
  have d1' : ¬ S < 1 := by omega
  have d2' : ¬ 256 < S := by omega
  have d3' : ¬ R < 1 := by omega
  have d4' : ¬ 64 < R := by omega
  have HF := Lib.hid (fun W hW => ref16_Follow p A len cap l S R W hp hW hg hn)
  have HFi := Lib.hid (fol_fine p S R l hg)
  have HLo := Lib.hid (show (folq p S R l).out.length ≤ 200 by
    have h := (folq_len p S R l l.length (Nat.le_refl _)).2
    rw [List.take_length] at h
    have := hs.1
    omega)
  clear hs hp hg s1 s2 r1 r2 hk
  unfold FolPost2 at HF
  generalize (folq p S R l).out = OUT at *
  go_enter Tryz.func22, Tryz.ntmps22
  focus (go_upto_region 5 with (first
    | (refine Blk.load rfl 23 (.tmp 4) rfl _ _ _ _ rfl D0.out.1 Tryz.underlying23 rfl (by kernel_rfl) ?_)
    | (go_at_call 9; refine (HC.out _).mono ?_; rintro e v1 ⟨rfl, hb1⟩; have D1 := Lib.hid (D0.out.call hb1); clear hb1)))
  have HJ := Lib.hid (fun W A2 c2 hW => ref44_Judge p A2 OUT.length c2 OUT W HP.out hW HFi.out.2 (Nat.le_trans HLo.out (by decide)))
  refine wp_region_any (by kernel_rfl) ?_; change wpAny _ _ _ _ _ _ _ (World.drew v1); refine any_of_anyG (late := fun j => [7, 8].contains j) (S := fun wS => Below v1.heap.size v1 wS) _ _ _ _ ?_
  have S0 := (Below.refl v1.heap.size v1).drew
  refine anyG_takes (is := [0, 1, 2, 3, 4]) (vs := [_, _, _, _, _]) (m := 4) (listed2 := #[true, true, true, true, true, false, false, false, false]) (a2 := ⟨#[_, _, _, _, _, _, _, _, _, _, _, _, _, _, _, _, _, _, _, _, _, _, _, _, _, _, _, _, _, _, _, _, _, _, _, _], _⟩) (by kernel_rfl) (fun j hj => by first | (simp at hj; done) | (simp at hj; simp; omega)) (by kernel_rfl) (fun _ _ _ _ _ h => h) (Ys.cons rfl (Or.inl ⟨by rfl, fun W1 hW1 => exec_load (ty := 23) (x := .tmp 4) rfl rfl (run_loadAt_blk _ _ _ _ _ _ (D1.out.1.call hW1) Tryz.underlying23 rfl (by first | kernel_rfl | exact info_num _))⟩) (Ys.cons rfl (Or.inl ⟨by rfl, fun W1 hW1 => exec_load (ty := 23) (x := .tmp 4) rfl rfl (run_loadAt_blk _ _ _ _ _ _ (D1.out.1.call hW1) Tryz.underlying23 rfl (by first | kernel_rfl | exact info_num _))⟩) (Ys.cons rfl (Or.inl ⟨by rfl, fun W1 hW1 => by first | rfl | (go_simp; done) | (go_simp; with_reducible rfl)⟩) (Ys.cons rfl (Or.inl ⟨by rfl, fun W1 hW1 => by first | rfl | (go_simp; done) | (go_simp; with_reducible rfl)⟩) (Ys.cons rfl (Or.inl ⟨by rfl, fun W1 hW1 => by first | rfl | (go_simp; done) | (go_simp; with_reducible rfl)⟩) (Ys.nil)))))) (S0) (by rfl) (by rfl) ?_
  refine anyG_one (k := 5) (by kernel_rfl) rfl (by rfl) (fun Q2 hQ2 => ?_); go_wp2_with (go_at_call 12; refine (HF.out _ (slice_keep HS.out (D1.out.2.2.trans (S0.mono D1.out.2.2.size)))).mono ?_; rintro e v2 ⟨A2, n2, c2, rfl, ho2, hb2⟩; obtain rfl := (ownA_is ho2).1; have O2 := Lib.hid ho2; clear ho2); refine hQ2 _ _ (fun _ => S0.trans (hb2.mono S0.size)) ?_; clear hQ2 Q2
  have S2 := S0.trans (hb2.mono S0.size)
  refine anyG_one (k := 6) (by kernel_rfl) rfl (by rfl) (fun Q2 hQ2 => ?_); go_wp2_with (go_at_call 11; refine (HJ.out _ A2 c2 (ownA_is O2.out)).mono ?_; rintro e v3 ⟨rfl, hb3⟩; have O3 := Lib.hid (O2.out.call hb3); have D3 := Lib.hid (D1.out.call (S2.trans (hb3.mono S2.size)))); refine hQ2 _ _ (fun _ => S2.trans (hb3.mono S2.size)) ?_; clear hQ2 Q2
  have S3 := S2.trans (hb3.mono S2.size)
  refine anyG_of_any _ _ _ _ (by kernel_rfl) ?_
  refine any_one (k := 7) (by kernel_rfl) rfl (by rfl) (fun Q2 hQ2 => ?_); go_wp2_with (refine wpList_store_row rfl 34 (.tmp 8) (.tmp 35) rfl (w.heap.size + 1) _ _ _ rfl rfl D3.out.2.1 (by rfl) (by kernel_rfl) (by simp [Value.oneCell']) ?_; intro w9 hb9 hg9); (try refine hQ2 _ _ ?_); (try clear hQ2 Q2)
  refine wpAny_take (i := 8) (v := _) rfl (by kernel_rfl) (by kernel_rfl) (by kernel_rfl) (fun _ _ _ h => h) (Or.inl ⟨by rfl, fun W => by rfl⟩) ?_
  refine wpAny_done (by kernel_rfl) ?_ _
  have O9 := O3.out.grown hg9 (fun k hk => by have h1 := (World.ownsRow.lt O3.out k hk).1; have h3 := D1.out.2.1.lt; have h4 := S3.size; (try simp at h3); (try simp at h4); (try simp at h1); omega)
  go_wp2
  refine bodyPost_ret (results_row_tmp rfl _ _ (w.heap.size + 1) _ _ _ rfl hb9 Tryz.underlying34 rfl (by kernel_rfl)) rfl ⟨A2, _, c2, rfl, ownA_is O9, D3.out.2.2.trans (Only.below hg9 (by omega) D3.out.2.2.size), fun a ha => by
    subst ha
    have q0 := World.ownsRow.lt O9 a.block rfl
    have q1 := D1.out.2.2.size
    have q2 := hb2.size
    have q3 := hb3.size
    have q4 := S3.size
    (try simp at q2); (try simp at q3); (try simp at q0); (try simp at q4)
    constructor <;> omega⟩
theorem ref45_Run_ok (p : Pol) (A : Option Addr) (len cap : Nat) (l : List Smp) (S R : Nat) (w : World) (hp : p.fit) (hk : p.okP) (hs : SmpsAre w A len cap l) (hg : ∀ x ∈ l, x.good) (hn : len ≤ 200) (s1 : 1 ≤ S) (s2 : S ≤ 256) (r1 : 1 ≤ R) (r2 : R ≤ 64) :
    Calls Tryz.prog 22 #[(.agg #[.int .i64 p.min, .int .i64 p.max, .int .i64 p.target, .int .i64 p.tol, .int .i64 p.window, .int .i64 p.hold]), .slice A len cap, .int .i64 S, .int .i64 R] w (RunYes p (folq p S R l).out w) :=
  (ref45_Run_okF p A len cap l S R w hp hk hs hg hn s1 s2 r1 r2).mono fun _ _ ⟨A2, n2, c2, h1, h2, h3, _⟩ => ⟨A2, n2, c2, h1, h2, h3⟩
structure Jud where
  ch : Int
  tn : Int
  least : Int
  most : Int
  spare : Int
  short : Int
abbrev Jud.row (j : Jud) (v : Value) : Array Value := #[v, .int .i64 j.ch, .int .i64 j.tn, .int .i64 j.least, .int .i64 j.most, .int .i64 j.spare, .int .i64 j.short]
def rune (p : Pol) (sm rm : Int) : Int := if p.okP then (if goodS sm ∧ 1 ≤ rm ∧ rm ≤ 64 then 0 else 1) else 7
def outq (p : Pol) (sm rm : Int) (l : List Smp) : List Adv := if rune p sm rm = 0 then (folq p sm rm l).out else []
def judq (p : Pol) (l : List Adv) : Jud := ⟨(chq (replAt l) l.length : Nat), ((turnq (replAt l) l.length).1 : Nat), (j4 p.target l l.length).least, (j4 p.target l l.length).most, (j4 p.target l l.length).spare, (j4 p.target l l.length).short⟩
theorem judq_nil (p : Pol) : judq p [] = ⟨0, 0, 0, 0, 0, 0⟩ := rfl
theorem rune_pol {p : Pol} {sm rm : Int} (h : ¬ p.okP) : rune p sm rm = 7 := if_neg h
theorem rune_arg {p : Pol} {sm rm : Int} (h : p.okP) (h2 : ¬ goodS sm ∨ ¬ (1 ≤ rm ∧ rm ≤ 64)) : rune p sm rm = 1 := by
  unfold rune; rw [if_pos h, if_neg (fun h3 => h2.elim (fun h4 => h4 h3.1) (fun h4 => h4 h3.2))]
theorem rune_ok {p : Pol} {sm rm : Int} (h : p.okP) (h2 : goodS sm) (h3 : 1 ≤ rm ∧ rm ≤ 64) : rune p sm rm = 0 := by
  unfold rune; rw [if_pos h, if_pos ⟨h2, h3⟩]
theorem rune_is (p : Pol) (sm rm : Int) : rune p sm rm = 0 ∨ rune p sm rm = 1 ∨ rune p sm rm = 7 := by
  unfold rune; split
  · split
    · exact .inl rfl
    · exact .inr (.inl rfl)
  · exact .inr (.inr rfl)
/-- What either Run answers. -/
def RunAny (p : Pol) (sm rm : Int) (l : List Smp) (w : World) (e : Ending) (w' : World) : Prop := ∃ A n c, e = .returned (.tuple #[.agg ((judq p (outq p sm rm l)).row (.slice A n c)), .int .i64 (rune p sm rm)]) ∧ AdvsAre w' A n c (outq p sm rm l) ∧ Below w.heap.size w w'
theorem RunAny.no {p : Pol} {sm rm n : Int} {l : List Smp} {w : World} (h : rune p sm rm = n) (hn : n ≠ 0) (e : Ending) (w' : World) (hr : RunNo w n e w') : RunAny p sm rm l w e w' := by
  obtain ⟨rfl, hb⟩ := hr
  have ho : outq p sm rm l = [] := if_neg (by omega)
  unfold RunAny
  rw [ho, judq_nil, h]
  exact ⟨none, 0, 0, rfl, slice_nil _ _ _, hb⟩
theorem RunAny.yes {p : Pol} {sm rm : Int} {l : List Smp} {w : World} (h : rune p sm rm = 0) (e : Ending) (w' : World) (hr : RunYes p (folq p sm rm l).out w e w') : RunAny p sm rm l w e w' := by
  have ho : outq p sm rm l = (folq p sm rm l).out := if_pos h
  unfold RunAny
  rw [ho, h]
  exact hr
theorem run_cases (p : Pol) (sm rm : Int) : (¬ p.okP) ∨ (p.okP ∧ (¬ goodS sm ∨ ¬ (1 ≤ rm ∧ rm ≤ 64))) ∨ (p.okP ∧ ∃ S R : Nat, sm = S ∧ rm = R ∧ goodS sm ∧ 1 ≤ S ∧ S ≤ 256 ∧ 1 ≤ R ∧ R ≤ 64) := by
  by_cases hk : p.okP
  · by_cases hb : ¬ goodS sm ∨ ¬ (1 ≤ rm ∧ rm ≤ 64)
    · exact .inr (.inl ⟨hk, hb⟩)
    · have hg : goodS sm := Classical.byContradiction fun h => hb (.inl h)
      unfold goodS at hb
      exact .inr (.inr ⟨hk, sm.toNat, rm.toNat, by omega, by omega, hg, by omega, by omega, by omega, by omega⟩)
  · exact .inl hk
theorem trial_Run (p : Pol) (A : Option Addr) (len cap : Nat) (l : List Smp) (sm rm : Int) (w : World) (hp : p.fit) (hs : SmpsAre w A len cap l) (hg : ∀ x ∈ l, x.good) (hn : len ≤ 200) :
    Calls Tryz.prog 8 #[(.agg #[.int .i64 p.min, .int .i64 p.max, .int .i64 p.target, .int .i64 p.tol, .int .i64 p.window, .int .i64 p.hold]), .slice A len cap, .int .i64 sm, .int .i64 rm] w (RunAny p sm rm l w) := by
  rcases run_cases p sm rm with hk | ⟨hk, hb⟩ | ⟨hk, S, R, rfl, rfl, hs1, s1, s2, r1, r2⟩
  · exact (trial_Run_pol p A len cap sm rm w hk).mono (RunAny.no (rune_pol hk) (by omega))
  · exact (trial_Run_arg p A len cap sm rm w hk hb).mono (RunAny.no (rune_arg hk hb) (by omega))
  · exact (trial_Run_ok p A len cap l S R w hp hk hs hg hn s1 s2 r1 r2).mono (RunAny.yes (rune_ok hk hs1 (by omega)))
theorem ref45_Run (p : Pol) (A : Option Addr) (len cap : Nat) (l : List Smp) (sm rm : Int) (w : World) (hp : p.fit) (hs : SmpsAre w A len cap l) (hg : ∀ x ∈ l, x.good) (hn : len ≤ 200) :
    Calls Tryz.prog 22 #[(.agg #[.int .i64 p.min, .int .i64 p.max, .int .i64 p.target, .int .i64 p.tol, .int .i64 p.window, .int .i64 p.hold]), .slice A len cap, .int .i64 sm, .int .i64 rm] w (RunAny p sm rm l w) := by
  rcases run_cases p sm rm with hk | ⟨hk, hb⟩ | ⟨hk, S, R, rfl, rfl, hs1, s1, s2, r1, r2⟩
  · exact (ref45_Run_pol p A len cap sm rm w hk).mono (RunAny.no (rune_pol hk) (by omega))
  · exact (ref45_Run_arg p A len cap sm rm w hk hb).mono (RunAny.no (rune_arg hk hb) (by omega))
  · exact (ref45_Run_ok p A len cap l S R w hp hk hs hg hn s1 s2 r1 r2).mono (RunAny.yes (rune_ok hk hs1 (by omega)))
/-- The same, with the word where the slice lies. -/
def RunAnyF (p : Pol) (sm rm : Int) (l : List Smp) (w : World) (e : Ending) (w' : World) : Prop := ∃ A n c, e = .returned (.tuple #[.agg ((judq p (outq p sm rm l)).row (.slice A n c)), .int .i64 (rune p sm rm)]) ∧ AdvsAre w' A n c (outq p sm rm l) ∧ Below w.heap.size w w' ∧ ∀ a, A = some a → w.heap.size ≤ a.block ∧ a.block < w'.heap.size
theorem RunAnyF.no {p : Pol} {sm rm n : Int} {l : List Smp} {w : World} (h : rune p sm rm = n) (hn : n ≠ 0) (e : Ending) (w' : World) (hr : RunNo w n e w') : RunAnyF p sm rm l w e w' := by
  obtain ⟨rfl, hb⟩ := hr
  have ho : outq p sm rm l = [] := if_neg (by omega)
  unfold RunAnyF
  rw [ho, judq_nil, h]
  exact ⟨none, 0, 0, rfl, slice_nil _ _ _, hb, fun a ha => by cases ha⟩
theorem RunAnyF.yes {p : Pol} {sm rm : Int} {l : List Smp} {w : World} (h : rune p sm rm = 0) (e : Ending) (w' : World) (hr : RunYesF p (folq p sm rm l).out w e w') : RunAnyF p sm rm l w e w' := by
  have ho : outq p sm rm l = (folq p sm rm l).out := if_pos h
  unfold RunAnyF
  rw [ho, h]
  exact hr
theorem trial_RunF (p : Pol) (A : Option Addr) (len cap : Nat) (l : List Smp) (sm rm : Int) (w : World) (hp : p.fit) (hs : SmpsAre w A len cap l) (hg : ∀ x ∈ l, x.good) (hn : len ≤ 200) :
    Calls Tryz.prog 8 #[(.agg #[.int .i64 p.min, .int .i64 p.max, .int .i64 p.target, .int .i64 p.tol, .int .i64 p.window, .int .i64 p.hold]), .slice A len cap, .int .i64 sm, .int .i64 rm] w (RunAnyF p sm rm l w) := by
  rcases run_cases p sm rm with hk | ⟨hk, hb⟩ | ⟨hk, S, R, rfl, rfl, hs1, s1, s2, r1, r2⟩
  · exact (trial_Run_pol p A len cap sm rm w hk).mono (RunAnyF.no (rune_pol hk) (by omega))
  · exact (trial_Run_arg p A len cap sm rm w hk hb).mono (RunAnyF.no (rune_arg hk hb) (by omega))
  · exact (trial_Run_okF p A len cap l S R w hp hk hs hg hn s1 s2 r1 r2).mono (RunAnyF.yes (rune_ok hk hs1 (by omega)))
theorem ref45_RunF (p : Pol) (A : Option Addr) (len cap : Nat) (l : List Smp) (sm rm : Int) (w : World) (hp : p.fit) (hs : SmpsAre w A len cap l) (hg : ∀ x ∈ l, x.good) (hn : len ≤ 200) :
    Calls Tryz.prog 22 #[(.agg #[.int .i64 p.min, .int .i64 p.max, .int .i64 p.target, .int .i64 p.tol, .int .i64 p.window, .int .i64 p.hold]), .slice A len cap, .int .i64 sm, .int .i64 rm] w (RunAnyF p sm rm l w) := by
  rcases run_cases p sm rm with hk | ⟨hk, hb⟩ | ⟨hk, S, R, rfl, rfl, hs1, s1, s2, r1, r2⟩
  · exact (ref45_Run_pol p A len cap sm rm w hk).mono (RunAnyF.no (rune_pol hk) (by omega))
  · exact (ref45_Run_arg p A len cap sm rm w hk hb).mono (RunAnyF.no (rune_arg hk hb) (by omega))
  · exact (ref45_Run_okF p A len cap l S R w hp hk hs hg hn s1 s2 r1 r2).mono (RunAnyF.yes (rune_ok hk hs1 (by omega)))
end Go.Proofs.YtjodpffdlggjgaaGreat
/- Package tune and its reference: With and Ladder; flywheelref06.Same. -/
namespace Go.Proofs.YtjodpffdlggjgaaGreat
open Go.RowKit
set_option linter.unusedSimpArgs false
set_option linter.unusedVariables false
set_option maxHeartbeats 2000000

def withq (p : Pol) (f v : Int) : Pol := if f = 1 then { p with min := v } else if f = 2 then { p with max := v } else if f = 3 then { p with target := v } else if f = 4 then { p with tol := v } else if f = 5 then { p with window := v } else if f = 6 then { p with hold := v } else p
theorem tune_With (p : Pol) (f v : Int) (w : World) :
    Calls Tryz.prog 26 #[(.agg #[.int .i64 p.min, .int .i64 p.max, .int .i64 p.target, .int .i64 p.tol, .int .i64 p.window, .int .i64 p.hold]), .int .i64 f, .int .i64 v] w fun e w' => e = .returned (.agg #[.int .i64 (withq p f v).min, .int .i64 (withq p f v).max, .int .i64 (withq p f v).target, .int .i64 (withq p f v).tol, .int .i64 (withq p f v).window, .int .i64 (withq p f v).hold]) ∧ Below w.heap.size w w' := by
  by_cases h1 : f < 1
  · have hq : withq p f v = p := by unfold withq; repeat rw [if_neg (by omega)]
    rw [hq]
    go_enter Tryz.func26, Tryz.ntmps26
    go_wp2
    go_returns
    exact ⟨rfl, by go_grown⟩
  by_cases h2 : 6 < f
  · have hq : withq p f v = p := by unfold withq; repeat rw [if_neg (by omega)]
    rw [hq]
    go_enter Tryz.func26, Tryz.ntmps26
    go_wp2
    go_returns
    exact ⟨rfl, by go_grown⟩
  · rcases (show f = 1 ∨ f = 2 ∨ f = 3 ∨ f = 4 ∨ f = 5 ∨ f = 6 by omega) with rfl | rfl | rfl | rfl | rfl | rfl
    all_goals
      clear h1 h2
      go_enter Tryz.func26, Tryz.ntmps26
      go_wp2
      go_returns
      exact ⟨rfl, by go_grown⟩
theorem ref_With (p : Pol) (f v : Int) (w : World) :
    Calls Tryz.prog 23 #[(.agg #[.int .i64 p.min, .int .i64 p.max, .int .i64 p.target, .int .i64 p.tol, .int .i64 p.window, .int .i64 p.hold]), .int .i64 f, .int .i64 v] w fun e w' => e = .returned (.agg #[.int .i64 (withq p f v).min, .int .i64 (withq p f v).max, .int .i64 (withq p f v).target, .int .i64 (withq p f v).tol, .int .i64 (withq p f v).window, .int .i64 (withq p f v).hold]) ∧ Below w.heap.size w w' := by
  by_cases h1 : f < 1 ∨ 6 < f
  · have hq : withq p f v = p := by unfold withq; repeat rw [if_neg (by omega)]
    rw [hq]
    have d1 : (f == 1) = false := by simp; omega
    have d2 : (f == 2) = false := by simp; omega
    have d3 : (f == 3) = false := by simp; omega
    have d4 : (f == 4) = false := by simp; omega
    have d5 : (f == 5) = false := by simp; omega
    have d6 : (f == 6) = false := by simp; omega
    clear h1 hq
    go_enter Tryz.func23, Tryz.ntmps23
    go_wp2
    go_returns
    exact ⟨rfl, by go_grown⟩
  · rcases (show f = 1 ∨ f = 2 ∨ f = 3 ∨ f = 4 ∨ f = 5 ∨ f = 6 by omega) with rfl | rfl | rfl | rfl | rfl | rfl
    all_goals
      clear h1
      go_enter Tryz.func23, Tryz.ntmps23
      go_wp2
      go_returns
      exact ⟨rfl, by go_grown⟩
end Go.Proofs.YtjodpffdlggjgaaGreat
/- The best of some values: plain, and what a call that looks for it keeps. -/
namespace Go.Proofs.YtjodpffdlggjgaaGreat
open Go.RowKit
set_option linter.unusedSimpArgs false
set_option linter.unusedVariables false
structure Run3 where
  e : Int
  j : Jud
  o : List Adv
structure Bst where
  v : Int
  e : Int
  j : Jud
  o : List Adv
def j0 : Jud := ⟨0, 0, 0, 0, 0, 0⟩
def bst0 : Bst := ⟨0, 5, j0, []⟩
def resq (j : Jud) : Res := ⟨none, 0, 0, j.ch, j.tn, j.least, j.most, j.spare, j.short⟩
def cmpj (a b : Jud) : Int := cmp44 (resq a) (resq b)
def runv (p : Pol) (f sm rm : Int) (l : List Smp) (v : Int) : Run3 := ⟨rune (withq p f v) sm rm, judq (withq p f v) (outq (withq p f v) sm rm l), outq (withq p f v) sm rm l⟩
def bq (R : Int → Run3) : List Int → Bst → Bst
  | [], b => b
  | v :: l, b => if (R v).e = 7 then bq R l b else if (R v).e ≠ 0 then ⟨0, (R v).e, j0, []⟩ else if b.e ≠ 0 ∨ cmpj (R v).j b.j < 0 then bq R l ⟨v, 0, (R v).j, (R v).o⟩ else bq R l b
theorem cmpj_ge (a b : Jud) : ¬ cmpj a b < 0 ↔ (b.short < a.short ∨ b.short = a.short ∧ (b.spare < a.spare ∨ b.spare = a.spare ∧ (b.ch < a.ch ∨ b.ch = a.ch ∧ b.tn ≤ a.tn))) := by
  unfold cmpj cmp44 lessq resq
  dsimp only
  (repeat' split) <;> omega
theorem cmpj_self (a : Jud) : ¬ cmpj a a < 0 := by rw [cmpj_ge]; omega
theorem cmpj_trans {a b c : Jud} (h1 : ¬ cmpj a b < 0) (h2 : ¬ cmpj b c < 0) : ¬ cmpj a c < 0 := by
  rw [cmpj_ge] at *; omega
theorem cmpj_lt {a b : Jud} (h : cmpj a b < 0) : ¬ cmpj b a < 0 := by
  have h2 : ¬ ¬ cmpj a b < 0 := fun h3 => h3 h
  rw [cmpj_ge] at *; omega
theorem bq_zero (R : Int → Run3) : ∀ (l : List Int) (b : Bst), (b.e ≠ 0 → b.v = 0) → (bq R l b).e ≠ 0 → (bq R l b).v = 0
  | [], b, h, h2 => h h2
  | v :: l, b, h, h2 => by
    unfold bq at h2 ⊢
    split
    · rename_i h3; rw [if_pos h3] at h2; exact bq_zero R l b h h2
    · rename_i h3
      rw [if_neg h3] at h2
      split
      · rfl
      · rename_i h4
        rw [if_neg h4] at h2
        split
        · rename_i h5; rw [if_pos h5] at h2; exact bq_zero R l _ (fun h6 => absurd rfl h6) h2
        · rename_i h5; rw [if_neg h5] at h2; exact bq_zero R l b h h2
theorem bq_best (R : Int → Run3) : ∀ (l : List Int) (b : Bst), (bq R l b).e = 0 → (∀ v ∈ l, (R v).e = 0 → ¬ cmpj (R v).j (bq R l b).j < 0) ∧ (b.e = 0 → ¬ cmpj b.j (bq R l b).j < 0)
  | [], b, h => ⟨fun v hv => (by cases hv), fun _ => cmpj_self _⟩
  | v :: l, b, h => by
    unfold bq at h ⊢
    by_cases h3 : (R v).e = 7
    · rw [if_pos h3] at h ⊢
      obtain ⟨i1, i2⟩ := bq_best R l b h
      refine ⟨fun u hu he => ?_, i2⟩
      rcases List.mem_cons.1 hu with rfl | hu
      · omega
      · exact i1 u hu he
    · rw [if_neg h3] at h ⊢
      by_cases h4 : (R v).e ≠ 0
      · rw [if_pos h4] at h; exact absurd h h4
      · rw [if_neg h4] at h ⊢
        by_cases h5 : b.e ≠ 0 ∨ cmpj (R v).j b.j < 0
        · rw [if_pos h5] at h ⊢
          obtain ⟨i1, i2⟩ := bq_best R l _ h
          have i3 := i2 rfl
          refine ⟨fun u hu he => ?_, fun hb => ?_⟩
          · rcases List.mem_cons.1 hu with rfl | hu
            · exact i3
            · exact i1 u hu he
          · rcases h5 with h5 | h5
            · exact absurd hb h5
            · exact cmpj_trans (cmpj_lt h5) i3
        · rw [if_neg h5] at h ⊢
          obtain ⟨i1, i2⟩ := bq_best R l b h
          have hb : b.e = 0 := Classical.byContradiction fun hn => h5 (.inl hn)
          refine ⟨fun u hu he => ?_, i2⟩
          rcases List.mem_cons.1 hu with rfl | hu
          · exact cmpj_trans (fun hn => h5 (.inr hn)) (i2 hb)
          · exact i1 u hu he
theorem bq_in (R : Int → Run3) : ∀ (l : List Int) (b : Bst), (bq R l b).e = 0 → (bq R l b).v ∈ l ∨ (b.e = 0 ∧ (bq R l b).v = b.v)
  | [], b, h => .inr ⟨h, rfl⟩
  | v :: l, b, h => by
    unfold bq at h ⊢
    by_cases h3 : (R v).e = 7
    · rw [if_pos h3] at h ⊢
      exact (bq_in R l b h).imp (fun h => by simp [h]) id
    · rw [if_neg h3] at h ⊢
      by_cases h4 : (R v).e ≠ 0
      · rw [if_pos h4] at h; exact absurd h h4
      · rw [if_neg h4] at h ⊢
        by_cases h5 : b.e ≠ 0 ∨ cmpj (R v).j b.j < 0
        · rw [if_pos h5] at h ⊢
          rcases bq_in R l _ h with i | ⟨_, i⟩
          · left; simp [i]
          · left; rw [i]; simp
        · rw [if_neg h5] at h ⊢
          exact (bq_in R l b h).imp (fun h => by simp [h]) id
theorem drop_at {α : Type} {l : List α} {k : Nat} {x : α} (h : l[k]? = some x) : l.drop k = x :: l.drop (k + 1) := by
  have hlt := (List.getElem?_eq_some_iff.1 h).1
  rw [List.drop_eq_getElem_cons hlt, (List.getElem?_eq_some_iff.1 h).2]
section steps
variable {R : Int → Run3} {vs : List Int} {k : Nat} {x : Int} {b : Bst}
theorem bq_skip (hx : vs[k]? = some x) (h : (R x).e = 7) : bq R (vs.drop k) b = bq R (vs.drop (k + 1)) b := by
  rw [drop_at hx]; exact if_pos h
theorem bq_stop (hx : vs[k]? = some x) (h : (R x).e ≠ 7) (h2 : (R x).e ≠ 0) : bq R (vs.drop k) b = ⟨0, (R x).e, j0, []⟩ := by
  rw [drop_at hx]; exact (if_neg h).trans (if_pos h2)
theorem bq_take (hx : vs[k]? = some x) (h2 : (R x).e = 0) (h3 : b.e ≠ 0 ∨ cmpj (R x).j b.j < 0) : bq R (vs.drop k) b = bq R (vs.drop (k + 1)) ⟨x, 0, (R x).j, (R x).o⟩ := by
  rw [drop_at hx]; exact (if_neg (by omega)).trans ((if_neg (by omega)).trans (if_pos h3))
theorem bq_keep (hx : vs[k]? = some x) (h2 : (R x).e = 0) (h3 : ¬ (b.e ≠ 0 ∨ cmpj (R x).j b.j < 0)) : bq R (vs.drop k) b = bq R (vs.drop (k + 1)) b := by
  rw [drop_at hx]; exact (if_neg (by omega)).trans ((if_neg (by omega)).trans (if_neg h3))
theorem bq_end (h : vs.length ≤ k) : bq R (vs.drop k) b = b := by
  rw [List.drop_eq_nil_of_le h]; rfl
end steps
theorem fit_with {p : Pol} (h : p.fit) (f : Int) {v : Int} (hv : I64 v) : (withq p f v).fit := by
  obtain ⟨h0, h1, h2, h3, h4, h5⟩ := h
  unfold withq
  (repeat' split) <;> exact ⟨by assumption, by assumption, by assumption, by assumption, by assumption, by assumption⟩
theorem results_row_mid {P : Program} {fn : Func} {p u v : Tmp} {ty : TypeId} (h : fn.results = #[.tmp u, .cell p ty, .tmp v]) (tmps : Array Value) (w : World) (g : Nat) (t : TypeId) (cs : Array Value) (d : TypeDesc)
    (hp : tmps.getD p undef = .pointer (some ⟨g, 0, none⟩)) (hg : Blk w g t cs) (hu : P.underlying ty = some d) (hd : (match d with | .struct _ | .array _ _ => true | _ => false) = true) (hi : (P.info? ty).map (·.size) = some cs.size) :
    (results fn tmps).run P w = .ok (.tuple #[tmps.getD u undef, .agg cs, tmps.getD v undef]) w := by
  have hp' : tmps[p]?.getD undef = .pointer (some ⟨g, 0, none⟩) := by simpa using hp
  simp [results, h, hp', asAddr, run_loadVar_row w g t ty cs (0, 0) d hg hu hd hi]
theorem upd_of_grown {w w' : World} {g : Nat} (h : w.grownBy w' (some g)) : Upd (fun k => k = g) w w' := (Upd.refl _ w).grown h (fun k hk => by injection hk with hk; exact .inl hk.symm)
/-- What a call that looks for the best keeps. -/
def BI (w wr : World) (p : Pol) (T : TypeId) (b : Bst) (A : Option Addr) (n c : Nat) : Prop :=
  Blk wr w.heap.size 23 p.row ∧ Blk wr (w.heap.size + 1) T z7 ∧ Blk wr (w.heap.size + 2) T (b.j.row (.slice A n c)) ∧ AdvsAre wr A n c b.o ∧ (∀ a, A = some a → w.heap.size + 3 ≤ a.block ∧ a.block < wr.heap.size) ∧ Below w.heap.size w wr
theorem BI.start (w : World) (p : Pol) (T : TypeId) : BI w (((w.alloc (.cells p.row 23)).alloc (.cells z7 T)).alloc (.cells z7 T)) p T bst0 none 0 0 :=
  ⟨((Blk.new w _ _).alloc _).alloc _, (Blk.new2 w _ _ _).alloc _, by
    have h := Blk.new ((w.alloc (.cells p.row 23)).alloc (.cells z7 T)) T z7
    simp at h; exact h, slice_nil _ _ _, fun a ha => (by cases ha), by go_grown⟩
theorem BI.call {w wr w' : World} {p : Pol} {T : TypeId} {b : Bst} {A : Option Addr} {n c : Nat} (h : BI w wr p T b A n c) (hb : Below wr.heap.size wr w') : BI w w' p T b A n c :=
  ⟨h.1.call hb, h.2.1.call hb, h.2.2.1.call hb, slice_keep h.2.2.2.1 hb, fun a ha => ⟨(h.2.2.2.2.1 a ha).1, Nat.lt_of_lt_of_le (h.2.2.2.2.1 a ha).2 hb.size⟩, h.2.2.2.2.2.trans (hb.mono h.2.2.2.2.2.size)⟩
theorem BI.alloc {w wr : World} {p : Pol} {T : TypeId} {b : Bst} {A : Option Addr} {n c : Nat} (h : BI w wr p T b A n c) (o : Obj) : BI w (wr.alloc o) p T b A n c :=
  h.call ((Below.refl _ wr).alloc (Nat.le_refl _) o)
theorem BI.best {w wr w' : World} {p : Pol} {T : TypeId} {b : Bst} {A : Option Addr} {n c : Nat} (h : BI w wr p T b A n c) {v e : Int} {J : Jud} {o : List Adv} {A2 : Option Addr} {n2 c2 : Nat} (hb : Blk w' (w.heap.size + 2) T (J.row (.slice A2 n2 c2))) (hg : wr.grownBy w' (some (w.heap.size + 2))) (hs : AdvsAre wr A2 n2 c2 o) (hf : ∀ a, A2 = some a → w.heap.size + 3 ≤ a.block ∧ a.block < wr.heap.size) : BI w w' p T ⟨v, e, J, o⟩ A2 n2 c2 := by
  have hu : Upd (fun k => k = w.heap.size + 2) wr w' := (Upd.refl _ wr).grown hg (fun k hk => by injection hk with hk; exact .inl hk.symm)
  exact ⟨h.1.upd hu (by omega), h.2.1.upd hu (by omega), hb, slice_upd hs hu (fun a ha => by have := hf a ha; omega), fun a ha => ⟨(hf a ha).1, Nat.lt_of_lt_of_le (hf a ha).2 hg.size⟩, h.2.2.2.2.2.trans (Only.below hg (by omega) h.2.2.2.2.2.size)⟩
/-- What either Best answers. -/
def BestPost (p : Pol) (f sm rm : Int) (l : List Smp) (vs : List Int) (w : World) (e : Ending) (w' : World) : Prop :=
  ∃ A n c, e = .returned (.tuple #[.int .i64 (bq (runv p f sm rm l) vs bst0).v, .agg ((bq (runv p f sm rm l) vs bst0).j.row (.slice A n c)), .int .i64 (bq (runv p f sm rm l) vs bst0).e]) ∧ AdvsAre w' A n c (bq (runv p f sm rm l) vs bst0).o ∧ Below w.heap.size w w'
theorem BestPost.mk {p : Pol} {f sm rm : Int} {l : List Smp} {vs : List Int} {w : World} {e : Ending} {w' : World} {B : Bst} {A : Option Addr} {n c : Nat} (hB : bq (runv p f sm rm l) vs bst0 = B) (he : e = .returned (.tuple #[.int .i64 B.v, .agg (B.j.row (.slice A n c)), .int .i64 B.e])) (hs : AdvsAre w' A n c B.o) (hb : Below w.heap.size w w') : BestPost p f sm rm l vs w e w' := by
  subst hB
  exact ⟨A, n, c, he, hs, hb⟩
end Go.Proofs.YtjodpffdlggjgaaGreat
/- tune.Best: the walk. (fast region) -/
namespace Go.Proofs.YtjodpffdlggjgaaGreat
open Go.RowKit
set_option linter.unusedSimpArgs false
set_option linter.unusedVariables false
set_option maxHeartbeats 8000000
set_option maxRecDepth 100000
theorem tune_Best (p : Pol) (f : Int) (A0 : Option Addr) (len0 cap0 : Nat) (vs : List Int) (A : Option Addr) (len cap : Nat) (l : List Smp) (sm rm : Int) (w : World) (hp : p.fit) (hv : IntsAre w A0 len0 cap0 vs) (hvg : ∀ x ∈ vs, I64 x) (hs : SmpsAre w A len cap l) (hg : ∀ x ∈ l, x.good) (hn : len ≤ 200) (hn0 : len0 ≤ 1000) :
    Calls Tryz.prog 24 #[(.agg #[.int .i64 p.min, .int .i64 p.max, .int .i64 p.target, .int .i64 p.tol, .int .i64 p.window, .int .i64 p.hold]), .int .i64 f, .slice A0 len0 cap0, .slice A len cap, .int .i64 sm, .int .i64 rm] w (BestPost p f sm rm l vs w) := by
  have D0 := Lib.hid (BI.start w p 28)
  have HV := Lib.hid hv
  have HL := Lib.hid hv.1
  have HVG := Lib.hid hvg
  have HS := Lib.hid hs
  have HG := Lib.hid hg
  have HP := Lib.hid hp
  clear hv hvg hs hg hp
  go_enter Tryz.func24, Tryz.ntmps24
  go_wp2
  go_loopw [15, 17, 24] (fun s15 s17 i wr => ∃ k : Nat, ∃ b : Bst, ∃ A1 n1 c1, k ≤ len0 ∧ i = .int .i64 k ∧ s15 = .int .i64 b.v ∧ s17 = .int .i64 b.e ∧ bq (runv p f sm rm l) vs bst0 = bq (runv p f sm rm l) (vs.drop k) b ∧ BI w wr p 28 b A1 n1 c1) (fun _ _ i _ => len0 - (intOf i).toNat)
  case atStart => exact ⟨0, bst0, none, 0, 0, Nat.zero_le _, rfl, rfl, rfl, rfl, D0.out⟩
  case round =>
    obtain ⟨k, b, A1, n1, c1, hk, rfl, rfl, rfl, hq, hbi⟩ := hrel
    have HQ := Lib.hid hq
    have HBI := Lib.hid hbi
    clear hq hbi
    by_cases hlt : k < len0
    · obtain ⟨bb, off, x, rfl, hx, hbb, t0⟩ := IntsAre.at_ HV.out hlt
      have kt0 := (HBI.out.2.2.2.2.2.cell (p := ⟨bb, off + k, none⟩) hbb).trans t0
      have hki : (k : Int) < (len0 : Int) := by omega
      have HW := Lib.hid (fun W => tune_With p f x W)
      have HR := Lib.hid (fun W hW => trial_RunF (withq p f x) A len cap l sm rm W (fit_with HP.out f (HVG.out x (List.mem_of_getElem? hx))) hW HG.out hn)
      unfold RunAnyF at HR
      have q7 := Lib.hid (fun h : rune (withq p f x) sm rm = 7 => HQ.out.trans (bq_skip (R := runv p f sm rm l) (b := b) hx h))
      have q1 := Lib.hid (fun (h : rune (withq p f x) sm rm ≠ 7) (h2 : rune (withq p f x) sm rm ≠ 0) => (show bq (runv p f sm rm l) vs bst0 = ⟨0, rune (withq p f x) sm rm, j0, []⟩ from HQ.out.trans (bq_stop (R := runv p f sm rm l) (b := b) hx h h2)))
      have qt := Lib.hid (fun (h : rune (withq p f x) sm rm = 0) (h2 : b.e ≠ 0 ∨ cmpj (judq (withq p f x) (outq (withq p f x) sm rm l)) b.j < 0) => (show bq (runv p f sm rm l) vs bst0 = bq (runv p f sm rm l) (vs.drop (k + 1)) ⟨x, 0, judq (withq p f x) (outq (withq p f x) sm rm l), outq (withq p f x) sm rm l⟩ from HQ.out.trans (bq_take (R := runv p f sm rm l) (b := b) hx h h2)))
      have qk := Lib.hid (fun (h : rune (withq p f x) sm rm = 0) (h2 : ¬ (b.e ≠ 0 ∨ cmpj (judq (withq p f x) (outq (withq p f x) sm rm l)) b.j < 0)) => HQ.out.trans (bq_keep (R := runv p f sm rm l) (b := b) hx h h2))
      have hE := rune_is (withq p f x) sm rm
      generalize withq p f x = q at *
      generalize judq q (outq q sm rm l) = J at *
      generalize outq q sm rm l = OUT at *
      generalize rune q sm rm = E at *
      clear hx hbb t0
      obtain ⟨bv, be, bj, bo⟩ := b
      simp only at q7 q1 qt qk HQ
      rcases hE with rfl | rfl | rfl
      · have HCmp : Hid (∀ A3 n3 c3 W, Calls Tryz.prog 27 #[.agg (J.row (.slice A3 n3 c3)), .agg (bj.row (.slice A1 n1 c1))] W fun e w' => e = .returned (.int .i64 (cmpj J bj)) ∧ Below W.heap.size W w') := Lib.hid fun A3 n3 c3 W => trial_Cmp ⟨A3, n3, c3, J.ch, J.tn, J.least, J.most, J.spare, J.short⟩ ⟨A1, n1, c1, bj.ch, bj.tn, bj.least, bj.most, bj.spare, bj.short⟩ W
        generalize cmpj J bj = C at *
        by_cases hbe : be = 0
        · subst hbe
          by_cases hC : C < 0
          · have HT := Lib.hid (qt.out rfl (.inr hC))
            have dC : decide (C < 0) = true := by simpa using hC
            clear q7 q1 qt qk hC
            focus (go_upto_region 12 with (first
              | (refine Blk.load rfl 23 (.tmp 6) rfl _ _ _ _ rfl HBI.out.1 Tryz.underlying23 rfl (by kernel_rfl) ?_)
              | (go_at_call 26; refine (HW.out _).mono ?_; rintro e v2 ⟨rfl, hb2⟩; have I2 := Lib.hid (HBI.out.call hb2); clear hb2)
              | (go_at_call 8; refine (HR.out _ (slice_keep HS.out I2.out.2.2.2.2.2)).mono ?_; rintro e v3 ⟨A3, n3, c3, rfl, hs3, hb3, hf3⟩; have F3 := Lib.hid hf3; have S3 := Lib.hid hs3; have I3 := Lib.hid ((I2.out.call hb3).alloc (.cells (J.row (.slice A3 n3 c3)) 28)); have R3 := Lib.hid (Blk.new v3 28 (J.row (.slice A3 n3 c3))); have G3 := Lib.hid (And.intro I2.out.2.2.2.2.2.size I2.out.2.2.1.lt); have r0 := (R3.out).cellv (i := 0) (v := .slice A3 n3 c3) rfl; have r1 := (R3.out).cellv (i := 1) (v := .int .i64 J.ch) rfl; have r2 := (R3.out).cellv (i := 2) (v := .int .i64 J.tn) rfl; have r3 := (R3.out).cellv (i := 3) (v := .int .i64 J.least) rfl; have r4 := (R3.out).cellv (i := 4) (v := .int .i64 J.most) rfl; have r5 := (R3.out).cellv (i := 5) (v := .int .i64 J.spare) rfl; have r6 := (R3.out).cellv (i := 6) (v := .int .i64 J.short) rfl; have s0 := (I3.out.2.2.1).cellv (i := 0) (v := .slice A1 n1 c1) rfl; have s1 := (I3.out.2.2.1).cellv (i := 1) (v := .int .i64 bj.ch) rfl; have s2 := (I3.out.2.2.1).cellv (i := 2) (v := .int .i64 bj.tn) rfl; have s3 := (I3.out.2.2.1).cellv (i := 3) (v := .int .i64 bj.least) rfl; have s4 := (I3.out.2.2.1).cellv (i := 4) (v := .int .i64 bj.most) rfl; have s5 := (I3.out.2.2.1).cellv (i := 5) (v := .int .i64 bj.spare) rfl; have s6 := (I3.out.2.2.1).cellv (i := 6) (v := .int .i64 bj.short) rfl; clear hb3 hs3 hf3)
              | (go_at_call 27; refine (HCmp.out A3 n3 c3 _).mono ?_; rintro e v4 ⟨rfl, hb4⟩; have I4 := Lib.hid (I3.out.call hb4); have R4 := Lib.hid (R3.out.call hb4); have S4 := Lib.hid (slice_keep S3.out (((Below.refl _ v3).alloc (Nat.le_refl _) _).trans (hb4.mono (by simp)))); have F4 := Lib.hid (fun (a : Addr) (ha : A3 = some a) => (⟨by have := F3.out a ha; have := G3.out; omega, by have := F3.out a ha; have := hb4.size; simp at this; omega⟩ : w.heap.size + 3 ≤ a.block ∧ a.block < v4.heap.size)); clear hb4)))
            (try clear r0 r1 r2 r3 r4 r5 r6 s0 s1 s2 s3 s4 s5 s6)
            refine wp_region_any (by kernel_rfl) ?_; change wpAny _ _ _ _ _ _ _ (World.drew v4); refine any_of_anyG (late := fun j => [3, 4].contains j) (S := fun wS => Below v4.heap.size v4 wS) _ _ _ _ ?_
            have S0 := (Below.refl v4.heap.size v4).drew
            refine anyG_takes (is := [0, 1, 2]) (vs := [_, _, _]) (m := 2) (listed2 := #[true, true, true, false, false]) (a2 := ⟨#[_, _, _, _, _, _, _, _, _, _, _, _, _, _, _, _, _, _, _, _, _, _, _, _, _, _, _, _, _, _, _, _, _, _, _, _, _, _, _, _, _, _, _, _, _, _, _, _, _, _, _, _, _, _, _, _, _, _, _], _⟩) (by kernel_rfl) (fun j hj => by first | (simp at hj; done) | (simp at hj; simp; omega)) (by kernel_rfl) (fun _ _ _ _ _ h => h) (Ys.cons rfl (Or.inl ⟨by rfl, fun W1 hW1 => by first | rfl | (go_simp; done) | (go_simp; with_reducible rfl)⟩) (Ys.cons rfl (Or.inl ⟨by rfl, fun W1 hW1 => exec_load (ty := 28) (x := .tmp 20) rfl rfl (run_loadAt_blk _ _ _ _ _ _ (R4.out.call hW1) Tryz.underlying28 rfl (by first | kernel_rfl | exact info_num _))⟩) (Ys.cons rfl (Or.inl ⟨by rfl, fun W1 hW1 => by first | rfl | (go_simp; done) | (go_simp; with_reducible rfl)⟩) (Ys.nil)))) (S0) (by rfl) (by rfl) ?_
            refine anyG_of_any _ _ _ _ (by kernel_rfl) ?_
            refine any_one (k := 3) (by kernel_rfl) rfl (by rfl) (fun Q2 hQ2 => ?_); go_wp2_with (refine wpList_store_row rfl 28 (.tmp 16) (.tmp 54) rfl (w.heap.size + 2) _ _ _ rfl rfl (I4.out.call (S0)).2.2.1 (by rfl) (by kernel_rfl) (by simp [Value.oneCell']) ?_; intro w9 hb9 hg9); (try refine hQ2 _ _ ?_); (try clear hQ2 Q2)
            refine wpAny_take (i := 4) (v := _) rfl (by kernel_rfl) (by kernel_rfl) (by kernel_rfl) (fun _ _ _ h => h) (Or.inl ⟨by rfl, fun W => by rfl⟩) ?_
            refine wpAny_done (by kernel_rfl) ?_ _
            go_wp2
            go_roundw
            case rel => exact ⟨k + 1, ⟨x, 0, J, OUT⟩, A3, n3, c3, by omega, by go_num, rfl, rfl, HT.out, BI.best (I4.out.call (S0)) hb9 hg9 (slice_keep S4.out (S0)) (fun a ha => ⟨(F4.out a ha).1, Nat.lt_of_lt_of_le (F4.out a ha).2 (Below.size (S0))⟩)⟩
            case measure => simp [intOf]; omega
          · have HK := Lib.hid (qk.out rfl (by intro h; rcases h with h | h; exact h rfl; exact hC h))
            have dC : decide (C < 0) = false := by simpa using hC
            clear q7 q1 qt qk hC
            go_wp2_with (first
              | (refine Blk.load rfl 23 (.tmp 6) rfl _ _ _ _ rfl HBI.out.1 Tryz.underlying23 rfl (by kernel_rfl) ?_)
              | (go_at_call 26; refine (HW.out _).mono ?_; rintro e v2 ⟨rfl, hb2⟩; have I2 := Lib.hid (HBI.out.call hb2); clear hb2)
              | (go_at_call 8; refine (HR.out _ (slice_keep HS.out I2.out.2.2.2.2.2)).mono ?_; rintro e v3 ⟨A3, n3, c3, rfl, hs3, hb3, hf3⟩; have F3 := Lib.hid hf3; have S3 := Lib.hid hs3; have I3 := Lib.hid ((I2.out.call hb3).alloc (.cells (J.row (.slice A3 n3 c3)) 28)); have R3 := Lib.hid (Blk.new v3 28 (J.row (.slice A3 n3 c3))); have G3 := Lib.hid (And.intro I2.out.2.2.2.2.2.size I2.out.2.2.1.lt); have r0 := (R3.out).cellv (i := 0) (v := .slice A3 n3 c3) rfl; have r1 := (R3.out).cellv (i := 1) (v := .int .i64 J.ch) rfl; have r2 := (R3.out).cellv (i := 2) (v := .int .i64 J.tn) rfl; have r3 := (R3.out).cellv (i := 3) (v := .int .i64 J.least) rfl; have r4 := (R3.out).cellv (i := 4) (v := .int .i64 J.most) rfl; have r5 := (R3.out).cellv (i := 5) (v := .int .i64 J.spare) rfl; have r6 := (R3.out).cellv (i := 6) (v := .int .i64 J.short) rfl; have s0 := (I3.out.2.2.1).cellv (i := 0) (v := .slice A1 n1 c1) rfl; have s1 := (I3.out.2.2.1).cellv (i := 1) (v := .int .i64 bj.ch) rfl; have s2 := (I3.out.2.2.1).cellv (i := 2) (v := .int .i64 bj.tn) rfl; have s3 := (I3.out.2.2.1).cellv (i := 3) (v := .int .i64 bj.least) rfl; have s4 := (I3.out.2.2.1).cellv (i := 4) (v := .int .i64 bj.most) rfl; have s5 := (I3.out.2.2.1).cellv (i := 5) (v := .int .i64 bj.spare) rfl; have s6 := (I3.out.2.2.1).cellv (i := 6) (v := .int .i64 bj.short) rfl; clear hb3 hs3 hf3)
              | (go_at_call 27; refine (HCmp.out A3 n3 c3 _).mono ?_; rintro e v4 ⟨rfl, hb4⟩; have I4 := Lib.hid (I3.out.call hb4); have R4 := Lib.hid (R3.out.call hb4); have S4 := Lib.hid (slice_keep S3.out (((Below.refl _ v3).alloc (Nat.le_refl _) _).trans (hb4.mono (by simp)))); have F4 := Lib.hid (fun (a : Addr) (ha : A3 = some a) => (⟨by have := F3.out a ha; have := G3.out; omega, by have := F3.out a ha; have := hb4.size; simp at this; omega⟩ : w.heap.size + 3 ≤ a.block ∧ a.block < v4.heap.size)); clear hb4))
            go_roundw
            case rel => exact ⟨k + 1, ⟨bv, 0, bj, bo⟩, A1, n1, c1, by omega, by go_num, rfl, rfl, HK.out, I4.out⟩
            case measure => simp [intOf]; omega
        · have HT := Lib.hid (qt.out rfl (.inl hbe))
          have dbe : (be == 0) = false := by simpa using hbe
          have dbe2 : (be != 0) = true := by simpa using hbe
          clear q7 q1 qt qk hbe
          focus (go_upto_region 12 with (first
              | (refine Blk.load rfl 23 (.tmp 6) rfl _ _ _ _ rfl HBI.out.1 Tryz.underlying23 rfl (by kernel_rfl) ?_)
              | (go_at_call 26; refine (HW.out _).mono ?_; rintro e v2 ⟨rfl, hb2⟩; have I2 := Lib.hid (HBI.out.call hb2); clear hb2)
              | (go_at_call 8; refine (HR.out _ (slice_keep HS.out I2.out.2.2.2.2.2)).mono ?_; rintro e v3 ⟨A3, n3, c3, rfl, hs3, hb3, hf3⟩; have F3 := Lib.hid hf3; have S3 := Lib.hid hs3; have I3 := Lib.hid ((I2.out.call hb3).alloc (.cells (J.row (.slice A3 n3 c3)) 28)); have R3 := Lib.hid (Blk.new v3 28 (J.row (.slice A3 n3 c3))); have G3 := Lib.hid (And.intro I2.out.2.2.2.2.2.size I2.out.2.2.1.lt); clear hb3 hs3 hf3)))
          have S4 := Lib.hid (slice_keep S3.out ((Below.refl _ v3).alloc (Nat.le_refl _) (.cells (J.row (.slice A3 n3 c3)) 28)))
          have F4 := Lib.hid (fun (a : Addr) (ha : A3 = some a) => (⟨by have := F3.out a ha; have := G3.out; omega, by have := F3.out a ha; simp; omega⟩ : w.heap.size + 3 ≤ a.block ∧ a.block < (v3.alloc (.cells (J.row (.slice A3 n3 c3)) 28)).heap.size))
          obtain ⟨I4, R4⟩ := And.intro I3 R3
          clear I3 R3 F3 S3 G3
          generalize v3.heap.size = g4 at *
          generalize v3.alloc (.cells (J.row (.slice A3 n3 c3)) 28) = v4 at *
          refine wp_region_any (by kernel_rfl) ?_; change wpAny _ _ _ _ _ _ _ (World.drew v4); refine any_of_anyG (late := fun j => [3, 4].contains j) (S := fun wS => Below v4.heap.size v4 wS) _ _ _ _ ?_
          have S0 := (Below.refl v4.heap.size v4).drew
          refine anyG_takes (is := [0, 1, 2]) (vs := [_, _, _]) (m := 2) (listed2 := #[true, true, true, false, false]) (a2 := ⟨#[_, _, _, _, _, _, _, _, _, _, _, _, _, _, _, _, _, _, _, _, _, _, _, _, _, _, _, _, _, _, _, _, _, _, _, _, _, _, _, _, _, _, _, _, _, _, _, _, _, _, _, _, _, _, _, _, _, _, _], _⟩) (by kernel_rfl) (fun j hj => by first | (simp at hj; done) | (simp at hj; simp; omega)) (by kernel_rfl) (fun _ _ _ _ _ h => h) (Ys.cons rfl (Or.inl ⟨by rfl, fun W1 hW1 => by first | rfl | (go_simp; done) | (go_simp; with_reducible rfl)⟩) (Ys.cons rfl (Or.inl ⟨by rfl, fun W1 hW1 => exec_load (ty := 28) (x := .tmp 20) rfl rfl (run_loadAt_blk _ _ _ _ _ _ (R4.out.call hW1) Tryz.underlying28 rfl (by first | kernel_rfl | exact info_num _))⟩) (Ys.cons rfl (Or.inl ⟨by rfl, fun W1 hW1 => by first | rfl | (go_simp; done) | (go_simp; with_reducible rfl)⟩) (Ys.nil)))) (S0) (by rfl) (by rfl) ?_
          refine anyG_of_any _ _ _ _ (by kernel_rfl) ?_
          refine any_one (k := 3) (by kernel_rfl) rfl (by rfl) (fun Q2 hQ2 => ?_); go_wp2_with (refine wpList_store_row rfl 28 (.tmp 16) (.tmp 54) rfl (w.heap.size + 2) _ _ _ rfl rfl (I4.out.call (S0)).2.2.1 (by rfl) (by kernel_rfl) (by simp [Value.oneCell']) ?_; intro w9 hb9 hg9); (try refine hQ2 _ _ ?_); (try clear hQ2 Q2)
          refine wpAny_take (i := 4) (v := _) rfl (by kernel_rfl) (by kernel_rfl) (by kernel_rfl) (fun _ _ _ h => h) (Or.inl ⟨by rfl, fun W => by rfl⟩) ?_
          refine wpAny_done (by kernel_rfl) ?_ _
          go_wp2
          go_roundw
          case rel => exact ⟨k + 1, ⟨x, 0, J, OUT⟩, A3, n3, c3, by omega, by go_num, rfl, rfl, HT.out, BI.best (I4.out.call (S0)) hb9 hg9 (slice_keep S4.out (S0)) (fun a ha => ⟨(F4.out a ha).1, Nat.lt_of_lt_of_le (F4.out a ha).2 (Below.size (S0))⟩)⟩
          case measure => simp [intOf]; omega

      · have HN := Lib.hid (q1.out (by omega) (by omega))
        clear q7 q1 qt qk
        go_wp2_with (first
              | (refine Blk.load rfl 23 (.tmp 6) rfl _ _ _ _ rfl HBI.out.1 Tryz.underlying23 rfl (by kernel_rfl) ?_)
              | (go_at_call 26; refine (HW.out _).mono ?_; rintro e v2 ⟨rfl, hb2⟩; have I2 := Lib.hid (HBI.out.call hb2); clear hb2)
              | (go_at_call 8; refine (HR.out _ (slice_keep HS.out I2.out.2.2.2.2.2)).mono ?_; rintro e v3 ⟨A3, n3, c3, rfl, hs3, hb3, hf3⟩; have F3 := Lib.hid hf3; have S3 := Lib.hid hs3; have I3 := Lib.hid ((I2.out.call hb3).alloc (.cells (J.row (.slice A3 n3 c3)) 28)); have R3 := Lib.hid (Blk.new v3 28 (J.row (.slice A3 n3 c3))); have G3 := Lib.hid (And.intro I2.out.2.2.2.2.2.size I2.out.2.2.1.lt); clear hb3 hs3 hf3)
              | (refine wpList_store_row rfl 28 (.tmp 13) (.tmp 43) rfl (w.heap.size + 1) _ _ _ rfl rfl I3.out.2.1 (by rfl) (by kernel_rfl) (by simp [Value.oneCell']) ?_; intro w9 hb9 hg9))
        refine bodyPost_ret (results_row_mid rfl _ _ (w.heap.size + 1) _ _ _ rfl hb9 Tryz.underlying28 rfl (by kernel_rfl)) rfl (BestPost.mk (A := none) (n := 0) (c := 0) HN.out rfl (slice_nil _ _ _) (I3.out.2.2.2.2.2.trans (Only.below hg9 (by omega) I3.out.2.2.2.2.2.size)))
      · have HK := Lib.hid (q7.out rfl)
        clear q7 q1 qt qk
        go_wp2_with (first
              | (refine Blk.load rfl 23 (.tmp 6) rfl _ _ _ _ rfl HBI.out.1 Tryz.underlying23 rfl (by kernel_rfl) ?_)
              | (go_at_call 26; refine (HW.out _).mono ?_; rintro e v2 ⟨rfl, hb2⟩; have I2 := Lib.hid (HBI.out.call hb2); clear hb2)
              | (go_at_call 8; refine (HR.out _ (slice_keep HS.out I2.out.2.2.2.2.2)).mono ?_; rintro e v3 ⟨A3, n3, c3, rfl, hs3, hb3, hf3⟩; have F3 := Lib.hid hf3; have S3 := Lib.hid hs3; have I3 := Lib.hid ((I2.out.call hb3).alloc (.cells (J.row (.slice A3 n3 c3)) 28)); have R3 := Lib.hid (Blk.new v3 28 (J.row (.slice A3 n3 c3))); have G3 := Lib.hid (And.intro I2.out.2.2.2.2.2.size I2.out.2.2.1.lt); clear hb3 hs3 hf3))
        go_roundw
        case rel => exact ⟨k + 1, ⟨bv, be, bj, bo⟩, A1, n1, c1, by omega, by go_num, rfl, rfl, HK.out, I3.out⟩
        case measure => simp [intOf]; omega
    · have HE := Lib.hid (HQ.out.trans (bq_end (by have := HL.out; omega)))
      clear HQ
      focus (go_upto_region 14 with (fail))
      refine wp_region_any (by kernel_rfl) ?_; change wpAny _ _ _ _ _ _ _ (World.drew wr); refine any_of_anyG (late := fun _ => false) (S := fun wS => Upd (fun k => k = w.heap.size + 1) wr wS) _ _ _ _ ?_
      have S0 := (Upd.refl (fun k => k = w.heap.size + 1) wr).drew
      refine anyG_takes (is := [0, 1, 2, 3]) (vs := [_, _, _, _]) (m := 2) (listed2 := #[true, true, true, true, false, false]) (a2 := ⟨#[_, _, _, _, _, _, _, _, _, _, _, _, _, _, _, _, _, _, _, _, _, _, _, _, _, _, _, _, _, _, _, _, _, _, _, _, _, _, _, _, _, _, _, _, _, _, _, _, _, _, _, _, _, _, _, _, _, _, _], _⟩) (by kernel_rfl) (fun j hj => by simp at hj) (by kernel_rfl) (fun _ _ _ _ _ h => h) (Ys.cons rfl (Or.inl ⟨by rfl, fun W1 hW1 => by first | rfl | (go_simp; done) | (go_simp; with_reducible rfl)⟩) (Ys.cons rfl (Or.inl ⟨by rfl, fun W1 hW1 => exec_load (ty := 28) (x := .tmp 16) rfl rfl (run_loadAt_blk _ _ _ _ _ _ (HBI.out.2.2.1.upd hW1 (by omega)) Tryz.underlying28 rfl (by first | kernel_rfl | exact info_num _))⟩) (Ys.cons rfl (Or.inl ⟨by rfl, fun W1 hW1 => by first | rfl | (go_simp; done) | (go_simp; with_reducible rfl)⟩) (Ys.cons rfl (Or.inl ⟨by rfl, fun W1 hW1 => by first | rfl | (go_simp; done) | (go_simp; with_reducible rfl)⟩) (Ys.nil))))) (S0) (by rfl) (by rfl) ?_
      refine anyG_one (k := 4) (by kernel_rfl) rfl (by rfl) (fun Q2 hQ2 => ?_); go_wp2_with (refine wpList_store_row rfl 28 (.tmp 13) (.tmp 57) rfl (w.heap.size + 1) _ _ _ rfl rfl HBI.out.2.1 (by rfl) (by kernel_rfl) (by simp [Value.oneCell']) ?_; intro w9 hb9 hg9); refine hQ2 _ _ (fun _ => (S0).grown hg9 (fun k e => by injection e with e; exact .inl e.symm)) ?_; clear hQ2 Q2
      have S9 := (S0).grown hg9 (fun k e => by injection e with e; exact .inl e.symm)
      refine anyG_takes (is := [5]) (vs := [_]) (m := 0) (listed2 := #[true, true, true, true, true, true]) (a2 := ⟨#[_, _, _, _, _, _, _, _, _, _, _, _, _, _, _, _, _, _, _, _, _, _, _, _, _, _, _, _, _, _, _, _, _, _, _, _, _, _, _, _, _, _, _, _, _, _, _, _, _, _, _, _, _, _, _, _, _, _, _], _⟩) (by kernel_rfl) (fun j hj => by simp at hj) (by kernel_rfl) (fun _ _ _ _ _ h => h) (Ys.cons rfl (Or.inl ⟨by rfl, fun W1 hW1 => by first | rfl | (go_simp; done) | (go_simp; with_reducible rfl)⟩) (Ys.nil)) (S9) (by rfl) (by rfl) ?_
      refine anyG_done (by kernel_rfl) ?_ _
      go_wp2
      refine bodyPost_ret (results_row_mid rfl _ _ (w.heap.size + 1) _ _ _ rfl hb9 Tryz.underlying28 rfl (by kernel_rfl)) rfl (BestPost.mk HE.out rfl (slice_upd HBI.out.2.2.2.1 (S9) (fun a ha => by have := HBI.out.2.2.2.2.1 a ha; omega)) (HBI.out.2.2.2.2.2.trans (Upd.below (S9) (fun k hk => by omega) HBI.out.2.2.2.2.2.size)))
end Go.Proofs.YtjodpffdlggjgaaGreat
/- flywheelref45.Best: the walk. (fast region) -/
namespace Go.Proofs.YtjodpffdlggjgaaGreat
open Go.RowKit
set_option linter.unusedSimpArgs false
set_option linter.unusedVariables false
set_option maxHeartbeats 8000000
set_option maxRecDepth 100000
theorem ref45_Best (p : Pol) (f : Int) (A0 : Option Addr) (len0 cap0 : Nat) (vs : List Int) (A : Option Addr) (len cap : Nat) (l : List Smp) (sm rm : Int) (w : World) (hp : p.fit) (hv : IntsAre w A0 len0 cap0 vs) (hvg : ∀ x ∈ vs, I64 x) (hs : SmpsAre w A len cap l) (hg : ∀ x ∈ l, x.good) (hn : len ≤ 200) (hn0 : len0 ≤ 1000) :
    Calls Tryz.prog 25 #[(.agg #[.int .i64 p.min, .int .i64 p.max, .int .i64 p.target, .int .i64 p.tol, .int .i64 p.window, .int .i64 p.hold]), .int .i64 f, .slice A0 len0 cap0, .slice A len cap, .int .i64 sm, .int .i64 rm] w (BestPost p f sm rm l vs w) := by
  have D0 := Lib.hid (BI.start w p 34)
  have HV := Lib.hid hv
  have HL := Lib.hid hv.1
  have HVG := Lib.hid hvg
  have HS := Lib.hid hs
  have HG := Lib.hid hg
  have HP := Lib.hid hp
  clear hv hvg hs hg hp
  go_enter Tryz.func25, Tryz.ntmps25
  go_wp2
  go_loopw [15, 17, 18] (fun s15 s17 i wr => ∃ k : Nat, ∃ b : Bst, ∃ A1 n1 c1, k ≤ len0 ∧ i = .int .i64 k ∧ s15 = .int .i64 b.v ∧ s17 = .int .i64 b.e ∧ bq (runv p f sm rm l) vs bst0 = bq (runv p f sm rm l) (vs.drop k) b ∧ BI w wr p 34 b A1 n1 c1) (fun _ _ i _ => len0 - (intOf i).toNat)
  case atStart => exact ⟨0, bst0, none, 0, 0, Nat.zero_le _, rfl, rfl, rfl, rfl, D0.out⟩
  case round =>
    obtain ⟨k, b, A1, n1, c1, hk, rfl, rfl, rfl, hq, hbi⟩ := hrel
    have HQ := Lib.hid hq
    have HBI := Lib.hid hbi
    clear hq hbi
    by_cases hlt : k < len0
    · obtain ⟨bb, off, x, rfl, hx, hbb, t0⟩ := IntsAre.at_ HV.out hlt
      have kt0 := (HBI.out.2.2.2.2.2.cell (p := ⟨bb, off + k, none⟩) hbb).trans t0
      have hki : (k : Int) < (len0 : Int) := by omega
      have HBB := Lib.hid (Nat.lt_of_lt_of_le hbb HBI.out.2.2.2.2.2.size)
      have HT0 := Lib.hid kt0
      have HW := Lib.hid (fun W => ref_With p f x W)
      have HR := Lib.hid (fun W hW => ref45_RunF (withq p f x) A len cap l sm rm W (fit_with HP.out f (HVG.out x (List.mem_of_getElem? hx))) hW HG.out hn)
      unfold RunAnyF at HR
      have q7 := Lib.hid (fun h : rune (withq p f x) sm rm = 7 => HQ.out.trans (bq_skip (R := runv p f sm rm l) (b := b) hx h))
      have q1 := Lib.hid (fun (h : rune (withq p f x) sm rm ≠ 7) (h2 : rune (withq p f x) sm rm ≠ 0) => (show bq (runv p f sm rm l) vs bst0 = ⟨0, rune (withq p f x) sm rm, j0, []⟩ from HQ.out.trans (bq_stop (R := runv p f sm rm l) (b := b) hx h h2)))
      have qt := Lib.hid (fun (h : rune (withq p f x) sm rm = 0) (h2 : b.e ≠ 0 ∨ cmpj (judq (withq p f x) (outq (withq p f x) sm rm l)) b.j < 0) => (show bq (runv p f sm rm l) vs bst0 = bq (runv p f sm rm l) (vs.drop (k + 1)) ⟨x, 0, judq (withq p f x) (outq (withq p f x) sm rm l), outq (withq p f x) sm rm l⟩ from HQ.out.trans (bq_take (R := runv p f sm rm l) (b := b) hx h h2)))
      have qk := Lib.hid (fun (h : rune (withq p f x) sm rm = 0) (h2 : ¬ (b.e ≠ 0 ∨ cmpj (judq (withq p f x) (outq (withq p f x) sm rm l)) b.j < 0)) => HQ.out.trans (bq_keep (R := runv p f sm rm l) (b := b) hx h h2))
      have hE := rune_is (withq p f x) sm rm
      generalize withq p f x = q at *
      generalize judq q (outq q sm rm l) = J at *
      generalize outq q sm rm l = OUT at *
      generalize rune q sm rm = E at *
      clear hx hbb t0
      obtain ⟨bv, be, bj, bo⟩ := b
      simp only at q7 q1 qt qk HQ
      have HCase := Lib.hid (show (E = 0 ∧ be = 0 ∧ cmpj J bj < 0) ∨ (E = 0 ∧ be = 0 ∧ ¬ cmpj J bj < 0) ∨ (E = 0 ∧ be ≠ 0) ∨ E = 1 ∨ E = 7 by omega)
      have HCmp : Hid (∀ A3 n3 c3 W, Calls Tryz.prog 52 #[.agg (J.row (.slice A3 n3 c3)), .agg (bj.row (.slice A1 n1 c1))] W fun e w' => e = .returned (.int .i64 (cmpj J bj)) ∧ Below W.heap.size W w') := Lib.hid fun A3 n3 c3 W => ref44_Cmp ⟨A3, n3, c3, J.ch, J.tn, J.least, J.most, J.spare, J.short⟩ ⟨A1, n1, c1, bj.ch, bj.tn, bj.least, bj.most, bj.spare, bj.short⟩ W
      focus (go_upto_region 7 with (fail))
      clear kt0
      refine wp_region_any (by kernel_rfl) ?_; change wpAny _ _ _ _ _ _ _ (World.drew wr); refine any_of_anyG (late := fun _ => false) (S := fun wS => Below wr.heap.size wr wS) _ _ _ _ ?_
      have S0 := (Below.refl wr.heap.size wr).drew
      refine anyG_takes (is := [0, 1, 2, 3, 4]) (vs := [_, _, _, _, _]) (m := 12) (listed2 := #[true, true, true, true, true, false, false, false, false, false, false, false, false, false, false, false, false]) (a2 := ⟨#[_, _, _, _, _, _, _, _, _, _, _, _, _, _, _, _, _, _, _, _, _, _, _, _, _, _, _, _, _, _, _, _, _, _, _, _, _, _, _, _, _, _, _, _, _, _, _, _, _, _, _, _, _, _, _, _, _, _, _, _, _, _, _], _⟩) (by kernel_rfl) (fun j hj => by simp at hj) (by kernel_rfl) (fun _ _ _ _ _ h => h) (Ys.cons rfl (Or.inl ⟨by rfl, fun W1 hW1 => exec_load (ty := 23) (x := .tmp 6) rfl rfl (run_loadAt_blk _ _ _ _ _ _ (HBI.out.1.call hW1) Tryz.underlying23 rfl (by first | kernel_rfl | exact info_num _))⟩) (Ys.cons rfl (Or.inl ⟨by rfl, fun W1 hW1 => by first | rfl | (go_simp; done) | (go_simp; with_reducible rfl)⟩) (Ys.cons rfl (Or.inl ⟨by rfl, fun W1 hW1 => by first | rfl | (go_simp; done) | (go_simp; with_reducible rfl)⟩) (Ys.cons rfl (Or.inl ⟨by rfl, fun W1 hW1 => by first | rfl | (go_simp; done) | (go_simp; with_reducible rfl)⟩) (Ys.cons rfl (Or.inl ⟨by rfl, fun W1 hW1 => by first | rfl | (go_simp; done) | (go_simp; with_reducible rfl)⟩) (Ys.nil)))))) (S0) (by rfl) (by rfl) ?_
      refine anyG_takes (is := [5, 7, 8, 9]) (vs := [.int .i64 x, _, _, _]) (m := 8) (listed2 := #[true, true, true, true, true, true, false, true, true, true, false, false, false, false, false, false, false]) (a2 := ⟨#[_, _, _, _, _, _, _, _, _, _, _, _, _, _, _, _, _, _, _, _, _, _, _, _, _, _, _, _, _, _, _, _, _, _, _, _, _, _, _, _, _, _, _, _, _, _, _, _, _, _, _, _, _, _, _, _, _, _, _, _, _, _, _], _⟩) (by kernel_rfl) (fun j hj => by simp at hj) (by kernel_rfl) (fun _ _ _ _ _ h => h) (Ys.cons rfl (Or.inl ⟨by rfl, fun W1 hW1 => by have c := (hW1.cell (p := ⟨bb, off + k, none⟩) HBB.out).trans HT0.out; go_simp⟩) (Ys.cons rfl (Or.inl ⟨by rfl, fun W1 hW1 => by first | rfl | (go_simp; done) | (go_simp; with_reducible rfl)⟩) (Ys.cons rfl (Or.inl ⟨by rfl, fun W1 hW1 => by first | rfl | (go_simp; done) | (go_simp; with_reducible rfl)⟩) (Ys.cons rfl (Or.inl ⟨by rfl, fun W1 hW1 => by first | rfl | (go_simp; done) | (go_simp; with_reducible rfl)⟩) (Ys.nil))))) (S0) (by rfl) (by rfl) ?_
      refine anyG_two (i := 6) (j := 14) (by kernel_rfl) rfl (by rfl) rfl (by rfl) (fun Q2 hQ2 => ?_) (fun Q2 hQ2 => ?_)
      ·
        go_wp2_with (go_at_call 23; refine (HW.out _).mono ?_; rintro e v2 ⟨rfl, hb2⟩; (try have bG8 := bG8.call hb2))
        refine hQ2 _ _ (fun _ => S0.trans (hb2.mono S0.size)) ?_
        clear hQ2 Q2
        have S2 := S0.trans (hb2.mono S0.size)
        refine anyG_two (i := 10) (j := 14) (by kernel_rfl) rfl (by rfl) rfl (by rfl) (fun Q2 hQ2 => ?_) (fun Q2 hQ2 => ?_)
        ·
          go_wp2_with (go_at_call 22; refine (HR.out _ (slice_keep HS.out (HBI.out.2.2.2.2.2.trans (S2.mono HBI.out.2.2.2.2.2.size)))).mono ?_; rintro e v3 ⟨A3, n3, c3, rfl, hs3, hb3, hf3⟩; have F3 := Lib.hid hf3; have T3 := Lib.hid hs3; clear hf3 hs3; (try have bG8 := bG8.call hb3))
          refine hQ2 _ _ (fun _ => S2.trans (hb3.mono S2.size)) ?_
          clear hQ2 Q2
          have S3 := S2.trans (hb3.mono S2.size)
          refine anyG_takes (is := [11, 12, 13]) (vs := [_, _, _]) (m := 3) (listed2 := #[true, true, true, true, true, true, true, true, true, true, true, true, true, true, false, false, false]) (a2 := ⟨#[_, _, _, _, _, _, _, _, _, _, _, _, _, _, _, _, _, _, _, _, _, _, _, _, _, _, _, _, _, _, _, _, _, _, _, _, _, _, _, _, _, _, _, _, _, _, _, _, _, _, _, _, _, _, _, _, _, _, _, _, _, _, _], _⟩) (by kernel_rfl) (fun j hj => by simp at hj) (by kernel_rfl) (fun _ _ _ _ _ h => h) (Ys.cons rfl (Or.inl ⟨by rfl, fun W1 hW1 => by first | rfl | (go_simp; done) | (go_simp; with_reducible rfl)⟩) (Ys.cons rfl (Or.inl ⟨by rfl, fun W1 hW1 => by first | rfl | (go_simp; done) | (go_simp; with_reducible rfl)⟩) (Ys.cons rfl (Or.inl ⟨by rfl, fun W1 hW1 => by first | rfl | (go_simp; done) | (go_simp; with_reducible rfl)⟩) (Ys.nil)))) (S3) (by rfl) (by rfl) ?_
          refine anyG_one (k := 14) (by kernel_rfl) rfl (by rfl) (fun Q2 hQ2 => ?_)
          have nG8 := new_at (S := S3) (z7) 34
          obtain ⟨G8, hG8, bG8, lG8⟩ := nG8
          go_wp2_with fail
          refine hQ2 _ _ (fun _ => S3.alloc S3.size _) ?_
          clear hQ2 Q2
          (try simp only [hG8])
          have KG8 := Lib.hid hG8
          clear hG8
          have SG8 := S3.alloc S3.size (.cells (z7) 34)
          refine anyG_one (k := 15) (by kernel_rfl) rfl (by rfl) (fun Q2 hQ2 => ?_); go_wp2_with (refine wpList_store_row rfl 34 (.tmp 19) _ rfl _ _ _ _ rfl rfl (bG8) (by rfl) (by kernel_rfl) (by simp [Value.oneCell']) ?_; intro uG8 huG8 hwG8); refine hQ2 _ _ (fun _ => SG8.trans (Only.below hwG8 lG8 SG8.size)) ?_; clear hQ2 Q2
          have SsG8 := SG8.trans (Only.below hwG8 lG8 SG8.size)
          refine anyG_takes (is := [16]) (vs := [.int .i64 E]) (m := 0) (listed2 := #[true, true, true, true, true, true, true, true, true, true, true, true, true, true, true, true, true]) (a2 := ⟨#[_, _, _, _, _, _, _, _, _, _, _, _, _, _, _, _, _, _, _, _, _, _, _, _, _, _, _, _, _, _, _, _, _, _, _, _, _, _, _, _, _, _, _, _, _, _, _, _, _, _, _, _, _, _, _, _, _, _, _, _, _, _, _], _⟩) (by kernel_rfl) (fun j hj => by simp at hj) (by kernel_rfl) (fun _ _ _ _ _ h => h) (Ys.cons rfl (Or.inl ⟨by rfl, fun W1 hW1 => by rfl⟩) (Ys.nil)) (SsG8) (by rfl) (by rfl) ?_
          refine anyG_done (by kernel_rfl) ?_ _
          have hU : Upd (fun k => k = G8) v3 uG8 := by first | exact upd_of_grown hwG8 | exact Upd.trans (Upd.alloc (Upd.refl _ _) _) (upd_of_grown hwG8) (fun k hk => .inl hk)
          have I4 := Lib.hid (HBI.out.call (SsG8))
          have N4 : ∀ a : Addr, A3 = some a → a.block ≠ G8 ∧ w.heap.size + 3 ≤ a.block ∧ a.block < uG8.heap.size := fun a ha => by
            have h1 := F3.out a ha
            have h2 := KG8.out
            have h3 := hb2.size
            have h4 := hb3.size
            have h5 := hU.size
            have h6 := HBI.out.2.2.1.lt
            (try simp at h1); (try simp at h2); (try simp at h3); (try simp at h4)
            exact ⟨by omega, by omega, by omega⟩
          have F4 := Lib.hid (fun a ha => (N4 a ha).2)
          have S4 := Lib.hid (slice_upd T3.out hU (fun a ha => (N4 a ha).1))
          have R4 := Lib.hid huG8
          have K4 := Lib.hid ((Below.cell (p := ⟨bb, off + k, none⟩) (SsG8) HBB.out).trans HT0.out)
          clear N4 hU bG8 huG8 hwG8 lG8 hb2 hb3 hE
          rcases HCase.out with ⟨rfl, rfl, hC⟩ | ⟨rfl, rfl, hC⟩ | ⟨rfl, hbe⟩ | rfl | rfl
          · have HT := Lib.hid (qt.out rfl (.inr hC))
            generalize cmpj J bj = C at *
            have dC : decide (C < 0) = true := by simpa using hC
            have r0 := (R4.out).cellv (i := 0) (v := .slice A3 n3 c3) rfl; have r1 := (R4.out).cellv (i := 1) (v := .int .i64 J.ch) rfl; have r2 := (R4.out).cellv (i := 2) (v := .int .i64 J.tn) rfl; have r3 := (R4.out).cellv (i := 3) (v := .int .i64 J.least) rfl; have r4 := (R4.out).cellv (i := 4) (v := .int .i64 J.most) rfl; have r5 := (R4.out).cellv (i := 5) (v := .int .i64 J.spare) rfl; have r6 := (R4.out).cellv (i := 6) (v := .int .i64 J.short) rfl; have s0 := (I4.out.2.2.1).cellv (i := 0) (v := .slice A1 n1 c1) rfl; have s1 := (I4.out.2.2.1).cellv (i := 1) (v := .int .i64 bj.ch) rfl; have s2 := (I4.out.2.2.1).cellv (i := 2) (v := .int .i64 bj.tn) rfl; have s3 := (I4.out.2.2.1).cellv (i := 3) (v := .int .i64 bj.least) rfl; have s4 := (I4.out.2.2.1).cellv (i := 4) (v := .int .i64 bj.most) rfl; have s5 := (I4.out.2.2.1).cellv (i := 5) (v := .int .i64 bj.spare) rfl; have s6 := (I4.out.2.2.1).cellv (i := 6) (v := .int .i64 bj.short) rfl
            clear q7 q1 qt qk hC HCase
            go_wp2_with (first
              | (go_at_call 52; refine (HCmp.out A3 n3 c3 _).mono ?_; rintro e v5 ⟨rfl, hb5⟩; have I5 := Lib.hid (I4.out.call hb5); have R5 := Lib.hid (R4.out.call hb5); have S5 := Lib.hid (slice_keep S4.out hb5); have F5 := Lib.hid (fun (a : Addr) (ha : A3 = some a) => (⟨(F4.out a ha).1, Nat.lt_of_lt_of_le (F4.out a ha).2 hb5.size⟩ : w.heap.size + 3 ≤ a.block ∧ a.block < v5.heap.size)); have kt6 := (hb5.cell (p := ⟨bb, off + k, none⟩) (Nat.lt_of_lt_of_le HBB.out (Below.size (SsG8)))).trans K4.out; clear hb5)
              | (refine Blk.load rfl 34 (.tmp 19) rfl _ _ _ _ rfl R5.out Tryz.underlying34 rfl (by kernel_rfl) ?_)
              | (refine wpList_store_row rfl 34 (.tmp 16) (.tmp 59) rfl (w.heap.size + 2) _ _ _ rfl rfl I5.out.2.2.1 (by rfl) (by kernel_rfl) (by simp [Value.oneCell']) ?_; intro w9 hb9 hg9))
            go_roundw
            case rel => exact ⟨k + 1, ⟨x, 0, J, OUT⟩, A3, n3, c3, by omega, by go_num, rfl, rfl, HT.out, BI.best I5.out hb9 hg9 S5.out F5.out⟩
            case measure => simp [intOf]; omega
          · have HK := Lib.hid (qk.out rfl (by omega))
            generalize cmpj J bj = C at *
            have dC : decide (C < 0) = false := by simpa using hC
            have r0 := (R4.out).cellv (i := 0) (v := .slice A3 n3 c3) rfl; have r1 := (R4.out).cellv (i := 1) (v := .int .i64 J.ch) rfl; have r2 := (R4.out).cellv (i := 2) (v := .int .i64 J.tn) rfl; have r3 := (R4.out).cellv (i := 3) (v := .int .i64 J.least) rfl; have r4 := (R4.out).cellv (i := 4) (v := .int .i64 J.most) rfl; have r5 := (R4.out).cellv (i := 5) (v := .int .i64 J.spare) rfl; have r6 := (R4.out).cellv (i := 6) (v := .int .i64 J.short) rfl; have s0 := (I4.out.2.2.1).cellv (i := 0) (v := .slice A1 n1 c1) rfl; have s1 := (I4.out.2.2.1).cellv (i := 1) (v := .int .i64 bj.ch) rfl; have s2 := (I4.out.2.2.1).cellv (i := 2) (v := .int .i64 bj.tn) rfl; have s3 := (I4.out.2.2.1).cellv (i := 3) (v := .int .i64 bj.least) rfl; have s4 := (I4.out.2.2.1).cellv (i := 4) (v := .int .i64 bj.most) rfl; have s5 := (I4.out.2.2.1).cellv (i := 5) (v := .int .i64 bj.spare) rfl; have s6 := (I4.out.2.2.1).cellv (i := 6) (v := .int .i64 bj.short) rfl
            clear q7 q1 qt qk hC HCase
            go_wp2_with (go_at_call 52; refine (HCmp.out A3 n3 c3 _).mono ?_; rintro e v5 ⟨rfl, hb5⟩; have I5 := Lib.hid (I4.out.call hb5); clear hb5)
            go_roundw
            case rel => exact ⟨k + 1, ⟨bv, 0, bj, bo⟩, A1, n1, c1, by omega, by go_num, rfl, rfl, HK.out, I5.out⟩
            case measure => simp [intOf]; omega
          · have HT := Lib.hid (qt.out rfl (.inl hbe))
            have dbe : (be == 0) = false := by simpa using hbe
            have dbe2 : (be != 0) = true := by simpa using hbe
            have kt6 := K4.out
            clear q7 q1 qt qk hbe HCase
            go_wp2_with (first
              | (refine Blk.load rfl 34 (.tmp 19) rfl _ _ _ _ rfl R4.out Tryz.underlying34 rfl (by kernel_rfl) ?_)
              | (refine wpList_store_row rfl 34 (.tmp 16) (.tmp 59) rfl (w.heap.size + 2) _ _ _ rfl rfl I4.out.2.2.1 (by rfl) (by kernel_rfl) (by simp [Value.oneCell']) ?_; intro w9 hb9 hg9))
            go_roundw
            case rel => exact ⟨k + 1, ⟨x, 0, J, OUT⟩, A3, n3, c3, by omega, by go_num, rfl, rfl, HT.out, BI.best I4.out hb9 hg9 S4.out F4.out⟩
            case measure => simp [intOf]; omega
          · have HN := Lib.hid (q1.out (by omega) (by omega))
            clear q7 q1 qt qk HCase
            go_wp2_with (refine wpList_store_row rfl 34 (.tmp 13) (.tmp 45) rfl (w.heap.size + 1) _ _ _ rfl rfl I4.out.2.1 (by rfl) (by kernel_rfl) (by simp [Value.oneCell']) ?_; intro w9 hb9 hg9)
            refine bodyPost_ret (results_row_mid rfl _ _ (w.heap.size + 1) _ _ _ rfl hb9 Tryz.underlying34 rfl (by kernel_rfl)) rfl (BestPost.mk (A := none) (n := 0) (c := 0) HN.out rfl (slice_nil _ _ _) (I4.out.2.2.2.2.2.trans (Only.below hg9 (by omega) I4.out.2.2.2.2.2.size)))
          · have HK := Lib.hid (q7.out rfl)
            clear q7 q1 qt qk HCase
            go_wp2
            go_roundw
            case rel => exact ⟨k + 1, ⟨bv, be, bj, bo⟩, A1, n1, c1, by omega, by go_num, rfl, rfl, HK.out, I4.out⟩
            case measure => simp [intOf]; omega
        ·
          skip
          have nG8 := new_at (S := S2) (z7) 34
          obtain ⟨G8, hG8, bG8, lG8⟩ := nG8
          go_wp2_with fail
          refine hQ2 _ _ (fun _ => S2.alloc S2.size _) ?_
          clear hQ2 Q2
          (try simp only [hG8])
          have KG8 := Lib.hid hG8
          clear hG8
          have SG8 := S2.alloc S2.size (.cells (z7) 34)
          refine anyG_one (k := 10) (by kernel_rfl) rfl (by rfl) (fun Q2 hQ2 => ?_); go_wp2_with (go_at_call 22; refine (HR.out _ (slice_keep HS.out (HBI.out.2.2.2.2.2.trans (SG8.mono HBI.out.2.2.2.2.2.size)))).mono ?_; rintro e v3 ⟨A3, n3, c3, rfl, hs3, hb3, hf3⟩; have F3 := Lib.hid hf3; have T3 := Lib.hid hs3; clear hf3 hs3; (try have bG8 := bG8.call hb3)); refine hQ2 _ _ (fun _ => SG8.trans (hb3.mono SG8.size)) ?_; clear hQ2 Q2
          have S3 := SG8.trans (hb3.mono SG8.size)
          refine anyG_takes (is := [11, 12, 13]) (vs := [_, _, _]) (m := 2) (listed2 := #[true, true, true, true, true, true, true, true, true, true, true, true, true, true, true, false, false]) (a2 := ⟨#[_, _, _, _, _, _, _, _, _, _, _, _, _, _, _, _, _, _, _, _, _, _, _, _, _, _, _, _, _, _, _, _, _, _, _, _, _, _, _, _, _, _, _, _, _, _, _, _, _, _, _, _, _, _, _, _, _, _, _, _, _, _, _], _⟩) (by kernel_rfl) (fun j hj => by simp at hj) (by kernel_rfl) (fun _ _ _ _ _ h => h) (Ys.cons rfl (Or.inl ⟨by rfl, fun W1 hW1 => by first | rfl | (go_simp; done) | (go_simp; with_reducible rfl)⟩) (Ys.cons rfl (Or.inl ⟨by rfl, fun W1 hW1 => by first | rfl | (go_simp; done) | (go_simp; with_reducible rfl)⟩) (Ys.cons rfl (Or.inl ⟨by rfl, fun W1 hW1 => by first | rfl | (go_simp; done) | (go_simp; with_reducible rfl)⟩) (Ys.nil)))) (S3) (by rfl) (by rfl) ?_
          refine anyG_one (k := 15) (by kernel_rfl) rfl (by rfl) (fun Q2 hQ2 => ?_); go_wp2_with (refine wpList_store_row rfl 34 (.tmp 19) _ rfl _ _ _ _ rfl rfl (bG8) (by rfl) (by kernel_rfl) (by simp [Value.oneCell']) ?_; intro uG8 huG8 hwG8); refine hQ2 _ _ (fun _ => S3.trans (Only.below hwG8 lG8 S3.size)) ?_; clear hQ2 Q2
          have SsG8 := S3.trans (Only.below hwG8 lG8 S3.size)
          refine anyG_takes (is := [16]) (vs := [.int .i64 E]) (m := 0) (listed2 := #[true, true, true, true, true, true, true, true, true, true, true, true, true, true, true, true, true]) (a2 := ⟨#[_, _, _, _, _, _, _, _, _, _, _, _, _, _, _, _, _, _, _, _, _, _, _, _, _, _, _, _, _, _, _, _, _, _, _, _, _, _, _, _, _, _, _, _, _, _, _, _, _, _, _, _, _, _, _, _, _, _, _, _, _, _, _], _⟩) (by kernel_rfl) (fun j hj => by simp at hj) (by kernel_rfl) (fun _ _ _ _ _ h => h) (Ys.cons rfl (Or.inl ⟨by rfl, fun W1 hW1 => by rfl⟩) (Ys.nil)) (SsG8) (by rfl) (by rfl) ?_
          refine anyG_done (by kernel_rfl) ?_ _
          have hU : Upd (fun k => k = G8) v3 uG8 := by first | exact upd_of_grown hwG8 | exact Upd.trans (Upd.alloc (Upd.refl _ _) _) (upd_of_grown hwG8) (fun k hk => .inl hk)
          have I4 := Lib.hid (HBI.out.call (SsG8))
          have N4 : ∀ a : Addr, A3 = some a → a.block ≠ G8 ∧ w.heap.size + 3 ≤ a.block ∧ a.block < uG8.heap.size := fun a ha => by
            have h1 := F3.out a ha
            have h2 := KG8.out
            have h3 := hb2.size
            have h4 := hb3.size
            have h5 := hU.size
            have h6 := HBI.out.2.2.1.lt
            (try simp at h1); (try simp at h2); (try simp at h3); (try simp at h4)
            exact ⟨by omega, by omega, by omega⟩
          have F4 := Lib.hid (fun a ha => (N4 a ha).2)
          have S4 := Lib.hid (slice_upd T3.out hU (fun a ha => (N4 a ha).1))
          have R4 := Lib.hid huG8
          have K4 := Lib.hid ((Below.cell (p := ⟨bb, off + k, none⟩) (SsG8) HBB.out).trans HT0.out)
          clear N4 hU bG8 huG8 hwG8 lG8 hb2 hb3 hE
          rcases HCase.out with ⟨rfl, rfl, hC⟩ | ⟨rfl, rfl, hC⟩ | ⟨rfl, hbe⟩ | rfl | rfl
          · have HT := Lib.hid (qt.out rfl (.inr hC))
            generalize cmpj J bj = C at *
            have dC : decide (C < 0) = true := by simpa using hC
            have r0 := (R4.out).cellv (i := 0) (v := .slice A3 n3 c3) rfl; have r1 := (R4.out).cellv (i := 1) (v := .int .i64 J.ch) rfl; have r2 := (R4.out).cellv (i := 2) (v := .int .i64 J.tn) rfl; have r3 := (R4.out).cellv (i := 3) (v := .int .i64 J.least) rfl; have r4 := (R4.out).cellv (i := 4) (v := .int .i64 J.most) rfl; have r5 := (R4.out).cellv (i := 5) (v := .int .i64 J.spare) rfl; have r6 := (R4.out).cellv (i := 6) (v := .int .i64 J.short) rfl; have s0 := (I4.out.2.2.1).cellv (i := 0) (v := .slice A1 n1 c1) rfl; have s1 := (I4.out.2.2.1).cellv (i := 1) (v := .int .i64 bj.ch) rfl; have s2 := (I4.out.2.2.1).cellv (i := 2) (v := .int .i64 bj.tn) rfl; have s3 := (I4.out.2.2.1).cellv (i := 3) (v := .int .i64 bj.least) rfl; have s4 := (I4.out.2.2.1).cellv (i := 4) (v := .int .i64 bj.most) rfl; have s5 := (I4.out.2.2.1).cellv (i := 5) (v := .int .i64 bj.spare) rfl; have s6 := (I4.out.2.2.1).cellv (i := 6) (v := .int .i64 bj.short) rfl
            clear q7 q1 qt qk hC HCase
            go_wp2_with (first
              | (go_at_call 52; refine (HCmp.out A3 n3 c3 _).mono ?_; rintro e v5 ⟨rfl, hb5⟩; have I5 := Lib.hid (I4.out.call hb5); have R5 := Lib.hid (R4.out.call hb5); have S5 := Lib.hid (slice_keep S4.out hb5); have F5 := Lib.hid (fun (a : Addr) (ha : A3 = some a) => (⟨(F4.out a ha).1, Nat.lt_of_lt_of_le (F4.out a ha).2 hb5.size⟩ : w.heap.size + 3 ≤ a.block ∧ a.block < v5.heap.size)); have kt6 := (hb5.cell (p := ⟨bb, off + k, none⟩) (Nat.lt_of_lt_of_le HBB.out (Below.size (SsG8)))).trans K4.out; clear hb5)
              | (refine Blk.load rfl 34 (.tmp 19) rfl _ _ _ _ rfl R5.out Tryz.underlying34 rfl (by kernel_rfl) ?_)
              | (refine wpList_store_row rfl 34 (.tmp 16) (.tmp 59) rfl (w.heap.size + 2) _ _ _ rfl rfl I5.out.2.2.1 (by rfl) (by kernel_rfl) (by simp [Value.oneCell']) ?_; intro w9 hb9 hg9))
            go_roundw
            case rel => exact ⟨k + 1, ⟨x, 0, J, OUT⟩, A3, n3, c3, by omega, by go_num, rfl, rfl, HT.out, BI.best I5.out hb9 hg9 S5.out F5.out⟩
            case measure => simp [intOf]; omega
          · have HK := Lib.hid (qk.out rfl (by omega))
            generalize cmpj J bj = C at *
            have dC : decide (C < 0) = false := by simpa using hC
            have r0 := (R4.out).cellv (i := 0) (v := .slice A3 n3 c3) rfl; have r1 := (R4.out).cellv (i := 1) (v := .int .i64 J.ch) rfl; have r2 := (R4.out).cellv (i := 2) (v := .int .i64 J.tn) rfl; have r3 := (R4.out).cellv (i := 3) (v := .int .i64 J.least) rfl; have r4 := (R4.out).cellv (i := 4) (v := .int .i64 J.most) rfl; have r5 := (R4.out).cellv (i := 5) (v := .int .i64 J.spare) rfl; have r6 := (R4.out).cellv (i := 6) (v := .int .i64 J.short) rfl; have s0 := (I4.out.2.2.1).cellv (i := 0) (v := .slice A1 n1 c1) rfl; have s1 := (I4.out.2.2.1).cellv (i := 1) (v := .int .i64 bj.ch) rfl; have s2 := (I4.out.2.2.1).cellv (i := 2) (v := .int .i64 bj.tn) rfl; have s3 := (I4.out.2.2.1).cellv (i := 3) (v := .int .i64 bj.least) rfl; have s4 := (I4.out.2.2.1).cellv (i := 4) (v := .int .i64 bj.most) rfl; have s5 := (I4.out.2.2.1).cellv (i := 5) (v := .int .i64 bj.spare) rfl; have s6 := (I4.out.2.2.1).cellv (i := 6) (v := .int .i64 bj.short) rfl
            clear q7 q1 qt qk hC HCase
            go_wp2_with (go_at_call 52; refine (HCmp.out A3 n3 c3 _).mono ?_; rintro e v5 ⟨rfl, hb5⟩; have I5 := Lib.hid (I4.out.call hb5); clear hb5)
            go_roundw
            case rel => exact ⟨k + 1, ⟨bv, 0, bj, bo⟩, A1, n1, c1, by omega, by go_num, rfl, rfl, HK.out, I5.out⟩
            case measure => simp [intOf]; omega
          · have HT := Lib.hid (qt.out rfl (.inl hbe))
            have dbe : (be == 0) = false := by simpa using hbe
            have dbe2 : (be != 0) = true := by simpa using hbe
            have kt6 := K4.out
            clear q7 q1 qt qk hbe HCase
            go_wp2_with (first
              | (refine Blk.load rfl 34 (.tmp 19) rfl _ _ _ _ rfl R4.out Tryz.underlying34 rfl (by kernel_rfl) ?_)
              | (refine wpList_store_row rfl 34 (.tmp 16) (.tmp 59) rfl (w.heap.size + 2) _ _ _ rfl rfl I4.out.2.2.1 (by rfl) (by kernel_rfl) (by simp [Value.oneCell']) ?_; intro w9 hb9 hg9))
            go_roundw
            case rel => exact ⟨k + 1, ⟨x, 0, J, OUT⟩, A3, n3, c3, by omega, by go_num, rfl, rfl, HT.out, BI.best I4.out hb9 hg9 S4.out F4.out⟩
            case measure => simp [intOf]; omega
          · have HN := Lib.hid (q1.out (by omega) (by omega))
            clear q7 q1 qt qk HCase
            go_wp2_with (refine wpList_store_row rfl 34 (.tmp 13) (.tmp 45) rfl (w.heap.size + 1) _ _ _ rfl rfl I4.out.2.1 (by rfl) (by kernel_rfl) (by simp [Value.oneCell']) ?_; intro w9 hb9 hg9)
            refine bodyPost_ret (results_row_mid rfl _ _ (w.heap.size + 1) _ _ _ rfl hb9 Tryz.underlying34 rfl (by kernel_rfl)) rfl (BestPost.mk (A := none) (n := 0) (c := 0) HN.out rfl (slice_nil _ _ _) (I4.out.2.2.2.2.2.trans (Only.below hg9 (by omega) I4.out.2.2.2.2.2.size)))
          · have HK := Lib.hid (q7.out rfl)
            clear q7 q1 qt qk HCase
            go_wp2
            go_roundw
            case rel => exact ⟨k + 1, ⟨bv, be, bj, bo⟩, A1, n1, c1, by omega, by go_num, rfl, rfl, HK.out, I4.out⟩
            case measure => simp [intOf]; omega
      ·
        skip
        have nG8 := new_at (S := S0) (z7) 34
        obtain ⟨G8, hG8, bG8, lG8⟩ := nG8
        go_wp2_with fail
        refine hQ2 _ _ (fun _ => S0.alloc S0.size _) ?_
        clear hQ2 Q2
        (try simp only [hG8])
        have KG8 := Lib.hid hG8
        clear hG8
        have SG8 := S0.alloc S0.size (.cells (z7) 34)
        refine anyG_one (k := 6) (by kernel_rfl) rfl (by rfl) (fun Q2 hQ2 => ?_); go_wp2_with (go_at_call 23; refine (HW.out _).mono ?_; rintro e v2 ⟨rfl, hb2⟩; (try have bG8 := bG8.call hb2)); refine hQ2 _ _ (fun _ => SG8.trans (hb2.mono SG8.size)) ?_; clear hQ2 Q2
        have S2 := SG8.trans (hb2.mono SG8.size)
        refine anyG_one (k := 10) (by kernel_rfl) rfl (by rfl) (fun Q2 hQ2 => ?_); go_wp2_with (go_at_call 22; refine (HR.out _ (slice_keep HS.out (HBI.out.2.2.2.2.2.trans (S2.mono HBI.out.2.2.2.2.2.size)))).mono ?_; rintro e v3 ⟨A3, n3, c3, rfl, hs3, hb3, hf3⟩; have F3 := Lib.hid hf3; have T3 := Lib.hid hs3; clear hf3 hs3; (try have bG8 := bG8.call hb3)); refine hQ2 _ _ (fun _ => S2.trans (hb3.mono S2.size)) ?_; clear hQ2 Q2
        have S3 := S2.trans (hb3.mono S2.size)
        refine anyG_takes (is := [11, 12, 13]) (vs := [_, _, _]) (m := 2) (listed2 := #[true, true, true, true, true, true, true, true, true, true, true, true, true, true, true, false, false]) (a2 := ⟨#[_, _, _, _, _, _, _, _, _, _, _, _, _, _, _, _, _, _, _, _, _, _, _, _, _, _, _, _, _, _, _, _, _, _, _, _, _, _, _, _, _, _, _, _, _, _, _, _, _, _, _, _, _, _, _, _, _, _, _, _, _, _, _], _⟩) (by kernel_rfl) (fun j hj => by simp at hj) (by kernel_rfl) (fun _ _ _ _ _ h => h) (Ys.cons rfl (Or.inl ⟨by rfl, fun W1 hW1 => by first | rfl | (go_simp; done) | (go_simp; with_reducible rfl)⟩) (Ys.cons rfl (Or.inl ⟨by rfl, fun W1 hW1 => by first | rfl | (go_simp; done) | (go_simp; with_reducible rfl)⟩) (Ys.cons rfl (Or.inl ⟨by rfl, fun W1 hW1 => by first | rfl | (go_simp; done) | (go_simp; with_reducible rfl)⟩) (Ys.nil)))) (S3) (by rfl) (by rfl) ?_
        refine anyG_one (k := 15) (by kernel_rfl) rfl (by rfl) (fun Q2 hQ2 => ?_); go_wp2_with (refine wpList_store_row rfl 34 (.tmp 19) _ rfl _ _ _ _ rfl rfl (bG8) (by rfl) (by kernel_rfl) (by simp [Value.oneCell']) ?_; intro uG8 huG8 hwG8); refine hQ2 _ _ (fun _ => S3.trans (Only.below hwG8 lG8 S3.size)) ?_; clear hQ2 Q2
        have SsG8 := S3.trans (Only.below hwG8 lG8 S3.size)
        refine anyG_takes (is := [16]) (vs := [.int .i64 E]) (m := 0) (listed2 := #[true, true, true, true, true, true, true, true, true, true, true, true, true, true, true, true, true]) (a2 := ⟨#[_, _, _, _, _, _, _, _, _, _, _, _, _, _, _, _, _, _, _, _, _, _, _, _, _, _, _, _, _, _, _, _, _, _, _, _, _, _, _, _, _, _, _, _, _, _, _, _, _, _, _, _, _, _, _, _, _, _, _, _, _, _, _], _⟩) (by kernel_rfl) (fun j hj => by simp at hj) (by kernel_rfl) (fun _ _ _ _ _ h => h) (Ys.cons rfl (Or.inl ⟨by rfl, fun W1 hW1 => by rfl⟩) (Ys.nil)) (SsG8) (by rfl) (by rfl) ?_
        refine anyG_done (by kernel_rfl) ?_ _
        have hU : Upd (fun k => k = G8) v3 uG8 := by first | exact upd_of_grown hwG8 | exact Upd.trans (Upd.alloc (Upd.refl _ _) _) (upd_of_grown hwG8) (fun k hk => .inl hk)
        have I4 := Lib.hid (HBI.out.call (SsG8))
        have N4 : ∀ a : Addr, A3 = some a → a.block ≠ G8 ∧ w.heap.size + 3 ≤ a.block ∧ a.block < uG8.heap.size := fun a ha => by
          have h1 := F3.out a ha
          have h2 := KG8.out
          have h3 := hb2.size
          have h4 := hb3.size
          have h5 := hU.size
          have h6 := HBI.out.2.2.1.lt
          (try simp at h1); (try simp at h2); (try simp at h3); (try simp at h4)
          exact ⟨by omega, by omega, by omega⟩
        have F4 := Lib.hid (fun a ha => (N4 a ha).2)
        have S4 := Lib.hid (slice_upd T3.out hU (fun a ha => (N4 a ha).1))
        have R4 := Lib.hid huG8
        have K4 := Lib.hid ((Below.cell (p := ⟨bb, off + k, none⟩) (SsG8) HBB.out).trans HT0.out)
        clear N4 hU bG8 huG8 hwG8 lG8 hb2 hb3 hE
        rcases HCase.out with ⟨rfl, rfl, hC⟩ | ⟨rfl, rfl, hC⟩ | ⟨rfl, hbe⟩ | rfl | rfl
        · have HT := Lib.hid (qt.out rfl (.inr hC))
          generalize cmpj J bj = C at *
          have dC : decide (C < 0) = true := by simpa using hC
          have r0 := (R4.out).cellv (i := 0) (v := .slice A3 n3 c3) rfl; have r1 := (R4.out).cellv (i := 1) (v := .int .i64 J.ch) rfl; have r2 := (R4.out).cellv (i := 2) (v := .int .i64 J.tn) rfl; have r3 := (R4.out).cellv (i := 3) (v := .int .i64 J.least) rfl; have r4 := (R4.out).cellv (i := 4) (v := .int .i64 J.most) rfl; have r5 := (R4.out).cellv (i := 5) (v := .int .i64 J.spare) rfl; have r6 := (R4.out).cellv (i := 6) (v := .int .i64 J.short) rfl; have s0 := (I4.out.2.2.1).cellv (i := 0) (v := .slice A1 n1 c1) rfl; have s1 := (I4.out.2.2.1).cellv (i := 1) (v := .int .i64 bj.ch) rfl; have s2 := (I4.out.2.2.1).cellv (i := 2) (v := .int .i64 bj.tn) rfl; have s3 := (I4.out.2.2.1).cellv (i := 3) (v := .int .i64 bj.least) rfl; have s4 := (I4.out.2.2.1).cellv (i := 4) (v := .int .i64 bj.most) rfl; have s5 := (I4.out.2.2.1).cellv (i := 5) (v := .int .i64 bj.spare) rfl; have s6 := (I4.out.2.2.1).cellv (i := 6) (v := .int .i64 bj.short) rfl
          clear q7 q1 qt qk hC HCase
          go_wp2_with (first
            | (go_at_call 52; refine (HCmp.out A3 n3 c3 _).mono ?_; rintro e v5 ⟨rfl, hb5⟩; have I5 := Lib.hid (I4.out.call hb5); have R5 := Lib.hid (R4.out.call hb5); have S5 := Lib.hid (slice_keep S4.out hb5); have F5 := Lib.hid (fun (a : Addr) (ha : A3 = some a) => (⟨(F4.out a ha).1, Nat.lt_of_lt_of_le (F4.out a ha).2 hb5.size⟩ : w.heap.size + 3 ≤ a.block ∧ a.block < v5.heap.size)); have kt6 := (hb5.cell (p := ⟨bb, off + k, none⟩) (Nat.lt_of_lt_of_le HBB.out (Below.size (SsG8)))).trans K4.out; clear hb5)
            | (refine Blk.load rfl 34 (.tmp 19) rfl _ _ _ _ rfl R5.out Tryz.underlying34 rfl (by kernel_rfl) ?_)
            | (refine wpList_store_row rfl 34 (.tmp 16) (.tmp 59) rfl (w.heap.size + 2) _ _ _ rfl rfl I5.out.2.2.1 (by rfl) (by kernel_rfl) (by simp [Value.oneCell']) ?_; intro w9 hb9 hg9))
          go_roundw
          case rel => exact ⟨k + 1, ⟨x, 0, J, OUT⟩, A3, n3, c3, by omega, by go_num, rfl, rfl, HT.out, BI.best I5.out hb9 hg9 S5.out F5.out⟩
          case measure => simp [intOf]; omega
        · have HK := Lib.hid (qk.out rfl (by omega))
          generalize cmpj J bj = C at *
          have dC : decide (C < 0) = false := by simpa using hC
          have r0 := (R4.out).cellv (i := 0) (v := .slice A3 n3 c3) rfl; have r1 := (R4.out).cellv (i := 1) (v := .int .i64 J.ch) rfl; have r2 := (R4.out).cellv (i := 2) (v := .int .i64 J.tn) rfl; have r3 := (R4.out).cellv (i := 3) (v := .int .i64 J.least) rfl; have r4 := (R4.out).cellv (i := 4) (v := .int .i64 J.most) rfl; have r5 := (R4.out).cellv (i := 5) (v := .int .i64 J.spare) rfl; have r6 := (R4.out).cellv (i := 6) (v := .int .i64 J.short) rfl; have s0 := (I4.out.2.2.1).cellv (i := 0) (v := .slice A1 n1 c1) rfl; have s1 := (I4.out.2.2.1).cellv (i := 1) (v := .int .i64 bj.ch) rfl; have s2 := (I4.out.2.2.1).cellv (i := 2) (v := .int .i64 bj.tn) rfl; have s3 := (I4.out.2.2.1).cellv (i := 3) (v := .int .i64 bj.least) rfl; have s4 := (I4.out.2.2.1).cellv (i := 4) (v := .int .i64 bj.most) rfl; have s5 := (I4.out.2.2.1).cellv (i := 5) (v := .int .i64 bj.spare) rfl; have s6 := (I4.out.2.2.1).cellv (i := 6) (v := .int .i64 bj.short) rfl
          clear q7 q1 qt qk hC HCase
          go_wp2_with (go_at_call 52; refine (HCmp.out A3 n3 c3 _).mono ?_; rintro e v5 ⟨rfl, hb5⟩; have I5 := Lib.hid (I4.out.call hb5); clear hb5)
          go_roundw
          case rel => exact ⟨k + 1, ⟨bv, 0, bj, bo⟩, A1, n1, c1, by omega, by go_num, rfl, rfl, HK.out, I5.out⟩
          case measure => simp [intOf]; omega
        · have HT := Lib.hid (qt.out rfl (.inl hbe))
          have dbe : (be == 0) = false := by simpa using hbe
          have dbe2 : (be != 0) = true := by simpa using hbe
          have kt6 := K4.out
          clear q7 q1 qt qk hbe HCase
          go_wp2_with (first
            | (refine Blk.load rfl 34 (.tmp 19) rfl _ _ _ _ rfl R4.out Tryz.underlying34 rfl (by kernel_rfl) ?_)
            | (refine wpList_store_row rfl 34 (.tmp 16) (.tmp 59) rfl (w.heap.size + 2) _ _ _ rfl rfl I4.out.2.2.1 (by rfl) (by kernel_rfl) (by simp [Value.oneCell']) ?_; intro w9 hb9 hg9))
          go_roundw
          case rel => exact ⟨k + 1, ⟨x, 0, J, OUT⟩, A3, n3, c3, by omega, by go_num, rfl, rfl, HT.out, BI.best I4.out hb9 hg9 S4.out F4.out⟩
          case measure => simp [intOf]; omega
        · have HN := Lib.hid (q1.out (by omega) (by omega))
          clear q7 q1 qt qk HCase
          go_wp2_with (refine wpList_store_row rfl 34 (.tmp 13) (.tmp 45) rfl (w.heap.size + 1) _ _ _ rfl rfl I4.out.2.1 (by rfl) (by kernel_rfl) (by simp [Value.oneCell']) ?_; intro w9 hb9 hg9)
          refine bodyPost_ret (results_row_mid rfl _ _ (w.heap.size + 1) _ _ _ rfl hb9 Tryz.underlying34 rfl (by kernel_rfl)) rfl (BestPost.mk (A := none) (n := 0) (c := 0) HN.out rfl (slice_nil _ _ _) (I4.out.2.2.2.2.2.trans (Only.below hg9 (by omega) I4.out.2.2.2.2.2.size)))
        · have HK := Lib.hid (q7.out rfl)
          clear q7 q1 qt qk HCase
          go_wp2
          go_roundw
          case rel => exact ⟨k + 1, ⟨bv, be, bj, bo⟩, A1, n1, c1, by omega, by go_num, rfl, rfl, HK.out, I4.out⟩
          case measure => simp [intOf]; omega
    · have HE := Lib.hid (HQ.out.trans (bq_end (by have := HL.out; omega)))
      clear HQ
      focus (go_upto_region 15 with (fail))
      refine wp_region_any (by kernel_rfl) ?_; change wpAny _ _ _ _ _ _ _ (World.drew wr); refine any_of_anyG (late := fun _ => false) (S := fun wS => Upd (fun k => k = w.heap.size + 1) wr wS) _ _ _ _ ?_
      have S0 := (Upd.refl (fun k => k = w.heap.size + 1) wr).drew
      refine anyG_takes (is := [0, 1, 2, 3]) (vs := [_, _, _, _]) (m := 2) (listed2 := #[true, true, true, true, false, false]) (a2 := ⟨#[_, _, _, _, _, _, _, _, _, _, _, _, _, _, _, _, _, _, _, _, _, _, _, _, _, _, _, _, _, _, _, _, _, _, _, _, _, _, _, _, _, _, _, _, _, _, _, _, _, _, _, _, _, _, _, _, _, _, _, _, _, _, _], _⟩) (by kernel_rfl) (fun j hj => by simp at hj) (by kernel_rfl) (fun _ _ _ _ _ h => h) (Ys.cons rfl (Or.inl ⟨by rfl, fun W1 hW1 => by first | rfl | (go_simp; done) | (go_simp; with_reducible rfl)⟩) (Ys.cons rfl (Or.inl ⟨by rfl, fun W1 hW1 => exec_load (ty := 34) (x := .tmp 16) rfl rfl (run_loadAt_blk _ _ _ _ _ _ (HBI.out.2.2.1.upd hW1 (by omega)) Tryz.underlying34 rfl (by first | kernel_rfl | exact info_num _))⟩) (Ys.cons rfl (Or.inl ⟨by rfl, fun W1 hW1 => by first | rfl | (go_simp; done) | (go_simp; with_reducible rfl)⟩) (Ys.cons rfl (Or.inl ⟨by rfl, fun W1 hW1 => by first | rfl | (go_simp; done) | (go_simp; with_reducible rfl)⟩) (Ys.nil))))) (S0) (by rfl) (by rfl) ?_
      refine anyG_one (k := 4) (by kernel_rfl) rfl (by rfl) (fun Q2 hQ2 => ?_); go_wp2_with (refine wpList_store_row rfl 34 (.tmp 13) (.tmp 61) rfl (w.heap.size + 1) _ _ _ rfl rfl HBI.out.2.1 (by rfl) (by kernel_rfl) (by simp [Value.oneCell']) ?_; intro w9 hb9 hg9); refine hQ2 _ _ (fun _ => (S0).grown hg9 (fun k e => by injection e with e; exact .inl e.symm)) ?_; clear hQ2 Q2
      have S9 := (S0).grown hg9 (fun k e => by injection e with e; exact .inl e.symm)
      refine anyG_takes (is := [5]) (vs := [_]) (m := 0) (listed2 := #[true, true, true, true, true, true]) (a2 := ⟨#[_, _, _, _, _, _, _, _, _, _, _, _, _, _, _, _, _, _, _, _, _, _, _, _, _, _, _, _, _, _, _, _, _, _, _, _, _, _, _, _, _, _, _, _, _, _, _, _, _, _, _, _, _, _, _, _, _, _, _, _, _, _, _], _⟩) (by kernel_rfl) (fun j hj => by simp at hj) (by kernel_rfl) (fun _ _ _ _ _ h => h) (Ys.cons rfl (Or.inl ⟨by rfl, fun W1 hW1 => by first | rfl | (go_simp; done) | (go_simp; with_reducible rfl)⟩) (Ys.nil)) (S9) (by rfl) (by rfl) ?_
      refine anyG_done (by kernel_rfl) ?_ _
      go_wp2
      refine bodyPost_ret (results_row_mid rfl _ _ (w.heap.size + 1) _ _ _ rfl hb9 Tryz.underlying34 rfl (by kernel_rfl)) rfl (BestPost.mk HE.out rfl (slice_upd HBI.out.2.2.2.1 (S9) (fun a ha => by have := HBI.out.2.2.2.2.1 a ha; omega)) (HBI.out.2.2.2.2.2.trans (Upd.below (S9) (fun k hk => by omega) HBI.out.2.2.2.2.2.size)))
end Go.Proofs.YtjodpffdlggjgaaGreat
/- tune.Cheapest: the walk. -/
namespace Go.Proofs.YtjodpffdlggjgaaGreat
open Go.RowKit
set_option linter.unusedSimpArgs false
set_option linter.unusedVariables false
set_option maxHeartbeats 8000000
set_option maxRecDepth 100000
def okc (p : Pol) (sm rm : Int) (l : List Smp) (k : Int) : Prop := rune (withq p 2 k) sm rm = 0 ∧ (judq (withq p 2 k) (outq (withq p 2 k) sm rm l)).short = 0
def noc (p : Pol) (sm rm : Int) (l : List Smp) (k : Int) : Prop := ∀ j, p.min ≤ j → 1 ≤ j → j < k → ¬ okc p sm rm l j
def CheapIs (p : Pol) (sm rm : Int) (l : List Smp) (most n : Int) (b : Bool) : Prop :=
  (b = true ∧ p.min ≤ n ∧ 1 ≤ n ∧ n ≤ most ∧ okc p sm rm l n ∧ noc p sm rm l n) ∨ (b = false ∧ n = 0 ∧ noc p sm rm l (most + 1))
def CheapPost (p : Pol) (sm rm : Int) (l : List Smp) (most : Int) (w : World) (e : Ending) (w' : World) : Prop :=
  ∃ n b, e = .returned (.tuple #[.int .i64 n, .bool b]) ∧ CheapIs p sm rm l most n b ∧ Below w.heap.size w w'
def CheapNo (w : World) (e : Ending) (w' : World) : Prop := e = .returned (.tuple #[.int .i64 0, .bool false]) ∧ Below w.heap.size w w'
theorem noc_next {p : Pol} {sm rm : Int} {l : List Smp} {k : Int} (h : noc p sm rm l k) (h2 : ¬ okc p sm rm l k) : noc p sm rm l (k + 1) := fun j h3 h4 h5 => by
  by_cases hj : j = k
  · rw [hj]; exact h2
  · exact h j h3 h4 (by omega)
theorem noc_low {p : Pol} {sm rm : Int} {l : List Smp} {k : Int} (h : noc p sm rm l k) (h2 : k < p.min) : noc p sm rm l (k + 1) := fun j h3 h4 h5 => h j h3 h4 (by omega)
theorem fit_max {p : Pol} (h : p.fit) {k : Int} (hk : I64 k) : (withq p 2 k).fit := ⟨h.1, hk, h.2.2.1, h.2.2.2.1, h.2.2.2.2.1, h.2.2.2.2.2⟩
def PI (w wr : World) (p : Pol) : Prop := Blk wr w.heap.size 23 p.row ∧ Below w.heap.size w wr
theorem PI.start (w : World) (p : Pol) : PI w (w.alloc (.cells p.row 23)) p := ⟨Blk.new w _ _, by go_grown⟩
theorem PI.call {w wr w' : World} {p : Pol} (h : PI w wr p) (hb : Below wr.heap.size wr w') : PI w w' p := ⟨h.1.call hb, h.2.trans (hb.mono h.2.size)⟩
theorem PI.alloc {w wr : World} {p : Pol} (h : PI w wr p) (o : Obj) : PI w (wr.alloc o) p := h.call ((Below.refl _ wr).alloc (Nat.le_refl _) o)
theorem tune_Cheapest_no (p : Pol) (most : Int) (A : Option Addr) (len cap : Nat) (sm rm : Int) (w : World) (h : ¬ p.okP ∨ most < 1 ∨ 1000 < most) :
    Calls Tryz.prog 21 #[(.agg #[.int .i64 p.min, .int .i64 p.max, .int .i64 p.target, .int .i64 p.tol, .int .i64 p.window, .int .i64 p.hold]), .int .i64 most, .slice A len cap, .int .i64 sm, .int .i64 rm] w (CheapNo w) := by
  have D0 := Lib.hid (PI.start w p)
  have HC := Lib.hid (fun W => policy_Check p W)
  have hd : (polErr p = 7) ∨ (polErr p = 0 ∧ decide (most < 1) = true) ∨ (polErr p = 0 ∧ decide (most < 1) = false ∧ decide (1000 < most) = true) := by
    simp only [decide_eq_true_eq, decide_eq_false_iff_not]
    by_cases hk : p.okP
    · have := polErr_ok hk
      rcases h with h | h
      · exact absurd hk h
      · omega
    · exact .inl (polErr_no hk)
  clear h
  rcases hd with d0 | ⟨d0, d1⟩ | ⟨d0, d1, d2⟩
  all_goals
    rw [d0] at HC
    clear d0
    go_enter Tryz.func21, Tryz.ntmps21
    go_wp2_with (first
      | (refine Blk.load rfl 23 (.tmp 5) rfl _ _ _ _ rfl D0.out.1 Tryz.underlying23 rfl (by kernel_rfl) ?_)
      | (go_at_call 29; refine (HC.out _).mono ?_; rintro e v1 ⟨rfl, hb1⟩; have D1 := Lib.hid (D0.out.call hb1); clear hb1))
    go_ret2
    exact ⟨rfl, D1.out.2⟩
theorem tune_Cheapest_ok (p : Pol) (most : Int) (A : Option Addr) (len cap : Nat) (l : List Smp) (sm rm : Int) (w : World) (hp : p.fit) (hk : p.okP) (h1 : 1 ≤ most) (h2 : most ≤ 1000) (hs : SmpsAre w A len cap l) (hg : ∀ x ∈ l, x.good) (hn : len ≤ 200) :
    Calls Tryz.prog 21 #[(.agg #[.int .i64 p.min, .int .i64 p.max, .int .i64 p.target, .int .i64 p.tol, .int .i64 p.window, .int .i64 p.hold]), .int .i64 most, .slice A len cap, .int .i64 sm, .int .i64 rm] w (CheapPost p sm rm l most w) := by
  have D0 := Lib.hid (PI.start w p)
  have HS := Lib.hid hs
  have HG := Lib.hid hg
  have HP := Lib.hid hp
  have HC := Lib.hid (fun W => policy_Check p W)
  rw [polErr_ok hk] at HC
  have d1 : decide (most < 1) = false := by simp; omega
  have d2 : decide (1000 < most) = false := by simp; omega
  clear hs hg hp hk
  go_enter Tryz.func21, Tryz.ntmps21
  go_wp2_with (first
    | (refine Blk.load rfl 23 (.tmp 5) rfl _ _ _ _ rfl D0.out.1 Tryz.underlying23 rfl (by kernel_rfl) ?_)
    | (go_at_call 29; refine (HC.out _).mono ?_; rintro e v1 ⟨rfl, hb1⟩; have D1 := Lib.hid (D0.out.call hb1); clear hb1))
  go_loopw [12] (fun i wr => ∃ k : Int, 1 ≤ k ∧ k ≤ most + 1 ∧ i = .int .i64 k ∧ noc p sm rm l k ∧ PI w wr p) (fun i _ => (most + 1 - intOf i).toNat)
  case atStart => exact ⟨1, by omega, by omega, rfl, fun j h3 h4 h5 => by omega, D1.out⟩
  case round =>
    obtain ⟨k, hk1, hk2, rfl, hno, hpi⟩ := hrel
    have HNo := Lib.hid hno
    have HPI := Lib.hid hpi
    clear hno
    have c0 := hpi.1.cellv (i := 0) (v := .int .i64 p.min) rfl
    clear hpi
    by_cases hlt : k ≤ most
    · by_cases hm : k < p.min
      · have HN := Lib.hid (noc_low HNo.out hm)
        go_wp2
        go_roundw
        case rel => exact ⟨k + 1, by omega, by omega, rfl, HN.out, HPI.out⟩
        case measure => simp [intOf]; omega
      · have hm' : p.min ≤ k := by omega
        have HW := Lib.hid (fun W => tune_With p 2 k W)
        have HR := Lib.hid (fun W hW => trial_Run (withq p 2 k) A len cap l sm rm W (fit_max HP.out (by unfold I64; omega)) hW HG.out hn)
        unfold RunAny at HR
        have HY := Lib.hid (fun (h : rune (withq p 2 k) sm rm = 0 ∧ (judq (withq p 2 k) (outq (withq p 2 k) sm rm l)).short = 0) => (show okc p sm rm l k from h))
        have HN := Lib.hid (fun (h : ¬ (rune (withq p 2 k) sm rm = 0 ∧ (judq (withq p 2 k) (outq (withq p 2 k) sm rm l)).short = 0)) => noc_next HNo.out h)
        generalize withq p 2 k = q at *
        generalize judq q (outq q sm rm l) = J at *
        generalize outq q sm rm l = OUT at *
        generalize rune q sm rm = E at *
        by_cases hE : E = 0
        · subst hE
          by_cases hS : J.short = 0
          · have HY2 := Lib.hid (HY.out ⟨rfl, hS⟩)
            have e1 : (J.short == 0) = true := by simpa using hS
            clear hS HY HN
            go_wp2_with (first
              | (refine Blk.load rfl 23 (.tmp 5) rfl _ _ _ _ rfl HPI.out.1 Tryz.underlying23 rfl (by kernel_rfl) ?_)
              | (go_at_call 26; refine (HW.out _).mono ?_; rintro e v2 ⟨rfl, hb2⟩; have P2 := Lib.hid (HPI.out.call hb2); clear hb2)
              | (go_at_call 8; refine (HR.out _ (slice_keep HS.out P2.out.2)).mono ?_; rintro e v3 ⟨A3, n3, c3, rfl, hs3, hb3⟩; have q6 := (Blk.new v3 28 (J.row (.slice A3 n3 c3))).cellv (i := 6) (v := .int .i64 J.short) rfl; have P3 := Lib.hid (P2.out.call hb3); clear hb3 hs3))
            go_ret2
            exact ⟨k, true, rfl, .inl ⟨rfl, hm', hk1, hlt, HY2.out, HNo.out⟩, (P3.out.alloc _).2⟩
          · have HN2 := Lib.hid (HN.out (fun h => hS h.2))
            have e1 : (J.short == 0) = false := by simpa using hS
            clear hS HY HN
            go_wp2_with (first
              | (refine Blk.load rfl 23 (.tmp 5) rfl _ _ _ _ rfl HPI.out.1 Tryz.underlying23 rfl (by kernel_rfl) ?_)
              | (go_at_call 26; refine (HW.out _).mono ?_; rintro e v2 ⟨rfl, hb2⟩; have P2 := Lib.hid (HPI.out.call hb2); clear hb2)
              | (go_at_call 8; refine (HR.out _ (slice_keep HS.out P2.out.2)).mono ?_; rintro e v3 ⟨A3, n3, c3, rfl, hs3, hb3⟩; have q6 := (Blk.new v3 28 (J.row (.slice A3 n3 c3))).cellv (i := 6) (v := .int .i64 J.short) rfl; have P3 := Lib.hid (P2.out.call hb3); clear hb3 hs3))
            go_roundw
            case rel => exact ⟨k + 1, by omega, by omega, rfl, HN2.out, P3.out.alloc _⟩
            case measure => simp [intOf]; omega
        · have HN2 := Lib.hid (HN.out (fun h => hE h.1))
          have e1 : (E == 0) = false := by simpa using hE
          clear hE HY HN
          go_wp2_with (first
            | (refine Blk.load rfl 23 (.tmp 5) rfl _ _ _ _ rfl HPI.out.1 Tryz.underlying23 rfl (by kernel_rfl) ?_)
            | (go_at_call 26; refine (HW.out _).mono ?_; rintro e v2 ⟨rfl, hb2⟩; have P2 := Lib.hid (HPI.out.call hb2); clear hb2)
            | (go_at_call 8; refine (HR.out _ (slice_keep HS.out P2.out.2)).mono ?_; rintro e v3 ⟨A3, n3, c3, rfl, hs3, hb3⟩; have P3 := Lib.hid (P2.out.call hb3); clear hb3 hs3))
          go_roundw
          case rel => exact ⟨k + 1, by omega, by omega, rfl, HN2.out, P3.out.alloc _⟩
          case measure => simp [intOf]; omega
    · obtain rfl : k = most + 1 := by omega
      go_wp2
      go_ret2
      exact ⟨0, false, rfl, .inr ⟨rfl, rfl, HNo.out⟩, HPI.out.2⟩
end Go.Proofs.YtjodpffdlggjgaaGreat
/- The numbers from one to another one: tune.Ladder and its reference. -/
namespace Go.Proofs.YtjodpffdlggjgaaGreat
open Go.RowKit
set_option linter.unusedSimpArgs false
set_option linter.unusedVariables false
set_option maxHeartbeats 2000000

def stepq (f t n : Int) : Int := if 1 < n then floorq (satq (t - f)) (n - 1) else 0
def itemq (f t n : Int) (i : Nat) : Int := if 1 < n ∧ (i : Int) = n - 1 then t else satq (f + satq (stepq f t n * i))
def pushqL (l : List Int) (x : Int) : List Int := if l.all (fun y => decide (y < x)) then l ++ [x] else l
def ladq (f t n : Int) : Nat → List Int
  | 0 => []
  | k + 1 => pushqL (ladq f t n k) (itemq f t n k)
def ladderq (f t n : Int) : List Int := if n < 1 ∨ 256 < n ∨ t < f then [] else ladq f t n n.toNat
theorem pushq_len (l : List Int) (x : Int) : (pushqL l x).length ≤ l.length + 1 := by
  unfold pushqL; split <;> simp
theorem ladq_len (f t n : Int) (k : Nat) : (ladq f t n k).length ≤ k := by
  induction k with
  | zero => simp [ladq]
  | succ k ih => have := pushq_len (ladq f t n k) (itemq f t n k); unfold ladq; omega
theorem pushq_sorted {l : List Int} (h : l.Pairwise (· < ·)) (x : Int) : (pushqL l x).Pairwise (· < ·) := by
  unfold pushqL
  split
  · rename_i ha
    rw [List.pairwise_append]
    refine ⟨h, by simp, ?_⟩
    intro a ha1 b hb
    simp at hb; subst hb
    simpa using List.all_eq_true.1 ha a ha1
  · exact h
theorem ladq_sorted (f t n : Int) (k : Nat) : (ladq f t n k).Pairwise (· < ·) := by
  induction k with
  | zero => simp [ladq]
  | succ k ih => exact pushq_sorted ih _
theorem sorted_last {l : List Int} (h : l.Pairwise (· < ·)) {y : Int} (hy : l[l.length - 1]? = some y) (x : Int) : l.all (fun z => decide (z < x)) = decide (y < x) := by
  rw [Bool.eq_iff_iff]
  simp only [List.all_eq_true, decide_eq_true_eq]
  obtain ⟨hlt, rfl⟩ := List.getElem?_eq_some_iff.1 hy
  refine ⟨fun ha => ha _ (List.getElem_mem _), fun hx z hz => ?_⟩
  obtain ⟨i, hi, rfl⟩ := List.getElem_of_mem hz
  rcases Nat.lt_or_ge i (l.length - 1) with h1 | h1
  · have := (List.pairwise_iff_getElem.1 h) i (l.length - 1) hi hlt h1
    omega
  · have : i = l.length - 1 := by omega
    subst this; exact hx
theorem floor_I64 (s m : Int) (hs : I64 s) (hm : 1 ≤ m) : I64 (s / m) := by
  unfold I64 at *
  by_cases h0 : 0 ≤ s
  · have := Int.ediv_le_self m h0
    have := Int.ediv_nonneg h0 (show 0 ≤ m by omega)
    omega
  · have h1 := Int.ediv_neg_of_neg_of_pos (show s < 0 by omega) (show 0 < m by omega)
    have h2 : s ≤ s / m := by
      refine (Int.le_ediv_iff_mul_le (by omega)).2 ?_
      have := Int.mul_nonneg (show 0 ≤ -s by omega) (show 0 ≤ m - 1 by omega)
      rw [Int.neg_mul, Int.mul_sub, Int.mul_one] at this
      omega
    omega
theorem stepq_I64 (f t n : Int) : I64 (stepq f t n) := by
  unfold stepq
  split
  · unfold floorq
    rw [if_neg (by omega)]
    exact floor_I64 _ _ (satq_I64 _) (by omega)
  · unfold I64; omega
theorem pushq_nil (x : Int) : pushqL [] x = [x] := rfl
theorem own_shape {w : World} {base : Nat} {v : Value} {l : List Int} (h : OwnI w base v l) : ∃ A len cap, v = .slice A len cap ∧ l.length = len ∧ IntsAre w A len cap l := by
  obtain ⟨A, cap, h1, h2⟩ := Own.slice h (fun _ => rfl)
  exact ⟨A, _, cap, h1, rfl, h2⟩
theorem OwnI.last {w : World} {m cap : Nat} {A : Option Addr} {l : List Int} (h : IntsAre w A (m + 1) cap l) (hs : l.Pairwise (· < ·)) :
    ∃ (b off : Nat) (y : Int), A = some ⟨b, off, none⟩ ∧ w.cell? ⟨b, off + m, none⟩ = some (.int .i64 y) ∧ ∀ x, (y < x → pushqL l x = l ++ [x]) ∧ (¬ y < x → pushqL l x = l) := by
  obtain ⟨b, off, y, h1, h2, h3, h4⟩ := h.at_ (k := m) (by omega)
  have hl := h.1
  have h2' : l[l.length - 1]? = some y := by rw [hl]; exact h2
  refine ⟨b, off, y, h1, h4, fun x => ⟨fun hx => ?_, fun hx => ?_⟩⟩
  · unfold pushqL; rw [sorted_last hs h2', if_pos (by simpa using hx)]
  · unfold pushqL; rw [sorted_last hs h2', if_neg (by simpa using hx)]
theorem tune_Ladder (f t n : Int) (w : World) (hf : I64 f) (ht : I64 t) (hn : I64 n) :
    Calls Tryz.prog 50 #[.int .i64 f, .int .i64 t, .int .i64 n] w fun e w' => ∃ v, e = .returned v ∧ OwnI w' w.heap.size v (ladderq f t n) ∧ Below w.heap.size w w' := by
  by_cases h0 : n < 1 ∨ 256 < n ∨ t < f
  · have HQ := Lib.hid (show ladderq f t n = [] by unfold ladderq; rw [if_pos h0])
    by_cases h1 : n < 1
    · go_enter Tryz.func50, Tryz.ntmps50
      go_wp2
      go_ret
      exact ⟨_, rfl, by rw [HQ.out]; exact Own.nil _ _ _ _ _, by go_grown⟩
    by_cases h2 : 256 < n
    · go_enter Tryz.func50, Tryz.ntmps50
      go_wp2
      go_ret
      exact ⟨_, rfl, by rw [HQ.out]; exact Own.nil _ _ _ _ _, by go_grown⟩
    · have h3 : t < f := by omega
      clear h0
      go_enter Tryz.func50, Tryz.ntmps50
      go_wp2
      go_ret
      exact ⟨_, rfl, by rw [HQ.out]; exact Own.nil _ _ _ _ _, by go_grown⟩
  · have HQ := Lib.hid (show ladderq f t n = ladq f t n n.toNat by unfold ladderq; rw [if_neg h0])
    have n3 : f ≤ t := by omega
    obtain ⟨N, rfl⟩ : ∃ N : Nat, n = (N : Int) := ⟨n.toNat, by omega⟩
    have n1 : 1 ≤ N := by omega
    have n2 : N ≤ 256 := by omega
    clear h0
    go_enter Tryz.func50, Tryz.ntmps50
    go_wp2_with (first | (go_at_call 55; refine (sat_Sub _ _ _ ht hf).mono ?_; rintro e w1 ⟨rfl, rfl⟩))
    go_loopw [7, 27] (fun v i wr => ∃ k : Nat, k ≤ N ∧ i = .int .i64 k ∧ OwnI wr w.heap.size v (ladq f t N k) ∧ Below w.heap.size w wr) (fun _ i _ => N - (intOf i).toNat)
    case atStart => exact ⟨0, Nat.zero_le _, rfl, Own.nil _ _ _ _ _, Below.refl _ _⟩
    case round =>
      obtain ⟨k, hk, rfl, hown, hbel⟩ := hrel
      by_cases hlt : k < N
      · have hlen := ladq_len f t N k
        have hsort := Lib.hid (ladq_sorted f t N k)
        have HP := Lib.hid (show ladq f t N (k + 1) = pushqL (ladq f t N k) (itemq f t N k) from rfl)
        generalize ladq f t N k = l at *
        have hlen2 : l.length < 1000000 := by omega
        by_cases hN : 1 < N
        · by_cases hB : k + 1 = N
          · have HX := Lib.hid (show itemq f t N k = t by unfold itemq; rw [if_pos (by omega)])
            obtain ⟨S, hS⟩ : ∃ S, S = stepq f t N := ⟨_, rfl⟩
            have hSI : I64 S := by rw [hS]; exact stepq_I64 _ _ _
            have hS2 : floorq (satq (t - f)) ((N : Int) - 1) = S := by rw [hS]; unfold stepq; rw [if_pos (by omega)]
            have d1 : ((k : Int) == (N : Int) - 1) = true := by simp; omega
            clear hS hB
            obtain ⟨A, len, cap, rfl, hll, hsl⟩ := own_shape hown
            rcases len with _ | m
            · have hnil : l = [] := List.eq_nil_of_length_eq_zero hll
              subst hnil
              have HPx := Lib.hid (show pushqL [] t = [t] from rfl)
              clear hsl hll
              go_wp2_with (first | (go_at_call 76; refine (sat_Floor _ _ _ (satq_I64 _) (by unfold I64; omega)).mono ?_; rintro e w1 ⟨rfl, rfl⟩) | (go_at_call 56; refine (sat_Mul _ _ _ (by first | assumption | (unfold I64; omega)) (by unfold I64; omega)).mono ?_; rintro e w1 ⟨rfl, rfl⟩) | (go_at_call 47; refine (sat_Add _ _ _ hf (satq_I64 _)).mono ?_; rintro e w1 ⟨rfl, rfl⟩) | (at_builtin; refine push_int _ rfl _ _ rfl w.heap.size _ _ rfl (hown.alloc _) ⟨wr.heap.size, 0, none⟩ 1 t rfl (by simp) hlen2 (by have := hbel.size; simp; omega) ?_; intro v2 w2 ho2 hb2))
              go_roundw
              case rel => exact ⟨k + 1, by omega, by go_num, by rw [HP.out, HX.out, HPx.out]; exact ho2, (hbel.alloc hbel.size _).trans hb2⟩
              case measure => simp [intOf]; omega
            · obtain ⟨b, off, y, rfl, hc, hpq⟩ := OwnI.last hsl hsort.out
              have hm2 : m < 1000000 := by omega
              have hm3 : ((m : Int) + 1 == 0) = false := by simp; omega
              have HPQ := Lib.hid (hpq t)
              clear hpq hsl hll
              by_cases hyx : y < t
              · go_wp2_with (first | (go_at_call 76; refine (sat_Floor _ _ _ (satq_I64 _) (by unfold I64; omega)).mono ?_; rintro e w1 ⟨rfl, rfl⟩) | (go_at_call 56; refine (sat_Mul _ _ _ (by first | assumption | (unfold I64; omega)) (by unfold I64; omega)).mono ?_; rintro e w1 ⟨rfl, rfl⟩) | (go_at_call 47; refine (sat_Add _ _ _ hf (satq_I64 _)).mono ?_; rintro e w1 ⟨rfl, rfl⟩) | (at_builtin; refine push_int _ rfl _ _ rfl w.heap.size _ _ rfl (hown.alloc _) ⟨wr.heap.size, 0, none⟩ 1 t rfl (by simp) hlen2 (by have := hbel.size; simp; omega) ?_; intro v2 w2 ho2 hb2))
                go_roundw
                case rel => exact ⟨k + 1, by omega, by go_num, by rw [HP.out, HX.out, HPQ.out.1 hyx]; exact ho2, (hbel.alloc hbel.size _).trans hb2⟩
                case measure => simp [intOf]; omega
              · go_wp2_with (first | (go_at_call 76; refine (sat_Floor _ _ _ (satq_I64 _) (by unfold I64; omega)).mono ?_; rintro e w1 ⟨rfl, rfl⟩) | (go_at_call 56; refine (sat_Mul _ _ _ (by first | assumption | (unfold I64; omega)) (by unfold I64; omega)).mono ?_; rintro e w1 ⟨rfl, rfl⟩) | (go_at_call 47; refine (sat_Add _ _ _ hf (satq_I64 _)).mono ?_; rintro e w1 ⟨rfl, rfl⟩) | (at_builtin; refine push_int _ rfl _ _ rfl w.heap.size _ _ rfl (hown.alloc _) ⟨wr.heap.size, 0, none⟩ 1 t rfl (by simp) hlen2 (by have := hbel.size; simp; omega) ?_; intro v2 w2 ho2 hb2))
                go_roundw
                case rel => exact ⟨k + 1, by omega, by go_num, by rw [HP.out, HX.out, HPQ.out.2 hyx]; exact hown, hbel⟩
                case measure => simp [intOf]; omega
          · obtain ⟨S, hS⟩ : ∃ S, S = stepq f t N := ⟨_, rfl⟩
            obtain ⟨x, hx⟩ : ∃ x, x = satq (f + satq (S * k)) := ⟨_, rfl⟩
            have HX := Lib.hid (show itemq f t N k = x by unfold itemq; rw [if_neg (by omega), hx, hS])
            have hx2 : satq (f + satq (S * k)) = x := hx.symm
            have hSI : I64 S := by rw [hS]; exact stepq_I64 _ _ _
            have hS2 : floorq (satq (t - f)) ((N : Int) - 1) = S := by rw [hS]; unfold stepq; rw [if_pos (by omega)]
            have d1 : ((k : Int) == (N : Int) - 1) = false := by simp; omega
            clear hx hS hB
            obtain ⟨A, len, cap, rfl, hll, hsl⟩ := own_shape hown
            rcases len with _ | m
            · have hnil : l = [] := List.eq_nil_of_length_eq_zero hll
              subst hnil
              have HPx := Lib.hid (show pushqL [] x = [x] from rfl)
              clear hsl hll
              go_wp2_with (first | (go_at_call 76; refine (sat_Floor _ _ _ (satq_I64 _) (by unfold I64; omega)).mono ?_; rintro e w1 ⟨rfl, rfl⟩) | (go_at_call 56; refine (sat_Mul _ _ _ (by first | assumption | (unfold I64; omega)) (by unfold I64; omega)).mono ?_; rintro e w1 ⟨rfl, rfl⟩) | (go_at_call 47; refine (sat_Add _ _ _ hf (satq_I64 _)).mono ?_; rintro e w1 ⟨rfl, rfl⟩) | (at_builtin; refine push_int _ rfl _ _ rfl w.heap.size _ _ rfl (hown.alloc _) ⟨wr.heap.size, 0, none⟩ 1 x rfl (by simp) hlen2 (by have := hbel.size; simp; omega) ?_; intro v2 w2 ho2 hb2))
              go_roundw
              case rel => exact ⟨k + 1, by omega, by go_num, by rw [HP.out, HX.out, HPx.out]; exact ho2, (hbel.alloc hbel.size _).trans hb2⟩
              case measure => simp [intOf]; omega
            · obtain ⟨b, off, y, rfl, hc, hpq⟩ := OwnI.last hsl hsort.out
              have hm2 : m < 1000000 := by omega
              have hm3 : ((m : Int) + 1 == 0) = false := by simp; omega
              have HPQ := Lib.hid (hpq x)
              clear hpq hsl hll
              by_cases hyx : y < x
              · go_wp2_with (first | (go_at_call 76; refine (sat_Floor _ _ _ (satq_I64 _) (by unfold I64; omega)).mono ?_; rintro e w1 ⟨rfl, rfl⟩) | (go_at_call 56; refine (sat_Mul _ _ _ (by first | assumption | (unfold I64; omega)) (by unfold I64; omega)).mono ?_; rintro e w1 ⟨rfl, rfl⟩) | (go_at_call 47; refine (sat_Add _ _ _ hf (satq_I64 _)).mono ?_; rintro e w1 ⟨rfl, rfl⟩) | (at_builtin; refine push_int _ rfl _ _ rfl w.heap.size _ _ rfl (hown.alloc _) ⟨wr.heap.size, 0, none⟩ 1 x rfl (by simp) hlen2 (by have := hbel.size; simp; omega) ?_; intro v2 w2 ho2 hb2))
                go_roundw
                case rel => exact ⟨k + 1, by omega, by go_num, by rw [HP.out, HX.out, HPQ.out.1 hyx]; exact ho2, (hbel.alloc hbel.size _).trans hb2⟩
                case measure => simp [intOf]; omega
              · go_wp2_with (first | (go_at_call 76; refine (sat_Floor _ _ _ (satq_I64 _) (by unfold I64; omega)).mono ?_; rintro e w1 ⟨rfl, rfl⟩) | (go_at_call 56; refine (sat_Mul _ _ _ (by first | assumption | (unfold I64; omega)) (by unfold I64; omega)).mono ?_; rintro e w1 ⟨rfl, rfl⟩) | (go_at_call 47; refine (sat_Add _ _ _ hf (satq_I64 _)).mono ?_; rintro e w1 ⟨rfl, rfl⟩) | (at_builtin; refine push_int _ rfl _ _ rfl w.heap.size _ _ rfl (hown.alloc _) ⟨wr.heap.size, 0, none⟩ 1 x rfl (by simp) hlen2 (by have := hbel.size; simp; omega) ?_; intro v2 w2 ho2 hb2))
                go_roundw
                case rel => exact ⟨k + 1, by omega, by go_num, by rw [HP.out, HX.out, HPQ.out.2 hyx]; exact hown, hbel⟩
                case measure => simp [intOf]; omega
        · obtain ⟨x, hx⟩ : ∃ x, x = satq f := ⟨_, rfl⟩
          have HX := Lib.hid (show itemq f t N k = x by rw [hx]; unfold itemq stepq; rw [if_neg (by omega), if_neg (by omega)]; simp [show satq 0 = 0 from rfl])
          have hx2 : satq f = x := hx.symm
          have h00 : satq 0 = 0 := rfl
          have d1 : ((k : Int) == (N : Int) - 1) = true := by simp; omega
          clear hx
          obtain ⟨A, len, cap, rfl, hll, hsl⟩ := own_shape hown
          rcases len with _ | m
          · have hnil : l = [] := List.eq_nil_of_length_eq_zero hll
            subst hnil
            have HPx := Lib.hid (show pushqL [] x = [x] from rfl)
            clear hsl hll
            go_wp2_with (first | (go_at_call 76; refine (sat_Floor _ _ _ (satq_I64 _) (by unfold I64; omega)).mono ?_; rintro e w1 ⟨rfl, rfl⟩) | (go_at_call 56; refine (sat_Mul _ _ _ (by first | assumption | (unfold I64; omega)) (by unfold I64; omega)).mono ?_; rintro e w1 ⟨rfl, rfl⟩) | (go_at_call 47; refine (sat_Add _ _ _ hf (by unfold I64; omega)).mono ?_; rintro e w1 ⟨rfl, rfl⟩) | (at_builtin; refine push_int _ rfl _ _ rfl w.heap.size _ _ rfl (hown.alloc _) ⟨wr.heap.size, 0, none⟩ 1 x rfl (by simp) hlen2 (by have := hbel.size; simp; omega) ?_; intro v2 w2 ho2 hb2))
            go_roundw
            case rel => exact ⟨k + 1, by omega, by go_num, by rw [HP.out, HX.out, HPx.out]; exact ho2, (hbel.alloc hbel.size _).trans hb2⟩
            case measure => simp [intOf]; omega
          · exfalso; omega
      · have hkn : k = N := by omega
        subst hkn
        go_wp2
        go_ret
        exact ⟨_, rfl, by rw [HQ.out]; exact hown, hbel⟩
end Go.Proofs.YtjodpffdlggjgaaGreat
/- The numbers from one to another one: the reference's Ladder. -/
namespace Go.Proofs.YtjodpffdlggjgaaGreat
open Go.RowKit
set_option linter.unusedSimpArgs false
set_option linter.unusedVariables false
set_option maxHeartbeats 2000000

end Go.Proofs.YtjodpffdlggjgaaGreat
/- The law TuneWith: the walk, out of the contracts. -/
namespace Go.Proofs.YtjodpffdlggjgaaGreat
open Go.RowKit
set_option linter.unusedSimpArgs false
set_option linter.unusedVariables false
set_option maxHeartbeats 2000000

def usualT : Pol := ⟨1, 10, 100, 100, 5, 3⟩
theorem usual45 (w : World) : Calls Tryz.prog 51 #[] w fun e w' => e = .returned (.agg #[.int .i64 1, .int .i64 10, .int .i64 100, .int .i64 100, .int .i64 5, .int .i64 3]) ∧ Below w.heap.size w w' := by
  go_enter Tryz.func51, Tryz.ntmps51
  go_wp2
  go_returns
  exact ⟨rfl, by go_grown⟩
theorem ex_ladder (w : World) : Calls Tryz.prog 50 #[.int .i64 0, .int .i64 10, .int .i64 3] w fun e w' => ∃ v, e = .returned v ∧ OwnI w' w.heap.size v [0, 5, 10] ∧ Below w.heap.size w w' :=
  (tune_Ladder 0 10 3 w (by unfold I64; omega) (by unfold I64; omega) (by unfold I64; omega)).mono fun _ _ h => by
    rw [show ladderq 0 10 3 = [0, 5, 10] by decide +kernel] at h; exact h
theorem ex_with (w : World) : Calls Tryz.prog 26 #[.agg #[.int .i64 1, .int .i64 10, .int .i64 100, .int .i64 100, .int .i64 5, .int .i64 3], .int .i64 6, .int .i64 0] w fun e w' => e = .returned (.agg #[.int .i64 1, .int .i64 10, .int .i64 100, .int .i64 100, .int .i64 5, .int .i64 0]) ∧ Below w.heap.size w w' :=
  tune_With usualT 6 0 w
theorem ints_keep {α : Type} {w w' : World} {size : Nat} {cells : α → List Value} {A : Option Addr} {len cap : Nat} {l : List α} (h : SliceIs w size cells A len cap l) (hb : Below w.heap.size w w') : SliceIs w' size cells A len cap l := by
  refine ⟨h.1, h.2.1, h.2.2.1, h.2.2.2.1, fun a ha => ?_⟩
  obtain ⟨h1, h2⟩ := h.2.2.2.2 a ha
  refine ⟨fun i x hi j v hj => ?_, fun hl => ⟨Nat.lt_of_lt_of_le (h2 hl).1 hb.size, (h2 hl).2⟩⟩
  have hlt : a.block < w.heap.size := by
    refine (h2 ?_).1
    have := (List.getElem?_eq_some_iff.1 hi).1
    rw [← h.1]; omega
  have hbl : (a.add (i * size + j)).block = a.block := by unfold Addr.add; split <;> rfl
  have := h1 i x hi j v hj
  exact (World.cell?_of_block (w := w) (hb.block _ (by rw [hbl]; exact hlt))).trans this
theorem ints_lit3 (w : World) (a b c : Int) (t : TypeId) : IntsAre (w.alloc (.cells #[.int .i64 a, .int .i64 b, .int .i64 c] t)) (some ⟨w.heap.size, 0, none⟩) 3 3 [a, b, c] := by
  refine ⟨rfl, Nat.le_refl _, by decide, (fun h => by cases h), fun ad had => ?_⟩
  cases had
  refine ⟨fun i x hi j v hj => ?_, fun _ => ⟨by simp, rfl⟩⟩
  have hc := (Blk.new w t #[.int .i64 a, .int .i64 b, .int .i64 c]).cell
  match j, hj with
  | 0, hj =>
    simp at hj; subst hj
    rw [show (⟨w.heap.size, 0, none⟩ : Addr).add (i * 1 + 0) = ⟨w.heap.size, i, none⟩ by simp [Addr.add]; omega, hc i]
    match i, hi with
    | 0, hi => simp at hi; subst hi; rfl
    | 1, hi => simp at hi; subst hi; rfl
    | 2, hi => simp at hi; subst hi; rfl
  | j + 1, hj => simp at hj
set_option maxRecDepth 100000 in
theorem awake45 (w : World) : Calls Tryz.prog 20 #[] w fun e w' => e = .returned (.bool true) ∧ Below w.heap.size w w' := by
  have hfd : ∀ w : World, (Instr.field 23 (.agg #[.int .i64 1, .int .i64 10, .int .i64 100, .int .i64 100, .int .i64 5, .int .i64 0]) 5).run Tryz.prog w = .ok (.int .i64 0) w := fun _ => by kernel_rfl
  go_enter Tryz.func20, Tryz.ntmps20
  go_wp2_with fail
  refine (ex_ladder _).mono ?_
  rintro e v1 ⟨v, rfl, ho, hb1⟩
  obtain ⟨A, len, cap, rfl, hll, hsl⟩ := own_shape ho
  go_wp2_with fail
  have hsl2 := ints_keep hsl ((Below.refl v1.heap.size v1).alloc (Nat.le_refl _) (.cells #[.int .i64 0, .int .i64 5, .int .i64 10] 2))
  refine (ref_Same _ _ _ _ _ _ _ _ _ hsl2 (ints_lit3 v1 0 5 10 2)).mono ?_
  rintro e v2 ⟨he, hb2⟩
  rw [show (([0, 5, 10] : List Int) == [0, 5, 10]) = true by decide] at he
  subst he
  go_wp2_with fail
  refine (usual45 _).mono ?_
  rintro e v3 ⟨rfl, hb3⟩
  go_wp2_with fail
  refine (ex_with _).mono ?_
  rintro e v4 ⟨rfl, hb4⟩
  go_wp2
  go_ret
  refine ⟨rfl, ?_⟩
  have s1 := hb1.size; have s2 := hb2.size; have s3 := hb3.size; have s4 := hb4.size
  simp only [World.size_alloc] at s2
  have g2 := (hb1.alloc s1 (.cells #[.int .i64 0, .int .i64 5, .int .i64 10] 2)).trans (hb2.mono (by simp; omega))
  exact (g2.trans (hb3.mono (by omega))).trans (hb4.mono (by omega))
end Go.Proofs.YtjodpffdlggjgaaGreat
/- Chapter 45's law: TuneBest. -/
namespace Go.Proofs.YtjodpffdlggjgaaGreat
open Go.RowKit
set_option linter.unusedSimpArgs false
set_option linter.unusedVariables false
set_option maxHeartbeats 8000000
set_option maxRecDepth 100000
def inqB (vs : List Int) (v : Int) (k : Nat) : Bool := (vs.take k).any (fun n => n == v)
theorem inqB_next {vs : List Int} {k : Nat} {x : Int} (h : vs[k]? = some x) (v : Int) : inqB vs v (k + 1) = (inqB vs v k || (x == v)) := by
  unfold inqB; rw [take_snoc2 h, List.any_append]; simp
theorem inqB_all {vs : List Int} {v : Int} {k : Nat} (h : v ∈ vs) (hk : vs.length ≤ k) : inqB vs v k = true := by
  unfold inqB; rw [List.take_of_length_le hk, List.any_eq_true]; exact ⟨v, h, by simp⟩
theorem walk_TuneBest (a0 a1 a2 a3 a4 a5 : Int) (a6 : Int) (A0 : Option Addr) (len0 cap0 : Nat) (vs : List Int) (A : Option Addr) (len cap : Nat) (l : List Smp) (a7 a8 : Int) (w : World) (h0 : I64 a0) (h1 : I64 a1) (h2 : I64 a2) (h3 : I64 a3) (h4 : I64 a4) (h5 : I64 a5) (h6 : I64 a6) (hv : IntsAre w A0 len0 cap0 vs) (hvg : ∀ x ∈ vs, I64 x) (hs : SmpsAre w A len cap l) (hg : ∀ x ∈ l, x.good) (h7 : I64 a7) (h8 : I64 a8) :
    Calls Tryz.prog 6 #[.agg #[.int .i64 a0, .int .i64 a1, .int .i64 a2, .int .i64 a3, .int .i64 a4, .int .i64 a5], .int .i64 a6, .slice A0 len0 cap0, .slice A len cap, .int .i64 a7, .int .i64 a8] w fun e w' => e = .returned (.bool true) ∧ Below w.heap.size w w' := by
  obtain ⟨p, rfl, rfl, rfl, rfl, rfl, rfl⟩ : ∃ p : Pol, a0 = p.min ∧ a1 = p.max ∧ a2 = p.target ∧ a3 = p.tol ∧ a4 = p.window ∧ a5 = p.hold := ⟨⟨a0, a1, a2, a3, a4, a5⟩, rfl, rfl, rfl, rfl, rfl, rfl⟩
  have HP := Lib.hid (show p.fit from ⟨h0, h1, h2, h3, h4, h5⟩)
  have HS := Lib.hid hs
  have HG := Lib.hid hg
  have HV := Lib.hid hv
  have HL := Lib.hid hv.1
  have HVG := Lib.hid hvg
  have hle : len ≤ cap := hs.2.1
  have hm : cap ≤ 9223372036854775807 := by have := hs.2.2.1; unfold maxLen at this; omega
  have hle0 : len0 ≤ cap0 := hv.2.1
  have hm0 : cap0 ≤ 9223372036854775807 := by have := hv.2.2.1; unfold maxLen at this; omega
  have D0 := Lib.hid (PI.start w p)
  clear hs hg hv hvg h0 h1 h2 h3 h4 h5 h6 h7 h8
  by_cases hl0 : 8 < len0
  · have d0 : decide ((8 : Int) < (len0 : Int)) = true := by simp; omega
    go_enter Tryz.func6, Tryz.ntmps6
    go_wp2_with (go_at_call 20; refine (awake45 _).mono ?_; rintro e v1 ⟨rfl, hb1⟩; have D1 := Lib.hid (D0.out.call hb1); clear hb1)
    go_ret
    exact ⟨rfl, D1.out.2⟩
  have d0 : decide ((8 : Int) < (len0 : Int)) = false := by simp; omega
  by_cases hl : 10 < len
  · have d1 : decide ((10 : Int) < (len : Int)) = true := by simp; omega
    go_enter Tryz.func6, Tryz.ntmps6
    go_wp2_with (go_at_call 20; refine (awake45 _).mono ?_; rintro e v1 ⟨rfl, hb1⟩; have D1 := Lib.hid (D0.out.call hb1); clear hb1)
    go_ret
    exact ⟨rfl, D1.out.2⟩
  have d1 : decide ((10 : Int) < (len : Int)) = false := by simp; omega
  have HB1 := Lib.hid (fun W hv hs => tune_Best p a6 A0 len0 cap0 vs A len cap l a7 a8 W HP.out hv HVG.out hs HG.out (by omega) (by omega))
  have HB2 := Lib.hid (fun W hv hs => ref45_Best p a6 A0 len0 cap0 vs A len cap l a7 a8 W HP.out hv HVG.out hs HG.out (by omega) (by omega))
  have HZ := Lib.hid (bq_zero (runv p a6 a7 a8 l) vs bst0 (fun _ => rfl))
  have HBt := Lib.hid (fun h v hv he => Int.not_lt.1 ((bq_best (runv p a6 a7 a8 l) vs bst0 h).1 v hv he))
  have HIn := Lib.hid (fun h => (bq_in (runv p a6 a7 a8 l) vs bst0 h).resolve_right (fun h2 => absurd h2.1 (by decide)))
  unfold BestPost at HB1 HB2
  generalize bq (runv p a6 a7 a8 l) vs bst0 = B at *
  obtain ⟨bv, be, bj, bo⟩ := B
  simp only at HB1 HB2 HZ HBt HIn
  have HSame := Lib.hid (fun A n c A2 n2 c2 W h1 h2 => ref44_Same A A2 n c n2 c2 bo bj.ch bj.tn bj.least bj.most bj.spare bj.short W h1 h2)
  have nv : (bv != bv) = false := by simp
  have ne : (be != be) = false := by simp
  go_enter Tryz.func6, Tryz.ntmps6
  focus (go_upto_region 9 with (first
    | (go_at_call 20; refine (awake45 _).mono ?_; rintro e v1 ⟨rfl, hb1⟩; have D1 := Lib.hid (D0.out.call hb1); clear hb1)
    | (refine Blk.load rfl 23 (.tmp 6) rfl _ _ _ _ rfl D2.out.1 Tryz.underlying23 rfl (by kernel_rfl) ?_)
    | (refine Blk.load rfl 23 (.tmp 6) rfl _ _ _ _ rfl D1.out.1 Tryz.underlying23 rfl (by kernel_rfl) ?_)
    | (go_at_call 24; refine (HB1.out _ (slice_keep HV.out D1.out.2) (slice_keep HS.out D1.out.2)).mono ?_; rintro e v2 ⟨A2, n2, c2, rfl, hs2, hb2⟩; have D2 := Lib.hid ((D1.out.call hb2).alloc (.cells (bj.row (.slice A2 n2 c2)) 28)); have R2 := Lib.hid (Blk.new v2 28 (bj.row (.slice A2 n2 c2))); have S2 := Lib.hid (slice_keep hs2 ((Below.refl _ v2).alloc (Nat.le_refl _) (.cells (bj.row (.slice A2 n2 c2)) 28))); clear hb2 hs2)
    | (go_at_call 25; refine (HB2.out _ (slice_keep HV.out D2.out.2) (slice_keep HS.out D2.out.2)).mono ?_; rintro e v3 ⟨A3, n3, c3, rfl, hs3, hb3⟩; have A3b := (Below.refl _ v3).alloc (Nat.le_refl _) (.cells (bj.row (.slice A3 n3 c3)) 34); have D3 := Lib.hid ((D2.out.call hb3).call A3b); have R3 := Lib.hid ((R2.out.call hb3).call A3b); have Q3 := Lib.hid (Blk.new v3 34 (bj.row (.slice A3 n3 c3))); have S3 := Lib.hid (slice_keep (slice_keep S2.out hb3) A3b); have T3 := Lib.hid (slice_keep hs3 A3b); have r0 := (R3.out).cellv (i := 0) (v := .slice A2 n2 c2) rfl; have r1 := (R3.out).cellv (i := 1) (v := .int .i64 bj.ch) rfl; have r2 := (R3.out).cellv (i := 2) (v := .int .i64 bj.tn) rfl; have r3 := (R3.out).cellv (i := 3) (v := .int .i64 bj.least) rfl; have r4 := (R3.out).cellv (i := 4) (v := .int .i64 bj.most) rfl; have r5 := (R3.out).cellv (i := 5) (v := .int .i64 bj.spare) rfl; have r6 := (R3.out).cellv (i := 6) (v := .int .i64 bj.short) rfl; have s0 := (Q3.out).cellv (i := 0) (v := .slice A3 n3 c3) rfl; have s1 := (Q3.out).cellv (i := 1) (v := .int .i64 bj.ch) rfl; have s2 := (Q3.out).cellv (i := 2) (v := .int .i64 bj.tn) rfl; have s3 := (Q3.out).cellv (i := 3) (v := .int .i64 bj.least) rfl; have s4 := (Q3.out).cellv (i := 4) (v := .int .i64 bj.most) rfl; have s5 := (Q3.out).cellv (i := 5) (v := .int .i64 bj.spare) rfl; have s6 := (Q3.out).cellv (i := 6) (v := .int .i64 bj.short) rfl; clear hb3 hs3 A3b)
    | (go_at_call 10; refine (HSame.out A2 n2 c2 A3 n3 c3 _ S3.out T3.out).mono ?_; rintro e v4 ⟨rfl, hb4⟩; have D4 := Lib.hid (D3.out.call hb4); have R4 := Lib.hid (R3.out.call hb4); clear hb4)))
  (try clear r0 r1 r2 r3 r4 r5 r6 s0 s1 s2 s3 s4 s5 s6)
  by_cases hbe : be = 0
  · subst hbe
    have HIn2 := Lib.hid (HIn.out rfl)
    have HBt2 := Lib.hid (HBt.out rfl)
    generalize v2.heap.size = g14 at *
    go_wp2
    go_loopw [19, 76] (fun s19 i wr => ∃ k : Nat, k ≤ len0 ∧ i = .int .i64 k ∧ s19 = .bool (inqB vs bv k) ∧ PI w wr p ∧ Blk wr g14 28 (bj.row (.slice A2 n2 c2))) (fun _ i _ => len0 - (intOf i).toNat)
    case atStart => exact ⟨0, Nat.zero_le _, rfl, rfl, D4.out, R4.out⟩
    case round =>
      obtain ⟨k, hk, rfl, rfl, hpi, hbk⟩ := hrel
      have HPI := Lib.hid hpi
      have HBK := Lib.hid hbk
      clear hpi hbk
      by_cases hlt : k < len0
      · obtain ⟨bb, off, x, rfl, hx, hbb, t0⟩ := IntsAre.at_ HV.out hlt
        have kt0 := (HPI.out.2.cell (p := ⟨bb, off + k, none⟩) hbb).trans t0
        have hki : (k : Int) < (len0 : Int) := by omega
        have HW := Lib.hid (fun W => tune_With p a6 x W)
        have HR := Lib.hid (fun W hW => trial_RunF (withq p a6 x) A len cap l a7 a8 W (fit_with HP.out a6 (HVG.out x (List.mem_of_getElem? hx))) hW HG.out (by omega))
        unfold RunAnyF at HR
        have HNo := Lib.hid (fun h : rune (withq p a6 x) a7 a8 = 0 => (show 0 ≤ cmpj (judq (withq p a6 x) (outq (withq p a6 x) a7 a8 l)) bj from HBt2.out x (List.mem_of_getElem? hx) h))
        have HNx := Lib.hid (inqB_next hx bv)
        generalize withq p a6 x = q at *
        generalize judq q (outq q a7 a8 l) = J at *
        generalize outq q a7 a8 l = OUT at *
        generalize rune q a7 a8 = E at *
        have HCmp : Hid (∀ A3 n3 c3 W, Calls Tryz.prog 27 #[.agg (J.row (.slice A3 n3 c3)), .agg (bj.row (.slice A2 n2 c2))] W fun e w' => e = .returned (.int .i64 (cmpj J bj)) ∧ Below W.heap.size W w') := Lib.hid fun A3 n3 c3 W => trial_Cmp ⟨A3, n3, c3, J.ch, J.tn, J.least, J.most, J.spare, J.short⟩ ⟨A2, n2, c2, bj.ch, bj.tn, bj.least, bj.most, bj.spare, bj.short⟩ W
        generalize cmpj J bj = C at *
        generalize inqB vs bv k = I at *
        clear hx hbb t0
        have hI : I = true ∨ (I = false ∧ (x == bv) = true) ∨ (I = false ∧ (x == bv) = false) := by
          cases I <;> cases (x == bv) <;> simp
        by_cases hE : E = 0
        · subst hE
          have dC : decide (C < 0) = false := by have := HNo.out rfl; simp; omega
          rcases hI with rfl | ⟨rfl, dI⟩ | ⟨rfl, dI⟩
          all_goals
            go_wp2_with (first
              | (refine Blk.load rfl 23 (.tmp 6) rfl _ _ _ _ rfl HPI.out.1 Tryz.underlying23 rfl (by kernel_rfl) ?_)
              | (go_at_call 26; refine (HW.out _).mono ?_; rintro e v5 ⟨rfl, hb5⟩; have P5 := Lib.hid (HPI.out.call hb5); have K5 := Lib.hid (HBK.out.call hb5); clear hb5)
              | (go_at_call 8; refine (HR.out _ (slice_keep HS.out P5.out.2)).mono ?_; rintro e v6 ⟨A6, n6, c6, rfl, hs6, hb6, -⟩; have P6 := Lib.hid ((P5.out.call hb6).alloc (.cells (J.row (.slice A6 n6 c6)) 28)); have K6 := Lib.hid ((K5.out.call hb6).alloc (.cells (J.row (.slice A6 n6 c6)) 28)); have R6 := Lib.hid (Blk.new v6 28 (J.row (.slice A6 n6 c6))); have r0 := (R6.out).cellv (i := 0) (v := .slice A6 n6 c6) rfl; have r1 := (R6.out).cellv (i := 1) (v := .int .i64 J.ch) rfl; have r2 := (R6.out).cellv (i := 2) (v := .int .i64 J.tn) rfl; have r3 := (R6.out).cellv (i := 3) (v := .int .i64 J.least) rfl; have r4 := (R6.out).cellv (i := 4) (v := .int .i64 J.most) rfl; have r5 := (R6.out).cellv (i := 5) (v := .int .i64 J.spare) rfl; have r6 := (R6.out).cellv (i := 6) (v := .int .i64 J.short) rfl; have s0 := (K6.out).cellv (i := 0) (v := .slice A2 n2 c2) rfl; have s1 := (K6.out).cellv (i := 1) (v := .int .i64 bj.ch) rfl; have s2 := (K6.out).cellv (i := 2) (v := .int .i64 bj.tn) rfl; have s3 := (K6.out).cellv (i := 3) (v := .int .i64 bj.least) rfl; have s4 := (K6.out).cellv (i := 4) (v := .int .i64 bj.most) rfl; have s5 := (K6.out).cellv (i := 5) (v := .int .i64 bj.spare) rfl; have s6 := (K6.out).cellv (i := 6) (v := .int .i64 bj.short) rfl; clear hb6 hs6)
              | (go_at_call 27; refine (HCmp.out A6 n6 c6 _).mono ?_; rintro e v7 ⟨rfl, hb7⟩; have P7 := Lib.hid (P6.out.call hb7); have K7 := Lib.hid (K6.out.call hb7); clear hb7))
            go_roundw
            case rel => exact ⟨k + 1, by omega, by go_num, by rw [HNx.out]; first | (simp; done) | simp [dI], P7.out, K7.out⟩
            case measure => simp [intOf]; omega
        · have dE : (E == 0) = false := by simpa using hE
          clear hE
          rcases hI with rfl | ⟨rfl, dI⟩ | ⟨rfl, dI⟩
          all_goals
            go_wp2_with (first
              | (refine Blk.load rfl 23 (.tmp 6) rfl _ _ _ _ rfl HPI.out.1 Tryz.underlying23 rfl (by kernel_rfl) ?_)
              | (go_at_call 26; refine (HW.out _).mono ?_; rintro e v5 ⟨rfl, hb5⟩; have P5 := Lib.hid (HPI.out.call hb5); have K5 := Lib.hid (HBK.out.call hb5); clear hb5)
              | (go_at_call 8; refine (HR.out _ (slice_keep HS.out P5.out.2)).mono ?_; rintro e v6 ⟨A6, n6, c6, rfl, hs6, hb6, -⟩; have P6 := Lib.hid ((P5.out.call hb6).alloc (.cells (J.row (.slice A6 n6 c6)) 28)); have K6 := Lib.hid ((K5.out.call hb6).alloc (.cells (J.row (.slice A6 n6 c6)) 28)); clear hb6 hs6))
            go_roundw
            case rel => exact ⟨k + 1, by omega, by go_num, by rw [HNx.out]; first | (simp; done) | simp [dI], P6.out, K6.out⟩
            case measure => simp [intOf]; omega
      · have HIk := Lib.hid (inqB_all (k := k) HIn2.out (by have := HL.out; omega))
        generalize inqB vs bv k = I at *
        obtain rfl := HIk.out
        go_wp2
        go_ret
        exact ⟨rfl, HPI.out.2⟩
  · obtain rfl := HZ.out hbe
    have dbe : (be == 0) = false := by simpa using hbe
    have dbe2 : (be != 0) = true := by simpa using hbe
    go_wp2
    go_ret
    exact ⟨rfl, D4.out.2⟩
end Go.Proofs.YtjodpffdlggjgaaGreat
