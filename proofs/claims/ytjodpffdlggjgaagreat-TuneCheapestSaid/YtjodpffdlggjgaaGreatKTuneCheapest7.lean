/- Several texts in one. -/
import Derived.Test.YtjodpffdlggjgaaGreatKTuneCheapest5
import Derived.Test.YtjodpffdlggjgaaGreatKTuneCheapest6
import Derived.Test.YtjodpffdlggjgaaGreatOwn
import Derived.Test.YtjodpffdlggjgaaGreatSat
import Derived.Test.YtjodpffdlggjgaaGreatPolicy
import Derived.Test.YtjodpffdlggjgaaGreatSame
/- flywheelref45.Run: the walk; one contract for both Runs. (fast region) -/
namespace Go.Proofs.YtjodpffdlggjgaaGreat
open Go.RowKit
set_option linter.unusedSimpArgs false
set_option linter.unusedVariables false
set_option maxHeartbeats 8000000
set_option maxRecDepth 100000
theorem tests_badR {sm rm : Int} (hb : ¬ goodS sm ∨ ¬ (1 ≤ rm ∧ rm ≤ 64)) : (decide (sm < 1) = true) ∨ (decide (sm < 1) = false ∧ decide (256 < sm) = true) ∨ (decide (sm < 1) = false ∧ decide (256 < sm) = false ∧ decide (rm < 1) = true) ∨ (decide (sm < 1) = false ∧ decide (256 < sm) = false ∧ decide (rm < 1) = false ∧ decide (64 < rm) = true) := by
  unfold goodS at hb
  simp only [decide_eq_true_eq, decide_eq_false_iff_not]
  omega
def RI3 (w wr : World) (p : Pol) : Prop := Blk wr w.heap.size 23 p.row ∧ Blk wr (w.heap.size + 1) 34 z7 ∧ Below w.heap.size w wr
theorem RI3.start (w : World) (p : Pol) : RI3 w ((w.alloc (.cells p.row 23)).alloc (.cells z7 34)) p :=
  ⟨(Blk.new w _ _).alloc _, Blk.new2 w _ _ _, by go_grown⟩
theorem RI3.call {w wr w' : World} {p : Pol} (h : RI3 w wr p) (hb : Below wr.heap.size wr w') : RI3 w w' p := ⟨h.1.call hb, h.2.1.call hb, h.2.2.trans (hb.mono h.2.2.size)⟩
theorem ref45_Run_pol (p : Pol) (A : Option Addr) (len cap : Nat) (sm rm : Int) (w : World) (hk : ¬ p.okP) :
    Calls Tryz.prog 22 #[(.agg #[.int .i64 p.min, .int .i64 p.max, .int .i64 p.target, .int .i64 p.tol, .int .i64 p.window, .int .i64 p.hold]), .slice A len cap, .int .i64 sm, .int .i64 rm] w (RunNo w 7) := by
  have D0 := Lib.hid (RI3.start w p)
  have HC := Lib.hid (fun W => ref_Right p W)
  rw [polOk_false hk] at HC
  clear hk
  go_enter Tryz.func22, Tryz.ntmps22
  go_wp2_with (first
    | (refine Blk.load rfl 23 (.tmp 4) rfl _ _ _ _ rfl D0.out.1 Tryz.underlying23 rfl (by kernel_rfl) ?_)
    | (go_at_call 9; refine (HC.out _).mono ?_; rintro e v1 ⟨rfl, hb1⟩; have D1 := Lib.hid (D0.out.call hb1); clear hb1)
    | (refine wpList_store_row rfl 34 (.tmp 8) (.tmp 13) rfl (w.heap.size + 1) _ _ _ rfl rfl D1.out.2.1 (by rfl) (by kernel_rfl) (by simp [Value.oneCell']) ?_; intro w9 hb9 hg9))
  refine bodyPost_ret (results_row_tmp rfl _ _ (w.heap.size + 1) _ _ _ rfl hb9 Tryz.underlying34 rfl (by kernel_rfl)) rfl ⟨rfl, D1.out.2.2.trans (Only.below hg9 (by omega) D1.out.2.2.size)⟩
theorem ref45_Run_arg (p : Pol) (A : Option Addr) (len cap : Nat) (sm rm : Int) (w : World) (hk : p.okP) (hb : ¬ goodS sm ∨ ¬ (1 ≤ rm ∧ rm ≤ 64)) :
    Calls Tryz.prog 22 #[(.agg #[.int .i64 p.min, .int .i64 p.max, .int .i64 p.target, .int .i64 p.tol, .int .i64 p.window, .int .i64 p.hold]), .slice A len cap, .int .i64 sm, .int .i64 rm] w (RunNo w 1) := by
  have D0 := Lib.hid (RI3.start w p)
  have HC := Lib.hid (fun W => ref_Right p W)
  rw [polOk_true hk] at HC
  have hd := tests_badR hb
  clear hb hk
  rcases hd with d1 | ⟨d1, d2⟩ | ⟨d1, d2, d3⟩ | ⟨d1, d2, d3, d4⟩
  all_goals
    go_enter Tryz.func22, Tryz.ntmps22
    go_wp2_with (first
      | (refine Blk.load rfl 23 (.tmp 4) rfl _ _ _ _ rfl D0.out.1 Tryz.underlying23 rfl (by kernel_rfl) ?_)
      | (go_at_call 9; refine (HC.out _).mono ?_; rintro e v1 ⟨rfl, hb1⟩; have D1 := Lib.hid (D0.out.call hb1); clear hb1)
      | (refine wpList_store_row rfl 34 (.tmp 8) (.tmp 28) rfl (w.heap.size + 1) _ _ _ rfl rfl D1.out.2.1 (by rfl) (by kernel_rfl) (by simp [Value.oneCell']) ?_; intro w9 hb9 hg9))
    refine bodyPost_ret (results_row_tmp rfl _ _ (w.heap.size + 1) _ _ _ rfl hb9 Tryz.underlying34 rfl (by kernel_rfl)) rfl ⟨rfl, D1.out.2.2.trans (Only.below hg9 (by omega) D1.out.2.2.size)⟩
theorem ref45_Run_ok (p : Pol) (A : Option Addr) (len cap : Nat) (l : List Smp) (S R : Nat) (w : World) (hp : p.fit) (hk : p.okP) (hs : SmpsAre w A len cap l) (hg : ∀ x ∈ l, x.good) (hn : len ≤ 200) (s1 : 1 ≤ S) (s2 : S ≤ 256) (r1 : 1 ≤ R) (r2 : R ≤ 64) :
    Calls Tryz.prog 22 #[(.agg #[.int .i64 p.min, .int .i64 p.max, .int .i64 p.target, .int .i64 p.tol, .int .i64 p.window, .int .i64 p.hold]), .slice A len cap, .int .i64 S, .int .i64 R] w (RunYes p (folq p S R l).out w) := by
  have HS := Lib.hid hs
  have HP := Lib.hid hp
  have D0 := Lib.hid (RI3.start w p)
  have HC := Lib.hid (fun W => ref_Right p W)
  rw [polOk_true hk] at HC
  have d1 : decide ((S : Int) < 1) = false := by simp; omega
  have d2 : decide ((256 : Int) < (S : Int)) = false := by simp; omega
  have d3 : decide ((R : Int) < 1) = false := by simp; omega
  have d4 : decide ((64 : Int) < (R : Int)) = false := by simp; omega
  have d1' : ¬ S < 1 := by omega
  have d2' : ¬ 256 < S := by omega
  have d3' : ¬ R < 1 := by omega
  have d4' : ¬ 64 < R := by omega
  have HF := Lib.hid (fun W hW => ref16_Follow p A len cap l S R W hp hW hg hn)
  have HFi := Lib.hid (fol_fine p S R l hg)
  have HLo := Lib.hid (show (folq p S R l).out.length ≤ 200 by
    have h := (folq_len p S R l l.length (Nat.le_refl _)).2
    rw [List.take_length] at h
    have := hs.1
    omega)
  clear hs hp hg s1 s2 r1 r2 hk
  unfold FolPost2 at HF
  generalize (folq p S R l).out = OUT at *
  go_enter Tryz.func22, Tryz.ntmps22
  focus (go_upto_region 5 with (first
    | (refine Blk.load rfl 23 (.tmp 4) rfl _ _ _ _ rfl D0.out.1 Tryz.underlying23 rfl (by kernel_rfl) ?_)
    | (go_at_call 9; refine (HC.out _).mono ?_; rintro e v1 ⟨rfl, hb1⟩; have D1 := Lib.hid (D0.out.call hb1); clear hb1)))
  have HJ := Lib.hid (fun W A2 c2 hW => ref44_Judge p A2 OUT.length c2 OUT W HP.out hW HFi.out.2 (Nat.le_trans HLo.out (by decide)))
  refine wp_region_any (by kernel_rfl) ?_; change wpAny _ _ _ _ _ _ _ (World.drew v1); refine any_of_anyG (late := fun j => [7, 8].contains j) (S := fun wS => Below v1.heap.size v1 wS) _ _ _ _ ?_
  have S0 := (Below.refl v1.heap.size v1).drew
  refine anyG_takes (is := [0, 1, 2, 3, 4]) (vs := [_, _, _, _, _]) (m := 4) (listed2 := #[true, true, true, true, true, false, false, false, false]) (a2 := ⟨#[_, _, _, _, _, _, _, _, _, _, _, _, _, _, _, _, _, _, _, _, _, _, _, _, _, _, _, _, _, _, _, _, _, _, _, _], _⟩) (by kernel_rfl) (fun j hj => by first | (simp at hj; done) | (simp at hj; simp; omega)) (by kernel_rfl) (fun _ _ _ _ _ h => h) (Ys.cons rfl (Or.inl ⟨by rfl, fun W1 hW1 => exec_load (ty := 23) (x := .tmp 4) rfl rfl (run_loadAt_blk _ _ _ _ _ _ (D1.out.1.call hW1) Tryz.underlying23 rfl (by first | kernel_rfl | exact info_num _))⟩) (Ys.cons rfl (Or.inl ⟨by rfl, fun W1 hW1 => exec_load (ty := 23) (x := .tmp 4) rfl rfl (run_loadAt_blk _ _ _ _ _ _ (D1.out.1.call hW1) Tryz.underlying23 rfl (by first | kernel_rfl | exact info_num _))⟩) (Ys.cons rfl (Or.inl ⟨by rfl, fun W1 hW1 => by first | rfl | (go_simp; done) | (go_simp; with_reducible rfl)⟩) (Ys.cons rfl (Or.inl ⟨by rfl, fun W1 hW1 => by first | rfl | (go_simp; done) | (go_simp; with_reducible rfl)⟩) (Ys.cons rfl (Or.inl ⟨by rfl, fun W1 hW1 => by first | rfl | (go_simp; done) | (go_simp; with_reducible rfl)⟩) (Ys.nil)))))) (S0) (by rfl) (by rfl) ?_
  refine anyG_one (k := 5) (by kernel_rfl) rfl (by rfl) (fun Q2 hQ2 => ?_); go_wp2_with (go_at_call 12; refine (HF.out _ (slice_keep HS.out (D1.out.2.2.trans (S0.mono D1.out.2.2.size)))).mono ?_; rintro e v2 ⟨A2, n2, c2, rfl, ho2, hb2⟩; obtain rfl := (ownA_is ho2).1; have O2 := Lib.hid ho2; clear ho2); refine hQ2 _ _ (fun _ => S0.trans (hb2.mono S0.size)) ?_; clear hQ2 Q2
  have S2 := S0.trans (hb2.mono S0.size)
  refine anyG_one (k := 6) (by kernel_rfl) rfl (by rfl) (fun Q2 hQ2 => ?_); go_wp2_with (go_at_call 11; refine (HJ.out _ A2 c2 (ownA_is O2.out)).mono ?_; rintro e v3 ⟨rfl, hb3⟩; have O3 := Lib.hid (O2.out.call hb3); have D3 := Lib.hid (D1.out.call (S2.trans (hb3.mono S2.size)))); refine hQ2 _ _ (fun _ => S2.trans (hb3.mono S2.size)) ?_; clear hQ2 Q2
  have S3 := S2.trans (hb3.mono S2.size)
  refine anyG_of_any _ _ _ _ (by kernel_rfl) ?_
  refine any_one (k := 7) (by kernel_rfl) rfl (by rfl) (fun Q2 hQ2 => ?_); go_wp2_with (refine wpList_store_row rfl 34 (.tmp 8) (.tmp 35) rfl (w.heap.size + 1) _ _ _ rfl rfl D3.out.2.1 (by rfl) (by kernel_rfl) (by simp [Value.oneCell']) ?_; intro w9 hb9 hg9); (try refine hQ2 _ _ ?_); (try clear hQ2 Q2)
  refine wpAny_take (i := 8) (v := _) rfl (by kernel_rfl) (by kernel_rfl) (by kernel_rfl) (fun _ _ _ h => h) (Or.inl ⟨by rfl, fun W => by rfl⟩) ?_
  refine wpAny_done (by kernel_rfl) ?_ _
  have O9 := O3.out.grown hg9 (fun k hk => by have h1 := (World.ownsRow.lt O3.out k hk).1; have h3 := D1.out.2.1.lt; have h4 := S3.size; (try simp at h3); (try simp at h4); (try simp at h1); omega)
  go_wp2
  refine bodyPost_ret (results_row_tmp rfl _ _ (w.heap.size + 1) _ _ _ rfl hb9 Tryz.underlying34 rfl (by kernel_rfl)) rfl ⟨A2, _, c2, rfl, ownA_is O9, D3.out.2.2.trans (Only.below hg9 (by omega) D3.out.2.2.size)⟩
structure Jud where
  ch : Int
  tn : Int
  least : Int
  most : Int
  spare : Int
  short : Int
abbrev Jud.row (j : Jud) (v : Value) : Array Value := #[v, .int .i64 j.ch, .int .i64 j.tn, .int .i64 j.least, .int .i64 j.most, .int .i64 j.spare, .int .i64 j.short]
def rune (p : Pol) (sm rm : Int) : Int := if p.okP then (if goodS sm ∧ 1 ≤ rm ∧ rm ≤ 64 then 0 else 1) else 7
def outq (p : Pol) (sm rm : Int) (l : List Smp) : List Adv := if rune p sm rm = 0 then (folq p sm rm l).out else []
def judq (p : Pol) (l : List Adv) : Jud := ⟨(chq (replAt l) l.length : Nat), ((turnq (replAt l) l.length).1 : Nat), (j4 p.target l l.length).least, (j4 p.target l l.length).most, (j4 p.target l l.length).spare, (j4 p.target l l.length).short⟩
theorem judq_nil (p : Pol) : judq p [] = ⟨0, 0, 0, 0, 0, 0⟩ := rfl
theorem rune_pol {p : Pol} {sm rm : Int} (h : ¬ p.okP) : rune p sm rm = 7 := if_neg h
theorem rune_arg {p : Pol} {sm rm : Int} (h : p.okP) (h2 : ¬ goodS sm ∨ ¬ (1 ≤ rm ∧ rm ≤ 64)) : rune p sm rm = 1 := by
  unfold rune; rw [if_pos h, if_neg (fun h3 => h2.elim (fun h4 => h4 h3.1) (fun h4 => h4 h3.2))]
theorem rune_ok {p : Pol} {sm rm : Int} (h : p.okP) (h2 : goodS sm) (h3 : 1 ≤ rm ∧ rm ≤ 64) : rune p sm rm = 0 := by
  unfold rune; rw [if_pos h, if_pos ⟨h2, h3⟩]
theorem rune_is (p : Pol) (sm rm : Int) : rune p sm rm = 0 ∨ rune p sm rm = 1 ∨ rune p sm rm = 7 := by
  unfold rune; split
  · split
    · exact .inl rfl
    · exact .inr (.inl rfl)
  · exact .inr (.inr rfl)
/-- What either Run answers. -/
def RunAny (p : Pol) (sm rm : Int) (l : List Smp) (w : World) (e : Ending) (w' : World) : Prop := ∃ A n c, e = .returned (.tuple #[.agg ((judq p (outq p sm rm l)).row (.slice A n c)), .int .i64 (rune p sm rm)]) ∧ AdvsAre w' A n c (outq p sm rm l) ∧ Below w.heap.size w w'
theorem RunAny.no {p : Pol} {sm rm n : Int} {l : List Smp} {w : World} (h : rune p sm rm = n) (hn : n ≠ 0) (e : Ending) (w' : World) (hr : RunNo w n e w') : RunAny p sm rm l w e w' := by
  obtain ⟨rfl, hb⟩ := hr
  have ho : outq p sm rm l = [] := if_neg (by omega)
  unfold RunAny
  rw [ho, judq_nil, h]
  exact ⟨none, 0, 0, rfl, slice_nil _ _ _, hb⟩
theorem RunAny.yes {p : Pol} {sm rm : Int} {l : List Smp} {w : World} (h : rune p sm rm = 0) (e : Ending) (w' : World) (hr : RunYes p (folq p sm rm l).out w e w') : RunAny p sm rm l w e w' := by
  have ho : outq p sm rm l = (folq p sm rm l).out := if_pos h
  unfold RunAny
  rw [ho, h]
  exact hr
theorem run_cases (p : Pol) (sm rm : Int) : (¬ p.okP) ∨ (p.okP ∧ (¬ goodS sm ∨ ¬ (1 ≤ rm ∧ rm ≤ 64))) ∨ (p.okP ∧ ∃ S R : Nat, sm = S ∧ rm = R ∧ goodS sm ∧ 1 ≤ S ∧ S ≤ 256 ∧ 1 ≤ R ∧ R ≤ 64) := by
  by_cases hk : p.okP
  · by_cases hb : ¬ goodS sm ∨ ¬ (1 ≤ rm ∧ rm ≤ 64)
    · exact .inr (.inl ⟨hk, hb⟩)
    · have hg : goodS sm := Classical.byContradiction fun h => hb (.inl h)
      unfold goodS at hb
      exact .inr (.inr ⟨hk, sm.toNat, rm.toNat, by omega, by omega, hg, by omega, by omega, by omega, by omega⟩)
  · exact .inl hk
theorem trial_Run (p : Pol) (A : Option Addr) (len cap : Nat) (l : List Smp) (sm rm : Int) (w : World) (hp : p.fit) (hs : SmpsAre w A len cap l) (hg : ∀ x ∈ l, x.good) (hn : len ≤ 200) :
    Calls Tryz.prog 8 #[(.agg #[.int .i64 p.min, .int .i64 p.max, .int .i64 p.target, .int .i64 p.tol, .int .i64 p.window, .int .i64 p.hold]), .slice A len cap, .int .i64 sm, .int .i64 rm] w (RunAny p sm rm l w) := by
  rcases run_cases p sm rm with hk | ⟨hk, hb⟩ | ⟨hk, S, R, rfl, rfl, hs1, s1, s2, r1, r2⟩
  · exact (trial_Run_pol p A len cap sm rm w hk).mono (RunAny.no (rune_pol hk) (by omega))
  · exact (trial_Run_arg p A len cap sm rm w hk hb).mono (RunAny.no (rune_arg hk hb) (by omega))
  · exact (trial_Run_ok p A len cap l S R w hp hk hs hg hn s1 s2 r1 r2).mono (RunAny.yes (rune_ok hk hs1 (by omega)))
theorem ref45_Run (p : Pol) (A : Option Addr) (len cap : Nat) (l : List Smp) (sm rm : Int) (w : World) (hp : p.fit) (hs : SmpsAre w A len cap l) (hg : ∀ x ∈ l, x.good) (hn : len ≤ 200) :
    Calls Tryz.prog 22 #[(.agg #[.int .i64 p.min, .int .i64 p.max, .int .i64 p.target, .int .i64 p.tol, .int .i64 p.window, .int .i64 p.hold]), .slice A len cap, .int .i64 sm, .int .i64 rm] w (RunAny p sm rm l w) := by
  rcases run_cases p sm rm with hk | ⟨hk, hb⟩ | ⟨hk, S, R, rfl, rfl, hs1, s1, s2, r1, r2⟩
  · exact (ref45_Run_pol p A len cap sm rm w hk).mono (RunAny.no (rune_pol hk) (by omega))
  · exact (ref45_Run_arg p A len cap sm rm w hk hb).mono (RunAny.no (rune_arg hk hb) (by omega))
  · exact (ref45_Run_ok p A len cap l S R w hp hk hs hg hn s1 s2 r1 r2).mono (RunAny.yes (rune_ok hk hs1 (by omega)))
end Go.Proofs.YtjodpffdlggjgaaGreat
/- Package tune and its reference: With and Ladder; flywheelref06.Same. -/
namespace Go.Proofs.YtjodpffdlggjgaaGreat
open Go.RowKit
set_option linter.unusedSimpArgs false
set_option linter.unusedVariables false
set_option maxHeartbeats 2000000

def withq (p : Pol) (f v : Int) : Pol := if f = 1 then { p with min := v } else if f = 2 then { p with max := v } else if f = 3 then { p with target := v } else if f = 4 then { p with tol := v } else if f = 5 then { p with window := v } else if f = 6 then { p with hold := v } else p
theorem tune_With (p : Pol) (f v : Int) (w : World) :
    Calls Tryz.prog 26 #[(.agg #[.int .i64 p.min, .int .i64 p.max, .int .i64 p.target, .int .i64 p.tol, .int .i64 p.window, .int .i64 p.hold]), .int .i64 f, .int .i64 v] w fun e w' => e = .returned (.agg #[.int .i64 (withq p f v).min, .int .i64 (withq p f v).max, .int .i64 (withq p f v).target, .int .i64 (withq p f v).tol, .int .i64 (withq p f v).window, .int .i64 (withq p f v).hold]) ∧ Below w.heap.size w w' := by
  by_cases h1 : f < 1
  · have hq : withq p f v = p := by unfold withq; repeat rw [if_neg (by omega)]
    rw [hq]
    go_enter Tryz.func26, Tryz.ntmps26
    go_wp2
    go_returns
    exact ⟨rfl, by go_grown⟩
  by_cases h2 : 6 < f
  · have hq : withq p f v = p := by unfold withq; repeat rw [if_neg (by omega)]
    rw [hq]
    go_enter Tryz.func26, Tryz.ntmps26
    go_wp2
    go_returns
    exact ⟨rfl, by go_grown⟩
  · rcases (show f = 1 ∨ f = 2 ∨ f = 3 ∨ f = 4 ∨ f = 5 ∨ f = 6 by omega) with rfl | rfl | rfl | rfl | rfl | rfl
    all_goals
      clear h1 h2
      go_enter Tryz.func26, Tryz.ntmps26
      go_wp2
      go_returns
      exact ⟨rfl, by go_grown⟩
theorem ref_With (p : Pol) (f v : Int) (w : World) :
    Calls Tryz.prog 23 #[(.agg #[.int .i64 p.min, .int .i64 p.max, .int .i64 p.target, .int .i64 p.tol, .int .i64 p.window, .int .i64 p.hold]), .int .i64 f, .int .i64 v] w fun e w' => e = .returned (.agg #[.int .i64 (withq p f v).min, .int .i64 (withq p f v).max, .int .i64 (withq p f v).target, .int .i64 (withq p f v).tol, .int .i64 (withq p f v).window, .int .i64 (withq p f v).hold]) ∧ Below w.heap.size w w' := by
  by_cases h1 : f < 1 ∨ 6 < f
  · have hq : withq p f v = p := by unfold withq; repeat rw [if_neg (by omega)]
    rw [hq]
    have d1 : (f == 1) = false := by simp; omega
    have d2 : (f == 2) = false := by simp; omega
    have d3 : (f == 3) = false := by simp; omega
    have d4 : (f == 4) = false := by simp; omega
    have d5 : (f == 5) = false := by simp; omega
    have d6 : (f == 6) = false := by simp; omega
    clear h1 hq
    go_enter Tryz.func23, Tryz.ntmps23
    go_wp2
    go_returns
    exact ⟨rfl, by go_grown⟩
  · rcases (show f = 1 ∨ f = 2 ∨ f = 3 ∨ f = 4 ∨ f = 5 ∨ f = 6 by omega) with rfl | rfl | rfl | rfl | rfl | rfl
    all_goals
      clear h1
      go_enter Tryz.func23, Tryz.ntmps23
      go_wp2
      go_returns
      exact ⟨rfl, by go_grown⟩
end Go.Proofs.YtjodpffdlggjgaaGreat
/- tune.Cheapest: the walk. -/
namespace Go.Proofs.YtjodpffdlggjgaaGreat
open Go.RowKit
set_option linter.unusedSimpArgs false
set_option linter.unusedVariables false
set_option maxHeartbeats 8000000
set_option maxRecDepth 100000
def okc (p : Pol) (sm rm : Int) (l : List Smp) (k : Int) : Prop := rune (withq p 2 k) sm rm = 0 ∧ (judq (withq p 2 k) (outq (withq p 2 k) sm rm l)).short = 0
def noc (p : Pol) (sm rm : Int) (l : List Smp) (k : Int) : Prop := ∀ j, p.min ≤ j → 1 ≤ j → j < k → ¬ okc p sm rm l j
def CheapIs (p : Pol) (sm rm : Int) (l : List Smp) (most n : Int) (b : Bool) : Prop :=
  (b = true ∧ p.min ≤ n ∧ 1 ≤ n ∧ n ≤ most ∧ okc p sm rm l n ∧ noc p sm rm l n) ∨ (b = false ∧ n = 0 ∧ noc p sm rm l (most + 1))
def CheapPost (p : Pol) (sm rm : Int) (l : List Smp) (most : Int) (w : World) (e : Ending) (w' : World) : Prop :=
  ∃ n b, e = .returned (.tuple #[.int .i64 n, .bool b]) ∧ CheapIs p sm rm l most n b ∧ Below w.heap.size w w'
def CheapNo (w : World) (e : Ending) (w' : World) : Prop := e = .returned (.tuple #[.int .i64 0, .bool false]) ∧ Below w.heap.size w w'
theorem noc_next {p : Pol} {sm rm : Int} {l : List Smp} {k : Int} (h : noc p sm rm l k) (h2 : ¬ okc p sm rm l k) : noc p sm rm l (k + 1) := fun j h3 h4 h5 => by
  by_cases hj : j = k
  · rw [hj]; exact h2
  · exact h j h3 h4 (by omega)
theorem noc_low {p : Pol} {sm rm : Int} {l : List Smp} {k : Int} (h : noc p sm rm l k) (h2 : k < p.min) : noc p sm rm l (k + 1) := fun j h3 h4 h5 => h j h3 h4 (by omega)
theorem fit_max {p : Pol} (h : p.fit) {k : Int} (hk : I64 k) : (withq p 2 k).fit := ⟨h.1, hk, h.2.2.1, h.2.2.2.1, h.2.2.2.2.1, h.2.2.2.2.2⟩
def PI (w wr : World) (p : Pol) : Prop := Blk wr w.heap.size 23 p.row ∧ Below w.heap.size w wr
theorem PI.start (w : World) (p : Pol) : PI w (w.alloc (.cells p.row 23)) p := ⟨Blk.new w _ _, by go_grown⟩
theorem PI.call {w wr w' : World} {p : Pol} (h : PI w wr p) (hb : Below wr.heap.size wr w') : PI w w' p := ⟨h.1.call hb, h.2.trans (hb.mono h.2.size)⟩
theorem PI.alloc {w wr : World} {p : Pol} (h : PI w wr p) (o : Obj) : PI w (wr.alloc o) p := h.call ((Below.refl _ wr).alloc (Nat.le_refl _) o)
theorem tune_Cheapest_no (p : Pol) (most : Int) (A : Option Addr) (len cap : Nat) (sm rm : Int) (w : World) (h : ¬ p.okP ∨ most < 1 ∨ 1000 < most) :
    Calls Tryz.prog 21 #[(.agg #[.int .i64 p.min, .int .i64 p.max, .int .i64 p.target, .int .i64 p.tol, .int .i64 p.window, .int .i64 p.hold]), .int .i64 most, .slice A len cap, .int .i64 sm, .int .i64 rm] w (CheapNo w) := by
  have D0 := Lib.hid (PI.start w p)
  have HC := Lib.hid (fun W => policy_Check p W)
  have hd : (polErr p = 7) ∨ (polErr p = 0 ∧ decide (most < 1) = true) ∨ (polErr p = 0 ∧ decide (most < 1) = false ∧ decide (1000 < most) = true) := by
    simp only [decide_eq_true_eq, decide_eq_false_iff_not]
    by_cases hk : p.okP
    · have := polErr_ok hk
      rcases h with h | h
      · exact absurd hk h
      · omega
    · exact .inl (polErr_no hk)
  clear h
  rcases hd with d0 | ⟨d0, d1⟩ | ⟨d0, d1, d2⟩
  all_goals
    rw [d0] at HC
    clear d0
    go_enter Tryz.func21, Tryz.ntmps21
    go_wp2_with (first
      | (refine Blk.load rfl 23 (.tmp 5) rfl _ _ _ _ rfl D0.out.1 Tryz.underlying23 rfl (by kernel_rfl) ?_)
      | (go_at_call 29; refine (HC.out _).mono ?_; rintro e v1 ⟨rfl, hb1⟩; have D1 := Lib.hid (D0.out.call hb1); clear hb1))
    go_ret2
    exact ⟨rfl, D1.out.2⟩
theorem tune_Cheapest_ok (p : Pol) (most : Int) (A : Option Addr) (len cap : Nat) (l : List Smp) (sm rm : Int) (w : World) (hp : p.fit) (hk : p.okP) (h1 : 1 ≤ most) (h2 : most ≤ 1000) (hs : SmpsAre w A len cap l) (hg : ∀ x ∈ l, x.good) (hn : len ≤ 200) :
    Calls Tryz.prog 21 #[(.agg #[.int .i64 p.min, .int .i64 p.max, .int .i64 p.target, .int .i64 p.tol, .int .i64 p.window, .int .i64 p.hold]), .int .i64 most, .slice A len cap, .int .i64 sm, .int .i64 rm] w (CheapPost p sm rm l most w) := by
  have D0 := Lib.hid (PI.start w p)
  have HS := Lib.hid hs
  have HG := Lib.hid hg
  have HP := Lib.hid hp
  have HC := Lib.hid (fun W => policy_Check p W)
  rw [polErr_ok hk] at HC
  have d1 : decide (most < 1) = false := by simp; omega
  have d2 : decide (1000 < most) = false := by simp; omega
  clear hs hg hp hk
  go_enter Tryz.func21, Tryz.ntmps21
  go_wp2_with (first
    | (refine Blk.load rfl 23 (.tmp 5) rfl _ _ _ _ rfl D0.out.1 Tryz.underlying23 rfl (by kernel_rfl) ?_)
    | (go_at_call 29; refine (HC.out _).mono ?_; rintro e v1 ⟨rfl, hb1⟩; have D1 := Lib.hid (D0.out.call hb1); clear hb1))
  go_loopw [12] (fun i wr => ∃ k : Int, 1 ≤ k ∧ k ≤ most + 1 ∧ i = .int .i64 k ∧ noc p sm rm l k ∧ PI w wr p) (fun i _ => (most + 1 - intOf i).toNat)
  case atStart => exact ⟨1, by omega, by omega, rfl, fun j h3 h4 h5 => by omega, D1.out⟩
  case round =>
    obtain ⟨k, hk1, hk2, rfl, hno, hpi⟩ := hrel
    have HNo := Lib.hid hno
    have HPI := Lib.hid hpi
    clear hno
    have c0 := hpi.1.cellv (i := 0) (v := .int .i64 p.min) rfl
    clear hpi
    by_cases hlt : k ≤ most
    · by_cases hm : k < p.min
      · have HN := Lib.hid (noc_low HNo.out hm)
        go_wp2
        go_roundw
        case rel => exact ⟨k + 1, by omega, by omega, rfl, HN.out, HPI.out⟩
        case measure => simp [intOf]; omega
      · have hm' : p.min ≤ k := by omega
        have HW := Lib.hid (fun W => tune_With p 2 k W)
        have HR := Lib.hid (fun W hW => trial_Run (withq p 2 k) A len cap l sm rm W (fit_max HP.out (by unfold I64; omega)) hW HG.out hn)
        unfold RunAny at HR
        have HY := Lib.hid (fun (h : rune (withq p 2 k) sm rm = 0 ∧ (judq (withq p 2 k) (outq (withq p 2 k) sm rm l)).short = 0) => (show okc p sm rm l k from h))
        have HN := Lib.hid (fun (h : ¬ (rune (withq p 2 k) sm rm = 0 ∧ (judq (withq p 2 k) (outq (withq p 2 k) sm rm l)).short = 0)) => noc_next HNo.out h)
        generalize withq p 2 k = q at *
        generalize judq q (outq q sm rm l) = J at *
        generalize outq q sm rm l = OUT at *
        generalize rune q sm rm = E at *
        by_cases hE : E = 0
        · subst hE
          by_cases hS : J.short = 0
          · have HY2 := Lib.hid (HY.out ⟨rfl, hS⟩)
            have e1 : (J.short == 0) = true := by simpa using hS
            clear hS HY HN
            go_wp2_with (first
              | (refine Blk.load rfl 23 (.tmp 5) rfl _ _ _ _ rfl HPI.out.1 Tryz.underlying23 rfl (by kernel_rfl) ?_)
              | (go_at_call 26; refine (HW.out _).mono ?_; rintro e v2 ⟨rfl, hb2⟩; have P2 := Lib.hid (HPI.out.call hb2); clear hb2)
              | (go_at_call 8; refine (HR.out _ (slice_keep HS.out P2.out.2)).mono ?_; rintro e v3 ⟨A3, n3, c3, rfl, hs3, hb3⟩; have q6 := (Blk.new v3 28 (J.row (.slice A3 n3 c3))).cellv (i := 6) (v := .int .i64 J.short) rfl; have P3 := Lib.hid (P2.out.call hb3); clear hb3 hs3))
            go_ret2
            exact ⟨k, true, rfl, .inl ⟨rfl, hm', hk1, hlt, HY2.out, HNo.out⟩, (P3.out.alloc _).2⟩
          · have HN2 := Lib.hid (HN.out (fun h => hS h.2))
            have e1 : (J.short == 0) = false := by simpa using hS
            clear hS HY HN
            go_wp2_with (first
              | (refine Blk.load rfl 23 (.tmp 5) rfl _ _ _ _ rfl HPI.out.1 Tryz.underlying23 rfl (by kernel_rfl) ?_)
              | (go_at_call 26; refine (HW.out _).mono ?_; rintro e v2 ⟨rfl, hb2⟩; have P2 := Lib.hid (HPI.out.call hb2); clear hb2)
              | (go_at_call 8; refine (HR.out _ (slice_keep HS.out P2.out.2)).mono ?_; rintro e v3 ⟨A3, n3, c3, rfl, hs3, hb3⟩; have q6 := (Blk.new v3 28 (J.row (.slice A3 n3 c3))).cellv (i := 6) (v := .int .i64 J.short) rfl; have P3 := Lib.hid (P2.out.call hb3); clear hb3 hs3))
            go_roundw
            case rel => exact ⟨k + 1, by omega, by omega, rfl, HN2.out, P3.out.alloc _⟩
            case measure => simp [intOf]; omega
        · have HN2 := Lib.hid (HN.out (fun h => hE h.1))
          have e1 : (E == 0) = false := by simpa using hE
          clear hE HY HN
          go_wp2_with (first
            | (refine Blk.load rfl 23 (.tmp 5) rfl _ _ _ _ rfl HPI.out.1 Tryz.underlying23 rfl (by kernel_rfl) ?_)
            | (go_at_call 26; refine (HW.out _).mono ?_; rintro e v2 ⟨rfl, hb2⟩; have P2 := Lib.hid (HPI.out.call hb2); clear hb2)
            | (go_at_call 8; refine (HR.out _ (slice_keep HS.out P2.out.2)).mono ?_; rintro e v3 ⟨A3, n3, c3, rfl, hs3, hb3⟩; have P3 := Lib.hid (P2.out.call hb3); clear hb3 hs3))
          go_roundw
          case rel => exact ⟨k + 1, by omega, by omega, rfl, HN2.out, P3.out.alloc _⟩
          case measure => simp [intOf]; omega
    · obtain rfl : k = most + 1 := by omega
      go_wp2
      go_ret2
      exact ⟨0, false, rfl, .inr ⟨rfl, rfl, HNo.out⟩, HPI.out.2⟩
end Go.Proofs.YtjodpffdlggjgaaGreat
/- The numbers from one to another one: tune.Ladder and its reference. -/
namespace Go.Proofs.YtjodpffdlggjgaaGreat
open Go.RowKit
set_option linter.unusedSimpArgs false
set_option linter.unusedVariables false
set_option maxHeartbeats 2000000

def stepq (f t n : Int) : Int := if 1 < n then floorq (satq (t - f)) (n - 1) else 0
def itemq (f t n : Int) (i : Nat) : Int := if 1 < n ∧ (i : Int) = n - 1 then t else satq (f + satq (stepq f t n * i))
def pushqL (l : List Int) (x : Int) : List Int := if l.all (fun y => decide (y < x)) then l ++ [x] else l
def ladq (f t n : Int) : Nat → List Int
  | 0 => []
  | k + 1 => pushqL (ladq f t n k) (itemq f t n k)
def ladderq (f t n : Int) : List Int := if n < 1 ∨ 256 < n ∨ t < f then [] else ladq f t n n.toNat
theorem pushq_len (l : List Int) (x : Int) : (pushqL l x).length ≤ l.length + 1 := by
  unfold pushqL; split <;> simp
theorem ladq_len (f t n : Int) (k : Nat) : (ladq f t n k).length ≤ k := by
  induction k with
  | zero => simp [ladq]
  | succ k ih => have := pushq_len (ladq f t n k) (itemq f t n k); unfold ladq; omega
theorem pushq_sorted {l : List Int} (h : l.Pairwise (· < ·)) (x : Int) : (pushqL l x).Pairwise (· < ·) := by
  unfold pushqL
  split
  · rename_i ha
    rw [List.pairwise_append]
    refine ⟨h, by simp, ?_⟩
    intro a ha1 b hb
    simp at hb; subst hb
    simpa using List.all_eq_true.1 ha a ha1
  · exact h
theorem ladq_sorted (f t n : Int) (k : Nat) : (ladq f t n k).Pairwise (· < ·) := by
  induction k with
  | zero => simp [ladq]
  | succ k ih => exact pushq_sorted ih _
theorem sorted_last {l : List Int} (h : l.Pairwise (· < ·)) {y : Int} (hy : l[l.length - 1]? = some y) (x : Int) : l.all (fun z => decide (z < x)) = decide (y < x) := by
  rw [Bool.eq_iff_iff]
  simp only [List.all_eq_true, decide_eq_true_eq]
  obtain ⟨hlt, rfl⟩ := List.getElem?_eq_some_iff.1 hy
  refine ⟨fun ha => ha _ (List.getElem_mem _), fun hx z hz => ?_⟩
  obtain ⟨i, hi, rfl⟩ := List.getElem_of_mem hz
  rcases Nat.lt_or_ge i (l.length - 1) with h1 | h1
  · have := (List.pairwise_iff_getElem.1 h) i (l.length - 1) hi hlt h1
    omega
  · have : i = l.length - 1 := by omega
    subst this; exact hx
theorem floor_I64 (s m : Int) (hs : I64 s) (hm : 1 ≤ m) : I64 (s / m) := by
  unfold I64 at *
  by_cases h0 : 0 ≤ s
  · have := Int.ediv_le_self m h0
    have := Int.ediv_nonneg h0 (show 0 ≤ m by omega)
    omega
  · have h1 := Int.ediv_neg_of_neg_of_pos (show s < 0 by omega) (show 0 < m by omega)
    have h2 : s ≤ s / m := by
      refine (Int.le_ediv_iff_mul_le (by omega)).2 ?_
      have := Int.mul_nonneg (show 0 ≤ -s by omega) (show 0 ≤ m - 1 by omega)
      rw [Int.neg_mul, Int.mul_sub, Int.mul_one] at this
      omega
    omega
theorem stepq_I64 (f t n : Int) : I64 (stepq f t n) := by
  unfold stepq
  split
  · unfold floorq
    rw [if_neg (by omega)]
    exact floor_I64 _ _ (satq_I64 _) (by omega)
  · unfold I64; omega
theorem pushq_nil (x : Int) : pushqL [] x = [x] := rfl
theorem own_shape {w : World} {base : Nat} {v : Value} {l : List Int} (h : OwnI w base v l) : ∃ A len cap, v = .slice A len cap ∧ l.length = len ∧ IntsAre w A len cap l := by
  obtain ⟨A, cap, h1, h2⟩ := Own.slice h (fun _ => rfl)
  exact ⟨A, _, cap, h1, rfl, h2⟩
theorem OwnI.last {w : World} {m cap : Nat} {A : Option Addr} {l : List Int} (h : IntsAre w A (m + 1) cap l) (hs : l.Pairwise (· < ·)) :
    ∃ (b off : Nat) (y : Int), A = some ⟨b, off, none⟩ ∧ w.cell? ⟨b, off + m, none⟩ = some (.int .i64 y) ∧ ∀ x, (y < x → pushqL l x = l ++ [x]) ∧ (¬ y < x → pushqL l x = l) := by
  obtain ⟨b, off, y, h1, h2, h3, h4⟩ := h.at_ (k := m) (by omega)
  have hl := h.1
  have h2' : l[l.length - 1]? = some y := by rw [hl]; exact h2
  refine ⟨b, off, y, h1, h4, fun x => ⟨fun hx => ?_, fun hx => ?_⟩⟩
  · unfold pushqL; rw [sorted_last hs h2', if_pos (by simpa using hx)]
  · unfold pushqL; rw [sorted_last hs h2', if_neg (by simpa using hx)]
theorem tune_Ladder (f t n : Int) (w : World) (hf : I64 f) (ht : I64 t) (hn : I64 n) :
    Calls Tryz.prog 50 #[.int .i64 f, .int .i64 t, .int .i64 n] w fun e w' => ∃ v, e = .returned v ∧ OwnI w' w.heap.size v (ladderq f t n) ∧ Below w.heap.size w w' := by
  by_cases h0 : n < 1 ∨ 256 < n ∨ t < f
  · have HQ := Lib.hid (show ladderq f t n = [] by unfold ladderq; rw [if_pos h0])
    by_cases h1 : n < 1
    · go_enter Tryz.func50, Tryz.ntmps50
      go_wp2
      go_ret
      exact ⟨_, rfl, by rw [HQ.out]; exact Own.nil _ _ _ _ _, by go_grown⟩
    by_cases h2 : 256 < n
    · go_enter Tryz.func50, Tryz.ntmps50
      go_wp2
      go_ret
      exact ⟨_, rfl, by rw [HQ.out]; exact Own.nil _ _ _ _ _, by go_grown⟩
    · have h3 : t < f := by omega
      clear h0
      go_enter Tryz.func50, Tryz.ntmps50
      go_wp2
      go_ret
      exact ⟨_, rfl, by rw [HQ.out]; exact Own.nil _ _ _ _ _, by go_grown⟩
  · have HQ := Lib.hid (show ladderq f t n = ladq f t n n.toNat by unfold ladderq; rw [if_neg h0])
    have n3 : f ≤ t := by omega
    obtain ⟨N, rfl⟩ : ∃ N : Nat, n = (N : Int) := ⟨n.toNat, by omega⟩
    have n1 : 1 ≤ N := by omega
    have n2 : N ≤ 256 := by omega
    clear h0
    go_enter Tryz.func50, Tryz.ntmps50
    go_wp2_with (first | (go_at_call 55; refine (sat_Sub _ _ _ ht hf).mono ?_; rintro e w1 ⟨rfl, rfl⟩))
    go_loopw [7, 27] (fun v i wr => ∃ k : Nat, k ≤ N ∧ i = .int .i64 k ∧ OwnI wr w.heap.size v (ladq f t N k) ∧ Below w.heap.size w wr) (fun _ i _ => N - (intOf i).toNat)
    case atStart => exact ⟨0, Nat.zero_le _, rfl, Own.nil _ _ _ _ _, Below.refl _ _⟩
    case round =>
      obtain ⟨k, hk, rfl, hown, hbel⟩ := hrel
      by_cases hlt : k < N
      · have hlen := ladq_len f t N k
        have hsort := Lib.hid (ladq_sorted f t N k)
        have HP := Lib.hid (show ladq f t N (k + 1) = pushqL (ladq f t N k) (itemq f t N k) from rfl)
        generalize ladq f t N k = l at *
        have hlen2 : l.length < 1000000 := by omega
        by_cases hN : 1 < N
        · by_cases hB : k + 1 = N
          · have HX := Lib.hid (show itemq f t N k = t by unfold itemq; rw [if_pos (by omega)])
            obtain ⟨S, hS⟩ : ∃ S, S = stepq f t N := ⟨_, rfl⟩
            have hSI : I64 S := by rw [hS]; exact stepq_I64 _ _ _
            have hS2 : floorq (satq (t - f)) ((N : Int) - 1) = S := by rw [hS]; unfold stepq; rw [if_pos (by omega)]
            have d1 : ((k : Int) == (N : Int) - 1) = true := by simp; omega
            clear hS hB
            obtain ⟨A, len, cap, rfl, hll, hsl⟩ := own_shape hown
            rcases len with _ | m
            · have hnil : l = [] := List.eq_nil_of_length_eq_zero hll
              subst hnil
              have HPx := Lib.hid (show pushqL [] t = [t] from rfl)
              clear hsl hll
              go_wp2_with (first | (go_at_call 76; refine (sat_Floor _ _ _ (satq_I64 _) (by unfold I64; omega)).mono ?_; rintro e w1 ⟨rfl, rfl⟩) | (go_at_call 56; refine (sat_Mul _ _ _ (by first | assumption | (unfold I64; omega)) (by unfold I64; omega)).mono ?_; rintro e w1 ⟨rfl, rfl⟩) | (go_at_call 47; refine (sat_Add _ _ _ hf (satq_I64 _)).mono ?_; rintro e w1 ⟨rfl, rfl⟩) | (at_builtin; refine push_int _ rfl _ _ rfl w.heap.size _ _ rfl (hown.alloc _) ⟨wr.heap.size, 0, none⟩ 1 t rfl (by simp) hlen2 (by have := hbel.size; simp; omega) ?_; intro v2 w2 ho2 hb2))
              go_roundw
              case rel => exact ⟨k + 1, by omega, by go_num, by rw [HP.out, HX.out, HPx.out]; exact ho2, (hbel.alloc hbel.size _).trans hb2⟩
              case measure => simp [intOf]; omega
            · obtain ⟨b, off, y, rfl, hc, hpq⟩ := OwnI.last hsl hsort.out
              have hm2 : m < 1000000 := by omega
              have hm3 : ((m : Int) + 1 == 0) = false := by simp; omega
              have HPQ := Lib.hid (hpq t)
              clear hpq hsl hll
              by_cases hyx : y < t
              · go_wp2_with (first | (go_at_call 76; refine (sat_Floor _ _ _ (satq_I64 _) (by unfold I64; omega)).mono ?_; rintro e w1 ⟨rfl, rfl⟩) | (go_at_call 56; refine (sat_Mul _ _ _ (by first | assumption | (unfold I64; omega)) (by unfold I64; omega)).mono ?_; rintro e w1 ⟨rfl, rfl⟩) | (go_at_call 47; refine (sat_Add _ _ _ hf (satq_I64 _)).mono ?_; rintro e w1 ⟨rfl, rfl⟩) | (at_builtin; refine push_int _ rfl _ _ rfl w.heap.size _ _ rfl (hown.alloc _) ⟨wr.heap.size, 0, none⟩ 1 t rfl (by simp) hlen2 (by have := hbel.size; simp; omega) ?_; intro v2 w2 ho2 hb2))
                go_roundw
                case rel => exact ⟨k + 1, by omega, by go_num, by rw [HP.out, HX.out, HPQ.out.1 hyx]; exact ho2, (hbel.alloc hbel.size _).trans hb2⟩
                case measure => simp [intOf]; omega
              · go_wp2_with (first | (go_at_call 76; refine (sat_Floor _ _ _ (satq_I64 _) (by unfold I64; omega)).mono ?_; rintro e w1 ⟨rfl, rfl⟩) | (go_at_call 56; refine (sat_Mul _ _ _ (by first | assumption | (unfold I64; omega)) (by unfold I64; omega)).mono ?_; rintro e w1 ⟨rfl, rfl⟩) | (go_at_call 47; refine (sat_Add _ _ _ hf (satq_I64 _)).mono ?_; rintro e w1 ⟨rfl, rfl⟩) | (at_builtin; refine push_int _ rfl _ _ rfl w.heap.size _ _ rfl (hown.alloc _) ⟨wr.heap.size, 0, none⟩ 1 t rfl (by simp) hlen2 (by have := hbel.size; simp; omega) ?_; intro v2 w2 ho2 hb2))
                go_roundw
                case rel => exact ⟨k + 1, by omega, by go_num, by rw [HP.out, HX.out, HPQ.out.2 hyx]; exact hown, hbel⟩
                case measure => simp [intOf]; omega
          · obtain ⟨S, hS⟩ : ∃ S, S = stepq f t N := ⟨_, rfl⟩
            obtain ⟨x, hx⟩ : ∃ x, x = satq (f + satq (S * k)) := ⟨_, rfl⟩
            have HX := Lib.hid (show itemq f t N k = x by unfold itemq; rw [if_neg (by omega), hx, hS])
            have hx2 : satq (f + satq (S * k)) = x := hx.symm
            have hSI : I64 S := by rw [hS]; exact stepq_I64 _ _ _
            have hS2 : floorq (satq (t - f)) ((N : Int) - 1) = S := by rw [hS]; unfold stepq; rw [if_pos (by omega)]
            have d1 : ((k : Int) == (N : Int) - 1) = false := by simp; omega
            clear hx hS hB
            obtain ⟨A, len, cap, rfl, hll, hsl⟩ := own_shape hown
            rcases len with _ | m
            · have hnil : l = [] := List.eq_nil_of_length_eq_zero hll
              subst hnil
              have HPx := Lib.hid (show pushqL [] x = [x] from rfl)
              clear hsl hll
              go_wp2_with (first | (go_at_call 76; refine (sat_Floor _ _ _ (satq_I64 _) (by unfold I64; omega)).mono ?_; rintro e w1 ⟨rfl, rfl⟩) | (go_at_call 56; refine (sat_Mul _ _ _ (by first | assumption | (unfold I64; omega)) (by unfold I64; omega)).mono ?_; rintro e w1 ⟨rfl, rfl⟩) | (go_at_call 47; refine (sat_Add _ _ _ hf (satq_I64 _)).mono ?_; rintro e w1 ⟨rfl, rfl⟩) | (at_builtin; refine push_int _ rfl _ _ rfl w.heap.size _ _ rfl (hown.alloc _) ⟨wr.heap.size, 0, none⟩ 1 x rfl (by simp) hlen2 (by have := hbel.size; simp; omega) ?_; intro v2 w2 ho2 hb2))
              go_roundw
              case rel => exact ⟨k + 1, by omega, by go_num, by rw [HP.out, HX.out, HPx.out]; exact ho2, (hbel.alloc hbel.size _).trans hb2⟩
              case measure => simp [intOf]; omega
            · obtain ⟨b, off, y, rfl, hc, hpq⟩ := OwnI.last hsl hsort.out
              have hm2 : m < 1000000 := by omega
              have hm3 : ((m : Int) + 1 == 0) = false := by simp; omega
              have HPQ := Lib.hid (hpq x)
              clear hpq hsl hll
              by_cases hyx : y < x
              · go_wp2_with (first | (go_at_call 76; refine (sat_Floor _ _ _ (satq_I64 _) (by unfold I64; omega)).mono ?_; rintro e w1 ⟨rfl, rfl⟩) | (go_at_call 56; refine (sat_Mul _ _ _ (by first | assumption | (unfold I64; omega)) (by unfold I64; omega)).mono ?_; rintro e w1 ⟨rfl, rfl⟩) | (go_at_call 47; refine (sat_Add _ _ _ hf (satq_I64 _)).mono ?_; rintro e w1 ⟨rfl, rfl⟩) | (at_builtin; refine push_int _ rfl _ _ rfl w.heap.size _ _ rfl (hown.alloc _) ⟨wr.heap.size, 0, none⟩ 1 x rfl (by simp) hlen2 (by have := hbel.size; simp; omega) ?_; intro v2 w2 ho2 hb2))
                go_roundw
                case rel => exact ⟨k + 1, by omega, by go_num, by rw [HP.out, HX.out, HPQ.out.1 hyx]; exact ho2, (hbel.alloc hbel.size _).trans hb2⟩
                case measure => simp [intOf]; omega
              · go_wp2_with (first | (go_at_call 76; refine (sat_Floor _ _ _ (satq_I64 _) (by unfold I64; omega)).mono ?_; rintro e w1 ⟨rfl, rfl⟩) | (go_at_call 56; refine (sat_Mul _ _ _ (by first | assumption | (unfold I64; omega)) (by unfold I64; omega)).mono ?_; rintro e w1 ⟨rfl, rfl⟩) | (go_at_call 47; refine (sat_Add _ _ _ hf (satq_I64 _)).mono ?_; rintro e w1 ⟨rfl, rfl⟩) | (at_builtin; refine push_int _ rfl _ _ rfl w.heap.size _ _ rfl (hown.alloc _) ⟨wr.heap.size, 0, none⟩ 1 x rfl (by simp) hlen2 (by have := hbel.size; simp; omega) ?_; intro v2 w2 ho2 hb2))
                go_roundw
                case rel => exact ⟨k + 1, by omega, by go_num, by rw [HP.out, HX.out, HPQ.out.2 hyx]; exact hown, hbel⟩
                case measure => simp [intOf]; omega
        · obtain ⟨x, hx⟩ : ∃ x, x = satq f := ⟨_, rfl⟩
          have HX := Lib.hid (show itemq f t N k = x by rw [hx]; unfold itemq stepq; rw [if_neg (by omega), if_neg (by omega)]; simp [show satq 0 = 0 from rfl])
          have hx2 : satq f = x := hx.symm
          have h00 : satq 0 = 0 := rfl
          have d1 : ((k : Int) == (N : Int) - 1) = true := by simp; omega
          clear hx
          obtain ⟨A, len, cap, rfl, hll, hsl⟩ := own_shape hown
          rcases len with _ | m
          · have hnil : l = [] := List.eq_nil_of_length_eq_zero hll
            subst hnil
            have HPx := Lib.hid (show pushqL [] x = [x] from rfl)
            clear hsl hll
            go_wp2_with (first | (go_at_call 76; refine (sat_Floor _ _ _ (satq_I64 _) (by unfold I64; omega)).mono ?_; rintro e w1 ⟨rfl, rfl⟩) | (go_at_call 56; refine (sat_Mul _ _ _ (by first | assumption | (unfold I64; omega)) (by unfold I64; omega)).mono ?_; rintro e w1 ⟨rfl, rfl⟩) | (go_at_call 47; refine (sat_Add _ _ _ hf (by unfold I64; omega)).mono ?_; rintro e w1 ⟨rfl, rfl⟩) | (at_builtin; refine push_int _ rfl _ _ rfl w.heap.size _ _ rfl (hown.alloc _) ⟨wr.heap.size, 0, none⟩ 1 x rfl (by simp) hlen2 (by have := hbel.size; simp; omega) ?_; intro v2 w2 ho2 hb2))
            go_roundw
            case rel => exact ⟨k + 1, by omega, by go_num, by rw [HP.out, HX.out, HPx.out]; exact ho2, (hbel.alloc hbel.size _).trans hb2⟩
            case measure => simp [intOf]; omega
          · exfalso; omega
      · have hkn : k = N := by omega
        subst hkn
        go_wp2
        go_ret
        exact ⟨_, rfl, by rw [HQ.out]; exact hown, hbel⟩
end Go.Proofs.YtjodpffdlggjgaaGreat
/- The numbers from one to another one: the reference's Ladder. -/
namespace Go.Proofs.YtjodpffdlggjgaaGreat
open Go.RowKit
set_option linter.unusedSimpArgs false
set_option linter.unusedVariables false
set_option maxHeartbeats 2000000

end Go.Proofs.YtjodpffdlggjgaaGreat
/- The law TuneWith: the walk, out of the contracts. -/
namespace Go.Proofs.YtjodpffdlggjgaaGreat
open Go.RowKit
set_option linter.unusedSimpArgs false
set_option linter.unusedVariables false
set_option maxHeartbeats 2000000

def usualT : Pol := ⟨1, 10, 100, 100, 5, 3⟩
theorem usual45 (w : World) : Calls Tryz.prog 51 #[] w fun e w' => e = .returned (.agg #[.int .i64 1, .int .i64 10, .int .i64 100, .int .i64 100, .int .i64 5, .int .i64 3]) ∧ Below w.heap.size w w' := by
  go_enter Tryz.func51, Tryz.ntmps51
  go_wp2
  go_returns
  exact ⟨rfl, by go_grown⟩
theorem ex_ladder (w : World) : Calls Tryz.prog 50 #[.int .i64 0, .int .i64 10, .int .i64 3] w fun e w' => ∃ v, e = .returned v ∧ OwnI w' w.heap.size v [0, 5, 10] ∧ Below w.heap.size w w' :=
  (tune_Ladder 0 10 3 w (by unfold I64; omega) (by unfold I64; omega) (by unfold I64; omega)).mono fun _ _ h => by
    rw [show ladderq 0 10 3 = [0, 5, 10] by decide +kernel] at h; exact h
theorem ex_with (w : World) : Calls Tryz.prog 26 #[.agg #[.int .i64 1, .int .i64 10, .int .i64 100, .int .i64 100, .int .i64 5, .int .i64 3], .int .i64 6, .int .i64 0] w fun e w' => e = .returned (.agg #[.int .i64 1, .int .i64 10, .int .i64 100, .int .i64 100, .int .i64 5, .int .i64 0]) ∧ Below w.heap.size w w' :=
  tune_With usualT 6 0 w
theorem ints_keep {α : Type} {w w' : World} {size : Nat} {cells : α → List Value} {A : Option Addr} {len cap : Nat} {l : List α} (h : SliceIs w size cells A len cap l) (hb : Below w.heap.size w w') : SliceIs w' size cells A len cap l := by
  refine ⟨h.1, h.2.1, h.2.2.1, h.2.2.2.1, fun a ha => ?_⟩
  obtain ⟨h1, h2⟩ := h.2.2.2.2 a ha
  refine ⟨fun i x hi j v hj => ?_, fun hl => ⟨Nat.lt_of_lt_of_le (h2 hl).1 hb.size, (h2 hl).2⟩⟩
  have hlt : a.block < w.heap.size := by
    refine (h2 ?_).1
    have := (List.getElem?_eq_some_iff.1 hi).1
    rw [← h.1]; omega
  have hbl : (a.add (i * size + j)).block = a.block := by unfold Addr.add; split <;> rfl
  have := h1 i x hi j v hj
  exact (World.cell?_of_block (w := w) (hb.block _ (by rw [hbl]; exact hlt))).trans this
theorem ints_lit3 (w : World) (a b c : Int) (t : TypeId) : IntsAre (w.alloc (.cells #[.int .i64 a, .int .i64 b, .int .i64 c] t)) (some ⟨w.heap.size, 0, none⟩) 3 3 [a, b, c] := by
  refine ⟨rfl, Nat.le_refl _, by decide, (fun h => by cases h), fun ad had => ?_⟩
  cases had
  refine ⟨fun i x hi j v hj => ?_, fun _ => ⟨by simp, rfl⟩⟩
  have hc := (Blk.new w t #[.int .i64 a, .int .i64 b, .int .i64 c]).cell
  match j, hj with
  | 0, hj =>
    simp at hj; subst hj
    rw [show (⟨w.heap.size, 0, none⟩ : Addr).add (i * 1 + 0) = ⟨w.heap.size, i, none⟩ by simp [Addr.add]; omega, hc i]
    match i, hi with
    | 0, hi => simp at hi; subst hi; rfl
    | 1, hi => simp at hi; subst hi; rfl
    | 2, hi => simp at hi; subst hi; rfl
  | j + 1, hj => simp at hj
set_option maxRecDepth 100000 in
theorem awake45 (w : World) : Calls Tryz.prog 20 #[] w fun e w' => e = .returned (.bool true) ∧ Below w.heap.size w w' := by
  have hfd : ∀ w : World, (Instr.field 23 (.agg #[.int .i64 1, .int .i64 10, .int .i64 100, .int .i64 100, .int .i64 5, .int .i64 0]) 5).run Tryz.prog w = .ok (.int .i64 0) w := fun _ => by kernel_rfl
  go_enter Tryz.func20, Tryz.ntmps20
  go_wp2_with fail
  refine (ex_ladder _).mono ?_
  rintro e v1 ⟨v, rfl, ho, hb1⟩
  obtain ⟨A, len, cap, rfl, hll, hsl⟩ := own_shape ho
  go_wp2_with fail
  have hsl2 := ints_keep hsl ((Below.refl v1.heap.size v1).alloc (Nat.le_refl _) (.cells #[.int .i64 0, .int .i64 5, .int .i64 10] 2))
  refine (ref_Same _ _ _ _ _ _ _ _ _ hsl2 (ints_lit3 v1 0 5 10 2)).mono ?_
  rintro e v2 ⟨he, hb2⟩
  rw [show (([0, 5, 10] : List Int) == [0, 5, 10]) = true by decide] at he
  subst he
  go_wp2_with fail
  refine (usual45 _).mono ?_
  rintro e v3 ⟨rfl, hb3⟩
  go_wp2_with fail
  refine (ex_with _).mono ?_
  rintro e v4 ⟨rfl, hb4⟩
  go_wp2
  go_ret
  refine ⟨rfl, ?_⟩
  have s1 := hb1.size; have s2 := hb2.size; have s3 := hb3.size; have s4 := hb4.size
  simp only [World.size_alloc] at s2
  have g2 := (hb1.alloc s1 (.cells #[.int .i64 0, .int .i64 5, .int .i64 10] 2)).trans (hb2.mono (by simp; omega))
  exact (g2.trans (hb3.mono (by omega))).trans (hb4.mono (by omega))
end Go.Proofs.YtjodpffdlggjgaaGreat
/- Chapter 45's law: TuneCheapest. -/
namespace Go.Proofs.YtjodpffdlggjgaaGreat
open Go.RowKit
set_option linter.unusedSimpArgs false
set_option linter.unusedVariables false
set_option maxHeartbeats 8000000
set_option maxRecDepth 100000
theorem cheap_yes {p : Pol} {sm rm : Int} {l : List Smp} {most n k : Int} {b : Bool} (h : CheapIs p sm rm l most n b) (h1 : p.min ≤ k) (h2 : 1 ≤ k) (h3 : k ≤ most) (h4 : noc p sm rm l k) (h5 : okc p sm rm l k) : b = true ∧ n = k := by
  rcases h with ⟨hb, n1, n2, n3, n4, n5⟩ | ⟨hb, n1, n2⟩
  · refine ⟨hb, ?_⟩
    rcases Int.lt_trichotomy n k with hlt | heq | hgt
    · exact absurd n4 (h4 n n1 n2 hlt)
    · exact heq
    · exact absurd h5 (n5 k h1 h2 hgt)
  · exact absurd h5 (n2 k h1 h2 (by omega))
theorem cheap_none {p : Pol} {sm rm : Int} {l : List Smp} {most n k : Int} {b : Bool} (h : CheapIs p sm rm l most n b) (h3 : most < k) (h4 : noc p sm rm l k) : b = false ∧ n = 0 := by
  rcases h with ⟨hb, n1, n2, n3, n4, n5⟩ | ⟨hb, n1, n2⟩
  · exact absurd n4 (h4 n n1 n2 (by omega))
  · exact ⟨hb, n1⟩
theorem walk_TuneCheapest (a0 a1 a2 a3 a4 a5 : Int) (a6 : Int) (A : Option Addr) (len cap : Nat) (l : List Smp) (a7 a8 : Int) (w : World) (h0 : I64 a0) (h1 : I64 a1) (h2 : I64 a2) (h3 : I64 a3) (h4 : I64 a4) (h5 : I64 a5) (h6 : I64 a6) (hs : SmpsAre w A len cap l) (hg : ∀ x ∈ l, x.good) (h7 : I64 a7) (h8 : I64 a8) :
    Calls Tryz.prog 5 #[.agg #[.int .i64 a0, .int .i64 a1, .int .i64 a2, .int .i64 a3, .int .i64 a4, .int .i64 a5], .int .i64 a6, .slice A len cap, .int .i64 a7, .int .i64 a8] w fun e w' => e = .returned (.bool true) ∧ Below w.heap.size w w' := by
  obtain ⟨p, rfl, rfl, rfl, rfl, rfl, rfl⟩ : ∃ p : Pol, a0 = p.min ∧ a1 = p.max ∧ a2 = p.target ∧ a3 = p.tol ∧ a4 = p.window ∧ a5 = p.hold := ⟨⟨a0, a1, a2, a3, a4, a5⟩, rfl, rfl, rfl, rfl, rfl, rfl⟩
  have HP := Lib.hid (show p.fit from ⟨h0, h1, h2, h3, h4, h5⟩)
  have HS := Lib.hid hs
  have HG := Lib.hid hg
  have hle : len ≤ cap := hs.2.1
  have hm : cap ≤ 9223372036854775807 := by have := hs.2.2.1; unfold maxLen at this; omega
  have D0 := Lib.hid (PI.start w p)
  clear hs hg h1 h2 h3 h4 h5 h7 h8
  obtain ⟨most, rfl⟩ : ∃ most : Int, most = a6 := ⟨_, rfl⟩
  by_cases hc1 : 12 < most ∧ most ≤ 1000
  · have d1 : decide (12 < most) = true := by simp; omega
    have d2 : decide (most ≤ 1000) = true := by simp; omega
    clear hc1
    go_enter Tryz.func5, Tryz.ntmps5
    go_wp2_with (go_at_call 20; refine (awake45 _).mono ?_; rintro e v1 ⟨rfl, hb1⟩; have D1 := Lib.hid (D0.out.call hb1); clear hb1)
    go_ret
    exact ⟨rfl, D1.out.2⟩
  have hd : (decide (12 < most) = false) ∨ (decide (12 < most) = true ∧ decide (most ≤ 1000) = false) := by
    simp only [decide_eq_true_eq, decide_eq_false_iff_not]; omega
  by_cases hl : 10 < len
  · have d0 : decide ((10 : Int) < (len : Int)) = true := by simp; omega
    clear hc1
    rcases hd with d1 | ⟨d1, d2⟩
    all_goals
      go_enter Tryz.func5, Tryz.ntmps5
      go_wp2_with (go_at_call 20; refine (awake45 _).mono ?_; rintro e v1 ⟨rfl, hb1⟩; have D1 := Lib.hid (D0.out.call hb1); clear hb1)
      go_ret
      exact ⟨rfl, D1.out.2⟩
  have d0 : decide ((10 : Int) < (len : Int)) = false := by simp; omega
  have HR := Lib.hid (fun W => ref_Right p W)
  by_cases hbad : ¬ p.okP ∨ most < 1 ∨ 1000 < most
  · have HCh := Lib.hid (fun W => tune_Cheapest_no p most A len cap a7 a8 W hbad)
    unfold CheapNo at HCh
    have hd2 : (polOk p = false) ∨ (polOk p = true ∧ decide (most < 1) = true) ∨ (polOk p = true ∧ decide (most < 1) = false ∧ decide (1000 < most) = true) := by
      simp only [decide_eq_true_eq, decide_eq_false_iff_not]
      by_cases hk : p.okP
      · have := polOk_true hk
        rcases hbad with h | h
        · exact absurd hk h
        · rw [this]; simp; omega
      · exact .inl (polOk_false hk)
    clear hbad hc1
    rcases hd2 with e1 | ⟨e1, e2⟩ | ⟨e1, e2, e3⟩
    all_goals
      rw [e1] at HR
      clear e1
      rcases hd with d1 | ⟨d1, d2⟩
      all_goals
        first
          | (exfalso; simp only [decide_eq_true_eq, decide_eq_false_iff_not] at *; omega)
          | (go_enter Tryz.func5, Tryz.ntmps5
             go_wp2_with (first
               | (go_at_call 20; refine (awake45 _).mono ?_; rintro e v1 ⟨rfl, hb1⟩; have D1 := Lib.hid (D0.out.call hb1); clear hb1)
               | (refine Blk.load rfl 23 (.tmp 5) rfl _ _ _ _ rfl D2.out.1 Tryz.underlying23 rfl (by kernel_rfl) ?_)
               | (refine Blk.load rfl 23 (.tmp 5) rfl _ _ _ _ rfl D1.out.1 Tryz.underlying23 rfl (by kernel_rfl) ?_)
               | (go_at_call 21; refine (HCh.out _).mono ?_; rintro e v2 ⟨rfl, hb2⟩; have D2 := Lib.hid (D1.out.call hb2); clear hb2)
               | (go_at_call 9; refine (HR.out _).mono ?_; rintro e v3 ⟨rfl, hb3⟩; have D3 := Lib.hid (D2.out.call hb3); clear hb3))
             go_ret
             exact ⟨rfl, D3.out.2⟩)
  · have hk : p.okP := Classical.byContradiction fun h => hbad (.inl h)
    have hm1 : 1 ≤ most := by omega
    have hm2 : most ≤ 12 := by omega
    have hmin : 0 ≤ p.min := hk.1
    have HCh := Lib.hid (fun W hW => tune_Cheapest_ok p most A len cap l a7 a8 W HP.out hk hm1 (by omega) hW HG.out (by omega))
    unfold CheapPost at HCh
    rw [polOk_true hk] at HR
    have d1 : decide (12 < most) = false := by simp; omega
    have e2 : decide (most < 1) = false := by simp; omega
    have e3 : decide (1000 < most) = false := by simp; omega
    clear hbad hc1 hd hk
    go_enter Tryz.func5, Tryz.ntmps5
    focus (go_upto_region 8 with (first
      | (go_at_call 20; refine (awake45 _).mono ?_; rintro e v1 ⟨rfl, hb1⟩; have D1 := Lib.hid (D0.out.call hb1); clear hb1)
      | (refine Blk.load rfl 23 (.tmp 5) rfl _ _ _ _ rfl D2.out.1 Tryz.underlying23 rfl (by kernel_rfl) ?_)
      | (refine Blk.load rfl 23 (.tmp 5) rfl _ _ _ _ rfl D1.out.1 Tryz.underlying23 rfl (by kernel_rfl) ?_)
      | (go_at_call 21; refine (HCh.out _ (slice_keep HS.out D1.out.2)).mono ?_; rintro e v2 ⟨n, b, rfl, hci, hb2⟩; have D2 := Lib.hid (D1.out.call hb2); have HCI := Lib.hid hci; clear hb2 hci)
      | (go_at_call 9; refine (HR.out _).mono ?_; rintro e v3 ⟨rfl, hb3⟩; have D3 := Lib.hid (D2.out.call hb3); clear hb3)))
    have c0 := D3.out.1.cellv (i := 0) (v := .int .i64 p.min) rfl
    obtain ⟨M, hM, hM1, hM2, hM3⟩ : ∃ M : Int, M = max p.min 1 ∧ p.min ≤ M ∧ 1 ≤ M ∧ (M = p.min ∨ M = 1) := ⟨_, rfl, by omega, by omega, by omega⟩
    by_cases hx : p.min ≤ 1
    all_goals
      go_wp2
      all_goals (first | (exfalso; omega) | skip)
      clear c0
      go_loopw [13] (fun i wr => ∃ k : Int, p.min ≤ k ∧ 1 ≤ k ∧ k ≤ 9223372036854775807 ∧ i = .int .i64 k ∧ noc p a7 a8 l k ∧ PI w wr p) (fun i _ => (most + 1 - intOf i).toNat)
      case atStart => exact ⟨_, by omega, by omega, by unfold I64 at h0; omega, rfl, fun j h3 h4 h5 => by omega, D3.out⟩
      case round =>
        obtain ⟨k, hk1, hk2, hk3, rfl, hno, hpi⟩ := hrel
        have HNo := Lib.hid hno
        have HPI := Lib.hid hpi
        clear hno hpi
        by_cases hlt : k ≤ most
        · have HW := Lib.hid (fun W => ref_With p 2 k W)
          have HRn := Lib.hid (fun W hW => ref45_Run (withq p 2 k) A len cap l a7 a8 W (fit_max HP.out (by unfold I64; omega)) hW HG.out (by omega))
          unfold RunAny at HRn
          have HY := Lib.hid (fun (h : rune (withq p 2 k) a7 a8 = 0 ∧ (judq (withq p 2 k) (outq (withq p 2 k) a7 a8 l)).short = 0) => cheap_yes HCI.out hk1 hk2 hlt HNo.out (show okc p a7 a8 l k from h))
          have HN := Lib.hid (fun (h : ¬ (rune (withq p 2 k) a7 a8 = 0 ∧ (judq (withq p 2 k) (outq (withq p 2 k) a7 a8 l)).short = 0)) => noc_next HNo.out h)
          generalize withq p 2 k = q at *
          generalize judq q (outq q a7 a8 l) = J at *
          generalize outq q a7 a8 l = OUT at *
          generalize rune q a7 a8 = E at *
          by_cases hE : E = 0
          · subst hE
            by_cases hS : J.short = 0
            · obtain ⟨rfl, rfl⟩ := HY.out ⟨rfl, hS⟩
              have e1 : (J.short == 0) = true := by simpa using hS
              clear hS HY HN
              go_wp2_with (first
                | (refine Blk.load rfl 23 (.tmp 5) rfl _ _ _ _ rfl HPI.out.1 Tryz.underlying23 rfl (by kernel_rfl) ?_)
                | (go_at_call 23; refine (HW.out _).mono ?_; rintro e v5 ⟨rfl, hb5⟩; have P2 := Lib.hid (HPI.out.call hb5); clear hb5)
                | (go_at_call 22; refine (HRn.out _ (slice_keep HS.out P2.out.2)).mono ?_; rintro e v6 ⟨A6, n6, c6, rfl, hs6, hb6⟩; have q6 := (Blk.new v6 34 (J.row (.slice A6 n6 c6))).cellv (i := 6) (v := .int .i64 J.short) rfl; have P3 := Lib.hid (P2.out.call hb6); clear hb6 hs6))
              go_ret
              exact ⟨rfl, (P3.out.alloc _).2⟩
            · have HN2 := Lib.hid (HN.out (fun h => hS h.2))
              have e1 : (J.short == 0) = false := by simpa using hS
              clear hS HY HN
              go_wp2_with (first
                | (refine Blk.load rfl 23 (.tmp 5) rfl _ _ _ _ rfl HPI.out.1 Tryz.underlying23 rfl (by kernel_rfl) ?_)
                | (go_at_call 23; refine (HW.out _).mono ?_; rintro e v5 ⟨rfl, hb5⟩; have P2 := Lib.hid (HPI.out.call hb5); clear hb5)
                | (go_at_call 22; refine (HRn.out _ (slice_keep HS.out P2.out.2)).mono ?_; rintro e v6 ⟨A6, n6, c6, rfl, hs6, hb6⟩; have q6 := (Blk.new v6 34 (J.row (.slice A6 n6 c6))).cellv (i := 6) (v := .int .i64 J.short) rfl; have P3 := Lib.hid (P2.out.call hb6); clear hb6 hs6))
              go_roundw
              case rel => exact ⟨k + 1, by omega, by omega, by omega, rfl, HN2.out, P3.out.alloc _⟩
              case measure => simp [intOf]; omega
          · have HN2 := Lib.hid (HN.out (fun h => hE h.1))
            have e1 : (E == 0) = false := by simpa using hE
            clear hE HY HN
            go_wp2_with (first
              | (refine Blk.load rfl 23 (.tmp 5) rfl _ _ _ _ rfl HPI.out.1 Tryz.underlying23 rfl (by kernel_rfl) ?_)
              | (go_at_call 23; refine (HW.out _).mono ?_; rintro e v5 ⟨rfl, hb5⟩; have P2 := Lib.hid (HPI.out.call hb5); clear hb5)
              | (go_at_call 22; refine (HRn.out _ (slice_keep HS.out P2.out.2)).mono ?_; rintro e v6 ⟨A6, n6, c6, rfl, hs6, hb6⟩; have P3 := Lib.hid (P2.out.call hb6); clear hb6 hs6))
            go_roundw
            case rel => exact ⟨k + 1, by omega, by omega, by omega, rfl, HN2.out, P3.out.alloc _⟩
            case measure => simp [intOf]; omega
        · obtain ⟨rfl, rfl⟩ := cheap_none HCI.out (by omega) HNo.out
          go_wp2
          go_ret
          exact ⟨rfl, HPI.out.2⟩
end Go.Proofs.YtjodpffdlggjgaaGreat
