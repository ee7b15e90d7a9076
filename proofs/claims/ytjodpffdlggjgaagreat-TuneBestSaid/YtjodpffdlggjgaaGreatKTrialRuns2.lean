/- Several texts in one. -/
import Derived.Test.YtjodpffdlggjgaaGreatKTuneCheapest4
import Derived.Test.YtjodpffdlggjgaaGreatKTrialRuns1
import Derived.Test.YtjodpffdlggjgaaGreatKTuneCheapest1
/- trial.Run: the walk. (fast region) -/
namespace Go.Proofs.YtjodpffdlggjgaaGreat
open Go.RowKit
set_option linter.unusedSimpArgs false
set_option linter.unusedVariables false
set_option maxHeartbeats 8000000
set_option maxRecDepth 100000
abbrev z7 : Array Value := #[.slice none 0 0, .int .i64 0, .int .i64 0, .int .i64 0, .int .i64 0, .int .i64 0, .int .i64 0]
/-- A Result's row. -/
abbrev judR (p : Pol) (l : List Adv) (v : Value) : Array Value := #[v, .int .i64 (chq (replAt l) l.length : Nat), .int .i64 ((turnq (replAt l) l.length).1 : Nat), .int .i64 (j4 p.target l l.length).least, .int .i64 (j4 p.target l l.length).most, .int .i64 (j4 p.target l l.length).spare, .int .i64 (j4 p.target l l.length).short]
def RI2 (w wr : World) (p : Pol) : Prop := Blk wr w.heap.size 23 p.row ∧ Blk wr (w.heap.size + 1) 28 z7 ∧ Below w.heap.size w wr
theorem RI2.start (w : World) (p : Pol) : RI2 w ((w.alloc (.cells p.row 23)).alloc (.cells z7 28)) p :=
  ⟨(Blk.new w _ _).alloc _, Blk.new2 w _ _ _, by go_grown⟩
theorem RI2.call {w wr w' : World} {p : Pol} (h : RI2 w wr p) (hb : Below wr.heap.size wr w') : RI2 w w' p := ⟨h.1.call hb, h.2.1.call hb, h.2.2.trans (hb.mono h.2.2.size)⟩
def RunNo (w : World) (n : Int) (e : Ending) (w' : World) : Prop := e = .returned (.tuple #[.agg z7, .int .i64 n]) ∧ Below w.heap.size w w'
theorem trial_Run_pol (p : Pol) (A : Option Addr) (len cap : Nat) (sm rm : Int) (w : World) (hk : ¬ p.okP) :
    Calls Tryz.prog 8 #[(.agg #[.int .i64 p.min, .int .i64 p.max, .int .i64 p.target, .int .i64 p.tol, .int .i64 p.window, .int .i64 p.hold]), .slice A len cap, .int .i64 sm, .int .i64 rm] w (RunNo w 7) := by
  have D0 := Lib.hid (RI2.start w p)
  have HC := Lib.hid (fun W => policy_Check p W)
  rw [show polErr p = 7 from if_neg hk] at HC
  clear hk
  go_enter Tryz.func8, Tryz.ntmps8
  go_wp2_with (first
    | (go_at_call 29; refine (HC.out _).mono ?_; rintro e v1 ⟨rfl, hb1⟩; have D1 := Lib.hid (D0.out.call hb1); clear hb1)
    | (refine wpList_store_row rfl 28 (.tmp 8) (.tmp 15) rfl (w.heap.size + 1) _ _ _ rfl rfl D1.out.2.1 (by rfl) (by kernel_rfl) (by simp [Value.oneCell']) ?_; intro w9 hb9 hg9))
  refine bodyPost_ret (results_row_tmp rfl _ _ (w.heap.size + 1) _ _ _ rfl hb9 Tryz.underlying28 rfl (by kernel_rfl)) rfl ⟨rfl, D1.out.2.2.trans (Only.below hg9 (by omega) D1.out.2.2.size)⟩
theorem trial_Run_arg (p : Pol) (A : Option Addr) (len cap : Nat) (sm rm : Int) (w : World) (hk : p.okP) (hb : ¬ goodS sm ∨ ¬ (1 ≤ rm ∧ rm ≤ 64)) :
    Calls Tryz.prog 8 #[(.agg #[.int .i64 p.min, .int .i64 p.max, .int .i64 p.target, .int .i64 p.tol, .int .i64 p.window, .int .i64 p.hold]), .slice A len cap, .int .i64 sm, .int .i64 rm] w (RunNo w 1) := by
  have D0 := Lib.hid (RI2.start w p)
  have HC := Lib.hid (fun W => policy_Check p W)
  rw [polErr_ok hk] at HC
  have hd : (decide (sm < 1) = true) ∨ (decide (sm < 1) = false ∧ decide (256 < sm) = true) ∨ (decide (sm < 1) = false ∧ decide (256 < sm) = false ∧ decide (rm < 1) = true) ∨ (decide (sm < 1) = false ∧ decide (256 < sm) = false ∧ decide (rm < 1) = false ∧ decide (64 < rm) = true) := by
    unfold goodS at hb
    simp only [decide_eq_true_eq, decide_eq_false_iff_not]
    omega
  clear hb hk
  rcases hd with d1 | ⟨d1, d2⟩ | ⟨d1, d2, d3⟩ | ⟨d1, d2, d3, d4⟩
  all_goals
    go_enter Tryz.func8, Tryz.ntmps8
    go_wp2_with (first
      | (go_at_call 29; refine (HC.out _).mono ?_; rintro e v1 ⟨rfl, hb1⟩; have D1 := Lib.hid (D0.out.call hb1); clear hb1)
      | (refine wpList_store_row rfl 28 (.tmp 8) (.tmp 31) rfl (w.heap.size + 1) _ _ _ rfl rfl D1.out.2.1 (by rfl) (by kernel_rfl) (by simp [Value.oneCell']) ?_; intro w9 hb9 hg9))
    refine bodyPost_ret (results_row_tmp rfl _ _ (w.heap.size + 1) _ _ _ rfl hb9 Tryz.underlying28 rfl (by kernel_rfl)) rfl ⟨rfl, D1.out.2.2.trans (Only.below hg9 (by omega) D1.out.2.2.size)⟩
def RunYes (p : Pol) (l : List Adv) (w : World) (e : Ending) (w' : World) : Prop := ∃ A n c, e = .returned (.tuple #[.agg (judR p l (.slice A n c)), .int .i64 0]) ∧ AdvsAre w' A n c l ∧ Below w.heap.size w w'
def RunYesF (p : Pol) (l : List Adv) (w : World) (e : Ending) (w' : World) : Prop := ∃ A n c, e = .returned (.tuple #[.agg (judR p l (.slice A n c)), .int .i64 0]) ∧ AdvsAre w' A n c l ∧ Below w.heap.size w w' ∧ ∀ a, A = some a → w.heap.size ≤ a.block ∧ a.block < w'.heap.size
theorem trial_Run_okF (p : Pol) (A : Option Addr) (len cap : Nat) (l : List Smp) (S R : Nat) (w : World) (hp : p.fit) (hk : p.okP) (hs : SmpsAre w A len cap l) (hg : ∀ x ∈ l, x.good) (hn : len ≤ 200) (s1 : 1 ≤ S) (s2 : S ≤ 256) (r1 : 1 ≤ R) (r2 : R ≤ 64) :
    Calls Tryz.prog 8 #[(.agg #[.int .i64 p.min, .int .i64 p.max, .int .i64 p.target, .int .i64 p.tol, .int .i64 p.window, .int .i64 p.hold]), .slice A len cap, .int .i64 S, .int .i64 R] w (RunYesF p (folq p S R l).out w) := by
  have HS := Lib.hid hs
  have HP := Lib.hid hp
  have HG := Lib.hid hg
  have D0 := Lib.hid (RI2.start w p)
  have HC := Lib.hid (fun W => policy_Check p W)
  rw [polErr_ok hk] at HC
  have d1 : decide ((S : Int) < 1) = false := by simp; omega
  have d2 : decide ((256 : Int) < (S : Int)) = false := by simp; omega
  have d3 : decide ((R : Int) < 1) = false := by simp; omega
  have d4 : decide ((64 : Int) < (R : Int)) = false := by simp; omega
  have d1' : ¬ S < 1 := by omega
  have d2' : ¬ 256 < S := by omega
  have d3' : ¬ R < 1 := by omega
  have d4' : ¬ 64 < R := by omega
  have HF := Lib.hid (fun W hW => decide_Follow p A len cap l S R W hp hW hg hn (by unfold I64; omega))
  have HFi := Lib.hid (fol_fine p S R l hg)
  have HLo := Lib.hid (show (folq p S R l).out.length ≤ 200 by
    have h := (folq_len p S R l l.length (Nat.le_refl _)).2
    rw [List.take_length] at h
    have := hs.1
    omega)
  clear hs hp hg s1 s2 r1 r2 hk
  unfold FolPost at HF
  generalize (folq p S R l).out = OUT at *
  go_enter Tryz.func8, Tryz.ntmps8
  focus (go_upto_region 6 with (go_at_call 29; refine (HC.out _).mono ?_; rintro e v1 ⟨rfl, hb1⟩; have D1 := Lib.hid (D0.out.call hb1); clear hb1))
  have HJ := Lib.hid (fun W A2 c2 hW => trial_Judge p A2 OUT.length c2 OUT W HP.out hW HFi.out.2 (Nat.le_trans HLo.out (by decide)))
  refine wp_region_any (by kernel_rfl) ?_; change wpAny _ _ _ _ _ _ _ (World.drew v1); refine any_of_anyG (late := fun j => [7, 8].contains j) (S := fun wS => Below v1.heap.size v1 wS) _ _ _ _ ?_
  have S0 := (Below.refl v1.heap.size v1).drew
  refine anyG_takes (is := [0, 1, 2, 3, 4]) (vs := [_, _, _, _, _]) (m := 4) (listed2 := #[true, true, true, true, true, false, false, false, false]) (a2 := ⟨#[_, _, _, _, _, _, _, _, _, _, _, _, _, _, _, _, _, _, _, _, _, _, _, _, _, _, _, _, _, _, _, _, _, _, _, _, _, _, _], _⟩) (by kernel_rfl) (fun j hj => by first | (simp at hj; done) | (simp at hj; simp; omega)) (by kernel_rfl) (fun _ _ _ _ _ h => h) (Ys.cons rfl (Or.inl ⟨by rfl, fun W1 hW1 => exec_load (ty := 23) (x := .tmp 4) rfl rfl (run_loadAt_blk _ _ _ _ _ _ (D1.out.1.call hW1) Tryz.underlying23 rfl (by first | kernel_rfl | exact info_num _))⟩) (Ys.cons rfl (Or.inl ⟨by rfl, fun W1 hW1 => exec_load (ty := 23) (x := .tmp 4) rfl rfl (run_loadAt_blk _ _ _ _ _ _ (D1.out.1.call hW1) Tryz.underlying23 rfl (by first | kernel_rfl | exact info_num _))⟩) (Ys.cons rfl (Or.inl ⟨by rfl, fun W1 hW1 => by first | rfl | (go_simp; done) | (go_simp; with_reducible rfl)⟩) (Ys.cons rfl (Or.inl ⟨by rfl, fun W1 hW1 => by first | rfl | (go_simp; done) | (go_simp; with_reducible rfl)⟩) (Ys.cons rfl (Or.inl ⟨by rfl, fun W1 hW1 => by first | rfl | (go_simp; done) | (go_simp; with_reducible rfl)⟩) (Ys.nil)))))) (S0) (by rfl) (by rfl) ?_
  refine anyG_one (k := 5) (by kernel_rfl) rfl (by rfl) (fun Q2 hQ2 => ?_); go_wp2_with (go_at_call 30; refine (HF.out _ (slice_keep HS.out (D1.out.2.2.trans (S0.mono D1.out.2.2.size)))).mono ?_; rintro e v2 ⟨A2, n2, c2, rfl, ho2, hb2⟩; obtain rfl := (ownA_is ho2).1; have O2 := Lib.hid (ownA_is ho2); clear ho2); refine hQ2 _ _ (fun _ => S0.trans (hb2.mono S0.size)) ?_; clear hQ2 Q2
  have S2 := S0.trans (hb2.mono S0.size)
  refine anyG_one (k := 6) (by kernel_rfl) rfl (by rfl) (fun Q2 hQ2 => ?_); go_wp2_with (go_at_call 28; refine (HJ.out _ A2 c2 O2.out).mono ?_; rintro e v3 ⟨vj, rfl, ho3, hb3⟩; obtain ⟨A3, n3, c3, rfl, -, -⟩ := ho3.shape (fun _ => rfl); have O3 := Lib.hid ho3; clear ho3; have D3 := Lib.hid (D1.out.call (S2.trans (hb3.mono S2.size)))); refine hQ2 _ _ (fun _ => S2.trans (hb3.mono S2.size)) ?_; clear hQ2 Q2
  have S3 := S2.trans (hb3.mono S2.size)
  refine anyG_of_any _ _ _ _ (by kernel_rfl) ?_
  refine any_one (k := 7) (by kernel_rfl) rfl (by rfl) (fun Q2 hQ2 => ?_); go_wp2_with (refine wpList_store_row rfl 28 (.tmp 8) (.tmp 38) rfl (w.heap.size + 1) _ _ _ rfl rfl D3.out.2.1 (by rfl) (by kernel_rfl) (by simp [Value.oneCell']) ?_; intro w9 hb9 hg9); (try refine hQ2 _ _ ?_); (try clear hQ2 Q2)
  refine wpAny_take (i := 8) (v := _) rfl (by kernel_rfl) (by kernel_rfl) (by kernel_rfl) (fun _ _ _ h => h) (Or.inl ⟨by rfl, fun W => by rfl⟩) ?_
  refine wpAny_done (by kernel_rfl) ?_ _
  have O9 := O3.out.grown hg9 (fun k hk => by have h1 := (World.ownsRow.lt O3.out k hk).1; have h2 := hb2.size; have h3 := D1.out.2.1.lt; simp at h2; omega)
  obtain ⟨A9, n9, c9, he9, -, hs9⟩ := O9.shape (fun _ => rfl)
  cases he9
  go_wp2
  refine bodyPost_ret (results_row_tmp rfl _ _ (w.heap.size + 1) _ _ _ rfl hb9 Tryz.underlying28 rfl (by kernel_rfl)) rfl ⟨A3, n3, c3, rfl, hs9, D3.out.2.2.trans (Only.below hg9 (by omega) D3.out.2.2.size), fun a ha => by
    subst ha
    have q0 := World.ownsRow.lt O9 a.block rfl
    have q1 := D1.out.2.2.size
    have q2 := hb2.size
    have q3 := hb3.size
    (try simp at q2); (try simp at q3); (try simp at q0)
    constructor <;> omega⟩
theorem trial_Run_ok (p : Pol) (A : Option Addr) (len cap : Nat) (l : List Smp) (S R : Nat) (w : World) (hp : p.fit) (hk : p.okP) (hs : SmpsAre w A len cap l) (hg : ∀ x ∈ l, x.good) (hn : len ≤ 200) (s1 : 1 ≤ S) (s2 : S ≤ 256) (r1 : 1 ≤ R) (r2 : R ≤ 64) :
    Calls Tryz.prog 8 #[(.agg #[.int .i64 p.min, .int .i64 p.max, .int .i64 p.target, .int .i64 p.tol, .int .i64 p.window, .int .i64 p.hold]), .slice A len cap, .int .i64 S, .int .i64 R] w (RunYes p (folq p S R l).out w) :=
  (trial_Run_okF p A len cap l S R w hp hk hs hg hn s1 s2 r1 r2).mono fun _ _ ⟨A2, n2, c2, h1, h2, h3, _⟩ => ⟨A2, n2, c2, h1, h2, h3⟩
end Go.Proofs.YtjodpffdlggjgaaGreat
/- Where the least and the most are one, nothing changes. -/
namespace Go.Proofs.YtjodpffdlggjgaaGreat
open Go.RowKit
set_option linter.unusedSimpArgs false
set_option linter.unusedVariables false
theorem chq_const {r : Nat → Int} {n : Nat} {c : Int} (h : ∀ i, i < n → r i = c) : chq r n = 0 := by
  match n with
  | 0 => rfl
  | 1 => rfl
  | k + 2 =>
    have h1 := chq_const (n := k + 1) (fun i hi => h i (by omega))
    show chq r (k + 1) + (if r (k + 1) = r k then 0 else 1) = 0
    rw [h1, if_pos (by rw [h (k + 1) (by omega), h k (by omega)])]
theorem bound_one {p : Pol} (hk : p.okP) (he : p.min = p.max) (n : Int) : boundq p n = p.min := by
  unfold boundq clampq
  rw [if_pos hk]
  split
  · rfl
  · split <;> omega
theorem ofq_repl (p : Pol) (l : List Smp) (past : List Adv) (ho : ofe p l = 0) (he : p.min = p.max) : (ofq p l past).repl = p.min := by
  have hk : p.okP := Classical.byContradiction fun hn => by rw [(ofq_no (past := past) hn).2] at ho; omega
  have hl : l.length ≠ 0 := fun hn => by rw [(ofq_nil (past := past) hk hn).2] at ho; omega
  rw [(ofq_ok (past := past) hk hl).1]
  exact bound_one hk he _
theorem fol_repl (p : Pol) (sm rm : Int) (l : List Smp) (he : p.min = p.max) : ∀ a ∈ (folq p sm rm l).out, a.repl = p.min := by
  have h := folq_all (fun n st => ∀ a ∈ st.out, a.repl = p.min) p sm rm l (fun a ha => by cases ha) (fun n st x _ h => by
    by_cases h1 : errr sm x = 0
    · by_cases h2 : ofe p (putr st.smps sm x) = 0
      · by_cases h3 : 1 ≤ rm ∧ rm ≤ 64
        · rw [fstep_ok h1 h2 h3]
          intro a ha
          rcases List.mem_append.1 ha with ha | ha
          · exact h a ha
          · rw [List.mem_singleton.1 ha]; exact ofq_repl p _ _ h2 he
        · rw [fstep_full h1 h2 h3]; exact h
      · rw [fstep_skip h1 h2]; exact h
    · rw [fstep_no h1]; exact h) l.length (Nat.le_refl _)
  rwa [List.take_length] at h
theorem fol_changes (p : Pol) (sm rm : Int) (l : List Smp) (he : p.min = p.max) : chq (replAt (folq p sm rm l).out) (folq p sm rm l).out.length = 0 :=
  chq_const (c := p.min) fun i hi => by
    have hx : (folq p sm rm l).out[i]? = some (folq p sm rm l).out[i] := List.getElem?_eq_getElem hi
    rw [replAt_eq hx]
    exact fol_repl p sm rm l he _ (List.getElem_mem hi)
end Go.Proofs.YtjodpffdlggjgaaGreat
/- flywheelref16.Of: the walk. -/
namespace Go.Proofs.YtjodpffdlggjgaaGreat
open Go.RowKit
set_option linter.unusedSimpArgs false
set_option linter.unusedVariables false
set_option maxHeartbeats 8000000
set_option maxRecDepth 100000
theorem ref16_Of (p : Pol) (A : Option Addr) (len cap : Nat) (l : List Smp) (B : Option Addr) (len2 cap2 : Nat) (past : List Adv) (w : World) (hp : p.fit) (hs : SmpsAre w A len cap l) (hg : ∀ x ∈ l, x.good) (hn : len ≤ 200) (hs2 : AdvsAre w B len2 cap2 past) (hn2 : len2 ≤ 1000) :
    Calls Tryz.prog 38 #[(.agg #[.int .i64 p.min, .int .i64 p.max, .int .i64 p.target, .int .i64 p.tol, .int .i64 p.window, .int .i64 p.hold]), .slice A len cap, .slice B len2 cap2] w fun e w' => e = .returned (.tuple #[.agg (ofq p l past).cells.toArray, .int .i64 (ofe p l)]) ∧ Below w.heap.size w w' := by
  have HS := Lib.hid hs
  have HS2 := Lib.hid hs2
  have HL := Lib.hid hs.1
  have HG := Lib.hid hg
  have HP := Lib.hid hp
  have HT := latestq_I64 hg
  have D0 := Lib.hid (DI.start w p)
  clear hs hs2 hg hp
  by_cases hk : p.okP
  · have HC := Lib.hid (fun W => ref_Right p W)
    rw [polOk_true hk] at HC
    by_cases h0 : len = 0
    · have HQ := Lib.hid (ofq_nil (past := past) hk (show l.length = 0 by rw [HL.out]; exact h0))
      have d0 : ((len : Int) == 0) = true := by simp; omega
      clear hk h0
      go_enter Tryz.func38, Tryz.ntmps38
      go_wp2_with fail
      refine (HC.out _).mono ?_
      rintro e v1 ⟨rfl, hb1⟩
      have D1 := Lib.hid (D0.out.call hb1)
      clear hb1
      go_wp2_with (refine wpList_store_row rfl 68 (.tmp 6) (.tmp 23) rfl (w.heap.size + 1) _ _ _ rfl rfl D1.out.2.1 (by rfl) (by kernel_rfl) (by simp [Value.oneCell']) ?_; intro w9 hb9 hg9)
      refine bodyPost_ret (results_row_tmp rfl _ _ (w.heap.size + 1) _ _ _ rfl hb9 Tryz.underlying68 rfl (by kernel_rfl)) rfl ⟨by rw [HQ.out.1, HQ.out.2]; rfl, D1.out.2.2.trans (Only.below hg9 (by omega) D1.out.2.2.size)⟩
    · have HQ := Lib.hid (ofq_ok (past := past) hk (show l.length ≠ 0 by rw [HL.out]; exact h0))
      have d0 : ((len : Int) == 0) = false := by simp; omega
      have h1 : 1 ≤ len := by omega
      have HDq := Lib.hid (show decq p l past = (let tick := latestq l; let load := meanq (valq (cutq l (fromq tick p.window) tick)); let now := nowq p past; let op := openq p load now; let want := boundq p op; let th := boundq p (steadyq p tick want past).1; (⟨tick, load, want, th, whyq p (steadyq p tick want past).2 op now th⟩ : Adv)) from rfl)
      have HLa := Lib.hid (fun W hW => ref16_Latest A len cap l W hW h1 (by omega))
      have hMI : I64 (meanq (valq (cutq l (fromq (latestq l) p.window) (latestq l)))) := by
        have := mean_least (l := valq (cutq l (fromq (latestq l) p.window) (latestq l))) (fun x hx => by have := valq_bd (cutq_good HG.out _ _) x hx; unfold I64; omega) (fun x hx => (valq_bd (cutq_good HG.out _ _) x hx).1) 0
        unfold I64; omega
      dsimp only at HDq
      generalize latestq l = T at *
      have HFr := Lib.hid (fun W => ref09_From T p.window W HT HP.out.2.2.2.2.1)
      have HCu := Lib.hid (fun W hW => ref09_Cut A len cap l (fromq T p.window) T W hW (by omega))
      have HMe := Lib.hid (fun W A n c hW hn => ref16_Mean A n c (cutq l (fromq T p.window) T) W hW (cutq_good HG.out _ _) hn)
      have HCl := Lib.hid (show (cutq l (fromq T p.window) T).length ≤ 200 by have := cutq_len l (fromq T p.window) T; have := HL.out; omega)
      generalize fromq T p.window = FR at *
      generalize meanq (valq (cutq l FR T)) = LD at *
      have HNo := Lib.hid (fun W hW => ref16_Now p B len2 cap2 past W hW hn2)
      generalize nowq p past = NW at *
      have HOp := Lib.hid (fun W => ref_Open p LD NW W HP.out hMI)
      generalize openq p LD NW = OP at *
      have HB1 := Lib.hid (fun W => ref_Bound p OP W)
      generalize boundq p OP = WT at *
      have HSt := Lib.hid (fun W hW => ref15_Of p T WT B len2 cap2 past W HP.out hW hn2 HT)
      generalize steadyq p T WT past = SQ at *
      obtain ⟨sn, sh⟩ := SQ
      dsimp only at HSt HDq
      have HBo := Lib.hid (fun W => ref_Bound p sn W)
      generalize boundq p sn = TH at *
      have HWh := Lib.hid (fun W => ref16_Why p sh OP NW TH W)
      generalize whyq p sh OP NW TH = WY at *
      clear h0 hk HT hMI
      go_enter Tryz.func38, Tryz.ntmps38
      go_wp2_with fail
      refine (HC.out _).mono ?_
      rintro e v1 ⟨rfl, hb1⟩
      have D1 := Lib.hid (D0.out.call hb1)
      clear hb1
      have c4 := D1.out.1.cellv (i := 4) (v := .int .i64 p.window) rfl
      go_wp2_with fail
      refine (HLa.out _ (slice_keep HS.out D1.out.2.2)).mono ?_
      rintro e v2 ⟨rfl, rfl⟩
      go_wp2_with fail
      refine (HFr.out _).mono ?_
      rintro e v2 ⟨rfl, rfl⟩
      clear c4
      go_wp2_with fail
      refine (HCu.out _ (slice_keep HS.out D1.out.2.2)).mono ?_
      rintro e v2 ⟨x2, rfl, ho, hb2⟩
      obtain ⟨A2, n2, c2, rfl, hn2', hsl2⟩ := ho.shape (fun _ => rfl)
      have hn2b : n2 ≤ 200 := by rw [hn2']; exact HCl.out
      have S2 := Lib.hid hsl2
      have D2 := Lib.hid (D1.out.call hb2)
      clear ho hsl2 hb2 hn2'
      go_wp2_with fail
      refine (HMe.out _ A2 n2 c2 S2.out hn2b).mono ?_
      rintro e v3 ⟨rfl, hb3⟩
      have D3 := Lib.hid (D2.out.call hb3)
      clear hb3
      go_wp2_with (refine Blk.load rfl 23 (.tmp 3) rfl w.heap.size _ _ _ rfl D3.out.1 Tryz.underlying23 rfl (by kernel_rfl) ?_)
      refine (HNo.out _ (slice_keep HS2.out D3.out.2.2)).mono ?_
      rintro e v4 ⟨rfl, hb4⟩
      have D4 := Lib.hid (D3.out.call hb4)
      clear hb4
      go_wp2_with (refine Blk.load rfl 23 (.tmp 3) rfl w.heap.size _ _ _ rfl D4.out.1 Tryz.underlying23 rfl (by kernel_rfl) ?_)
      refine (HOp.out _).mono ?_
      rintro e v5 ⟨rfl, hb5⟩
      have D5 := Lib.hid (D4.out.call hb5)
      clear hb5
      go_wp2_with (refine Blk.load rfl 23 (.tmp 3) rfl w.heap.size _ _ _ rfl D5.out.1 Tryz.underlying23 rfl (by kernel_rfl) ?_)
      refine (HB1.out _).mono ?_
      rintro e v6 ⟨rfl, hb6⟩
      have D6 := Lib.hid (D5.out.call hb6)
      clear hb6
      go_wp2_with (refine Blk.load rfl 23 (.tmp 3) rfl w.heap.size _ _ _ rfl D6.out.1 Tryz.underlying23 rfl (by kernel_rfl) ?_)
      refine (HSt.out _ (slice_keep HS2.out D6.out.2.2)).mono ?_
      rintro e v7 ⟨rfl, hb7⟩
      have D7 := Lib.hid (D6.out.call hb7)
      clear hb7
      go_wp2_with (refine Blk.load rfl 23 (.tmp 3) rfl w.heap.size _ _ _ rfl D7.out.1 Tryz.underlying23 rfl (by kernel_rfl) ?_)
      refine (HBo.out _).mono ?_
      rintro e v8 ⟨rfl, hb8⟩
      have D8 := Lib.hid (D7.out.call hb8)
      clear hb8
      go_wp2_with (refine Blk.load rfl 23 (.tmp 3) rfl w.heap.size _ _ _ rfl D8.out.1 Tryz.underlying23 rfl (by kernel_rfl) ?_)
      refine (HWh.out _).mono ?_
      rintro e v9 ⟨rfl, hb9⟩
      have D9 := Lib.hid (D8.out.call hb9)
      clear hb9
      go_wp2_with (refine wpList_store_row rfl 68 (.tmp 6) (.tmp 65) rfl (w.heap.size + 1) _ _ _ rfl rfl D9.out.2.1 (by rfl) (by kernel_rfl) (by simp [Value.oneCell']) ?_; intro w9 hb9 hg9)
      refine bodyPost_ret (results_row_tmp rfl _ _ (w.heap.size + 1) _ _ _ rfl hb9 Tryz.underlying68 rfl (by kernel_rfl)) rfl ⟨by rw [HQ.out.1, HQ.out.2, HDq.out]; rfl, D9.out.2.2.trans (Only.below hg9 (by omega) D9.out.2.2.size)⟩
  · have HC := Lib.hid (fun W => ref_Right p W)
    rw [polOk_false hk] at HC
    have HQ := Lib.hid (ofq_no (l := l) (past := past) hk)
    clear hk HT
    go_enter Tryz.func38, Tryz.ntmps38
    go_wp2_with fail
    refine (HC.out _).mono ?_
    rintro e v1 ⟨rfl, hb1⟩
    have D1 := Lib.hid (D0.out.call hb1)
    clear hb1
    go_wp2_with (refine wpList_store_row rfl 68 (.tmp 6) (.tmp 19) rfl (w.heap.size + 1) _ _ _ rfl rfl D1.out.2.1 (by rfl) (by kernel_rfl) (by simp [Value.oneCell']) ?_; intro w9 hb9 hg9)
    refine bodyPost_ret (results_row_tmp rfl _ _ (w.heap.size + 1) _ _ _ rfl hb9 Tryz.underlying68 rfl (by kernel_rfl)) rfl ⟨by rw [HQ.out.1, HQ.out.2]; rfl, D1.out.2.2.trans (Only.below hg9 (by omega) D1.out.2.2.size)⟩
end Go.Proofs.YtjodpffdlggjgaaGreat
/- flywheelref16.Follow: the walk. -/
namespace Go.Proofs.YtjodpffdlggjgaaGreat
open Go.RowKit
set_option linter.unusedSimpArgs false
set_option linter.unusedVariables false
set_option maxHeartbeats 8000000
set_option maxRecDepth 100000
def FolPost2 (p : Pol) (sm rm : Int) (l : List Smp) (w : World) (e : Ending) (w' : World) : Prop := ∃ A n c, e = .returned (.slice A n c) ∧ OwnA w' w.heap.size (.slice A n c) (folq p sm rm l).out ∧ Below w.heap.size w w'
theorem folq_srt (p : Pol) (sm rm : Int) (l : List Smp) (k : Nat) (hk : k ≤ l.length) : Srt (folq p sm rm (l.take k)).smps :=
  folq_all (fun n st => Srt st.smps) p sm rm l List.Pairwise.nil (fun n st x hx h => by
    rw [fstep_smps]; unfold putr
    split
    · exact srt_putv h _ x
    · exact h) k hk
theorem folq_past (p : Pol) (sm rm : Int) (l : List Smp) (k : Nat) (hk : k ≤ l.length) : (folq p sm rm (l.take k)).past.length ≤ 64 :=
  folq_all (fun n st => st.past.length ≤ 64) p sm rm l (Nat.zero_le _) (fun n st x hx h => by
    unfold fstep
    split
    · split
      · dsimp only
        unfold hush
        split
        · rename_i hr
          unfold pushq
          split
          · rw [List.length_drop, List.length_append]; simp; omega
          · rename_i h2; omega
        · simp
      · exact h
    · exact h) k hk
def RefIn (w1 wr : World) (A3 : Option Addr) (n3 c3 : Nat) (A4 : Option Addr) (n4 c4 : Nat) (v : Value) (st : Fst) : Prop :=
  SmpsAre wr A3 n3 c3 st.smps ∧ AdvsAre wr A4 n4 c4 st.past ∧ OwnA wr w1.heap.size v st.out ∧ (∀ a, A3 = some a → a.block < wr.heap.size ∧ v.ownBlock ≠ some a.block) ∧ (∀ a, A4 = some a → a.block < wr.heap.size ∧ v.ownBlock ≠ some a.block) ∧ Below w1.heap.size w1 wr ∧ w1.heap.size ≤ wr.heap.size
theorem RefIn.start (w : World) : RefIn w w none 0 0 none 0 0 (.slice none 0 0) ⟨[], [], []⟩ :=
  ⟨slice_nil _ _ _, slice_nil _ _ _, Own.nil _ _ _ _ _, fun a ha => (by cases ha), fun a ha => (by cases ha), Below.refl _ _, Nat.le_refl _⟩
theorem RefIn.call {w1 wr w' : World} {A3 : Option Addr} {n3 c3 : Nat} {A4 : Option Addr} {n4 c4 : Nat} {v : Value} {st : Fst} (h : RefIn w1 wr A3 n3 c3 A4 n4 c4 v st) (hb : Below wr.heap.size wr w') : RefIn w1 w' A3 n3 c3 A4 n4 c4 v st := by
  obtain ⟨h1, h2, h3, h4, h5, h6, h7⟩ := h
  exact ⟨slice_keep h1 hb, slice_keep h2 hb, h3.call hb, fun a ha => ⟨Nat.lt_of_lt_of_le (h4 a ha).1 hb.size, (h4 a ha).2⟩, fun a ha => ⟨Nat.lt_of_lt_of_le (h5 a ha).1 hb.size, (h5 a ha).2⟩, h6.trans (hb.mono h7), Nat.le_trans h7 hb.size⟩
theorem RefIn.smps {w1 wr w' : World} {A3 : Option Addr} {n3 c3 : Nat} {A4 : Option Addr} {n4 c4 : Nat} {v : Value} {st : Fst} {A : Option Addr} {n c : Nat} {l : List Smp} (h : RefIn w1 wr A3 n3 c3 A4 n4 c4 v st) (hs : SmpsAre w' A n c l) (hb : Below wr.heap.size wr w') (hf : ∀ a, A = some a → wr.heap.size ≤ a.block ∧ a.block < w'.heap.size) : RefIn w1 w' A n c A4 n4 c4 v ⟨l, st.past, st.out⟩ := by
  obtain ⟨h1, h2, h3, h4, h5, h6, h7⟩ := h.call hb
  refine ⟨hs, h2, h3, fun a ha => ⟨(hf a ha).2, fun e => ?_⟩, h5, h6, h7⟩
  have := (World.ownsRow.lt h.2.2.1 _ e).2
  have := (hf a ha).1
  omega
theorem RefIn.advs {w1 wr w' : World} {A3 : Option Addr} {n3 c3 : Nat} {A4 : Option Addr} {n4 c4 : Nat} {v : Value} {st : Fst} {A : Option Addr} {n c : Nat} {l : List Adv} (h : RefIn w1 wr A3 n3 c3 A4 n4 c4 v st) (hs : AdvsAre w' A n c l) (hb : Below wr.heap.size wr w') (hf : ∀ a, A = some a → wr.heap.size ≤ a.block ∧ a.block < w'.heap.size) : RefIn w1 w' A3 n3 c3 A n c v ⟨st.smps, l, st.out⟩ := by
  obtain ⟨h1, h2, h3, h4, h5, h6, h7⟩ := h.call hb
  refine ⟨h1, hs, h3, h4, fun a ha => ⟨(hf a ha).2, fun e => ?_⟩, h6, h7⟩
  have := (World.ownsRow.lt h.2.2.1 _ e).2
  have := (hf a ha).1
  omega
theorem RefIn.push {w1 wr w' : World} {A3 : Option Addr} {n3 c3 : Nat} {A4 : Option Addr} {n4 c4 : Nat} {v v' : Value} {st : Fst} {a : Adv} (h : RefIn w1 wr A3 n3 c3 A4 n4 c4 v st) (ho : OwnA w' w1.heap.size v' (st.out ++ [a])) (hu : Upd (fun k => v.ownBlock = some k) wr w') (hw : v'.ownBlock = v.ownBlock ∨ v'.ownBlock = some wr.heap.size) : RefIn w1 w' A3 n3 c3 A4 n4 c4 v' ⟨st.smps, st.past, st.out ++ [a]⟩ := by
  obtain ⟨h1, h2, h3, h4, h5, h6, h7⟩ := h
  have hlt := World.ownsRow.lt h3
  have key : ∀ a : Addr, a.block < wr.heap.size → v.ownBlock ≠ some a.block → v'.ownBlock ≠ some a.block := fun a ha hn e => by
    rcases hw with hw | hw
    · exact hn (hw.symm.trans e)
    · rw [hw] at e; injection e with e; omega
  exact ⟨slice_upd h1 hu (fun a ha => (h4 a ha).2), slice_upd h2 hu (fun a ha => (h5 a ha).2), ho, fun a ha => ⟨Nat.lt_of_lt_of_le (h4 a ha).1 hu.size, key a (h4 a ha).1 (h4 a ha).2⟩, fun a ha => ⟨Nat.lt_of_lt_of_le (h5 a ha).1 hu.size, key a (h5 a ha).1 (h5 a ha).2⟩, h6.trans (hu.below (fun k hk => (hlt k hk).1) h7), Nat.le_trans h7 hu.size⟩
theorem ref16_Follow_bad (p : Pol) (A : Option Addr) (len cap : Nat) (l : List Smp) (sm rm : Int) (w : World) (hb : ¬ goodS sm ∨ ¬ (1 ≤ rm ∧ rm ≤ 64)) :
    Calls Tryz.prog 12 #[(.agg #[.int .i64 p.min, .int .i64 p.max, .int .i64 p.target, .int .i64 p.tol, .int .i64 p.window, .int .i64 p.hold]), .slice A len cap, .int .i64 sm, .int .i64 rm] w (FolPost2 p sm rm l w) := by
  have HB := Lib.hid (folq_bad p sm rm l hb)
  have hd : (decide (sm < 1) = true) ∨ (decide (sm < 1) = false ∧ decide (256 < sm) = true) ∨ (decide (sm < 1) = false ∧ decide (256 < sm) = false ∧ decide (rm < 1) = true) ∨ (decide (sm < 1) = false ∧ decide (256 < sm) = false ∧ decide (rm < 1) = false ∧ decide (64 < rm) = true) := by
    unfold goodS at hb
    simp only [decide_eq_true_eq, decide_eq_false_iff_not]
    omega
  clear hb
  rcases hd with d1 | ⟨d1, d2⟩ | ⟨d1, d2, d3⟩ | ⟨d1, d2, d3, d4⟩
  all_goals
    go_enter Tryz.func12, Tryz.ntmps12
    go_wp2
    go_ret
    exact ⟨none, 0, 0, rfl, by rw [HB.out]; exact Own.nil _ _ _ _ _, by go_grown⟩
theorem ref16_Follow_good (p : Pol) (A : Option Addr) (len cap : Nat) (l : List Smp) (S R : Nat) (w : World) (hp : p.fit) (hs : SmpsAre w A len cap l) (hg : ∀ x ∈ l, x.good) (hn : len ≤ 200) (s1 : 1 ≤ S) (s2 : S ≤ 256) (r1 : 1 ≤ R) (r2 : R ≤ 64) :
    Calls Tryz.prog 12 #[(.agg #[.int .i64 p.min, .int .i64 p.max, .int .i64 p.target, .int .i64 p.tol, .int .i64 p.window, .int .i64 p.hold]), .slice A len cap, .int .i64 S, .int .i64 R] w (FolPost2 p S R l w) := by
  have HS := Lib.hid hs
  have HL := Lib.hid hs.1
  have HP := Lib.hid hp
  have HN := Lib.hid (fun (k : Nat) (x : Smp) (h : l[k]? = some x) => folq_next p S R h)
  have HQ := Lib.hid (fun k hk => folq_len p S R l k hk)
  have HQg := Lib.hid (fun k hk => folq_good p S R l hg k hk)
  have HQs := Lib.hid (fun k hk => folq_srt p S R l k hk)
  have HQp := Lib.hid (fun k hk => folq_past p S R l k hk)
  have d1 : decide ((S : Int) < 1) = false := by simp; omega
  have d2 : decide ((256 : Int) < (S : Int)) = false := by simp; omega
  have d3 : decide ((R : Int) < 1) = false := by simp; omega
  have d4 : decide ((64 : Int) < (R : Int)) = false := by simp; omega
  have d1' : ¬ S < 1 := by omega
  have d2' : ¬ 256 < S := by omega
  have d3' : ¬ R < 1 := by omega
  have d4' : ¬ 64 < R := by omega
  have HSR := Lib.hid (show (1 ≤ S ∧ S ≤ 256) ∧ 1 ≤ R ∧ R ≤ 64 from ⟨⟨s1, s2⟩, r1, r2⟩)
  clear hs hg hp s1 s2 r1 r2
  obtain ⟨w1, hw1⟩ : ∃ w1, w1 = w.alloc (.cells #[.int .i64 p.min, .int .i64 p.max, .int .i64 p.target, .int .i64 p.tol, .int .i64 p.window, .int .i64 p.hold] 23) := ⟨_, rfl⟩
  have B1 := Lib.hid (show Blk w1 w.heap.size 23 #[.int .i64 p.min, .int .i64 p.max, .int .i64 p.target, .int .i64 p.tol, .int .i64 p.window, .int .i64 p.hold] by rw [hw1]; exact Blk.new _ _ _)
  have E1 := Lib.hid (show Below w.heap.size w w1 by rw [hw1]; go_grown)
  go_enter Tryz.func12, Tryz.ntmps12
  go_upto_region 1 with (fail)
  rw [← hw1]
  clear hw1
  go_wp2
  go_loopw [9, 10, 11, 12] (fun v v4 v3 i wr => ∃ (k : Nat) (A3 : Option Addr) (n3 c3 : Nat) (A4 : Option Addr) (n4 c4 : Nat), k ≤ len ∧ i = .int .i64 k ∧ v3 = .slice A3 n3 c3 ∧ v4 = .slice A4 n4 c4 ∧ RefIn w1 wr A3 n3 c3 A4 n4 c4 v (folq p S R (l.take k))) (fun _ _ _ i _ => len - (intOf i).toNat)
  case atStart => exact ⟨0, none, 0, 0, none, 0, 0, Nat.zero_le _, rfl, rfl, rfl, RefIn.start w1⟩
  case round =>
    obtain ⟨k, A3, n3, c3, A4, n4, c4, hk, rfl, rfl, rfl, hin⟩ := hrel
    obtain ⟨A5, n5, c5, rfl, -, -⟩ := hin.2.2.1.shape adv_len
    have HI := Lib.hid hin
    clear hin
    by_cases hlt : k < len
    · obtain ⟨b, off, x, rfl, hx, hb, t0, t1⟩ := HS.out.at_ hlt
      have hbw := E1.out.trans (HI.out.2.2.2.2.2.1.mono E1.out.size)
      have kt0 := (hbw.cell (p := ⟨b, off + k * 2, none⟩) hb).trans t0
      have kt1 := (hbw.cell (p := ⟨b, off + k * 2 + 1, none⟩) hb).trans t1
      have hki : (k : Int) < (len : Int) := by omega
      have HN1 := Lib.hid (HN.out k x hx)
      have HLn := Lib.hid (HQ.out (k + 1) (by have := HL.out; omega)).1
      have HL0 := Lib.hid (HQ.out k (by have := HL.out; omega)).1
      have HGd := Lib.hid (HQg.out (k + 1) (by have := HL.out; omega))
      have HLo := Lib.hid (HQ.out k (by have := HL.out; omega)).2
      have HSr := Lib.hid (HQs.out k (by have := HL.out; omega))
      have HPa := Lib.hid (HQp.out k (by have := HL.out; omega))
      rw [HN1.out, fstep_smps] at HLn HGd
      clear hx hb t0 t1 hbw
      generalize folq p S R (l.take k) = st at *
      have HR := Lib.hid (fun w => ref08_Right x.tick x.value w)
      have HEr := Lib.hid (show errr S x = serErr x.tick x.value by
        have := HSR.out
        unfold errr
        rw [if_pos (show goodS S by unfold goodS; omega)]
        split
        · rename_i h; exact h.symm
        · rfl)
      by_cases he : serErr x.tick x.value = 0
      · have HE := Lib.hid (HEr.out.trans he)
        have HQp : putr st.smps S x = putq st.smps S x := by
          have := HSR.out
          unfold putr putv
          rw [if_pos (show goodS S by unfold goodS; omega), if_pos he]; rfl
        rw [he] at HR
        have H1 := Lib.hid (fun h2 => HN1.out.trans (fstep_ok HE.out h2 (by have := HSR.out; omega)))
        have H3 := Lib.hid (fun h2 => HN1.out.trans (fstep_skip (rm := R) HE.out h2))
        rw [HQp] at H1 H3 HLn HGd
        have HPu := Lib.hid (fun W hW => ref08_Put A3 n3 c3 st.smps S x W hW (by have := HI.out.1.1; have := HL0.out; omega) HSr.out (by have := HSR.out; omega))
        clear he HE HQp HN1 HEr
        generalize putq st.smps S x = hh at *
        have HOf := Lib.hid (fun W A n c B m d hW hW2 hn hm => (show Calls Tryz.prog 38 #[(.agg #[.int .i64 p.min, .int .i64 p.max, .int .i64 p.target, .int .i64 p.tol, .int .i64 p.window, .int .i64 p.hold]), .slice A n c, .slice B m d] W fun e w' => e = .returned (.tuple #[.agg #[.int .i64 (ofq p hh st.past).tick, .int .i64 (ofq p hh st.past).load, .int .i64 (ofq p hh st.past).want, .int .i64 (ofq p hh st.past).repl, .int .i64 (ofq p hh st.past).why], .int .i64 (ofe p hh)]) ∧ Below W.heap.size W w' from ref16_Of p A n c hh B m d st.past W HP.out hW HGd.out hn hW2 hm))
        generalize ofq p hh st.past = X at *
        generalize ofe p hh = OE at *
        have HLo2 := Lib.hid (show st.out.length < 1000000 by have := HLo.out; omega)
        have HLn2 := Lib.hid (show hh.length ≤ 200 by have := HLn.out; omega)
        clear HLo HLn
        go_wp2
        go_quiet ((go_at_call 36; exact Calls.quiet_of_same ((HR.out _).mono fun _ _ h => ⟨h.1, h.2.symm⟩)))
        go_wp2_with fail
        have I1 := Lib.hid (HI.out.call (below_drewN (Below.refl _ _) nq))
        refine (HPu.out _ I1.out.1).mono ?_
        rintro e w2 ⟨A6, n6, c6, rfl, hs6, hb6, hf6⟩
        have I2 := Lib.hid (I1.out.smps hs6 hb6 hf6)
        have B2 := Lib.hid (B1.out.call I2.out.2.2.2.2.2.1)
        have HX := Lib.hid (fun a => Blk.new a 68 (rowA X))
        clear hs6 hb6 hf6 I1 HI
        by_cases ho : OE = 0
        · have d5 : (OE == 0) = true := by simpa using ho
          have HE := Lib.hid (H1.out ho)
          clear ho H1 H3
          go_wp2_with (first
            | (refine Blk.load rfl 23 (.tmp 4) rfl _ _ _ _ rfl B2.out Tryz.underlying23 rfl (by kernel_rfl) ?_)
            | (go_at_call 38; refine (HOf.out _ _ _ _ _ _ _ I2.out.1 I2.out.2.1 (Nat.le_trans (Nat.le_of_eq I2.out.1.1.symm) HLn2.out) (Nat.le_trans (Nat.le_of_eq I2.out.2.1.1.symm) (Nat.le_trans HPa.out (by decide)))).mono ?_; rintro e w3 ⟨rfl, hb3⟩; have I3 := Lib.hid ((I2.out.call hb3).call (w' := w3.alloc (.cells (rowA X) 68)) ((Below.refl _ w3).alloc (Nat.le_refl _) _)); have X3 := Lib.hid (HX.out w3); clear hb3)
            | (refine Blk.load rfl 68 (.tmp 13) rfl _ _ _ _ rfl X4.out Tryz.underlying68 rfl (by kernel_rfl) ?_)
            | (refine Blk.load rfl 68 (.tmp 13) rfl _ _ _ _ rfl X3.out Tryz.underlying68 rfl (by kernel_rfl) ?_)
            | (go_at_call 39; refine (ref14_Put A4 n4 c4 st.past R X _ I3.out.2.1 (Nat.le_trans (Nat.le_of_eq I3.out.2.1.1.symm) (Nat.le_trans HPa.out (by decide))) (by have := HSR.out; omega)).mono ?_; rintro e w4 ⟨A7, n7, c7, rfl, hs7, hb7, hf7⟩; have I4 := Lib.hid (I3.out.advs hs7 hb7 hf7); have X4 := Lib.hid (X3.out.call hb7); clear hs7 hb7 hf7)
            | (at_builtin; refine wpList_push2 _ rfl (.tmp 67) (.tmp 69) 26 rfl w1.heap.size 68 _ 5 40 _ Tryz.underlying26 info_adv (by rfl) (by decide) (fun _ => rfl) adv_one (.slice A5 n5 c5) st.out rfl (I4.out.2.2.1.alloc _) ⟨_, 0, none⟩ 1 X rfl (blk_news (α := Adv) (vs := X.cells) (Blk.new _ _ _) rfl) HLo2.out (by decide) (by have := I4.out.2.2.2.2.2.2; simp; omega) ?_; intro v' w7 ho7 hu7 hw7; obtain ⟨A8, n8, c8, rfl, -, -⟩ := ho7.shape adv_len; have I7 := Lib.hid (RefIn.push (I4.out.call (by go_grown)) ho7 hu7 hw7); clear ho7 hu7 hw7))
          go_roundw
          case rel => exact ⟨k + 1, _, _, _, _, _, _, by omega, by go_num, rfl, rfl, by rw [HE.out]; unfold hush; rw [if_pos (by have := HSR.out; omega)]; exact I7.out⟩
          case measure => simp [intOf]; omega
        · have d5 : (OE == 0) = false := by simpa using ho
          have HE := Lib.hid (H3.out ho)
          clear ho H1 H3
          go_wp2_with (first
            | (refine Blk.load rfl 23 (.tmp 4) rfl _ _ _ _ rfl B2.out Tryz.underlying23 rfl (by kernel_rfl) ?_)
            | (go_at_call 38; refine (HOf.out _ _ _ _ _ _ _ I2.out.1 I2.out.2.1 (Nat.le_trans (Nat.le_of_eq I2.out.1.1.symm) HLn2.out) (Nat.le_trans (Nat.le_of_eq I2.out.2.1.1.symm) (Nat.le_trans HPa.out (by decide)))).mono ?_; rintro e w3 ⟨rfl, hb3⟩; have I3 := Lib.hid ((I2.out.call hb3).call (w' := w3.alloc (.cells (rowA X) 68)) ((Below.refl _ w3).alloc (Nat.le_refl _) _)); clear hb3))
          go_roundw
          case rel => exact ⟨k + 1, _, _, _, _, _, _, by omega, by go_num, rfl, rfl, by rw [HE.out]; exact I3.out⟩
          case measure => simp [intOf]; omega
      · have HE := Lib.hid (show errr S x ≠ 0 by rw [HEr.out]; exact he)
        generalize serErr x.tick x.value = ER at *
        have d5 : (ER != 0) = true := by simpa using he
        clear he HEr
        go_wp2
        go_quiet ((go_at_call 36; exact Calls.quiet_of_same ((HR.out _).mono fun _ _ h => ⟨h.1, h.2.symm⟩)))
        go_wp2_with fail
        go_roundw
        case rel => exact ⟨k + 1, _, _, _, _, _, _, by omega, by go_num, rfl, rfl, by rw [HN1.out, fstep_no HE.out]; exact HI.out.call (below_drewN (Below.refl _ _) _)⟩
        case measure => simp [intOf]; omega
    · have hE : l.take k = l := List.take_of_length_le (by have := HL.out; omega)
      rw [hE] at HI
      go_wp2
      go_ret
      exact ⟨_, _, _, rfl, HI.out.2.2.1.mono E1.out.size, E1.out.trans (HI.out.2.2.2.2.2.1.mono E1.out.size)⟩
theorem ref16_Follow (p : Pol) (A : Option Addr) (len cap : Nat) (l : List Smp) (sm rm : Int) (w : World) (hp : p.fit) (hs : SmpsAre w A len cap l) (hg : ∀ x ∈ l, x.good) (hn : len ≤ 200) :
    Calls Tryz.prog 12 #[(.agg #[.int .i64 p.min, .int .i64 p.max, .int .i64 p.target, .int .i64 p.tol, .int .i64 p.window, .int .i64 p.hold]), .slice A len cap, .int .i64 sm, .int .i64 rm] w (FolPost2 p sm rm l w) := by
  by_cases hb : ¬ goodS sm ∨ ¬ (1 ≤ rm ∧ rm ≤ 64)
  · exact ref16_Follow_bad p A len cap l sm rm w hb
  · have h1 : goodS sm := Classical.byContradiction fun h => hb (.inl h)
    have h2 : 1 ≤ rm ∧ rm ≤ 64 := Classical.byContradiction fun h => hb (.inr h)
    obtain ⟨S, rfl⟩ : ∃ S : Nat, sm = S := ⟨sm.toNat, by unfold goodS at h1; omega⟩
    obtain ⟨R, rfl⟩ : ∃ R : Nat, rm = R := ⟨rm.toNat, by omega⟩
    exact ref16_Follow_good p A len cap l S R w hp hs hg hn (by unfold goodS at h1; omega) (by unfold goodS at h1; omega) (by omega) (by omega)
end Go.Proofs.YtjodpffdlggjgaaGreat
/- Chapter 44's law: TrialRuns. (fast region) -/
namespace Go.Proofs.YtjodpffdlggjgaaGreat
open Go.RowKit
set_option linter.unusedSimpArgs false
set_option linter.unusedVariables false
set_option maxHeartbeats 8000000
set_option maxRecDepth 100000
theorem tests_bad {sm rm : Int} (hb : ¬ goodS sm ∨ ¬ (1 ≤ rm ∧ rm ≤ 64)) : (decide (sm < 1) = true) ∨ (decide (sm < 1) = false ∧ decide (256 < sm) = true) ∨ (decide (sm < 1) = false ∧ decide (256 < sm) = false ∧ decide (rm < 1) = true) ∨ (decide (sm < 1) = false ∧ decide (256 < sm) = false ∧ decide (rm < 1) = false ∧ decide (64 < rm) = true) := by
  unfold goodS at hb
  simp only [decide_eq_true_eq, decide_eq_false_iff_not]
  omega
theorem tests_all (sm rm : Int) : (decide (sm < 1) = true) ∨ (decide (sm < 1) = false ∧ decide (256 < sm) = true) ∨ (decide (sm < 1) = false ∧ decide (256 < sm) = false ∧ decide (rm < 1) = true) ∨ (decide (sm < 1) = false ∧ decide (256 < sm) = false ∧ decide (rm < 1) = false ∧ decide (64 < rm) = true) ∨ (decide (sm < 1) = false ∧ decide (256 < sm) = false ∧ decide (rm < 1) = false ∧ decide (64 < rm) = false) := by
  simp only [decide_eq_true_eq, decide_eq_false_iff_not]
  omega
theorem walk_TrialRuns (a0 a1 a2 a3 a4 a5 : Int) (A : Option Addr) (len cap : Nat) (l : List Smp) (a6 a7 : Int) (w : World) (h0 : I64 a0) (h1 : I64 a1) (h2 : I64 a2) (h3 : I64 a3) (h4 : I64 a4) (h5 : I64 a5) (hs : SmpsAre w A len cap l) (hg : ∀ x ∈ l, x.good) (h6 : I64 a6) (h7 : I64 a7) :
    Calls Tryz.prog 3 #[.agg #[.int .i64 a0, .int .i64 a1, .int .i64 a2, .int .i64 a3, .int .i64 a4, .int .i64 a5], .slice A len cap, .int .i64 a6, .int .i64 a7] w fun e w' => e = .returned (.bool true) ∧ Below w.heap.size w w' := by
  obtain ⟨p, rfl, rfl, rfl, rfl, rfl, rfl⟩ : ∃ p : Pol, a0 = p.min ∧ a1 = p.max ∧ a2 = p.target ∧ a3 = p.tol ∧ a4 = p.window ∧ a5 = p.hold := ⟨⟨a0, a1, a2, a3, a4, a5⟩, rfl, rfl, rfl, rfl, rfl, rfl⟩
  have HP := Lib.hid (show p.fit from ⟨h0, h1, h2, h3, h4, h5⟩)
  have HS := Lib.hid hs
  have HG := Lib.hid hg
  have H7 := Lib.hid h7
  have hle : len ≤ cap := hs.2.1
  have hm : cap ≤ 9223372036854775807 := by have := hs.2.2.1; unfold maxLen at this; omega
  clear hs hg h0 h1 h2 h3 h4 h5 h6 h7
  have B0 := Lib.hid (Blk.new w 23 #[.int .i64 p.min, .int .i64 p.max, .int .i64 p.target, .int .i64 p.tol, .int .i64 p.window, .int .i64 p.hold])
  have E0 := Lib.hid (show Below w.heap.size w (w.alloc (.cells #[.int .i64 p.min, .int .i64 p.max, .int .i64 p.target, .int .i64 p.tol, .int .i64 p.window, .int .i64 p.hold] 23)) by go_grown)
  by_cases hl : 20 < len
  · have d0 : decide ((20 : Int) < (len : Int)) = true := by simp; omega
    go_enter Tryz.func3, Tryz.ntmps3
    go_wp2_with (go_at_call 7; refine (awake44 _).mono ?_; rintro e v1 ⟨rfl, hb1⟩; have E1 := Lib.hid (E0.out.trans (hb1.mono E0.out.size)); clear hb1)
    go_ret
    exact ⟨rfl, E1.out⟩
  have d0 : decide ((20 : Int) < (len : Int)) = false := by simp; omega
  by_cases hk : p.okP
  · have HR := Lib.hid (fun W => ref_Right p W)
    rw [polOk_true hk] at HR
    by_cases hb : ¬ goodS a6 ∨ ¬ (1 ≤ a7 ∧ a7 ≤ 64)
    · have HRun := Lib.hid (fun W => trial_Run_arg p A len cap a6 a7 W hk hb)
      unfold RunNo at HRun
      have hd := tests_bad hb
      clear hb hk
      rcases hd with d1 | ⟨d1, d2⟩ | ⟨d1, d2, d3⟩ | ⟨d1, d2, d3, d4⟩
      all_goals
        go_enter Tryz.func3, Tryz.ntmps3
        go_wp2_with (first
          | (go_at_call 7; refine (awake44 _).mono ?_; rintro e v1 ⟨rfl, hb1⟩; have E1 := Lib.hid (E0.out.trans (hb1.mono E0.out.size)); have B1 := Lib.hid (B0.out.call hb1); clear hb1)
          | (refine Blk.load rfl 23 (.tmp 4) rfl _ _ _ _ rfl B3.out Tryz.underlying23 rfl (by kernel_rfl) ?_)
          | (refine Blk.load rfl 23 (.tmp 4) rfl _ _ _ _ rfl B1.out Tryz.underlying23 rfl (by kernel_rfl) ?_)
          | (go_at_call 8; refine (HRun.out _).mono ?_; rintro e v2 ⟨rfl, hb2⟩; have E2 := Lib.hid ((E1.out.trans (hb2.mono E1.out.size)).alloc (Nat.le_trans E1.out.size hb2.size) (.cells z7 28)); have B3 := Lib.hid ((B1.out.call hb2).alloc (.cells z7 28)); have R3 := Lib.hid (Blk.new v2 28 z7); clear hb2)
          | (go_at_call 9; refine (HR.out _).mono ?_; rintro e v4 ⟨rfl, hb4⟩; have E4 := Lib.hid (E2.out.trans (hb4.mono E2.out.size)); have R4 := Lib.hid (R3.out.call hb4); have z0 := R4.out.cellv (i := 0) (v := .slice none 0 0) rfl; have z1 := R4.out.cellv (i := 1) (v := .int .i64 0) rfl; have z2 := R4.out.cellv (i := 2) (v := .int .i64 0) rfl; have z3 := R4.out.cellv (i := 3) (v := .int .i64 0) rfl; have z4 := R4.out.cellv (i := 4) (v := .int .i64 0) rfl; have z5 := R4.out.cellv (i := 5) (v := .int .i64 0) rfl; have z6 := R4.out.cellv (i := 6) (v := .int .i64 0) rfl; clear hb4)
          | (refine Blk.load rfl 28 (.tmp 9) rfl _ _ _ _ rfl R4.out Tryz.underlying28 rfl (by kernel_rfl) ?_)
          | (go_at_call 10; refine (ref44_Same none none 0 0 0 0 [] 0 0 0 0 0 0 _ (slice_nil _ _ _) (slice_nil _ _ _)).mono ?_; rintro e v5 ⟨rfl, hb5⟩; have E5 := Lib.hid (E4.out.trans (hb5.mono E4.out.size)); clear hb5))
        go_ret
        exact ⟨rfl, E5.out⟩
    · obtain ⟨S, R, rfl, rfl, s1, s2, r1, r2⟩ : ∃ S R : Nat, a6 = S ∧ a7 = R ∧ 1 ≤ S ∧ S ≤ 256 ∧ 1 ≤ R ∧ R ≤ 64 := by
        unfold goodS at hb
        exact ⟨a6.toNat, a7.toNat, by omega, by omega, by omega, by omega, by omega, by omega⟩
      have d1 : decide ((S : Int) < 1) = false := by simp; omega
      have d2 : decide ((256 : Int) < (S : Int)) = false := by simp; omega
      have d3 : decide ((R : Int) < 1) = false := by simp; omega
      have d4 : decide ((64 : Int) < (R : Int)) = false := by simp; omega
      have d1' : ¬ S < 1 := by omega
      have d2' : ¬ 256 < S := by omega
      have d3' : ¬ R < 1 := by omega
      have d4' : ¬ 64 < R := by omega
      have HRun := Lib.hid (fun W hW => trial_Run_ok p A len cap l S R W HP.out hk hW HG.out (by omega) s1 s2 r1 r2)
      unfold RunYes judR at HRun
      have HF := Lib.hid (fun W hW => ref16_Follow p A len cap l S R W HP.out hW HG.out (by omega))
      unfold FolPost2 at HF
      have HFi := Lib.hid (fol_fine p S R l HG.out)
      have HCh := Lib.hid (fol_changes p S R l)
      have HLo := Lib.hid (show (folq p S R l).out.length ≤ 200 by
        have h := (folq_len p S R l l.length (Nat.le_refl _)).2
        rw [List.take_length] at h
        have := HS.out.1
        omega)
      generalize (folq p S R l).out = OUT at *
      have HJ := Lib.hid (fun W A2 c2 hW => ref44_Judge p A2 OUT.length c2 OUT W HP.out hW HFi.out.2 (Nat.le_trans HLo.out (by decide)))
      generalize chq (replAt OUT) OUT.length = CH at *
      generalize (turnq (replAt OUT) OUT.length).1 = TN at *
      generalize j4 p.target OUT OUT.length = JJ at *
      have hcase : ((p.min == p.max) = false) ∨ ((p.min == p.max) = true ∧ ((CH : Int) == 0) = true ∧ ((CH : Int) != 0) = false) := by
        by_cases h : p.min = p.max
        · have := HCh.out h
          exact .inr ⟨by simpa using h, by rw [this]; rfl, by rw [this]; rfl⟩
        · exact .inl (by simpa using h)
      clear hk hb s1 s2 r1 r2 HCh
      rcases hcase with dm | ⟨dm, hz, hz2⟩
      all_goals
        go_enter Tryz.func3, Tryz.ntmps3
        focus (go_upto_region 15 with (first
          | (go_at_call 7; refine (awake44 _).mono ?_; rintro e v1 ⟨rfl, hb1⟩; have E1 := Lib.hid (E0.out.trans (hb1.mono E0.out.size)); have B1 := Lib.hid (B0.out.call hb1); clear hb1)
          | (refine Blk.load rfl 23 (.tmp 4) rfl _ _ _ _ rfl B3.out Tryz.underlying23 rfl (by kernel_rfl) ?_)
          | (refine Blk.load rfl 23 (.tmp 4) rfl _ _ _ _ rfl B1.out Tryz.underlying23 rfl (by kernel_rfl) ?_)
          | (go_at_call 8; refine (HRun.out _ (slice_keep HS.out E1.out)).mono ?_; rintro e v2 ⟨A2, n2, c2, rfl, hs2, hb2⟩; have E2 := Lib.hid ((E1.out.trans (hb2.mono E1.out.size)).alloc (Nat.le_trans E1.out.size hb2.size) (.cells #[.slice A2 n2 c2, .int .i64 (CH : Nat), .int .i64 (TN : Nat), .int .i64 JJ.least, .int .i64 JJ.most, .int .i64 JJ.spare, .int .i64 JJ.short] 28)); have B3 := Lib.hid ((B1.out.call hb2).alloc (.cells #[.slice A2 n2 c2, .int .i64 (CH : Nat), .int .i64 (TN : Nat), .int .i64 JJ.least, .int .i64 JJ.most, .int .i64 JJ.spare, .int .i64 JJ.short] 28)); have R3 := Lib.hid (Blk.new v2 28 #[.slice A2 n2 c2, .int .i64 (CH : Nat), .int .i64 (TN : Nat), .int .i64 JJ.least, .int .i64 JJ.most, .int .i64 JJ.spare, .int .i64 JJ.short]); have S3 := Lib.hid (slice_keep hs2 ((Below.refl _ v2).alloc (Nat.le_refl _) (.cells #[.slice A2 n2 c2, .int .i64 (CH : Nat), .int .i64 (TN : Nat), .int .i64 JJ.least, .int .i64 JJ.most, .int .i64 JJ.spare, .int .i64 JJ.short] 28))); clear hb2 hs2)
          | (go_at_call 9; refine (HR.out _).mono ?_; rintro e v4 ⟨rfl, hb4⟩; have E4 := Lib.hid (E2.out.trans (hb4.mono E2.out.size)); have B4 := Lib.hid (B3.out.call hb4); have R4 := Lib.hid (R3.out.call hb4); have S4 := Lib.hid (slice_keep S3.out hb4); have q0 := B4.out.cellv (i := 0) (v := .int .i64 p.min) rfl; have q1 := B4.out.cellv (i := 1) (v := .int .i64 p.max) rfl; have q2 := R4.out.cellv (i := 1) (v := .int .i64 (CH : Nat)) rfl; clear hb4)))
        (try clear q0 q1 q2)
        generalize v2.heap.size = gr at *
        refine wp_region_any (by kernel_rfl) ?_; change wpAny _ _ _ _ _ _ _ (World.drew v4); refine any_of_anyG (late := fun _ => false) (S := fun wS => Below v4.heap.size v4 wS) _ _ _ _ ?_
        have S0 := (Below.refl v4.heap.size v4).drew
        refine anyG_takes (is := [0, 1, 2, 3, 4]) (vs := [_, _, _, _, _]) (m := 5) (listed2 := #[true, true, true, true, true, false, false, false, false, false]) (a2 := ⟨#[_, _, _, _, _, _, _, _, _, _, _, _, _, _, _, _, _, _, _, _, _, _, _, _, _, _, _, _, _, _, _, _, _, _, _, _, _, _, _, _, _, _, _, _, _, _, _, _, _, _, _, _, _, _, _, _, _, _, _, _, _, _, _, _, _, _, _, _, _, _, _, _, _, _, _, _], _⟩) (by kernel_rfl) (fun j hj => by simp at hj) (by kernel_rfl) (fun _ _ _ _ _ h => h) (Ys.cons rfl (Or.inl ⟨by rfl, fun W1 hW1 => exec_load (ty := 28) (x := .tmp 9) rfl rfl (run_loadAt_blk _ _ _ _ _ _ (R4.out.call hW1) Tryz.underlying28 rfl (by first | kernel_rfl | exact info_num _))⟩) (Ys.cons rfl (Or.inl ⟨by rfl, fun W1 hW1 => exec_load (ty := 23) (x := .tmp 4) rfl rfl (run_loadAt_blk _ _ _ _ _ _ (B4.out.call hW1) Tryz.underlying23 rfl (by first | kernel_rfl | exact info_num _))⟩) (Ys.cons rfl (Or.inl ⟨by rfl, fun W1 hW1 => exec_load (ty := 23) (x := .tmp 4) rfl rfl (run_loadAt_blk _ _ _ _ _ _ (B4.out.call hW1) Tryz.underlying23 rfl (by first | kernel_rfl | exact info_num _))⟩) (Ys.cons rfl (Or.inl ⟨by rfl, fun W1 hW1 => by first | rfl | (go_simp; done) | (go_simp; with_reducible rfl)⟩) (Ys.cons rfl (Or.inl ⟨by rfl, fun W1 hW1 => by first | rfl | (go_simp; done) | (go_simp; with_reducible rfl)⟩) (Ys.nil)))))) (S0) (by rfl) (by rfl) ?_
        refine anyG_takes (is := [5]) (vs := [_]) (m := 4) (listed2 := #[true, true, true, true, true, true, false, false, false, false]) (a2 := ⟨#[_, _, _, _, _, _, _, _, _, _, _, _, _, _, _, _, _, _, _, _, _, _, _, _, _, _, _, _, _, _, _, _, _, _, _, _, _, _, _, _, _, _, _, _, _, _, _, _, _, _, _, _, _, _, _, _, _, _, _, _, _, _, _, _, _, _, _, _, _, _, _, _, _, _, _, _], _⟩) (by kernel_rfl) (fun j hj => by simp at hj) (by kernel_rfl) (fun _ _ _ _ _ h => h) (Ys.cons rfl (Or.inl ⟨by rfl, fun W1 hW1 => by first | rfl | (go_simp; done) | (go_simp; with_reducible rfl)⟩) (Ys.nil)) (S0) (by rfl) (by rfl) ?_
        refine anyG_one (k := 6) (by kernel_rfl) rfl (by rfl) (fun Q2 hQ2 => ?_); go_wp2_with (go_at_call 12; refine (HF.out _ (slice_keep HS.out (E4.out.trans (S0.mono E4.out.size)))).mono ?_; rintro e v5 ⟨A5, n5, c5, rfl, ho5, hb5⟩; obtain rfl := (ownA_is ho5).1; have O5 := Lib.hid (ownA_is ho5); clear ho5); refine hQ2 _ _ (fun _ => S0.trans (hb5.mono S0.size)) ?_; clear hQ2 Q2
        have S5 := S0.trans (hb5.mono S0.size)
        refine anyG_one (k := 7) (by kernel_rfl) rfl (by rfl) (fun Q2 hQ2 => ?_); go_wp2_with (go_at_call 11; refine (HJ.out _ A5 c5 O5.out).mono ?_; rintro e v6 ⟨rfl, hb6⟩; have O6 := Lib.hid (slice_keep O5.out hb6)); refine hQ2 _ _ (fun _ => S5.trans (hb6.mono S5.size)) ?_; clear hQ2 Q2
        have S6 := S5.trans (hb6.mono S5.size)
        refine anyG_one (k := 8) (by kernel_rfl) rfl (by rfl) (fun Q2 hQ2 => ?_); go_wp2_with (go_at_call 10; refine (ref44_Same A2 A5 _ c2 _ c5 OUT _ _ _ _ _ _ _ (slice_keep S4.out S6) O6.out).mono ?_; rintro e v7 ⟨rfl, hb7⟩); refine hQ2 _ _ (fun _ => S6.trans (hb7.mono S6.size)) ?_; clear hQ2 Q2
        have S7 := S6.trans (hb7.mono S6.size)
        refine anyG_takes (is := [9]) (vs := [_]) (m := 0) (listed2 := #[true, true, true, true, true, true, true, true, true, true]) (a2 := ⟨#[_, _, _, _, _, _, _, _, _, _, _, _, _, _, _, _, _, _, _, _, _, _, _, _, _, _, _, _, _, _, _, _, _, _, _, _, _, _, _, _, _, _, _, _, _, _, _, _, _, _, _, _, _, _, _, _, _, _, _, _, _, _, _, _, _, _, _, _, _, _, _, _, _, _, _, _], _⟩) (by kernel_rfl) (fun j hj => by simp at hj) (by kernel_rfl) (fun _ _ _ _ _ h => h) (Ys.cons rfl (Or.inl ⟨by rfl, fun W1 hW1 => by first | rfl | (go_simp; done) | (go_simp; with_reducible rfl)⟩) (Ys.nil)) (S7) (by rfl) (by rfl) ?_
        refine anyG_done (by kernel_rfl) ?_ _
        go_wp2
        go_ret
        exact ⟨rfl, E4.out.trans (S7.mono E4.out.size)⟩
  · have HR := Lib.hid (fun W => ref_Right p W)
    rw [polOk_false hk] at HR
    have HRun := Lib.hid (fun W => trial_Run_pol p A len cap a6 a7 W hk)
    unfold RunNo at HRun
    have hd := tests_all a6 a7
    clear hk
    rcases hd with d1 | ⟨d1, d2⟩ | ⟨d1, d2, d3⟩ | ⟨d1, d2, d3, d4⟩ | ⟨d1, d2, d3, d4⟩
    all_goals
      go_enter Tryz.func3, Tryz.ntmps3
      go_wp2_with (first
        | (go_at_call 7; refine (awake44 _).mono ?_; rintro e v1 ⟨rfl, hb1⟩; have E1 := Lib.hid (E0.out.trans (hb1.mono E0.out.size)); have B1 := Lib.hid (B0.out.call hb1); clear hb1)
        | (refine Blk.load rfl 23 (.tmp 4) rfl _ _ _ _ rfl B3.out Tryz.underlying23 rfl (by kernel_rfl) ?_)
        | (refine Blk.load rfl 23 (.tmp 4) rfl _ _ _ _ rfl B1.out Tryz.underlying23 rfl (by kernel_rfl) ?_)
        | (go_at_call 8; refine (HRun.out _).mono ?_; rintro e v2 ⟨rfl, hb2⟩; have E2 := Lib.hid ((E1.out.trans (hb2.mono E1.out.size)).alloc (Nat.le_trans E1.out.size hb2.size) (.cells z7 28)); have B3 := Lib.hid ((B1.out.call hb2).alloc (.cells z7 28)); have R3 := Lib.hid (Blk.new v2 28 z7); clear hb2)
        | (go_at_call 9; refine (HR.out _).mono ?_; rintro e v4 ⟨rfl, hb4⟩; have E4 := Lib.hid (E2.out.trans (hb4.mono E2.out.size)); have R4 := Lib.hid (R3.out.call hb4); have z0 := R4.out.cellv (i := 0) (v := .slice none 0 0) rfl; have z1 := R4.out.cellv (i := 1) (v := .int .i64 0) rfl; have z2 := R4.out.cellv (i := 2) (v := .int .i64 0) rfl; have z3 := R4.out.cellv (i := 3) (v := .int .i64 0) rfl; have z4 := R4.out.cellv (i := 4) (v := .int .i64 0) rfl; have z5 := R4.out.cellv (i := 5) (v := .int .i64 0) rfl; have z6 := R4.out.cellv (i := 6) (v := .int .i64 0) rfl; clear hb4)
        | (refine Blk.load rfl 28 (.tmp 9) rfl _ _ _ _ rfl R4.out Tryz.underlying28 rfl (by kernel_rfl) ?_)
        | (go_at_call 10; refine (ref44_Same none none 0 0 0 0 [] 0 0 0 0 0 0 _ (slice_nil _ _ _) (slice_nil _ _ _)).mono ?_; rintro e v5 ⟨rfl, hb5⟩; have E5 := Lib.hid (E4.out.trans (hb5.mono E4.out.size)); clear hb5))
      go_ret
      exact ⟨rfl, E5.out⟩
end Go.Proofs.YtjodpffdlggjgaaGreat
