/- Several texts in one. -/
import Derived.Test.YtjodpffdlggjgaaGreatKLoopRuns5
import Derived.Test.YtjodpffdlggjgaaGreatControl
import Derived.Test.YtjodpffdlggjgaaGreatKLoopRuns4
import Derived.Test.YtjodpffdlggjgaaGreatKLoopRuns1
import Derived.Test.YtjodpffdlggjgaaGreatSame
/- loop.Run: the walk. (fast region) -/
namespace Go.Proofs.YtjodpffdlggjgaaGreat
open Go.RowKit
set_option linter.unusedSimpArgs false
set_option linter.unusedVariables false
set_option maxHeartbeats 8000000
set_option maxRecDepth 100000
def comesq (l : List Shp) (i : Nat) : Int := sumS i l
theorem sumS_nonneg (tick : Int) {l : List Shp} (h : ∀ s ∈ l, s.ok) : 0 ≤ sumS tick l := by
  have key : ∀ (l : List Shp) (a : Int), (∀ s ∈ l, s.ok) → 0 ≤ a → 0 ≤ l.foldl (fun a s => satq (a + atq s tick)) a := by
    intro l
    induction l with
    | nil => intro a _ h; exact h
    | cons s l ih =>
      intro a hl ha
      refine ih _ (fun x hx => hl x (by simp [hx])) ?_
      have h1 := (atq_bd (hl s (by simp)) tick).1
      have h2 := (hl s (by simp)).2.2.1
      show 0 ≤ satq (a + atq s tick)
      unfold satq; (repeat' split) <;> omega
  exact key l 0 h (Int.le_refl _)
theorem bound_zero {p : Pol} (hk : p.okP) : boundq p 0 = p.min := by
  have h1 := hk.1
  have h2 := hk.2.2.1
  unfold boundq clampq
  rw [if_pos hk]
  split
  · rfl
  · split <;> omega
/-- What Run keeps from round to round. -/
def LIn (w wr : World) (ps ph : Option Addr) (g : Nat) (v : Value) (p : Pol) (st : Lst) (rows : List Rw) : Prop :=
  ∃ FS FH : Nat → Prop, SerV wr ps FS st.smps 64 ∧ HistAt wr ph FH st.past 16 ∧ Own wr w.heap.size rwT 5 Rw.cells v rows ∧ Blk wr g stT (strow p ps ph st.repl st.left) ∧ (∀ k, FS k → w.heap.size ≤ k ∧ ¬ FH k ∧ k ≠ g ∧ v.ownBlock ≠ some k) ∧ (∀ k, FH k → w.heap.size ≤ k ∧ k ≠ g ∧ v.ownBlock ≠ some k) ∧ v.ownBlock ≠ some g ∧ w.heap.size ≤ g ∧ Below w.heap.size w wr ∧ w.heap.size ≤ wr.heap.size
section lin
variable {w wr w' : World} {ps ph : Option Addr} {g : Nat} {v v' : Value} {p : Pol} {st : Lst} {rows : List Rw}
theorem LIn.call (h : LIn w wr ps ph g v p st rows) (hb : Below wr.heap.size wr w') : LIn w w' ps ph g v p st rows := by
  obtain ⟨FS, FH, h1, h2, h3, h4, h5, h6, h7, h8, h9, h10⟩ := h
  exact ⟨FS, FH, h1.call hb, h2.call hb, h3.call hb, h4.call hb, h5, h6, h7, h8, h9.trans (hb.mono h10), Nat.le_trans h10 hb.size⟩
theorem LIn.bel (h : LIn w wr ps ph g v p st rows) : Below w.heap.size w wr := by
  obtain ⟨FS, FH, h1, h2, h3, h4, h5, h6, h7, h8, h9, h10⟩ := h; exact h9
theorem LIn.own (h : LIn w wr ps ph g v p st rows) : Own wr w.heap.size rwT 5 Rw.cells v rows := by
  obtain ⟨FS, FH, h1, h2, h3, h4, h5, h6, h7, h8, h9, h10⟩ := h; exact h3
theorem LIn.tick (h : LIn w wr ps ph g v p st rows) : ∃ FS FH : Nat → Prop, SerV wr ps FS st.smps 64 ∧ HistAt wr ph FH st.past 16 ∧ Blk wr g stT (strow p ps ph st.repl st.left) ∧ (∀ k, FS k → ¬ FH k ∧ k ≠ g) ∧ (∀ k, FH k → k ≠ g) ∧ ∀ row st' e w', TickPost p ps ph g (fun k => FS k ∨ FH k ∨ k = g) row st' wr e w' → e = .returned (.agg row.row) ∧ LIn w w' ps ph g v p st' rows := by
  obtain ⟨FS, FH, h1, h2, h3, h4, h5, h6, h7, h8, h9, h10⟩ := h
  refine ⟨FS, FH, h1, h2, h4, fun k hk => ⟨(h5 k hk).2.1, (h5 k hk).2.2.1⟩, fun k hk => (h6 k hk).2.1, ?_⟩
  rintro row st' e w' ⟨FS', FH', rfl, k1, k2, k3, k4, k5, k6⟩
  have hv : ∀ k, v.ownBlock = some k → ¬ (FS k ∨ FH k ∨ k = g) := fun k hk hc => by
    rcases hc with hc | hc | rfl
    · exact (h5 k hc).2.2.2 hk
    · exact (h6 k hc).2.2 hk
    · exact h7 hk
  have hlt := World.ownsRow.lt h3
  have new : ∀ k, (FS k ∨ FH k ∨ k = g) ∨ wr.heap.size ≤ k → w.heap.size ≤ k ∧ v.ownBlock ≠ some k := fun k hk => by
    rcases hk with hk | hk
    · refine ⟨?_, fun e => hv k e hk⟩
      rcases hk with hk | hk | rfl
      · exact (h5 k hk).1
      · exact (h6 k hk).1
      · exact h8
    · exact ⟨Nat.le_trans h10 hk, fun e => by have := (hlt k e).2; omega⟩
  refine ⟨rfl, FS', FH', k1, k2, h3.upd k4 hv, k3, fun k hk => ⟨(new k (k5 k hk).1).1, (k5 k hk).2.1, (k5 k hk).2.2, (new k (k5 k hk).1).2⟩, fun k hk => ⟨(new k (k6 k hk).1).1, (k6 k hk).2, (new k (k6 k hk).1).2⟩, h7, h8, ?_, Nat.le_trans h10 k4.size⟩
  exact h9.trans (k4.below (fun k hk => (new k (.inl hk)).1) h10)
theorem LIn.push {row : Rw} (h : LIn w wr ps ph g v p st rows) (ho : Own w' w.heap.size rwT 5 Rw.cells v' (rows ++ [row])) (hu : Upd (fun k => v.ownBlock = some k) wr w') (hw : v'.ownBlock = v.ownBlock ∨ v'.ownBlock = some wr.heap.size) : LIn w w' ps ph g v' p st (rows ++ [row]) := by
  obtain ⟨FS, FH, h1, h2, h3, h4, h5, h6, h7, h8, h9, h10⟩ := h
  have hlt := World.ownsRow.lt h3
  have key : ∀ k, k < wr.heap.size → v.ownBlock ≠ some k → v'.ownBlock ≠ some k := fun k hk hn e => by
    rcases hw with hw | hw
    · exact hn (hw.symm.trans e)
    · rw [hw] at e; injection e with e; omega
  refine ⟨FS, FH, h1.upd hu (fun k hk hs => (h5 k hk).2.2.2 hs), h2.upd hu (fun k hk hs => (h6 k hk).2.2 hs), ho, h4.upd hu (fun hs => h7 hs), fun k hk => ⟨(h5 k hk).1, (h5 k hk).2.1, (h5 k hk).2.2.1, key k (h1.2 k hk) (h5 k hk).2.2.2⟩, fun k hk => ⟨(h6 k hk).1, (h6 k hk).2.1, key k (h2.2 k hk) (h6 k hk).2.2⟩, key g h4.lt h7, h8, h9.trans (hu.below (fun k hk => (hlt k hk).1) h10), Nat.le_trans h10 hu.size⟩
end lin
def LRunP (p : Pol) (ticks : Int) (l : List Shp) (w : World) (e : Ending) (w' : World) : Prop := ∃ A n c, e = .returned (.tuple #[.slice A n c, .int .i64 (lchk p ticks l)]) ∧ RwsAre w' A n c (if lchk p ticks l = 0 then (lrun p (comesq l) ticks.toNat).2 else []) ∧ Below w.heap.size w w'
theorem loop_Run (p : Pol) (ticks : Int) (A : Option Addr) (len cap : Nat) (l : List Shp) (w : World) (hp : p.fit) (hs : ShpsAre w A len cap l) (hg : ∀ s ∈ l, s.good) (hn : len ≤ 1000) :
    Calls Tryz.prog 15 #[(.agg #[.int .i64 p.min, .int .i64 p.max, .int .i64 p.target, .int .i64 p.tol, .int .i64 p.window, .int .i64 p.hold]), .int .i64 ticks, .slice A len cap] w (LRunP p ticks l w) := by
  have HS := Lib.hid hs
  have HG := Lib.hid hg
  have HP := Lib.hid hp
  have D0 := Lib.hid (PL.start w p)
  have HC := Lib.hid (fun W hW => loop_Check p ticks A len cap l W hW hn)
  unfold LRunP
  clear hs hg hp
  by_cases h0 : lchk p ticks l = 0
  · obtain ⟨hk, he, ht1, ht2⟩ := lchk_ok h0
    rw [if_pos h0, h0]
    rw [h0] at HC
    clear h0
    obtain ⟨T, rfl⟩ : ∃ T : Nat, ticks = T := ⟨ticks.toNat, by omega⟩
    rw [Int.toNat_natCast]
    have HOkS := Lib.hid (errS_ok he)
    have HK := Lib.hid hk
    have hT : T ≤ 1024 := by omega
    have HLr := Lib.hid (fun k hk2 => lrun_ok hk (c := comesq l) k hk2 (fun i hi => ⟨sumS_nonneg i (errS_ok he), sumS_I64 i l⟩))
    have HBd := Lib.hid (fun W => control_Bound p 0 W)
    rw [bound_zero hk] at HBd
    clear hk he ht1 ht2
    go_enter Tryz.func15, Tryz.ntmps15
    focus (go_upto_region 4 with (first
      | (refine Blk.load rfl 23 (.tmp 3) rfl _ _ _ _ rfl D0.out.1 Tryz.underlying23 rfl (by kernel_rfl) ?_)
      | (go_at_call 17; refine (HC.out _ (slice_keep HS.out D0.out.2)).mono ?_; rintro e v1 ⟨rfl, hb1⟩; have D1 := Lib.hid (D0.out.call hb1); clear hb1)))
    refine wp_region_any (by kernel_rfl) ?_; change wpAny _ _ _ _ _ _ _ (World.drew v1); refine any_of_anyG (late := fun _ => false) (S := fun wS => Below v1.heap.size v1 wS) _ _ _ _ ?_
    have S0 := (Below.refl v1.heap.size v1).drew
    refine anyG_takes (is := [0, 3]) (vs := [_, _]) (m := 6) (listed2 := #[true, false, false, true, false, false, false, false]) (a2 := ⟨#[_, _, _, _, _, _, _, _, _, _, _, _, _, _, _, _, _, _, _, _, _, _, _, _, _, _, _, _, _, _, _, _, _, _, _, _, _, _, _, _, _], _⟩) (by kernel_rfl) (fun j hj => by simp at hj) (by kernel_rfl) (fun _ _ _ _ _ h => h) (Ys.cons rfl (Or.inl ⟨by rfl, fun W1 hW1 => exec_load (ty := 23) (x := .tmp 3) rfl rfl (run_loadAt_blk _ _ _ _ _ _ (D1.out.1.call hW1) Tryz.underlying23 rfl (by first | kernel_rfl | exact info_num _))⟩) (Ys.cons rfl (Or.inl ⟨by rfl, fun W1 hW1 => exec_load (ty := 23) (x := .tmp 3) rfl rfl (run_loadAt_blk _ _ _ _ _ _ (D1.out.1.call hW1) Tryz.underlying23 rfl (by first | kernel_rfl | exact info_num _))⟩) (Ys.nil))) (S0) (by rfl) (by rfl) ?_
    refine anyG_one (k := 1) (by kernel_rfl) rfl (by rfl) (fun Q2 hQ2 => ?_); go_wp2_with (go_at_call 41; refine (serv_New 64 _).mono ?_; rintro e v2 ⟨ps, FS, rfl, k1, k2, k3⟩); refine hQ2 _ _ (fun _ => S0.trans (k3.mono S0.size)) ?_; clear hQ2 Q2
    have S2 := S0.trans (k3.mono S0.size)
    refine anyG_one (k := 2) (by kernel_rfl) rfl (by rfl) (fun Q2 hQ2 => ?_); go_wp2_with (go_at_call 42; refine (history_New 16 _ (by unfold I64; omega)).mono ?_; rintro e v3 ⟨ph, FH, rfl, j1, j2, j3⟩); refine hQ2 _ _ (fun _ => S2.trans (j3.mono S2.size)) ?_; clear hQ2 Q2
    have S3 := S2.trans (j3.mono S2.size)
    refine anyG_one (k := 4) (by kernel_rfl) rfl (by rfl) (fun Q2 hQ2 => ?_); go_wp2_with (go_at_call 43; refine (HBd.out _).mono ?_; rintro e v4 ⟨rfl, hb4⟩); refine hQ2 _ _ (fun _ => S3.trans (hb4.mono S3.size)) ?_; clear hQ2 Q2
    have S4 := S3.trans (hb4.mono S3.size)
    refine anyG_takes (is := [5]) (vs := [_]) (m := 2) (listed2 := #[true, true, true, true, true, true, false, false]) (a2 := ⟨#[_, _, _, _, _, _, _, _, _, _, _, _, _, _, _, _, _, _, _, _, _, _, _, _, _, _, _, _, _, _, _, _, _, _, _, _, _, _, _, _, _], _⟩) (by kernel_rfl) (fun j hj => by simp at hj) (by kernel_rfl) (fun _ _ _ _ _ h => h) (Ys.cons rfl (Or.inl ⟨by rfl, fun W1 hW1 => by first | rfl | (go_simp; done) | (go_simp; with_reducible rfl)⟩) (Ys.nil)) (S4) (by rfl) (by rfl) ?_
    refine anyG_one (k := 6) (by kernel_rfl) rfl (by rfl) (fun Q2 hQ2 => ?_); go_wp2_with (fail); refine hQ2 _ _ (fun _ => (S4).alloc (Below.size (S4)) (.cells (strow p ps ph p.min 0) stT)) ?_; clear hQ2 Q2
    have S6 := (S4).alloc (Below.size (S4)) (.cells (strow p ps ph p.min 0) stT)
    refine anyG_takes (is := [7]) (vs := [.pointer (some ⟨v4.heap.size, 0, none⟩)]) (m := 0) (listed2 := #[true, true, true, true, true, true, true, true]) (a2 := ⟨#[_, _, _, _, _, _, _, _, _, _, _, _, _, _, _, _, _, _, _, _, _, _, _, _, _, _, _, _, _, _, _, _, _, _, _, _, _, _, _, _, _], _⟩) (by kernel_rfl) (fun j hj => by simp at hj) (by kernel_rfl) (fun _ _ _ _ _ h => h) (Ys.cons rfl (Or.inl ⟨by rfl, fun W1 hW1 => by rfl⟩) (Ys.nil)) (S6) (by rfl) (by rfl) ?_
    refine anyG_done (by kernel_rfl) ?_ _
    have B5 := hb4.trans ((Below.refl v4.heap.size v4).alloc (Nat.le_refl _) (.cells (strow p ps ph p.min 0) stT) |>.mono hb4.size)
    have z1 := D1.out.2.size
    have z2 := k3.size
    have z3 := j3.size
    have z4 := hb4.size
    have LI0 := Lib.hid (show LIn w (v4.alloc (.cells (strow p ps ph p.min 0) stT)) ps ph v4.heap.size (.slice none 0 0) p (lst0 p) [] from by
      have w1 : w.heap.size ≤ v1.heap.size := z1
      have w2 : v1.heap.size ≤ v2.heap.size := z2
      have w3 : v2.heap.size ≤ v3.heap.size := z3
      have w4 : v3.heap.size ≤ v4.heap.size := z4
      refine ⟨FS, FH, (k1.call j3).call B5, j1.call B5, Own.nil _ _ _ _ _, Blk.new _ _ _, fun k hk => ?_, fun k hk => ?_, by simp [Value.ownBlock], by omega, D1.out.2.trans (Below.mono (S6) z1), by simp; omega⟩
      · have h1 : v1.heap.size ≤ k := k2 k hk
        have h2 := k1.2 k hk
        exact ⟨by omega, fun hf => (by have := j2 k hf; omega), by omega, by simp [Value.ownBlock]⟩
      · have h1 := j2 k hk
        have h2 := j1.2 k hk
        exact ⟨by omega, by omega, by simp [Value.ownBlock]⟩)
    clear k1 k2 k3 j1 j2 j3 hb4 B5 z1 z2 z3 z4
    generalize v4.alloc (.cells (strow p ps ph p.min 0) stT) = W5 at *
    generalize v4.heap.size = g at *
    go_wp2
    go_loopw [10, 27] (fun v i wr => ∃ k : Nat, ∃ A1 n1 c1, k ≤ T ∧ i = .int .i64 k ∧ v = .slice A1 n1 c1 ∧ LIn w wr ps ph g (.slice A1 n1 c1) p (lrun p (comesq l) k).1 (lrun p (comesq l) k).2) (fun _ i _ => T - (intOf i).toNat)
    case atStart => exact ⟨0, none, 0, 0, Nat.zero_le _, rfl, rfl, LI0.out⟩
    case round =>
      obtain ⟨k, A1, n1, c1, hk, rfl, rfl, hin⟩ := hrel
      have HI := Lib.hid hin
      clear hin LI0
      by_cases hlt : k < T
      · have HLk := Lib.hid (HLr.out k (by omega))
        have HLn := Lib.hid (lrun_len p (comesq l) k)
        have HN := Lib.hid (show lrun p (comesq l) (k + 1) = (lstep p (lrun p (comesq l) k).1 k (comesq l k), (lrun p (comesq l) k).2 ++ [lrow p (lrun p (comesq l) k).1 k (comesq l k)]) from rfl)
        have HSum := Lib.hid (fun W hW => (show Calls Tryz.prog 18 #[.int .i64 k, .slice A len cap] W (fun e w' => e = .returned (.int .i64 (comesq l k)) ∧ Below W.heap.size W w') from shape_Sum k A len cap l W hW HG.out (by unfold I64; omega) hn))
        have HC0 := Lib.hid (show 0 ≤ comesq l k from sumS_nonneg k HOkS.out)
        have HC1 := Lib.hid (show I64 (comesq l k) from sumS_I64 k l)
        generalize lrun p (comesq l) k = LR at *
        obtain ⟨st, rows⟩ := LR
        generalize comesq l k = cm at *
        dsimp only at HI HLk HLn HN
        have HLr2 := Lib.hid (show rows.length < 1000000 by rw [HLn.out]; omega)
        have hki : (k : Int) < (T : Int) := by omega
        go_wp2_with (first
          | (go_at_call 18; refine (HSum.out _ (slice_keep HS.out HI.out.bel)).mono ?_; rintro e v6 ⟨rfl, hb6⟩; have I6 := Lib.hid (HI.out.call hb6); clear hb6)
          | (go_at_call 44; obtain ⟨FS2, FH2, s1, s2, s3, s4, s5, s6⟩ := I6.out.tick; refine (loop_tick p ps ph g FS2 FH2 st k cm k _ HP.out HK.out HLk.out (by omega) (by unfold I64; omega) HC0.out HC1.out s1 s2 s3 s4 s5).mono ?_; intro e v7 hp; obtain ⟨rfl, hI7⟩ := s6 _ _ _ _ hp; have I7 := Lib.hid hI7; clear hp hI7 s1 s2 s3 s4 s5 s6)
          | (at_builtin; refine wpList_push2 _ rfl (.tmp 30) (.tmp 37) 41 rfl w.heap.size 51 _ 5 40 _ Tryz.underlying41 info_lrow (by rfl) (by decide) (fun _ => rfl) rw_one (.slice A1 n1 c1) rows rfl (I7.out.own.alloc _) ⟨_, 0, none⟩ 1 (lrow p st k cm) rfl (blk_news (α := Rw) (vs := (lrow p st k cm).cells) (Blk.new _ _ _) rfl) HLr2.out (by decide) (by have := I7.out.bel.size; simp; omega) ?_; intro v' w8 ho8 hu8 hw8; obtain ⟨A8, n8, c8, rfl, -, -⟩ := ho8.shape rw_len; have I8 := Lib.hid (LIn.push (I7.out.call (by go_grown)) ho8 hu8 hw8); clear ho8 hu8 hw8))
        go_roundw
        case rel => exact ⟨k + 1, A8, n8, c8, by omega, by go_num, rfl, by rw [HN.out]; exact I8.out⟩
        case measure => simp [intOf]; omega
      · obtain rfl : k = T := by omega
        go_wp2
        go_ret2
        exact ⟨A1, n1, c1, rfl, HI.out.own.is rw_len, HI.out.bel⟩
  · rw [if_neg h0]
    generalize lchk p ticks l = E at *
    have dE : (E == 0) = false := by simpa using h0
    have dE2 : (E != 0) = true := by simpa using h0
    clear h0
    go_enter Tryz.func15, Tryz.ntmps15
    go_wp2_with (first
      | (refine Blk.load rfl 23 (.tmp 3) rfl _ _ _ _ rfl D0.out.1 Tryz.underlying23 rfl (by kernel_rfl) ?_)
      | (go_at_call 17; refine (HC.out _ (slice_keep HS.out D0.out.2)).mono ?_; rintro e v1 ⟨rfl, hb1⟩; have D1 := Lib.hid (D0.out.call hb1); clear hb1))
    go_ret2
    exact ⟨none, 0, 0, rfl, slice_nil _ _ _, D1.out.2⟩
end Go.Proofs.YtjodpffdlggjgaaGreat
/- Chapter 55: awake. -/
namespace Go.Proofs.YtjodpffdlggjgaaGreat
open Go.RowKit
set_option linter.unusedSimpArgs false
set_option linter.unusedVariables false
set_option maxHeartbeats 4000000
set_option maxRecDepth 100000
def p55 : Pol := ⟨1, 10, 100, 100, 5, 3⟩
def l55 : List Shp := [⟨1, 250, 250, 1, 0⟩]
def rwq (r : Rw) : List Int := [r.tick, r.comes, r.repl, r.serves, r.left]
theorem run55 : ((lrun p55 (comesq l55) 2).2.map rwq) = [[0, 250, 1, 100, 150], [1, 250, 3, 300, 100]] := by decide +kernel
theorem rows55 : (lrun p55 (comesq l55) 2).2 = [⟨0, 250, 1, 100, 150⟩, ⟨1, 250, 3, 300, 100⟩] := by
  have h := run55
  generalize (lrun p55 (comesq l55) 2).2 = R at *
  rcases R with _ | ⟨⟨a1, a2, a3, a4, a5⟩, _ | ⟨⟨b1, b2, b3, b4, b5⟩, _ | ⟨c, R⟩⟩⟩
  · simp at h
  · simp at h
  · simp [rwq] at h
    obtain ⟨⟨rfl, rfl, rfl, rfl, rfl⟩, rfl, rfl, rfl, rfl, rfl⟩ := h
    rfl
  · simp at h
theorem chk55 : lchk p55 2 l55 = 0 := by decide +kernel
theorem usual55 (w : World) : Calls Tryz.prog 40 #[] w fun e w' => e = .returned (.agg #[.int .i64 1, .int .i64 10, .int .i64 100, .int .i64 100, .int .i64 5, .int .i64 3]) ∧ Below w.heap.size w w' := by
  go_enter Tryz.func40, Tryz.ntmps40
  go_wp2
  go_returns
  exact ⟨rfl, by go_grown⟩
theorem awake55 (w : World) : Calls Tryz.prog 13 #[] w fun e w' => e = .returned (.bool true) ∧ Below w.heap.size w w' := by
  have HRn := Lib.hid (fun A c W hW => loop_Run p55 2 A 1 c l55 W (by unfold Pol.fit p55 I64; simp) hW (fun x hx => by
    simp only [l55, List.mem_cons, List.not_mem_nil, or_false] at hx
    subst hx; unfold Shp.good I64; simp) (by omega))
  unfold LRunP at HRn
  rw [chk55] at HRn
  have HR2 := Lib.hid (show (if (0 : Int) = 0 then (lrun p55 (comesq l55) (2 : Int).toNat).2 else []) = [⟨0, 250, 1, 100, 150⟩, ⟨1, 250, 3, 300, 100⟩] from by rw [if_pos rfl]; exact rows55)
  rw [HR2.out] at HRn
  clear HR2
  go_enter Tryz.func13, Tryz.ntmps13
  go_wp2_with fail
  refine (usual55 _).mono ?_
  rintro e v1 ⟨rfl, hb1⟩
  have E1 := Lib.hid (hb1.trans ((Below.refl v1.heap.size v1).alloc (Nat.le_refl _) (.cells #[.int .i64 1, .int .i64 250, .int .i64 250, .int .i64 1, .int .i64 0] 82) |>.mono hb1.size))
  have HL := Lib.hid (show ShpsAre (v1.alloc (.cells #[.int .i64 1, .int .i64 250, .int .i64 250, .int .i64 1, .int .i64 0] 82)) (some ⟨v1.heap.size, 0, none⟩) 1 1 l55 from slice_blk (l := l55) (fun _ => rfl) (Blk.new v1 _ _) rfl (by decide))
  clear hb1
  go_wp2_with fail
  refine (HRn.out _ _ _ HL.out).mono ?_
  rintro e v2 ⟨A2, n2, c2, rfl, hs2, hb2⟩
  have E2 := Lib.hid (E1.out.trans (hb2.mono E1.out.size))
  obtain rfl : n2 = 2 := hs2.1.symm
  obtain ⟨b, off, x, rfl, hx, hbb, t0⟩ := SliceIs.at_ hs2 (show 0 < 2 by omega)
  obtain ⟨b2, off2, y, hab, hy, hbb2, s0⟩ := SliceIs.at_ hs2 (show 1 < 2 by omega)
  cases hab
  simp only [List.getElem?_cons_zero, Option.some.injEq, List.getElem?_cons_succ] at hx hy
  subst hx hy
  have d4 := t0 4 _ rfl
  have e2 := s0 2 _ rfl
  have e3 := s0 3 _ rfl
  simp only [Nat.zero_mul, Nat.zero_add, Nat.one_mul] at d4 e2 e3
  have hc := hs2.2.1
  have hcm : c2 ≤ 9223372036854775807 := by have := hs2.2.2.1; unfold maxLen at this; omega
  clear hs2 t0 s0 hb2
  go_wp2
  go_ret
  exact ⟨rfl, E2.out⟩
end Go.Proofs.YtjodpffdlggjgaaGreat
/- flywheelref16.Of: the walk. -/
namespace Go.Proofs.YtjodpffdlggjgaaGreat
open Go.RowKit
set_option linter.unusedSimpArgs false
set_option linter.unusedVariables false
set_option maxHeartbeats 8000000
set_option maxRecDepth 100000
theorem ref16_Of (p : Pol) (A : Option Addr) (len cap : Nat) (l : List Smp) (B : Option Addr) (len2 cap2 : Nat) (past : List Adv) (w : World) (hp : p.fit) (hs : SmpsAre w A len cap l) (hg : ∀ x ∈ l, x.good) (hn : len ≤ 200) (hs2 : AdvsAre w B len2 cap2 past) (hn2 : len2 ≤ 1000) :
    Calls Tryz.prog 38 #[(.agg #[.int .i64 p.min, .int .i64 p.max, .int .i64 p.target, .int .i64 p.tol, .int .i64 p.window, .int .i64 p.hold]), .slice A len cap, .slice B len2 cap2] w fun e w' => e = .returned (.tuple #[.agg (ofq p l past).cells.toArray, .int .i64 (ofe p l)]) ∧ Below w.heap.size w w' := by
  have HS := Lib.hid hs
  have HS2 := Lib.hid hs2
  have HL := Lib.hid hs.1
  have HG := Lib.hid hg
  have HP := Lib.hid hp
  have HT := latestq_I64 hg
  have D0 := Lib.hid (DI.start w p)
  clear hs hs2 hg hp
  by_cases hk : p.okP
  · have HC := Lib.hid (fun W => ref_Right p W)
    rw [polOk_true hk] at HC
    by_cases h0 : len = 0
    · have HQ := Lib.hid (ofq_nil (past := past) hk (show l.length = 0 by rw [HL.out]; exact h0))
      have d0 : ((len : Int) == 0) = true := by simp; omega
      clear hk h0
      go_enter Tryz.func38, Tryz.ntmps38
      go_wp2_with fail
      refine (HC.out _).mono ?_
      rintro e v1 ⟨rfl, hb1⟩
      have D1 := Lib.hid (D0.out.call hb1)
      clear hb1
      go_wp2_with (refine wpList_store_row rfl 68 (.tmp 6) (.tmp 23) rfl (w.heap.size + 1) _ _ _ rfl rfl D1.out.2.1 (by rfl) (by kernel_rfl) (by simp [Value.oneCell']) ?_; intro w9 hb9 hg9)
      refine bodyPost_ret (results_row_tmp rfl _ _ (w.heap.size + 1) _ _ _ rfl hb9 Tryz.underlying68 rfl (by kernel_rfl)) rfl ⟨by rw [HQ.out.1, HQ.out.2]; rfl, D1.out.2.2.trans (Only.below hg9 (by omega) D1.out.2.2.size)⟩
    · have HQ := Lib.hid (ofq_ok (past := past) hk (show l.length ≠ 0 by rw [HL.out]; exact h0))
      have d0 : ((len : Int) == 0) = false := by simp; omega
      have h1 : 1 ≤ len := by omega
      have HDq := Lib.hid (show decq p l past = (let tick := latestq l; let load := meanq (valq (cutq l (fromq tick p.window) tick)); let now := nowq p past; let op := openq p load now; let want := boundq p op; let th := boundq p (steadyq p tick want past).1; (⟨tick, load, want, th, whyq p (steadyq p tick want past).2 op now th⟩ : Adv)) from rfl)
      have HLa := Lib.hid (fun W hW => ref16_Latest A len cap l W hW h1 (by omega))
      have hMI : I64 (meanq (valq (cutq l (fromq (latestq l) p.window) (latestq l)))) := by
        have := mean_least (l := valq (cutq l (fromq (latestq l) p.window) (latestq l))) (fun x hx => by have := valq_bd (cutq_good HG.out _ _) x hx; unfold I64; omega) (fun x hx => (valq_bd (cutq_good HG.out _ _) x hx).1) 0
        unfold I64; omega
      dsimp only at HDq
      generalize latestq l = T at *
      have HFr := Lib.hid (fun W => ref09_From T p.window W HT HP.out.2.2.2.2.1)
      have HCu := Lib.hid (fun W hW => ref09_Cut A len cap l (fromq T p.window) T W hW (by omega))
      have HMe := Lib.hid (fun W A n c hW hn => ref16_Mean A n c (cutq l (fromq T p.window) T) W hW (cutq_good HG.out _ _) hn)
      have HCl := Lib.hid (show (cutq l (fromq T p.window) T).length ≤ 200 by have := cutq_len l (fromq T p.window) T; have := HL.out; omega)
      generalize fromq T p.window = FR at *
      generalize meanq (valq (cutq l FR T)) = LD at *
      have HNo := Lib.hid (fun W hW => ref16_Now p B len2 cap2 past W hW hn2)
      generalize nowq p past = NW at *
      have HOp := Lib.hid (fun W => ref_Open p LD NW W HP.out hMI)
      generalize openq p LD NW = OP at *
      have HB1 := Lib.hid (fun W => ref_Bound p OP W)
      generalize boundq p OP = WT at *
      have HSt := Lib.hid (fun W hW => ref15_Of p T WT B len2 cap2 past W HP.out hW hn2 HT)
      generalize steadyq p T WT past = SQ at *
      obtain ⟨sn, sh⟩ := SQ
      dsimp only at HSt HDq
      have HBo := Lib.hid (fun W => ref_Bound p sn W)
      generalize boundq p sn = TH at *
      have HWh := Lib.hid (fun W => ref16_Why p sh OP NW TH W)
      generalize whyq p sh OP NW TH = WY at *
      clear h0 hk HT hMI
      go_enter Tryz.func38, Tryz.ntmps38
      go_wp2_with fail
      refine (HC.out _).mono ?_
      rintro e v1 ⟨rfl, hb1⟩
      have D1 := Lib.hid (D0.out.call hb1)
      clear hb1
      have c4 := D1.out.1.cellv (i := 4) (v := .int .i64 p.window) rfl
      go_wp2_with fail
      refine (HLa.out _ (slice_keep HS.out D1.out.2.2)).mono ?_
      rintro e v2 ⟨rfl, rfl⟩
      go_wp2_with fail
      refine (HFr.out _).mono ?_
      rintro e v2 ⟨rfl, rfl⟩
      clear c4
      go_wp2_with fail
      refine (HCu.out _ (slice_keep HS.out D1.out.2.2)).mono ?_
      rintro e v2 ⟨x2, rfl, ho, hb2⟩
      obtain ⟨A2, n2, c2, rfl, hn2', hsl2⟩ := ho.shape (fun _ => rfl)
      have hn2b : n2 ≤ 200 := by rw [hn2']; exact HCl.out
      have S2 := Lib.hid hsl2
      have D2 := Lib.hid (D1.out.call hb2)
      clear ho hsl2 hb2 hn2'
      go_wp2_with fail
      refine (HMe.out _ A2 n2 c2 S2.out hn2b).mono ?_
      rintro e v3 ⟨rfl, hb3⟩
      have D3 := Lib.hid (D2.out.call hb3)
      clear hb3
      go_wp2_with (refine Blk.load rfl 23 (.tmp 3) rfl w.heap.size _ _ _ rfl D3.out.1 Tryz.underlying23 rfl (by kernel_rfl) ?_)
      refine (HNo.out _ (slice_keep HS2.out D3.out.2.2)).mono ?_
      rintro e v4 ⟨rfl, hb4⟩
      have D4 := Lib.hid (D3.out.call hb4)
      clear hb4
      go_wp2_with (refine Blk.load rfl 23 (.tmp 3) rfl w.heap.size _ _ _ rfl D4.out.1 Tryz.underlying23 rfl (by kernel_rfl) ?_)
      refine (HOp.out _).mono ?_
      rintro e v5 ⟨rfl, hb5⟩
      have D5 := Lib.hid (D4.out.call hb5)
      clear hb5
      go_wp2_with (refine Blk.load rfl 23 (.tmp 3) rfl w.heap.size _ _ _ rfl D5.out.1 Tryz.underlying23 rfl (by kernel_rfl) ?_)
      refine (HB1.out _).mono ?_
      rintro e v6 ⟨rfl, hb6⟩
      have D6 := Lib.hid (D5.out.call hb6)
      clear hb6
      go_wp2_with (refine Blk.load rfl 23 (.tmp 3) rfl w.heap.size _ _ _ rfl D6.out.1 Tryz.underlying23 rfl (by kernel_rfl) ?_)
      refine (HSt.out _ (slice_keep HS2.out D6.out.2.2)).mono ?_
      rintro e v7 ⟨rfl, hb7⟩
      have D7 := Lib.hid (D6.out.call hb7)
      clear hb7
      go_wp2_with (refine Blk.load rfl 23 (.tmp 3) rfl w.heap.size _ _ _ rfl D7.out.1 Tryz.underlying23 rfl (by kernel_rfl) ?_)
      refine (HBo.out _).mono ?_
      rintro e v8 ⟨rfl, hb8⟩
      have D8 := Lib.hid (D7.out.call hb8)
      clear hb8
      go_wp2_with (refine Blk.load rfl 23 (.tmp 3) rfl w.heap.size _ _ _ rfl D8.out.1 Tryz.underlying23 rfl (by kernel_rfl) ?_)
      refine (HWh.out _).mono ?_
      rintro e v9 ⟨rfl, hb9⟩
      have D9 := Lib.hid (D8.out.call hb9)
      clear hb9
      go_wp2_with (refine wpList_store_row rfl 68 (.tmp 6) (.tmp 65) rfl (w.heap.size + 1) _ _ _ rfl rfl D9.out.2.1 (by rfl) (by kernel_rfl) (by simp [Value.oneCell']) ?_; intro w9 hb9 hg9)
      refine bodyPost_ret (results_row_tmp rfl _ _ (w.heap.size + 1) _ _ _ rfl hb9 Tryz.underlying68 rfl (by kernel_rfl)) rfl ⟨by rw [HQ.out.1, HQ.out.2, HDq.out]; rfl, D9.out.2.2.trans (Only.below hg9 (by omega) D9.out.2.2.size)⟩
  · have HC := Lib.hid (fun W => ref_Right p W)
    rw [polOk_false hk] at HC
    have HQ := Lib.hid (ofq_no (l := l) (past := past) hk)
    clear hk HT
    go_enter Tryz.func38, Tryz.ntmps38
    go_wp2_with fail
    refine (HC.out _).mono ?_
    rintro e v1 ⟨rfl, hb1⟩
    have D1 := Lib.hid (D0.out.call hb1)
    clear hb1
    go_wp2_with (refine wpList_store_row rfl 68 (.tmp 6) (.tmp 19) rfl (w.heap.size + 1) _ _ _ rfl rfl D1.out.2.1 (by rfl) (by kernel_rfl) (by simp [Value.oneCell']) ?_; intro w9 hb9 hg9)
    refine bodyPost_ret (results_row_tmp rfl _ _ (w.heap.size + 1) _ _ _ rfl hb9 Tryz.underlying68 rfl (by kernel_rfl)) rfl ⟨by rw [HQ.out.1, HQ.out.2]; rfl, D1.out.2.2.trans (Only.below hg9 (by omega) D1.out.2.2.size)⟩
end Go.Proofs.YtjodpffdlggjgaaGreat
/- flywheelref55.Run: the walk. -/
namespace Go.Proofs.YtjodpffdlggjgaaGreat
open Go.RowKit
set_option linter.unusedSimpArgs false
set_option linter.unusedVariables false
set_option maxHeartbeats 8000000
set_option maxRecDepth 100000
abbrev rrT : TypeId := 52
def RefL (w1 wr : World) (A3 : Option Addr) (n3 c3 : Nat) (A4 : Option Addr) (n4 c4 : Nat) (v : Value) (smps : List Smp) (past : List Adv) (rows : List Rw) : Prop :=
  SmpsAre wr A3 n3 c3 smps ∧ AdvsAre wr A4 n4 c4 past ∧ Own wr w1.heap.size rrT 5 Rw.cells v rows ∧ (∀ a, A3 = some a → a.block < wr.heap.size ∧ v.ownBlock ≠ some a.block) ∧ (∀ a, A4 = some a → a.block < wr.heap.size ∧ v.ownBlock ≠ some a.block) ∧ Below w1.heap.size w1 wr ∧ w1.heap.size ≤ wr.heap.size
theorem RefL.start (w : World) : RefL w w none 0 0 none 0 0 (.slice none 0 0) [] [] [] :=
  ⟨slice_nil _ _ _, slice_nil _ _ _, Own.nil _ _ _ _ _, fun a ha => (by cases ha), fun a ha => (by cases ha), Below.refl _ _, Nat.le_refl _⟩
section refl
variable {w1 wr w' : World} {A3 A4 A : Option Addr} {n3 c3 n4 c4 n c : Nat} {v v' : Value} {smps l : List Smp} {past m : List Adv} {rows : List Rw}
theorem RefL.call (h : RefL w1 wr A3 n3 c3 A4 n4 c4 v smps past rows) (hb : Below wr.heap.size wr w') : RefL w1 w' A3 n3 c3 A4 n4 c4 v smps past rows := by
  obtain ⟨h1, h2, h3, h4, h5, h6, h7⟩ := h
  exact ⟨slice_keep h1 hb, slice_keep h2 hb, h3.call hb, fun a ha => ⟨Nat.lt_of_lt_of_le (h4 a ha).1 hb.size, (h4 a ha).2⟩, fun a ha => ⟨Nat.lt_of_lt_of_le (h5 a ha).1 hb.size, (h5 a ha).2⟩, h6.trans (hb.mono h7), Nat.le_trans h7 hb.size⟩
theorem RefL.toS (h : RefL w1 wr A3 n3 c3 A4 n4 c4 v smps past rows) (hs : SmpsAre w' A n c l) (hb : Below wr.heap.size wr w') (hf : ∀ a, A = some a → wr.heap.size ≤ a.block ∧ a.block < w'.heap.size) : RefL w1 w' A n c A4 n4 c4 v l past rows := by
  obtain ⟨h1, h2, h3, h4, h5, h6, h7⟩ := h.call hb
  refine ⟨hs, h2, h3, fun a ha => ⟨(hf a ha).2, fun e => ?_⟩, h5, h6, h7⟩
  have := (World.ownsRow.lt h.2.2.1 _ e).2
  have := (hf a ha).1
  omega
theorem RefL.toA (h : RefL w1 wr A3 n3 c3 A4 n4 c4 v smps past rows) (hs : AdvsAre w' A n c m) (hb : Below wr.heap.size wr w') (hf : ∀ a, A = some a → wr.heap.size ≤ a.block ∧ a.block < w'.heap.size) : RefL w1 w' A3 n3 c3 A n c v smps m rows := by
  obtain ⟨h1, h2, h3, h4, h5, h6, h7⟩ := h.call hb
  refine ⟨h1, hs, h3, h4, fun a ha => ⟨(hf a ha).2, fun e => ?_⟩, h6, h7⟩
  have := (World.ownsRow.lt h.2.2.1 _ e).2
  have := (hf a ha).1
  omega
theorem RefL.push {row : Rw} (h : RefL w1 wr A3 n3 c3 A4 n4 c4 v smps past rows) (ho : Own w' w1.heap.size rrT 5 Rw.cells v' (rows ++ [row])) (hu : Upd (fun k => v.ownBlock = some k) wr w') (hw : v'.ownBlock = v.ownBlock ∨ v'.ownBlock = some wr.heap.size) : RefL w1 w' A3 n3 c3 A4 n4 c4 v' smps past (rows ++ [row]) := by
  obtain ⟨h1, h2, h3, h4, h5, h6, h7⟩ := h
  have hlt := World.ownsRow.lt h3
  have key : ∀ a : Addr, a.block < wr.heap.size → v.ownBlock ≠ some a.block → v'.ownBlock ≠ some a.block := fun a ha hn e => by
    rcases hw with hw | hw
    · exact hn (hw.symm.trans e)
    · rw [hw] at e; injection e with e; omega
  exact ⟨slice_upd h1 hu (fun a ha => (h4 a ha).2), slice_upd h2 hu (fun a ha => (h5 a ha).2), ho, fun a ha => ⟨Nat.lt_of_lt_of_le (h4 a ha).1 hu.size, key a (h4 a ha).1 (h4 a ha).2⟩, fun a ha => ⟨Nat.lt_of_lt_of_le (h5 a ha).1 hu.size, key a (h5 a ha).1 (h5 a ha).2⟩, h6.trans (hu.below (fun k hk => (hlt k hk).1) h7), Nat.le_trans h7 hu.size⟩
end refl
def listq (cs : List Int) (i : Nat) : Int := cs.getD i 0
theorem listq_eq {cs : List Int} {k : Nat} {x : Int} (h : cs[k]? = some x) : listq cs k = x := by
  unfold listq; rw [List.getD_eq_getElem?_getD, h]; rfl
theorem lrun_congr (p : Pol) {c d : Nat → Int} : ∀ k, (∀ i, i < k → c i = d i) → lrun p c k = lrun p d k
  | 0, _ => rfl
  | k + 1, h => by
    show (lstep p (lrun p c k).1 k (c k), (lrun p c k).2 ++ [lrow p (lrun p c k).1 k (c k)]) = (lstep p (lrun p d k).1 k (d k), (lrun p d k).2 ++ [lrow p (lrun p d k).1 k (d k)])
    rw [lrun_congr p k (fun i hi => h i (by omega)), h k (by omega)]
def RRunP (p : Pol) (cs : List Int) (w : World) (e : Ending) (w' : World) : Prop := ∃ A n c, e = .returned (.slice A n c) ∧ RwsAre w' A n c (lrun p (listq cs) cs.length).2 ∧ Below w.heap.size w w'
theorem ref55_Run (p : Pol) (A : Option Addr) (len cap : Nat) (cs : List Int) (w : World) (hp : p.fit) (hk : p.okP) (hs : IntsAre w A len cap cs) (hc : ∀ x ∈ cs, 0 ≤ x ∧ I64 x) (hn : len ≤ 1024) :
    Calls Tryz.prog 19 #[(.agg #[.int .i64 p.min, .int .i64 p.max, .int .i64 p.target, .int .i64 p.tol, .int .i64 p.window, .int .i64 p.hold]), .slice A len cap] w (RRunP p cs w) := by
  have HS := Lib.hid hs
  have HL := Lib.hid hs.1
  have HP := Lib.hid hp
  have HK := Lib.hid hk
  have HCs := Lib.hid hc
  have hcl : ∀ i, i < len → 0 ≤ listq cs i ∧ I64 (listq cs i) := fun i hi => by
    have e : cs[i]? = some (cs[i]'(by have := hs.1; omega)) := List.getElem?_eq_getElem _
    have h9 := hc _ (List.mem_of_getElem? e)
    rw [← listq_eq e] at h9
    exact h9
  have HLr := Lib.hid (show ∀ k, k ≤ len → LOk p k (lrun p (listq cs) k).1 from fun k hk2 => lrun_ok hk (c := listq cs) k (by omega) (fun i hi => hcl i (by omega)))
  clear hcl
  obtain ⟨w1, hw1⟩ : ∃ w1, w1 = w.alloc (.cells #[.int .i64 p.min, .int .i64 p.max, .int .i64 p.target, .int .i64 p.tol, .int .i64 p.window, .int .i64 p.hold] 23) := ⟨_, rfl⟩
  have B1 := Lib.hid (show Blk w1 w.heap.size 23 p.row by rw [hw1]; exact Blk.new _ _ _)
  have E1 := Lib.hid (show Below w.heap.size w w1 by rw [hw1]; go_grown)
  clear hs hp hk hc
  go_enter Tryz.func19, Tryz.ntmps19
  go_upto_region 4 with (fail)
  rw [← hw1]
  clear hw1
  have c0 := B1.out.cellv (i := 0) (v := .int .i64 p.min) rfl
  go_wp2
  clear c0
  go_loopw [5, 6, 7, 8, 9, 10] (fun s5 s6 s7 s8 s9 s10 wr => ∃ k : Nat, ∃ A3 n3 c3 A4 n4 c4 A5 n5 c5, k ≤ len ∧ s10 = .int .i64 k ∧ s5 = .slice A5 n5 c5 ∧ s6 = .slice A3 n3 c3 ∧ s7 = .slice A4 n4 c4 ∧ s8 = .int .i64 (lrun p (listq cs) k).1.repl ∧ s9 = .int .i64 (lrun p (listq cs) k).1.left ∧ RefL w1 wr A3 n3 c3 A4 n4 c4 (.slice A5 n5 c5) (lrun p (listq cs) k).1.smps (lrun p (listq cs) k).1.past (lrun p (listq cs) k).2) (fun _ _ _ _ _ i _ => len - (intOf i).toNat)
  case atStart => exact ⟨0, none, 0, 0, none, 0, 0, none, 0, 0, Nat.zero_le _, rfl, rfl, rfl, rfl, rfl, rfl, RefL.start w1⟩
  case round =>
    obtain ⟨k, A3, n3, c3, A4, n4, c4, A5, n5, c5, hk, rfl, rfl, rfl, rfl, rfl, rfl, hin⟩ := hrel
    have HI := Lib.hid hin
    clear hin
    by_cases hlt : k < len
    · obtain ⟨b, off, x, rfl, hx, hb, t0⟩ := IntsAre.at_ HS.out hlt
      have HBw := Lib.hid (E1.out.trans (HI.out.2.2.2.2.2.1.mono E1.out.size))
      have kt0 := (HBw.out.cell (p := ⟨b, off + k, none⟩) hb).trans t0
      have hki : (k : Int) < (len : Int) := by omega
      have HX := HCs.out x (List.mem_of_getElem? hx)
      have ho := HLr.out k hk
      have HLn := Lib.hid (lrun_len p (listq cs) k)
      have HN := Lib.hid (show lrun p (listq cs) (k + 1) = (lstep p (lrun p (listq cs) k).1 k x, (lrun p (listq cs) k).2 ++ [lrow p (lrun p (listq cs) k).1 k x]) by rw [← listq_eq hx]; rfl)
      generalize lrun p (listq cs) k = LR at *
      obtain ⟨st, rows⟩ := LR
      dsimp only at HI ho HLn HN ⊢
      have HOk2 := ho.next HK.out (at_ := k) (by omega) (by unfold I64; omega) HX.1 HX.2
      obtain ⟨b1, b2, b3, b4⟩ := lrow_bd HK.out ho HX.1 HX.2
      have HGd := Lib.hid (show ∀ y ∈ lsmps st k x, y.good from HOk2.good)
      have HLs := Lib.hid (show (lsmps st k x).length ≤ 64 from HOk2.len)
      have e3 := lofe HK.out st k x
      have HRow := Lib.hid (show lrow p st k x = ⟨k, x, st.repl, min (satq (st.left + x)) (satq (st.repl * p.target)), satq (st.left + x) - min (satq (st.left + x)) (satq (st.repl * p.target))⟩ from rfl)
      have HStep := Lib.hid (show lstep p st k x = ⟨lsmps st k x, pushq st.past 16 (ofq p (lsmps st k x) st.past), (ofq p (lsmps st k x) st.past).repl, satq (st.left + x) - min (satq (st.left + x)) (satq (st.repl * p.target))⟩ from rfl)
      have HAdd := Lib.hid (fun W => ref_Add st.left x W (by have := ho.left; unfold I64; omega) HX.2)
      have HMul := Lib.hid (fun W => ref_Mul st.repl p.target W (by have h6 := ho.rlo; have h7 := ho.rhi; have h8 := HP.out.1; have h9 := HP.out.2.1; unfold I64 at *; omega) HP.out.2.2.1)
      have HPut := Lib.hid (fun W A n c hW hn => (show Calls Tryz.prog 37 #[.slice A n c, .int .i64 64, .agg #[.int .i64 k, .int .i64 (satq (st.left + x))]] W (PutS W (lsmps st k x)) from ref08_Put A n c st.smps 64 ⟨k, satq (st.left + x)⟩ W hW hn ho.srt (by omega)))
      have HOf := Lib.hid (fun W A n c2 B m d hW hW2 hn hm => (show Calls Tryz.prog 38 #[(.agg #[.int .i64 p.min, .int .i64 p.max, .int .i64 p.target, .int .i64 p.tol, .int .i64 p.window, .int .i64 p.hold]), .slice A n c2, .slice B m d] W fun e w' => e = .returned (.tuple #[.agg (rowA (ofq p (lsmps st k x) st.past)), .int .i64 (ofe p (lsmps st k x))]) ∧ Below W.heap.size W w' from ref16_Of p A n c2 (lsmps st k x) B m d st.past W HP.out hW HGd.out hn hW2 hm))
      rw [e3] at HOf
      have HPu2 := Lib.hid (fun W A n c hW hn => (show Calls Tryz.prog 39 #[.slice A n c, .int .i64 16, .agg (rowA (ofq p (lsmps st k x) st.past))] W (PutA W (pushq st.past 16 (ofq p (lsmps st k x) st.past))) from ref14_Put A n c st.past 16 (ofq p (lsmps st k x) st.past) W hW hn (by omega)))
      have HSl := Lib.hid ho.len
      have HPl := Lib.hid ho.past
      clear e3 HOk2 ho hx hb t0
      obtain ⟨smps, past, repl, left⟩ := st
      simp only at *
      generalize lrow p ⟨smps, past, repl, left⟩ k x = ROW at *
      generalize lstep p ⟨smps, past, repl, left⟩ k x = STEP at *
      generalize lsmps ⟨smps, past, repl, left⟩ k x = NS at *
      generalize ofq p NS past = X at *
      generalize satq (left + x) = ALL at *
      generalize satq (repl * p.target) = MUL at *
      rw [HStep.out, HRow.out] at HN
      clear HRow HStep
      have HRl := Lib.hid (show rows.length < 1000000 by rw [HLn.out]; omega)
      have c2 := (B1.out.call HI.out.2.2.2.2.2.1).cellv (i := 2) (v := .int .i64 p.target) rfl
      have hcase : ∃ SV, min ALL MUL = SV ∧ 0 ≤ SV ∧ SV ≤ ALL ∧ ((decide (ALL < MUL) = true ∧ SV = ALL) ∨ (decide (ALL < MUL) = false ∧ SV = MUL)) := by
        refine ⟨_, rfl, by omega, by omega, ?_⟩
        by_cases h : ALL < MUL
        · exact .inl ⟨by simpa using h, by omega⟩
        · exact .inr ⟨by simpa using h, by omega⟩
      obtain ⟨SV, hSV, s1, s2, hcase⟩ := hcase
      rw [hSV] at HN
      clear hSV
      rcases hcase with ⟨dm, rfl⟩ | ⟨dm, rfl⟩
      · rw [Int.sub_self] at HN
        go_wp2_with (first
          | (go_at_call 35; refine (HAdd.out _).mono ?_; rintro e v1 ⟨rfl, rfl⟩)
          | (go_at_call 34; refine (HMul.out _).mono ?_; rintro e v2 ⟨rfl, rfl⟩)
          | (at_builtin; refine wpList_push2 _ rfl (.tmp 40) (.tmp 50) 48 rfl w1.heap.size 52 _ 5 40 _ Tryz.underlying48 info_rrow (by rfl) (by decide) (fun _ => rfl) rw_one (.slice A5 n5 c5) rows rfl (Own.alloc HI.out.2.2.1 _) ⟨_, 0, none⟩ 1 ⟨k, x, repl, SV, 0⟩ rfl (blk_news (α := Rw) (vs := (Rw.mk k x repl SV 0).cells) (Blk.new _ _ _) rfl) HRl.out (by decide) (by have := HI.out.2.2.2.2.2.2; simp; omega) ?_; intro v' w8 ho8 hu8 hw8; obtain ⟨A8, n8, c8, rfl, -, -⟩ := ho8.shape rw_len; have I8 := Lib.hid (RefL.push (HI.out.call (by go_grown)) ho8 hu8 hw8); clear ho8 hu8 hw8)
          | (go_at_call 37; refine (HPut.out _ A3 n3 c3 I8.out.1 (by rw [← I8.out.1.1]; have := HSl.out; omega)).mono ?_; rintro e v9 ⟨A9, n9, c9, rfl, hs9, hb9, hf9⟩; have I9 := Lib.hid (I8.out.toS hs9 hb9 hf9); have P9 := Lib.hid (B1.out.call I9.out.2.2.2.2.2.1); clear hs9 hb9 hf9)
          | (refine Blk.load rfl 23 (.tmp 2) rfl _ _ _ _ rfl P9.out Tryz.underlying23 rfl (by kernel_rfl) ?_)
          | (go_at_call 38; refine (HOf.out _ A9 n9 c9 A4 n4 c4 I9.out.1 I9.out.2.1 (by rw [← I9.out.1.1]; have := HLs.out; omega) (by rw [← I9.out.2.1.1]; have := HPl.out; omega)).mono ?_; rintro e v10 ⟨rfl, hb10⟩; have I11 := Lib.hid ((I9.out.call hb10).call ((Below.refl _ v10).alloc (Nat.le_refl _) (.cells (rowA X) 68))); have G11 := Lib.hid (Blk.new v10 68 (rowA X)); clear hb10)
          | (refine Blk.load rfl 68 (.tmp 13) rfl _ _ _ _ rfl G11.out Tryz.underlying68 rfl (by kernel_rfl) ?_)
          | (go_at_call 39; refine (HPu2.out _ A4 n4 c4 I11.out.2.1 (by rw [← I11.out.2.1.1]; have := HPl.out; omega)).mono ?_; rintro e v12 ⟨A12, n12, c12, rfl, hs12, hb12, hf12⟩; have I12 := Lib.hid (I11.out.toA hs12 hb12 hf12); have g3 := (G11.out.call hb12).cellv (i := 3) (v := .int .i64 X.repl) rfl; clear hs12 hb12 hf12))
        go_roundw
        case rel => exact ⟨k + 1, A9, n9, c9, A12, n12, c12, A8, n8, c8, by omega, by go_num, rfl, rfl, rfl, by rw [HN.out], by rw [HN.out], by rw [HN.out]; exact I12.out⟩
        case measure => simp [intOf]; omega
      · go_wp2_with (first
          | (go_at_call 35; refine (HAdd.out _).mono ?_; rintro e v1 ⟨rfl, rfl⟩)
          | (go_at_call 34; refine (HMul.out _).mono ?_; rintro e v2 ⟨rfl, rfl⟩)
          | (at_builtin; refine wpList_push2 _ rfl (.tmp 40) (.tmp 50) 48 rfl w1.heap.size 52 _ 5 40 _ Tryz.underlying48 info_rrow (by rfl) (by decide) (fun _ => rfl) rw_one (.slice A5 n5 c5) rows rfl (Own.alloc HI.out.2.2.1 _) ⟨_, 0, none⟩ 1 ⟨k, x, repl, SV, ALL - SV⟩ rfl (blk_news (α := Rw) (vs := (Rw.mk k x repl SV (ALL - SV)).cells) (Blk.new _ _ _) rfl) HRl.out (by decide) (by have := HI.out.2.2.2.2.2.2; simp; omega) ?_; intro v' w8 ho8 hu8 hw8; obtain ⟨A8, n8, c8, rfl, -, -⟩ := ho8.shape rw_len; have I8 := Lib.hid (RefL.push (HI.out.call (by go_grown)) ho8 hu8 hw8); clear ho8 hu8 hw8)
          | (go_at_call 37; refine (HPut.out _ A3 n3 c3 I8.out.1 (by rw [← I8.out.1.1]; have := HSl.out; omega)).mono ?_; rintro e v9 ⟨A9, n9, c9, rfl, hs9, hb9, hf9⟩; have I9 := Lib.hid (I8.out.toS hs9 hb9 hf9); have P9 := Lib.hid (B1.out.call I9.out.2.2.2.2.2.1); clear hs9 hb9 hf9)
          | (refine Blk.load rfl 23 (.tmp 2) rfl _ _ _ _ rfl P9.out Tryz.underlying23 rfl (by kernel_rfl) ?_)
          | (go_at_call 38; refine (HOf.out _ A9 n9 c9 A4 n4 c4 I9.out.1 I9.out.2.1 (by rw [← I9.out.1.1]; have := HLs.out; omega) (by rw [← I9.out.2.1.1]; have := HPl.out; omega)).mono ?_; rintro e v10 ⟨rfl, hb10⟩; have I11 := Lib.hid ((I9.out.call hb10).call ((Below.refl _ v10).alloc (Nat.le_refl _) (.cells (rowA X) 68))); have G11 := Lib.hid (Blk.new v10 68 (rowA X)); clear hb10)
          | (refine Blk.load rfl 68 (.tmp 13) rfl _ _ _ _ rfl G11.out Tryz.underlying68 rfl (by kernel_rfl) ?_)
          | (go_at_call 39; refine (HPu2.out _ A4 n4 c4 I11.out.2.1 (by rw [← I11.out.2.1.1]; have := HPl.out; omega)).mono ?_; rintro e v12 ⟨A12, n12, c12, rfl, hs12, hb12, hf12⟩; have I12 := Lib.hid (I11.out.toA hs12 hb12 hf12); have g3 := (G11.out.call hb12).cellv (i := 3) (v := .int .i64 X.repl) rfl; clear hs12 hb12 hf12))
        go_roundw
        case rel => exact ⟨k + 1, A9, n9, c9, A12, n12, c12, A8, n8, c8, by omega, by go_num, rfl, rfl, rfl, by rw [HN.out], by rw [HN.out], by rw [HN.out]; exact I12.out⟩
        case measure => simp [intOf]; omega
    · obtain rfl : k = len := by omega
      go_wp2
      go_ret
      exact ⟨A5, n5, c5, rfl, by rw [HL.out]; exact HI.out.2.2.1.is rw_len, E1.out.trans (HI.out.2.2.2.2.2.1.mono E1.out.size)⟩
end Go.Proofs.YtjodpffdlggjgaaGreat
/- The numbers from one to another one: tune.Ladder and its reference. -/
namespace Go.Proofs.YtjodpffdlggjgaaGreat
open Go.RowKit
set_option linter.unusedSimpArgs false
set_option linter.unusedVariables false
set_option maxHeartbeats 2000000

def stepq (f t n : Int) : Int := if 1 < n then floorq (satq (t - f)) (n - 1) else 0
def itemq (f t n : Int) (i : Nat) : Int := if 1 < n ∧ (i : Int) = n - 1 then t else satq (f + satq (stepq f t n * i))
def pushqL (l : List Int) (x : Int) : List Int := if l.all (fun y => decide (y < x)) then l ++ [x] else l
def ladq (f t n : Int) : Nat → List Int
  | 0 => []
  | k + 1 => pushqL (ladq f t n k) (itemq f t n k)
def ladderq (f t n : Int) : List Int := if n < 1 ∨ 256 < n ∨ t < f then [] else ladq f t n n.toNat
theorem pushqL_len (l : List Int) (x : Int) : (pushqL l x).length ≤ l.length + 1 := by
  unfold pushqL; split <;> simp
theorem ladq_len (f t n : Int) (k : Nat) : (ladq f t n k).length ≤ k := by
  induction k with
  | zero => simp [ladq]
  | succ k ih => have := pushqL_len (ladq f t n k) (itemq f t n k); unfold ladq; omega
theorem pushq_sorted {l : List Int} (h : l.Pairwise (· < ·)) (x : Int) : (pushqL l x).Pairwise (· < ·) := by
  unfold pushqL
  split
  · rename_i ha
    rw [List.pairwise_append]
    refine ⟨h, by simp, ?_⟩
    intro a ha1 b hb
    simp at hb; subst hb
    simpa using List.all_eq_true.1 ha a ha1
  · exact h
theorem ladq_sorted (f t n : Int) (k : Nat) : (ladq f t n k).Pairwise (· < ·) := by
  induction k with
  | zero => simp [ladq]
  | succ k ih => exact pushq_sorted ih _
theorem sorted_last {l : List Int} (h : l.Pairwise (· < ·)) {y : Int} (hy : l[l.length - 1]? = some y) (x : Int) : l.all (fun z => decide (z < x)) = decide (y < x) := by
  rw [Bool.eq_iff_iff]
  simp only [List.all_eq_true, decide_eq_true_eq]
  obtain ⟨hlt, rfl⟩ := List.getElem?_eq_some_iff.1 hy
  refine ⟨fun ha => ha _ (List.getElem_mem _), fun hx z hz => ?_⟩
  obtain ⟨i, hi, rfl⟩ := List.getElem_of_mem hz
  rcases Nat.lt_or_ge i (l.length - 1) with h1 | h1
  · have := (List.pairwise_iff_getElem.1 h) i (l.length - 1) hi hlt h1
    omega
  · have : i = l.length - 1 := by omega
    subst this; exact hx
theorem floor_I64 (s m : Int) (hs : I64 s) (hm : 1 ≤ m) : I64 (s / m) := by
  unfold I64 at *
  by_cases h0 : 0 ≤ s
  · have := Int.ediv_le_self m h0
    have := Int.ediv_nonneg h0 (show 0 ≤ m by omega)
    omega
  · have h1 := Int.ediv_neg_of_neg_of_pos (show s < 0 by omega) (show 0 < m by omega)
    have h2 : s ≤ s / m := by
      refine (Int.le_ediv_iff_mul_le (by omega)).2 ?_
      have := Int.mul_nonneg (show 0 ≤ -s by omega) (show 0 ≤ m - 1 by omega)
      rw [Int.neg_mul, Int.mul_sub, Int.mul_one] at this
      omega
    omega
theorem stepq_I64 (f t n : Int) : I64 (stepq f t n) := by
  unfold stepq
  split
  · unfold floorq
    rw [if_neg (by omega)]
    exact floor_I64 _ _ (satq_I64 _) (by omega)
  · unfold I64; omega
theorem pushq_nil (x : Int) : pushqL [] x = [x] := rfl
theorem own_shape {w : World} {base : Nat} {v : Value} {l : List Int} (h : OwnI w base v l) : ∃ A len cap, v = .slice A len cap ∧ l.length = len ∧ IntsAre w A len cap l := by
  obtain ⟨A, cap, h1, h2⟩ := Own.slice h (fun _ => rfl)
  exact ⟨A, _, cap, h1, rfl, h2⟩
theorem OwnI.last {w : World} {m cap : Nat} {A : Option Addr} {l : List Int} (h : IntsAre w A (m + 1) cap l) (hs : l.Pairwise (· < ·)) :
    ∃ (b off : Nat) (y : Int), A = some ⟨b, off, none⟩ ∧ w.cell? ⟨b, off + m, none⟩ = some (.int .i64 y) ∧ ∀ x, (y < x → pushqL l x = l ++ [x]) ∧ (¬ y < x → pushqL l x = l) := by
  obtain ⟨b, off, y, h1, h2, h3, h4⟩ := h.at_ (k := m) (by omega)
  have hl := h.1
  have h2' : l[l.length - 1]? = some y := by rw [hl]; exact h2
  refine ⟨b, off, y, h1, h4, fun x => ⟨fun hx => ?_, fun hx => ?_⟩⟩
  · unfold pushqL; rw [sorted_last hs h2', if_pos (by simpa using hx)]
  · unfold pushqL; rw [sorted_last hs h2', if_neg (by simpa using hx)]
theorem tune_Ladder (f t n : Int) (w : World) (hf : I64 f) (ht : I64 t) (hn : I64 n) :
    Calls Tryz.prog 50 #[.int .i64 f, .int .i64 t, .int .i64 n] w fun e w' => ∃ v, e = .returned v ∧ OwnI w' w.heap.size v (ladderq f t n) ∧ Below w.heap.size w w' := by
  by_cases h0 : n < 1 ∨ 256 < n ∨ t < f
  · have HQ := Lib.hid (show ladderq f t n = [] by unfold ladderq; rw [if_pos h0])
    by_cases h1 : n < 1
    · go_enter Tryz.func50, Tryz.ntmps50
      go_wp2
      go_ret
      exact ⟨_, rfl, by rw [HQ.out]; exact Own.nil _ _ _ _ _, by go_grown⟩
    by_cases h2 : 256 < n
    · go_enter Tryz.func50, Tryz.ntmps50
      go_wp2
      go_ret
      exact ⟨_, rfl, by rw [HQ.out]; exact Own.nil _ _ _ _ _, by go_grown⟩
    · have h3 : t < f := by omega
      clear h0
      go_enter Tryz.func50, Tryz.ntmps50
      go_wp2
      go_ret
      exact ⟨_, rfl, by rw [HQ.out]; exact Own.nil _ _ _ _ _, by go_grown⟩
  · have HQ := Lib.hid (show ladderq f t n = ladq f t n n.toNat by unfold ladderq; rw [if_neg h0])
    have n3 : f ≤ t := by omega
    obtain ⟨N, rfl⟩ : ∃ N : Nat, n = (N : Int) := ⟨n.toNat, by omega⟩
    have n1 : 1 ≤ N := by omega
    have n2 : N ≤ 256 := by omega
    clear h0
    go_enter Tryz.func50, Tryz.ntmps50
    go_wp2_with (first | (go_at_call 55; refine (sat_Sub _ _ _ ht hf).mono ?_; rintro e w1 ⟨rfl, rfl⟩))
    go_loopw [7, 27] (fun v i wr => ∃ k : Nat, k ≤ N ∧ i = .int .i64 k ∧ OwnI wr w.heap.size v (ladq f t N k) ∧ Below w.heap.size w wr) (fun _ i _ => N - (intOf i).toNat)
    case atStart => exact ⟨0, Nat.zero_le _, rfl, Own.nil _ _ _ _ _, Below.refl _ _⟩
    case round =>
      obtain ⟨k, hk, rfl, hown, hbel⟩ := hrel
      by_cases hlt : k < N
      · have hlen := ladq_len f t N k
        have hsort := Lib.hid (ladq_sorted f t N k)
        have HP := Lib.hid (show ladq f t N (k + 1) = pushqL (ladq f t N k) (itemq f t N k) from rfl)
        generalize ladq f t N k = l at *
        have hlen2 : l.length < 1000000 := by omega
        by_cases hN : 1 < N
        · by_cases hB : k + 1 = N
          · have HX := Lib.hid (show itemq f t N k = t by unfold itemq; rw [if_pos (by omega)])
            obtain ⟨S, hS⟩ : ∃ S, S = stepq f t N := ⟨_, rfl⟩
            have hSI : I64 S := by rw [hS]; exact stepq_I64 _ _ _
            have hS2 : floorq (satq (t - f)) ((N : Int) - 1) = S := by rw [hS]; unfold stepq; rw [if_pos (by omega)]
            have d1 : ((k : Int) == (N : Int) - 1) = true := by simp; omega
            clear hS hB
            obtain ⟨A, len, cap, rfl, hll, hsl⟩ := own_shape hown
            rcases len with _ | m
            · have hnil : l = [] := List.eq_nil_of_length_eq_zero hll
              subst hnil
              have HPx := Lib.hid (show pushqL [] t = [t] from rfl)
              clear hsl hll
              go_wp2_with (first | (go_at_call 76; refine (sat_Floor _ _ _ (satq_I64 _) (by unfold I64; omega)).mono ?_; rintro e w1 ⟨rfl, rfl⟩) | (go_at_call 56; refine (sat_Mul _ _ _ (by first | assumption | (unfold I64; omega)) (by unfold I64; omega)).mono ?_; rintro e w1 ⟨rfl, rfl⟩) | (go_at_call 47; refine (sat_Add _ _ _ hf (satq_I64 _)).mono ?_; rintro e w1 ⟨rfl, rfl⟩) | (at_builtin; refine push_int _ rfl _ _ rfl w.heap.size _ _ rfl (hown.alloc _) ⟨wr.heap.size, 0, none⟩ 1 t rfl (by simp) hlen2 (by have := hbel.size; simp; omega) ?_; intro v2 w2 ho2 hb2))
              go_roundw
              case rel => exact ⟨k + 1, by omega, by go_num, by rw [HP.out, HX.out, HPx.out]; exact ho2, (hbel.alloc hbel.size _).trans hb2⟩
              case measure => simp [intOf]; omega
            · obtain ⟨b, off, y, rfl, hc, hpq⟩ := OwnI.last hsl hsort.out
              have hm2 : m < 1000000 := by omega
              have hm3 : ((m : Int) + 1 == 0) = false := by simp; omega
              have HPQ := Lib.hid (hpq t)
              clear hpq hsl hll
              by_cases hyx : y < t
              · go_wp2_with (first | (go_at_call 76; refine (sat_Floor _ _ _ (satq_I64 _) (by unfold I64; omega)).mono ?_; rintro e w1 ⟨rfl, rfl⟩) | (go_at_call 56; refine (sat_Mul _ _ _ (by first | assumption | (unfold I64; omega)) (by unfold I64; omega)).mono ?_; rintro e w1 ⟨rfl, rfl⟩) | (go_at_call 47; refine (sat_Add _ _ _ hf (satq_I64 _)).mono ?_; rintro e w1 ⟨rfl, rfl⟩) | (at_builtin; refine push_int _ rfl _ _ rfl w.heap.size _ _ rfl (hown.alloc _) ⟨wr.heap.size, 0, none⟩ 1 t rfl (by simp) hlen2 (by have := hbel.size; simp; omega) ?_; intro v2 w2 ho2 hb2))
                go_roundw
                case rel => exact ⟨k + 1, by omega, by go_num, by rw [HP.out, HX.out, HPQ.out.1 hyx]; exact ho2, (hbel.alloc hbel.size _).trans hb2⟩
                case measure => simp [intOf]; omega
              · go_wp2_with (first | (go_at_call 76; refine (sat_Floor _ _ _ (satq_I64 _) (by unfold I64; omega)).mono ?_; rintro e w1 ⟨rfl, rfl⟩) | (go_at_call 56; refine (sat_Mul _ _ _ (by first | assumption | (unfold I64; omega)) (by unfold I64; omega)).mono ?_; rintro e w1 ⟨rfl, rfl⟩) | (go_at_call 47; refine (sat_Add _ _ _ hf (satq_I64 _)).mono ?_; rintro e w1 ⟨rfl, rfl⟩) | (at_builtin; refine push_int _ rfl _ _ rfl w.heap.size _ _ rfl (hown.alloc _) ⟨wr.heap.size, 0, none⟩ 1 t rfl (by simp) hlen2 (by have := hbel.size; simp; omega) ?_; intro v2 w2 ho2 hb2))
                go_roundw
                case rel => exact ⟨k + 1, by omega, by go_num, by rw [HP.out, HX.out, HPQ.out.2 hyx]; exact hown, hbel⟩
                case measure => simp [intOf]; omega
          · obtain ⟨S, hS⟩ : ∃ S, S = stepq f t N := ⟨_, rfl⟩
            obtain ⟨x, hx⟩ : ∃ x, x = satq (f + satq (S * k)) := ⟨_, rfl⟩
            have HX := Lib.hid (show itemq f t N k = x by unfold itemq; rw [if_neg (by omega), hx, hS])
            have hx2 : satq (f + satq (S * k)) = x := hx.symm
            have hSI : I64 S := by rw [hS]; exact stepq_I64 _ _ _
            have hS2 : floorq (satq (t - f)) ((N : Int) - 1) = S := by rw [hS]; unfold stepq; rw [if_pos (by omega)]
            have d1 : ((k : Int) == (N : Int) - 1) = false := by simp; omega
            clear hx hS hB
            obtain ⟨A, len, cap, rfl, hll, hsl⟩ := own_shape hown
            rcases len with _ | m
            · have hnil : l = [] := List.eq_nil_of_length_eq_zero hll
              subst hnil
              have HPx := Lib.hid (show pushqL [] x = [x] from rfl)
              clear hsl hll
              go_wp2_with (first | (go_at_call 76; refine (sat_Floor _ _ _ (satq_I64 _) (by unfold I64; omega)).mono ?_; rintro e w1 ⟨rfl, rfl⟩) | (go_at_call 56; refine (sat_Mul _ _ _ (by first | assumption | (unfold I64; omega)) (by unfold I64; omega)).mono ?_; rintro e w1 ⟨rfl, rfl⟩) | (go_at_call 47; refine (sat_Add _ _ _ hf (satq_I64 _)).mono ?_; rintro e w1 ⟨rfl, rfl⟩) | (at_builtin; refine push_int _ rfl _ _ rfl w.heap.size _ _ rfl (hown.alloc _) ⟨wr.heap.size, 0, none⟩ 1 x rfl (by simp) hlen2 (by have := hbel.size; simp; omega) ?_; intro v2 w2 ho2 hb2))
              go_roundw
              case rel => exact ⟨k + 1, by omega, by go_num, by rw [HP.out, HX.out, HPx.out]; exact ho2, (hbel.alloc hbel.size _).trans hb2⟩
              case measure => simp [intOf]; omega
            · obtain ⟨b, off, y, rfl, hc, hpq⟩ := OwnI.last hsl hsort.out
              have hm2 : m < 1000000 := by omega
              have hm3 : ((m : Int) + 1 == 0) = false := by simp; omega
              have HPQ := Lib.hid (hpq x)
              clear hpq hsl hll
              by_cases hyx : y < x
              · go_wp2_with (first | (go_at_call 76; refine (sat_Floor _ _ _ (satq_I64 _) (by unfold I64; omega)).mono ?_; rintro e w1 ⟨rfl, rfl⟩) | (go_at_call 56; refine (sat_Mul _ _ _ (by first | assumption | (unfold I64; omega)) (by unfold I64; omega)).mono ?_; rintro e w1 ⟨rfl, rfl⟩) | (go_at_call 47; refine (sat_Add _ _ _ hf (satq_I64 _)).mono ?_; rintro e w1 ⟨rfl, rfl⟩) | (at_builtin; refine push_int _ rfl _ _ rfl w.heap.size _ _ rfl (hown.alloc _) ⟨wr.heap.size, 0, none⟩ 1 x rfl (by simp) hlen2 (by have := hbel.size; simp; omega) ?_; intro v2 w2 ho2 hb2))
                go_roundw
                case rel => exact ⟨k + 1, by omega, by go_num, by rw [HP.out, HX.out, HPQ.out.1 hyx]; exact ho2, (hbel.alloc hbel.size _).trans hb2⟩
                case measure => simp [intOf]; omega
              · go_wp2_with (first | (go_at_call 76; refine (sat_Floor _ _ _ (satq_I64 _) (by unfold I64; omega)).mono ?_; rintro e w1 ⟨rfl, rfl⟩) | (go_at_call 56; refine (sat_Mul _ _ _ (by first | assumption | (unfold I64; omega)) (by unfold I64; omega)).mono ?_; rintro e w1 ⟨rfl, rfl⟩) | (go_at_call 47; refine (sat_Add _ _ _ hf (satq_I64 _)).mono ?_; rintro e w1 ⟨rfl, rfl⟩) | (at_builtin; refine push_int _ rfl _ _ rfl w.heap.size _ _ rfl (hown.alloc _) ⟨wr.heap.size, 0, none⟩ 1 x rfl (by simp) hlen2 (by have := hbel.size; simp; omega) ?_; intro v2 w2 ho2 hb2))
                go_roundw
                case rel => exact ⟨k + 1, by omega, by go_num, by rw [HP.out, HX.out, HPQ.out.2 hyx]; exact hown, hbel⟩
                case measure => simp [intOf]; omega
        · obtain ⟨x, hx⟩ : ∃ x, x = satq f := ⟨_, rfl⟩
          have HX := Lib.hid (show itemq f t N k = x by rw [hx]; unfold itemq stepq; rw [if_neg (by omega), if_neg (by omega)]; simp [show satq 0 = 0 from rfl])
          have hx2 : satq f = x := hx.symm
          have h00 : satq 0 = 0 := rfl
          have d1 : ((k : Int) == (N : Int) - 1) = true := by simp; omega
          clear hx
          obtain ⟨A, len, cap, rfl, hll, hsl⟩ := own_shape hown
          rcases len with _ | m
          · have hnil : l = [] := List.eq_nil_of_length_eq_zero hll
            subst hnil
            have HPx := Lib.hid (show pushqL [] x = [x] from rfl)
            clear hsl hll
            go_wp2_with (first | (go_at_call 76; refine (sat_Floor _ _ _ (satq_I64 _) (by unfold I64; omega)).mono ?_; rintro e w1 ⟨rfl, rfl⟩) | (go_at_call 56; refine (sat_Mul _ _ _ (by first | assumption | (unfold I64; omega)) (by unfold I64; omega)).mono ?_; rintro e w1 ⟨rfl, rfl⟩) | (go_at_call 47; refine (sat_Add _ _ _ hf (by unfold I64; omega)).mono ?_; rintro e w1 ⟨rfl, rfl⟩) | (at_builtin; refine push_int _ rfl _ _ rfl w.heap.size _ _ rfl (hown.alloc _) ⟨wr.heap.size, 0, none⟩ 1 x rfl (by simp) hlen2 (by have := hbel.size; simp; omega) ?_; intro v2 w2 ho2 hb2))
            go_roundw
            case rel => exact ⟨k + 1, by omega, by go_num, by rw [HP.out, HX.out, HPx.out]; exact ho2, (hbel.alloc hbel.size _).trans hb2⟩
            case measure => simp [intOf]; omega
          · exfalso; omega
      · have hkn : k = N := by omega
        subst hkn
        go_wp2
        go_ret
        exact ⟨_, rfl, by rw [HQ.out]; exact hown, hbel⟩
end Go.Proofs.YtjodpffdlggjgaaGreat
