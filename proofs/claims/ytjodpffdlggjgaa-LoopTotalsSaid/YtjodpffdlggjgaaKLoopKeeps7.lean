/- Several texts in one. -/
import Derived.Test.YtjodpffdlggjgaaKLoopKeeps6
import Derived.Test.YtjodpffdlggjgaaControl
import Derived.Test.YtjodpffdlggjgaaEqs
/- loop.Run: the walk. (fast region) -/
namespace Go.Proofs.Ytjodpffdlggjgaa
open Go.RowKit
set_option linter.unusedSimpArgs false
set_option linter.unusedVariables false
set_option maxHeartbeats 8000000
set_option maxRecDepth 100000
def comesq (l : List Shp) (i : Nat) : Int := sumS i l
theorem sumS_nonneg (tick : Int) {l : List Shp} (h : ∀ s ∈ l, s.ok) : 0 ≤ sumS tick l := by
  have key : ∀ (l : List Shp) (a : Int), (∀ s ∈ l, s.ok) → 0 ≤ a → 0 ≤ l.foldl (fun a s => satq (a + atq s tick)) a := by
    intro l
    induction l with
    | nil => intro a _ h; exact h
    | cons s l ih =>
      intro a hl ha
      refine ih _ (fun x hx => hl x (by simp [hx])) ?_
      have h1 := (atq_bd (hl s (by simp)) tick).1
      have h2 := (hl s (by simp)).2.2.1
      show 0 ≤ satq (a + atq s tick)
      unfold satq; (repeat' split) <;> omega
  exact key l 0 h (Int.le_refl _)
theorem bound_zero {p : Pol} (hk : p.okP) : boundq p 0 = p.min := by
  have h1 := hk.1
  have h2 := hk.2.2.1
  unfold boundq clampq
  rw [if_pos hk]
  split
  · rfl
  · split <;> omega
/-- What Run keeps from round to round. -/
def LIn (w wr : World) (ps ph : Option Addr) (g : Nat) (v : Value) (p : Pol) (st : Lst) (rows : List Rw) : Prop :=
  ∃ FS FH : Nat → Prop, SerV wr ps FS st.smps 64 ∧ HistAt wr ph FH st.past 16 ∧ Own wr w.heap.size rwT 5 Rw.cells v rows ∧ Blk wr g stT (strow p ps ph st.repl st.left) ∧ (∀ k, FS k → w.heap.size ≤ k ∧ ¬ FH k ∧ k ≠ g ∧ v.ownBlock ≠ some k) ∧ (∀ k, FH k → w.heap.size ≤ k ∧ k ≠ g ∧ v.ownBlock ≠ some k) ∧ v.ownBlock ≠ some g ∧ w.heap.size ≤ g ∧ Below w.heap.size w wr ∧ w.heap.size ≤ wr.heap.size
section lin
variable {w wr w' : World} {ps ph : Option Addr} {g : Nat} {v v' : Value} {p : Pol} {st : Lst} {rows : List Rw}
theorem LIn.call (h : LIn w wr ps ph g v p st rows) (hb : Below wr.heap.size wr w') : LIn w w' ps ph g v p st rows := by
  obtain ⟨FS, FH, h1, h2, h3, h4, h5, h6, h7, h8, h9, h10⟩ := h
  exact ⟨FS, FH, h1.call hb, h2.call hb, h3.call hb, h4.call hb, h5, h6, h7, h8, h9.trans (hb.mono h10), Nat.le_trans h10 hb.size⟩
theorem LIn.bel (h : LIn w wr ps ph g v p st rows) : Below w.heap.size w wr := by
  obtain ⟨FS, FH, h1, h2, h3, h4, h5, h6, h7, h8, h9, h10⟩ := h; exact h9
theorem LIn.own (h : LIn w wr ps ph g v p st rows) : Own wr w.heap.size rwT 5 Rw.cells v rows := by
  obtain ⟨FS, FH, h1, h2, h3, h4, h5, h6, h7, h8, h9, h10⟩ := h; exact h3
theorem LIn.tick (h : LIn w wr ps ph g v p st rows) : ∃ FS FH : Nat → Prop, SerV wr ps FS st.smps 64 ∧ HistAt wr ph FH st.past 16 ∧ Blk wr g stT (strow p ps ph st.repl st.left) ∧ (∀ k, FS k → ¬ FH k ∧ k ≠ g) ∧ (∀ k, FH k → k ≠ g) ∧ ∀ row st' e w', TickPost p ps ph g (fun k => FS k ∨ FH k ∨ k = g) row st' wr e w' → e = .returned (.agg row.row) ∧ LIn w w' ps ph g v p st' rows := by
  obtain ⟨FS, FH, h1, h2, h3, h4, h5, h6, h7, h8, h9, h10⟩ := h
  refine ⟨FS, FH, h1, h2, h4, fun k hk => ⟨(h5 k hk).2.1, (h5 k hk).2.2.1⟩, fun k hk => (h6 k hk).2.1, ?_⟩
  rintro row st' e w' ⟨FS', FH', rfl, k1, k2, k3, k4, k5, k6⟩
  have hv : ∀ k, v.ownBlock = some k → ¬ (FS k ∨ FH k ∨ k = g) := fun k hk hc => by
    rcases hc with hc | hc | rfl
    · exact (h5 k hc).2.2.2 hk
    · exact (h6 k hc).2.2 hk
    · exact h7 hk
  have hlt := World.ownsRow.lt h3
  have new : ∀ k, (FS k ∨ FH k ∨ k = g) ∨ wr.heap.size ≤ k → w.heap.size ≤ k ∧ v.ownBlock ≠ some k := fun k hk => by
    rcases hk with hk | hk
    · refine ⟨?_, fun e => hv k e hk⟩
      rcases hk with hk | hk | rfl
      · exact (h5 k hk).1
      · exact (h6 k hk).1
      · exact h8
    · exact ⟨Nat.le_trans h10 hk, fun e => by have := (hlt k e).2; omega⟩
  refine ⟨rfl, FS', FH', k1, k2, h3.upd k4 hv, k3, fun k hk => ⟨(new k (k5 k hk).1).1, (k5 k hk).2.1, (k5 k hk).2.2, (new k (k5 k hk).1).2⟩, fun k hk => ⟨(new k (k6 k hk).1).1, (k6 k hk).2, (new k (k6 k hk).1).2⟩, h7, h8, ?_, Nat.le_trans h10 k4.size⟩
  exact h9.trans (k4.below (fun k hk => (new k (.inl hk)).1) h10)
theorem LIn.push {row : Rw} (h : LIn w wr ps ph g v p st rows) (ho : Own w' w.heap.size rwT 5 Rw.cells v' (rows ++ [row])) (hu : Upd (fun k => v.ownBlock = some k) wr w') (hw : v'.ownBlock = v.ownBlock ∨ v'.ownBlock = some wr.heap.size) : LIn w w' ps ph g v' p st (rows ++ [row]) := by
  obtain ⟨FS, FH, h1, h2, h3, h4, h5, h6, h7, h8, h9, h10⟩ := h
  have hlt := World.ownsRow.lt h3
  have key : ∀ k, k < wr.heap.size → v.ownBlock ≠ some k → v'.ownBlock ≠ some k := fun k hk hn e => by
    rcases hw with hw | hw
    · exact hn (hw.symm.trans e)
    · rw [hw] at e; injection e with e; omega
  refine ⟨FS, FH, h1.upd hu (fun k hk hs => (h5 k hk).2.2.2 hs), h2.upd hu (fun k hk hs => (h6 k hk).2.2 hs), ho, h4.upd hu (fun hs => h7 hs), fun k hk => ⟨(h5 k hk).1, (h5 k hk).2.1, (h5 k hk).2.2.1, key k (h1.2 k hk) (h5 k hk).2.2.2⟩, fun k hk => ⟨(h6 k hk).1, (h6 k hk).2.1, key k (h2.2 k hk) (h6 k hk).2.2⟩, key g h4.lt h7, h8, h9.trans (hu.below (fun k hk => (hlt k hk).1) h10), Nat.le_trans h10 hu.size⟩
end lin
def LRunP (p : Pol) (ticks : Int) (l : List Shp) (w : World) (e : Ending) (w' : World) : Prop := ∃ A n c, e = .returned (.tuple #[.slice A n c, .int .i64 (lchk p ticks l)]) ∧ RwsAre w' A n c (if lchk p ticks l = 0 then (lrun p (comesq l) ticks.toNat).2 else []) ∧ Below w.heap.size w w'
theorem loop_Run (p : Pol) (ticks : Int) (A : Option Addr) (len cap : Nat) (l : List Shp) (w : World) (hp : p.fit) (hs : ShpsAre w A len cap l) (hg : ∀ s ∈ l, s.good) (hn : len ≤ 1000) :
    Calls Try.prog 37 #[(.agg #[.int .i64 p.min, .int .i64 p.max, .int .i64 p.target, .int .i64 p.tol, .int .i64 p.window, .int .i64 p.hold]), .int .i64 ticks, .slice A len cap] w (LRunP p ticks l w) := by
  have HS := Lib.hid hs
  have HG := Lib.hid hg
  have HP := Lib.hid hp
  have D0 := Lib.hid (PL.start w p)
  have HC := Lib.hid (fun W hW => loop_Check p ticks A len cap l W hW hn)
  unfold LRunP
  clear hs hg hp
  by_cases h0 : lchk p ticks l = 0
  · obtain ⟨hk, he, ht1, ht2⟩ := lchk_ok h0
    rw [if_pos h0, h0]
    rw [h0] at HC
    clear h0
    obtain ⟨T, rfl⟩ : ∃ T : Nat, ticks = T := ⟨ticks.toNat, by omega⟩
    rw [Int.toNat_natCast]
    have HOkS := Lib.hid (errS_ok he)
    have HK := Lib.hid hk
    have hT : T ≤ 1024 := by omega
    have HLr := Lib.hid (fun k hk2 => lrun_ok hk (c := comesq l) k hk2 (fun i hi => ⟨sumS_nonneg i (errS_ok he), sumS_I64 i l⟩))
    have HBd := Lib.hid (fun W => control_Bound p 0 W)
    rw [bound_zero hk] at HBd
    clear hk he ht1 ht2
    go_enter Try.func37, Try.ntmps37
    focus (go_upto_region 4 with (first
      | (refine Blk.load rfl 23 (.tmp 3) rfl _ _ _ _ rfl D0.out.1 Try.underlying23 rfl (by kernel_rfl) ?_)
      | (go_at_call 69; refine (HC.out _ (slice_keep HS.out D0.out.2)).mono ?_; rintro e v1 ⟨rfl, hb1⟩; have D1 := Lib.hid (D0.out.call hb1); clear hb1)))
    refine wp_region_any (by kernel_rfl) ?_; change wpAny _ _ _ _ _ _ _ (World.drew v1); refine any_of_anyG (late := fun _ => false) (S := fun wS => Below v1.heap.size v1 wS) _ _ _ _ ?_
    have S0 := (Below.refl v1.heap.size v1).drew
    refine anyG_takes (is := [0, 3]) (vs := [_, _]) (m := 6) (listed2 := #[true, false, false, true, false, false, false, false]) (a2 := ⟨#[_, _, _, _, _, _, _, _, _, _, _, _, _, _, _, _, _, _, _, _, _, _, _, _, _, _, _, _, _, _, _, _, _, _, _, _, _, _, _, _, _], _⟩) (by kernel_rfl) (fun j hj => by simp at hj) (by kernel_rfl) (fun _ _ _ _ _ h => h) (Ys.cons rfl (Or.inl ⟨by rfl, fun W1 hW1 => exec_load (ty := 23) (x := .tmp 3) rfl rfl (run_loadAt_blk _ _ _ _ _ _ (D1.out.1.call hW1) Try.underlying23 rfl (by first | kernel_rfl | exact info_num _))⟩) (Ys.cons rfl (Or.inl ⟨by rfl, fun W1 hW1 => exec_load (ty := 23) (x := .tmp 3) rfl rfl (run_loadAt_blk _ _ _ _ _ _ (D1.out.1.call hW1) Try.underlying23 rfl (by first | kernel_rfl | exact info_num _))⟩) (Ys.nil))) (S0) (by rfl) (by rfl) ?_
    refine anyG_one (k := 1) (by kernel_rfl) rfl (by rfl) (fun Q2 hQ2 => ?_); go_wp2_with (go_at_call 15; refine (serv_New 64 _).mono ?_; rintro e v2 ⟨ps, FS, rfl, k1, k2, k3⟩); refine hQ2 _ _ (fun _ => S0.trans (k3.mono S0.size)) ?_; clear hQ2 Q2
    have S2 := S0.trans (k3.mono S0.size)
    refine anyG_one (k := 2) (by kernel_rfl) rfl (by rfl) (fun Q2 hQ2 => ?_); go_wp2_with (go_at_call 59; refine (history_New 16 _ (by unfold I64; omega)).mono ?_; rintro e v3 ⟨ph, FH, rfl, j1, j2, j3⟩); refine hQ2 _ _ (fun _ => S2.trans (j3.mono S2.size)) ?_; clear hQ2 Q2
    have S3 := S2.trans (j3.mono S2.size)
    refine anyG_one (k := 4) (by kernel_rfl) rfl (by rfl) (fun Q2 hQ2 => ?_); go_wp2_with (go_at_call 47; refine (HBd.out _).mono ?_; rintro e v4 ⟨rfl, hb4⟩); refine hQ2 _ _ (fun _ => S3.trans (hb4.mono S3.size)) ?_; clear hQ2 Q2
    have S4 := S3.trans (hb4.mono S3.size)
    refine anyG_takes (is := [5]) (vs := [_]) (m := 2) (listed2 := #[true, true, true, true, true, true, false, false]) (a2 := ⟨#[_, _, _, _, _, _, _, _, _, _, _, _, _, _, _, _, _, _, _, _, _, _, _, _, _, _, _, _, _, _, _, _, _, _, _, _, _, _, _, _, _], _⟩) (by kernel_rfl) (fun j hj => by simp at hj) (by kernel_rfl) (fun _ _ _ _ _ h => h) (Ys.cons rfl (Or.inl ⟨by rfl, fun W1 hW1 => by first | rfl | (go_simp; done) | (go_simp; with_reducible rfl)⟩) (Ys.nil)) (S4) (by rfl) (by rfl) ?_
    refine anyG_one (k := 6) (by kernel_rfl) rfl (by rfl) (fun Q2 hQ2 => ?_); go_wp2_with (fail); refine hQ2 _ _ (fun _ => (S4).alloc (Below.size (S4)) (.cells (strow p ps ph p.min 0) stT)) ?_; clear hQ2 Q2
    have S6 := (S4).alloc (Below.size (S4)) (.cells (strow p ps ph p.min 0) stT)
    refine anyG_takes (is := [7]) (vs := [.pointer (some ⟨v4.heap.size, 0, none⟩)]) (m := 0) (listed2 := #[true, true, true, true, true, true, true, true]) (a2 := ⟨#[_, _, _, _, _, _, _, _, _, _, _, _, _, _, _, _, _, _, _, _, _, _, _, _, _, _, _, _, _, _, _, _, _, _, _, _, _, _, _, _, _], _⟩) (by kernel_rfl) (fun j hj => by simp at hj) (by kernel_rfl) (fun _ _ _ _ _ h => h) (Ys.cons rfl (Or.inl ⟨by rfl, fun W1 hW1 => by rfl⟩) (Ys.nil)) (S6) (by rfl) (by rfl) ?_
    refine anyG_done (by kernel_rfl) ?_ _
    have B5 := hb4.trans ((Below.refl v4.heap.size v4).alloc (Nat.le_refl _) (.cells (strow p ps ph p.min 0) stT) |>.mono hb4.size)
    have z1 := D1.out.2.size
    have z2 := k3.size
    have z3 := j3.size
    have z4 := hb4.size
    have LI0 := Lib.hid (show LIn w (v4.alloc (.cells (strow p ps ph p.min 0) stT)) ps ph v4.heap.size (.slice none 0 0) p (lst0 p) [] from by
      have w1 : w.heap.size ≤ v1.heap.size := z1
      have w2 : v1.heap.size ≤ v2.heap.size := z2
      have w3 : v2.heap.size ≤ v3.heap.size := z3
      have w4 : v3.heap.size ≤ v4.heap.size := z4
      refine ⟨FS, FH, (k1.call j3).call B5, j1.call B5, Own.nil _ _ _ _ _, Blk.new _ _ _, fun k hk => ?_, fun k hk => ?_, by simp [Value.ownBlock], by omega, D1.out.2.trans (Below.mono (S6) z1), by simp; omega⟩
      · have h1 : v1.heap.size ≤ k := k2 k hk
        have h2 := k1.2 k hk
        exact ⟨by omega, fun hf => (by have := j2 k hf; omega), by omega, by simp [Value.ownBlock]⟩
      · have h1 := j2 k hk
        have h2 := j1.2 k hk
        exact ⟨by omega, by omega, by simp [Value.ownBlock]⟩)
    clear k1 k2 k3 j1 j2 j3 hb4 B5 z1 z2 z3 z4
    generalize v4.alloc (.cells (strow p ps ph p.min 0) stT) = W5 at *
    generalize v4.heap.size = g at *
    go_wp2
    go_loopw [10, 27] (fun v i wr => ∃ k : Nat, ∃ A1 n1 c1, k ≤ T ∧ i = .int .i64 k ∧ v = .slice A1 n1 c1 ∧ LIn w wr ps ph g (.slice A1 n1 c1) p (lrun p (comesq l) k).1 (lrun p (comesq l) k).2) (fun _ i _ => T - (intOf i).toNat)
    case atStart => exact ⟨0, none, 0, 0, Nat.zero_le _, rfl, rfl, LI0.out⟩
    case round =>
      obtain ⟨k, A1, n1, c1, hk, rfl, rfl, hin⟩ := hrel
      have HI := Lib.hid hin
      clear hin LI0
      by_cases hlt : k < T
      · have HLk := Lib.hid (HLr.out k (by omega))
        have HLn := Lib.hid (lrun_len p (comesq l) k)
        have HN := Lib.hid (show lrun p (comesq l) (k + 1) = (lstep p (lrun p (comesq l) k).1 k (comesq l k), (lrun p (comesq l) k).2 ++ [lrow p (lrun p (comesq l) k).1 k (comesq l k)]) from rfl)
        have HSum := Lib.hid (fun W hW => (show Calls Try.prog 71 #[.int .i64 k, .slice A len cap] W (fun e w' => e = .returned (.int .i64 (comesq l k)) ∧ Below W.heap.size W w') from shape_Sum k A len cap l W hW HG.out (by unfold I64; omega) hn))
        have HC0 := Lib.hid (show 0 ≤ comesq l k from sumS_nonneg k HOkS.out)
        have HC1 := Lib.hid (show I64 (comesq l k) from sumS_I64 k l)
        generalize lrun p (comesq l) k = LR at *
        obtain ⟨st, rows⟩ := LR
        generalize comesq l k = cm at *
        dsimp only at HI HLk HLn HN
        have HLr2 := Lib.hid (show rows.length < 1000000 by rw [HLn.out]; omega)
        have hki : (k : Int) < (T : Int) := by omega
        go_wp2_with (first
          | (go_at_call 71; refine (HSum.out _ (slice_keep HS.out HI.out.bel)).mono ?_; rintro e v6 ⟨rfl, hb6⟩; have I6 := Lib.hid (HI.out.call hb6); clear hb6)
          | (go_at_call 70; obtain ⟨FS2, FH2, s1, s2, s3, s4, s5, s6⟩ := I6.out.tick; refine (loop_tick p ps ph g FS2 FH2 st k cm k _ HP.out HK.out HLk.out (by omega) (by unfold I64; omega) HC0.out HC1.out s1 s2 s3 s4 s5).mono ?_; intro e v7 hp; obtain ⟨rfl, hI7⟩ := s6 _ _ _ _ hp; have I7 := Lib.hid hI7; clear hp hI7 s1 s2 s3 s4 s5 s6)
          | (at_builtin; refine wpList_push2 _ rfl (.tmp 30) (.tmp 37) 65 rfl w.heap.size 74 _ 5 40 _ Try.underlying65 info_lrow (by rfl) (by decide) (fun _ => rfl) rw_one (.slice A1 n1 c1) rows rfl (I7.out.own.alloc _) ⟨_, 0, none⟩ 1 (lrow p st k cm) rfl (blk_news (α := Rw) (vs := (lrow p st k cm).cells) (Blk.new _ _ _) rfl) HLr2.out (by decide) (by have := I7.out.bel.size; simp; omega) ?_; intro v' w8 ho8 hu8 hw8; obtain ⟨A8, n8, c8, rfl, -, -⟩ := ho8.shape rw_len; have I8 := Lib.hid (LIn.push (I7.out.call (by go_grown)) ho8 hu8 hw8); clear ho8 hu8 hw8))
        go_roundw
        case rel => exact ⟨k + 1, A8, n8, c8, by omega, by go_num, rfl, by rw [HN.out]; exact I8.out⟩
        case measure => simp [intOf]; omega
      · obtain rfl : k = T := by omega
        go_wp2
        go_ret2
        exact ⟨A1, n1, c1, rfl, HI.out.own.is rw_len, HI.out.bel⟩
  · rw [if_neg h0]
    generalize lchk p ticks l = E at *
    have dE : (E == 0) = false := by simpa using h0
    have dE2 : (E != 0) = true := by simpa using h0
    clear h0
    go_enter Try.func37, Try.ntmps37
    go_wp2_with (first
      | (refine Blk.load rfl 23 (.tmp 3) rfl _ _ _ _ rfl D0.out.1 Try.underlying23 rfl (by kernel_rfl) ?_)
      | (go_at_call 69; refine (HC.out _ (slice_keep HS.out D0.out.2)).mono ?_; rintro e v1 ⟨rfl, hb1⟩; have D1 := Lib.hid (D0.out.call hb1); clear hb1))
    go_ret2
    exact ⟨none, 0, 0, rfl, slice_nil _ _ _, D1.out.2⟩
end Go.Proofs.Ytjodpffdlggjgaa
/- Chapter 55: awake. -/
namespace Go.Proofs.Ytjodpffdlggjgaa
open Go.RowKit
set_option linter.unusedSimpArgs false
set_option linter.unusedVariables false
set_option maxHeartbeats 4000000
set_option maxRecDepth 100000
def p55 : Pol := ⟨1, 10, 100, 100, 5, 3⟩
def l55 : List Shp := [⟨1, 250, 250, 1, 0⟩]
def rwq (r : Rw) : List Int := [r.tick, r.comes, r.repl, r.serves, r.left]
theorem run55 : ((lrun p55 (comesq l55) 2).2.map rwq) = [[0, 250, 1, 100, 150], [1, 250, 3, 300, 100]] := by decide +kernel
theorem rows55 : (lrun p55 (comesq l55) 2).2 = [⟨0, 250, 1, 100, 150⟩, ⟨1, 250, 3, 300, 100⟩] := by
  have h := run55
  generalize (lrun p55 (comesq l55) 2).2 = R at *
  rcases R with _ | ⟨⟨a1, a2, a3, a4, a5⟩, _ | ⟨⟨b1, b2, b3, b4, b5⟩, _ | ⟨c, R⟩⟩⟩
  · simp at h
  · simp at h
  · simp [rwq] at h
    obtain ⟨⟨rfl, rfl, rfl, rfl, rfl⟩, rfl, rfl, rfl, rfl, rfl⟩ := h
    rfl
  · simp at h
theorem chk55 : lchk p55 2 l55 = 0 := by decide +kernel
theorem usual55 (w : World) : Calls Try.prog 67 #[] w fun e w' => e = .returned (.agg #[.int .i64 1, .int .i64 10, .int .i64 100, .int .i64 100, .int .i64 5, .int .i64 3]) ∧ Below w.heap.size w w' := by
  go_enter Try.func67, Try.ntmps67
  go_wp2
  go_returns
  exact ⟨rfl, by go_grown⟩
theorem awake55 (w : World) : Calls Try.prog 35 #[] w fun e w' => e = .returned (.bool true) ∧ Below w.heap.size w w' := by
  have HRn := Lib.hid (fun A c W hW => loop_Run p55 2 A 1 c l55 W (by unfold Pol.fit p55 I64; simp) hW (fun x hx => by
    simp only [l55, List.mem_cons, List.not_mem_nil, or_false] at hx
    subst hx; unfold Shp.good I64; simp) (by omega))
  unfold LRunP at HRn
  rw [chk55] at HRn
  have HR2 := Lib.hid (show (if (0 : Int) = 0 then (lrun p55 (comesq l55) (2 : Int).toNat).2 else []) = [⟨0, 250, 1, 100, 150⟩, ⟨1, 250, 3, 300, 100⟩] from by rw [if_pos rfl]; exact rows55)
  rw [HR2.out] at HRn
  clear HR2
  go_enter Try.func35, Try.ntmps35
  go_wp2_with fail
  refine (usual55 _).mono ?_
  rintro e v1 ⟨rfl, hb1⟩
  have E1 := Lib.hid (hb1.trans ((Below.refl v1.heap.size v1).alloc (Nat.le_refl _) (.cells #[.int .i64 1, .int .i64 250, .int .i64 250, .int .i64 1, .int .i64 0] 106) |>.mono hb1.size))
  have HL := Lib.hid (show ShpsAre (v1.alloc (.cells #[.int .i64 1, .int .i64 250, .int .i64 250, .int .i64 1, .int .i64 0] 106)) (some ⟨v1.heap.size, 0, none⟩) 1 1 l55 from slice_blk (l := l55) (fun _ => rfl) (Blk.new v1 _ _) rfl (by decide))
  clear hb1
  go_wp2_with fail
  refine (HRn.out _ _ _ HL.out).mono ?_
  rintro e v2 ⟨A2, n2, c2, rfl, hs2, hb2⟩
  have E2 := Lib.hid (E1.out.trans (hb2.mono E1.out.size))
  obtain rfl : n2 = 2 := hs2.1.symm
  obtain ⟨b, off, x, rfl, hx, hbb, t0⟩ := SliceIs.at_ hs2 (show 0 < 2 by omega)
  obtain ⟨b2, off2, y, hab, hy, hbb2, s0⟩ := SliceIs.at_ hs2 (show 1 < 2 by omega)
  cases hab
  simp only [List.getElem?_cons_zero, Option.some.injEq, List.getElem?_cons_succ] at hx hy
  subst hx hy
  have d4 := t0 4 _ rfl
  have e2 := s0 2 _ rfl
  have e3 := s0 3 _ rfl
  simp only [Nat.zero_mul, Nat.zero_add, Nat.one_mul] at d4 e2 e3
  have hc := hs2.2.1
  have hcm : c2 ≤ 9223372036854775807 := by have := hs2.2.2.1; unfold maxLen at this; omega
  clear hs2 t0 s0 hb2
  go_wp2
  go_ret
  exact ⟨rfl, E2.out⟩
end Go.Proofs.Ytjodpffdlggjgaa
/- Rows of a loop together: plain. -/
namespace Go.Proofs.Ytjodpffdlggjgaa
open Go.RowKit
set_option linter.unusedVariables false
set_option linter.unusedSimpArgs false
def totr (o r : Rw) : Rw := ⟨r.tick, satq (o.comes + r.comes), max o.repl r.repl, satq (o.serves + r.serves), r.left⟩
def rw0 : Rw := ⟨0, 0, 0, 0, 0⟩
def totR (l : List Rw) : Rw := l.foldl totr rw0
def lngr (s : Int × Int) (r : Rw) : Int × Int := (max s.1 (if r.left = 0 then 0 else s.2 + 1), if r.left = 0 then 0 else s.2 + 1)
def lngR (l : List Rw) : Int × Int := l.foldl lngr (0, 0)
theorem totR_next {l : List Rw} {k : Nat} {r : Rw} (h : l[k]? = some r) : totR (l.take (k + 1)) = totr (totR (l.take k)) r := by
  unfold totR; rw [List.take_add_one, h]; simp
theorem lngR_next {l : List Rw} {k : Nat} {r : Rw} (h : l[k]? = some r) : lngR (l.take (k + 1)) = lngr (lngR (l.take k)) r := by
  unfold lngR; rw [List.take_add_one, h]; simp
theorem totR_snoc (l : List Rw) (r : Rw) : totR (l ++ [r]) = totr (totR l) r := by unfold totR; simp
theorem lngR_snoc (l : List Rw) (r : Rw) : lngR (l ++ [r]) = lngr (lngR l) r := by unfold lngR; simp
theorem totr_good {o r : Rw} (ho : o.good) (hr : r.good) : (totr o r).good := by
  unfold Rw.good totr at *
  have h1 := satq_I64 (o.comes + r.comes)
  have h2 := satq_I64 (o.serves + r.serves)
  unfold I64 at *
  refine ⟨hr.1, h1, ?_, h2, hr.2.2.2.2⟩
  have h3 := ho.2.2.1; have h4 := hr.2.2.1
  simp only
  omega
theorem totR_good {l : List Rw} (h : ∀ r ∈ l, r.good) : (totR l).good := by
  have key : ∀ (l : List Rw) (o : Rw), o.good → (∀ r ∈ l, r.good) → (l.foldl totr o).good := by
    intro l
    induction l with
    | nil => intro o h _; exact h
    | cons r l ih => intro o ho h; exact ih _ (totr_good ho (h r (by simp))) (fun x hx => h x (by simp [hx]))
  exact key l rw0 (by unfold Rw.good rw0 I64; simp) h
theorem totR_repl (l : List Rw) : 0 ≤ (totR l).repl := by
  have key : ∀ (l : List Rw) (o : Rw), 0 ≤ o.repl → 0 ≤ (l.foldl totr o).repl := by
    intro l
    induction l with
    | nil => intro o h; exact h
    | cons r l ih => intro o ho; exact ih _ (by show 0 ≤ max o.repl r.repl; omega)
  exact key l rw0 (Int.le_refl _)
theorem lngR_bd (l : List Rw) : 0 ≤ (lngR l).2 ∧ (lngR l).2 ≤ (lngR l).1 ∧ (lngR l).1 ≤ l.length := by
  have key : ∀ (l : List Rw) (s : Int × Int) (n : Nat), 0 ≤ s.2 → s.2 ≤ s.1 → s.1 ≤ n → 0 ≤ (l.foldl lngr s).2 ∧ (l.foldl lngr s).2 ≤ (l.foldl lngr s).1 ∧ (l.foldl lngr s).1 ≤ (n + l.length : Nat) := by
    intro l
    induction l with
    | nil => intro s n h1 h2 h3; exact ⟨h1, h2, by simpa using h3⟩
    | cons r l ih =>
      intro s n h1 h2 h3
      have := ih (lngr s r) (n + 1) (by show 0 ≤ (if r.left = 0 then 0 else s.2 + 1); split <;> omega) (by show (if r.left = 0 then 0 else s.2 + 1) ≤ max s.1 (if r.left = 0 then 0 else s.2 + 1); omega) (by show max s.1 (if r.left = 0 then 0 else s.2 + 1) ≤ _; split <;> omega)
      refine ⟨this.1, this.2.1, ?_⟩
      have h := this.2.2
      rw [List.length_cons]
      have e : n + (l.length + 1) = n + 1 + l.length := by omega
      rw [e]; exact h
  have := key l (0, 0) 0 (Int.le_refl _) (Int.le_refl _) (Int.le_refl _)
  simpa [lngR] using this
theorem satq_mono {a b : Int} (h : a ≤ b) : satq a ≤ satq b := by unfold satq; (repeat' split) <;> omega
def mostq (l : List Shp) : Int := l.foldl (fun a s => satq (a + s.high)) 0
theorem sumS_most (tick : Int) {l : List Shp} (h : ∀ s ∈ l, s.ok) : sumS tick l ≤ mostq l ∧ 0 ≤ mostq l := by
  have key : ∀ (l : List Shp) (a b : Int), (∀ s ∈ l, s.ok) → a ≤ b → 0 ≤ b → l.foldl (fun a s => satq (a + atq s tick)) a ≤ l.foldl (fun a s => satq (a + s.high)) b ∧ 0 ≤ l.foldl (fun a s => satq (a + s.high)) b := by
    intro l
    induction l with
    | nil => intro a b _ h h0; exact ⟨h, h0⟩
    | cons s l ih =>
      intro a b hl hab hb
      have h1 := atq_bd (hl s (by simp)) tick
      have h2 := hl s (by simp)
      refine ih _ _ (fun x hx => hl x (by simp [hx])) (satq_mono (by omega)) ?_
      have h3 : (0 : Int) ≤ b + s.high := by have := h2.2.2.1; have := h2.2.2.2.1; omega
      have h4 := satq_mono h3
      rw [satq_id (by unfold I64; omega)] at h4
      exact h4
  exact key l 0 0 h (Int.le_refl _) (Int.le_refl _)
/-- What rows come to, behind k ticks. -/
theorem loop_keeps {p : Pol} (hk : p.okP) {c : Nat → Int} {M : Int} (hM : M * 64 ≤ 9223372036854775807) (hc : ∀ i, 0 ≤ c i ∧ c i ≤ M) :
    ∀ k : Nat, k ≤ 40 → (totR (lrun p c k).2).comes = (totR (lrun p c k).2).serves + (lrun p c k).1.left ∧ (totR (lrun p c k).2).left = (lrun p c k).1.left ∧ 0 ≤ (totR (lrun p c k).2).serves ∧ 0 ≤ (lrun p c k).1.left ∧ (totR (lrun p c k).2).comes ≤ k * M
  | 0, _ => by simp [lrun, lst0, totR, rw0]
  | k + 1, h => by
    obtain ⟨h1, h2, h3, h4, h5⟩ := loop_keeps hk hM hc k (by omega)
    have hM0 : 0 ≤ M := by have := hc 0; omega
    have hkM : (k : Int) * M ≤ 39 * M := Int.mul_le_mul_of_nonneg_right (by omega) hM0
    have hC := hc k
    have hr : 0 ≤ satq ((lrun p c k).1.repl * p.target) := by
      have hc64 : ∀ i, i < k → 0 ≤ c i ∧ I64 (c i) := fun i _ => ⟨(hc i).1, by have := hc i; unfold I64; omega⟩
      have hb := (lrow_bd hk (lrun_ok hk k (by omega) hc64) (hc k).1 (show I64 (c k) by unfold I64; omega)).2.2.1
      exact hb
    have e : lrun p c (k + 1) = (lstep p (lrun p c k).1 k (c k), (lrun p c k).2 ++ [lrow p (lrun p c k).1 k (c k)]) := rfl
    rw [e]
    show (totR ((lrun p c k).2 ++ [lrow p (lrun p c k).1 k (c k)])).comes = (totR ((lrun p c k).2 ++ [lrow p (lrun p c k).1 k (c k)])).serves + (lrow p (lrun p c k).1 k (c k)).left ∧ (totR ((lrun p c k).2 ++ [lrow p (lrun p c k).1 k (c k)])).left = (lrow p (lrun p c k).1 k (c k)).left ∧ 0 ≤ (totR ((lrun p c k).2 ++ [lrow p (lrun p c k).1 k (c k)])).serves ∧ 0 ≤ (lrow p (lrun p c k).1 k (c k)).left ∧ (totR ((lrun p c k).2 ++ [lrow p (lrun p c k).1 k (c k)])).comes ≤ ((k + 1 : Nat) : Int) * M
    rw [totR_snoc]
    generalize totR (lrun p c k).2 = t at *
    generalize (lrun p c k).1 = st at *
    show satq (t.comes + c k) = satq (t.serves + min (satq (st.left + c k)) (satq (st.repl * p.target))) + (satq (st.left + c k) - min (satq (st.left + c k)) (satq (st.repl * p.target))) ∧ satq (st.left + c k) - min (satq (st.left + c k)) (satq (st.repl * p.target)) = satq (st.left + c k) - min (satq (st.left + c k)) (satq (st.repl * p.target)) ∧ 0 ≤ satq (t.serves + min (satq (st.left + c k)) (satq (st.repl * p.target))) ∧ 0 ≤ satq (st.left + c k) - min (satq (st.left + c k)) (satq (st.repl * p.target)) ∧ satq (t.comes + c k) ≤ _
    have e1 : satq (st.left + c k) = st.left + c k := satq_id (by unfold I64; omega)
    have e2 : satq (t.comes + c k) = t.comes + c k := satq_id (by unfold I64; omega)
    generalize satq (st.repl * p.target) = R at *
    rw [e1, e2]
    have e3 : satq (t.serves + min (st.left + c k) R) = t.serves + min (st.left + c k) R := satq_id (by unfold I64; omega)
    rw [e3]
    have e4 : ((k + 1 : Nat) : Int) * M = k * M + M := by push_cast; rw [Int.add_mul]; omega
    rw [e4]
    omega
/-- If the least replicas serve all that may come, nothing is left. -/
theorem loop_none {p : Pol} (hk : p.okP) {c : Nat → Int} {M : Int} (hM : M * 64 ≤ 9223372036854775807) (hc : ∀ i, 0 ≤ c i ∧ c i ≤ M) (hs : M ≤ satq (p.min * p.target)) :
    ∀ k : Nat, k ≤ 40 → (lrun p c k).1.left = 0 ∧ lngR (lrun p c k).2 = (0, 0)
  | 0, _ => ⟨rfl, rfl⟩
  | k + 1, h => by
    obtain ⟨h1, h2⟩ := loop_none hk hM hc hs k (by omega)
    have hC := hc k
    have hM0 : 0 ≤ M := by omega
    have hc64 : ∀ i, i < k → 0 ≤ c i ∧ I64 (c i) := fun i _ => ⟨(hc i).1, by have := hc i; unfold I64; omega⟩
    have hok := lrun_ok hk k (by omega) hc64
    have hr : satq (p.min * p.target) ≤ satq ((lrun p c k).1.repl * p.target) := satq_mono (Int.mul_le_mul_of_nonneg_right hok.rlo (by have := hk.2.2.2.2.1; omega))
    have hL : (lrow p (lrun p c k).1 k (c k)).left = 0 := by
      show satq ((lrun p c k).1.left + c k) - min (satq ((lrun p c k).1.left + c k)) (satq ((lrun p c k).1.repl * p.target)) = 0
      rw [h1]
      have e1 : satq (0 + c k) = 0 + c k := satq_id (by unfold I64; omega)
      rw [e1]
      omega
    refine ⟨hL, ?_⟩
    have e : (lrun p c (k + 1)).2 = (lrun p c k).2 ++ [lrow p (lrun p c k).1 k (c k)] := rfl
    rw [e, lngR_snoc, h2]
    unfold lngr; rw [hL]; rfl
theorem rows_good {p : Pol} (hp : p.fit) (hk : p.okP) {c : Nat → Int} : ∀ k : Nat, k ≤ 2000 → (∀ i, i < k → 0 ≤ c i ∧ I64 (c i)) → ∀ r ∈ (lrun p c k).2, r.good
  | 0, _, _ => fun r hr => by cases hr
  | k + 1, h2, hc => fun r hr => by
    have hr : r ∈ (lrun p c k).2 ++ [lrow p (lrun p c k).1 k (c k)] := hr
    rcases List.mem_append.1 hr with hr | hr
    · exact rows_good hp hk k (by omega) (fun i hi => hc i (by omega)) r hr
    · rw [List.mem_singleton.1 hr]
      have hok := lrun_ok hk k (by omega) (fun i hi => hc i (by omega))
      have hb := lrow_bd hk hok (hc k (by omega)).1 (hc k (by omega)).2
      have h8 := hp.1
      have h9 := hp.2.1
      refine ⟨by show I64 (k : Int); unfold I64; omega, (hc k (by omega)).2, ?_, ?_, ?_⟩
      · show I64 (lrun p c k).1.repl
        have := hok.rlo; have := hok.rhi; unfold I64 at *; omega
      · show I64 (min (satq ((lrun p c k).1.left + c k)) (satq ((lrun p c k).1.repl * p.target)))
        unfold I64; omega
      · show I64 (satq ((lrun p c k).1.left + c k) - min (satq ((lrun p c k).1.left + c k)) (satq ((lrun p c k).1.repl * p.target)))
        unfold I64; omega
end Go.Proofs.Ytjodpffdlggjgaa
/- loop.Total, loop.Longest: the walks. (fast region) -/
namespace Go.Proofs.Ytjodpffdlggjgaa
open Go.RowKit
set_option linter.unusedSimpArgs false
set_option linter.unusedVariables false
set_option maxHeartbeats 4000000
set_option maxRecDepth 100000
theorem RwsAre.row {w : World} {A : Option Addr} {len cap : Nat} {l : List Rw} (h : RwsAre w A len cap l) {k : Nat} (hk : k < len) : ∃ (b off : Nat) (s : Rw), A = some ⟨b, off, none⟩ ∧ l[k]? = some s ∧ b < w.heap.size ∧ w.cell? ⟨b, off + k * 5, none⟩ = some (.int .i64 s.tick) ∧ w.cell? ⟨b, off + k * 5 + 1, none⟩ = some (.int .i64 s.comes) ∧ w.cell? ⟨b, off + k * 5 + 2, none⟩ = some (.int .i64 s.repl) ∧ w.cell? ⟨b, off + k * 5 + 3, none⟩ = some (.int .i64 s.serves) ∧ w.cell? ⟨b, off + k * 5 + 4, none⟩ = some (.int .i64 s.left) := by
  obtain ⟨b, off, s, h1, h2, h3, h4⟩ := SliceIs.at_ h hk
  exact ⟨b, off, s, h1, h2, h3, h4 0 _ rfl, h4 1 _ rfl, h4 2 _ rfl, h4 3 _ rfl, h4 4 _ rfl⟩
/-- What Total keeps. -/
def TotI (w wr : World) (t : Rw) : Prop := Blk wr w.heap.size rwT z5 ∧ Blk wr (w.heap.size + 1) rwT t.row ∧ Below w.heap.size w wr
theorem loop_Total (A : Option Addr) (len cap : Nat) (l : List Rw) (w : World) (hs : RwsAre w A len cap l) (hg : ∀ x ∈ l, x.good) (hn : len ≤ 100000) :
    Calls Try.prog 40 #[.slice A len cap] w fun e w' => e = .returned (.agg (totR l).row) ∧ Below w.heap.size w w' := by
  have HS := Lib.hid hs
  have HL := Lib.hid hs.1
  have HG := Lib.hid hg
  have HT0 := Lib.hid (show TotI w ((w.alloc (.cells z5 rwT)).alloc (.cells z5 rwT)) rw0 from ⟨(Blk.new w _ _).alloc _, Blk.new2 _ _ _ _, by go_grown⟩)
  clear hs hg
  go_enter Try.func40, Try.ntmps40
  go_wp2
  go_loopw [8] (fun i wr => ∃ k : Nat, k ≤ len ∧ i = .int .i64 k ∧ TotI w wr (totR (l.take k))) (fun i _ => len - (intOf i).toNat)
  case atStart => exact ⟨0, Nat.zero_le _, rfl, HT0.out⟩
  case round =>
    obtain ⟨k, hk, rfl, ht⟩ := hrel
    have HT := Lib.hid ht
    clear ht HT0
    by_cases hlt : k < len
    · obtain ⟨b, off, s, rfl, hx, hb, t0, t1, t2, t3, t4⟩ := RwsAre.row HS.out hlt
      have k0 := (HT.out.2.2.cell (p := ⟨b, off + k * 5, none⟩) hb).trans t0
      have k1 := (HT.out.2.2.cell (p := ⟨b, off + k * 5 + 1, none⟩) hb).trans t1
      have k2 := (HT.out.2.2.cell (p := ⟨b, off + k * 5 + 2, none⟩) hb).trans t2
      have k3 := (HT.out.2.2.cell (p := ⟨b, off + k * 5 + 3, none⟩) hb).trans t3
      have k4 := (HT.out.2.2.cell (p := ⟨b, off + k * 5 + 4, none⟩) hb).trans t4
      have hki : (k : Int) < (len : Int) := by omega
      have HN := Lib.hid (totR_next hx)
      have HGs := Lib.hid (HG.out s (List.mem_of_getElem? hx))
      have HGo := Lib.hid (totR_good (l := l.take k) (fun r hr => HG.out r (List.mem_of_mem_take hr)))
      clear hx hb t0 t1 t2 t3 t4
      generalize totR (l.take k) = o at *
      have HA1 := Lib.hid (fun W => sat_Add o.comes s.comes W HGo.out.2.1 HGs.out.2.1)
      have HA2 := Lib.hid (fun W => sat_Add o.serves s.serves W HGo.out.2.2.2.1 HGs.out.2.2.2.1)
      have BX := Lib.hid (Blk.new wr rwT s.row)
      have BO := Lib.hid (HT.out.2.1.alloc (.cells s.row rwT))
      have B0 := Lib.hid (HT.out.1.alloc (.cells s.row rwT))
      have E1 := Lib.hid (HT.out.2.2.alloc HT.out.2.2.size (.cells s.row rwT))
      focus (go_upto_region 5 with (fail))
      clear k0 k1 k2 k3 k4
      obtain ⟨W1, hW1⟩ : ∃ W1, W1 = wr.alloc (.cells s.row rwT) := ⟨_, rfl⟩
      rw [← hW1] at BX BO B0 E1 ⊢
      clear hW1
      refine wp_region_any (by kernel_rfl) ?_; change wpAny _ _ _ _ _ _ _ (World.drew W1); refine any_of_anyG (late := fun j => [20].contains j) (S := fun wS => Below W1.heap.size W1 wS) _ _ _ _ ?_
      have S0 := (Below.refl W1.heap.size W1).drew
      refine anyG_takes (is := [0, 1, 2, 3, 4]) (vs := [_, .int .i64 s.tick, _, .int .i64 o.comes, _]) (m := 16) (listed2 := #[true, true, true, true, true, false, false, false, false, false, false, false, false, false, false, false, false, false, false, false, false]) (a2 := ⟨#[_, _, _, _, _, _, _, _, _, _, _, _, _, _, _, _, _, _, _, _, _, _, _, _, _, _, _, _, _, _, _, _, _, _], _⟩) (by kernel_rfl) (fun j hj => by first | (simp at hj; done) | (simp at hj; simp; omega)) (by kernel_rfl) (fun _ _ _ _ _ h => h) (Ys.cons rfl (Or.inl ⟨by rfl, fun W1 hW1 => by first | rfl | (go_simp; done) | (go_simp; with_reducible rfl)⟩) (Ys.cons rfl (Or.inl ⟨by rfl, fun W1 hW1 => by have c := (BX.out.call hW1).cellv (i := 0) (v := .int .i64 s.tick) rfl; go_simp⟩) (Ys.cons rfl (Or.inl ⟨by rfl, fun W1 hW1 => by first | rfl | (go_simp; done) | (go_simp; with_reducible rfl)⟩) (Ys.cons rfl (Or.inl ⟨by rfl, fun W1 hW1 => by have c := (BO.out.call hW1).cellv (i := 1) (v := .int .i64 o.comes) rfl; go_simp⟩) (Ys.cons rfl (Or.inl ⟨by rfl, fun W1 hW1 => by first | rfl | (go_simp; done) | (go_simp; with_reducible rfl)⟩) (Ys.nil)))))) (S0) (by rfl) (by rfl) ?_
      refine anyG_takes (is := [5, 7, 8, 9, 10]) (vs := [.int .i64 s.comes, _, .int .i64 o.repl, _, .int .i64 s.repl]) (m := 11) (listed2 := #[true, true, true, true, true, true, false, true, true, true, true, false, false, false, false, false, false, false, false, false, false]) (a2 := ⟨#[_, _, _, _, _, _, _, _, _, _, _, _, _, _, _, _, _, _, _, _, _, _, _, _, _, _, _, _, _, _, _, _, _, _], _⟩) (by kernel_rfl) (fun j hj => by first | (simp at hj; done) | (simp at hj; simp; omega)) (by kernel_rfl) (fun _ _ _ _ _ h => h) (Ys.cons rfl (Or.inl ⟨by rfl, fun W1 hW1 => by have c := (BX.out.call hW1).cellv (i := 1) (v := .int .i64 s.comes) rfl; go_simp⟩) (Ys.cons rfl (Or.inl ⟨by rfl, fun W1 hW1 => by first | rfl | (go_simp; done) | (go_simp; with_reducible rfl)⟩) (Ys.cons rfl (Or.inl ⟨by rfl, fun W1 hW1 => by have c := (BO.out.call hW1).cellv (i := 2) (v := .int .i64 o.repl) rfl; go_simp⟩) (Ys.cons rfl (Or.inl ⟨by rfl, fun W1 hW1 => by first | rfl | (go_simp; done) | (go_simp; with_reducible rfl)⟩) (Ys.cons rfl (Or.inl ⟨by rfl, fun W1 hW1 => by have c := (BX.out.call hW1).cellv (i := 2) (v := .int .i64 s.repl) rfl; go_simp⟩) (Ys.nil)))))) (S0) (by rfl) (by rfl) ?_
      refine anyG_takes (is := [11, 12, 13, 14, 15]) (vs := [.int .i64 (max o.repl s.repl), _, .int .i64 o.serves, _, .int .i64 s.serves]) (m := 6) (listed2 := #[true, true, true, true, true, true, false, true, true, true, true, true, true, true, true, true, false, false, false, false, false]) (a2 := ⟨#[_, _, _, _, _, _, _, _, _, _, _, _, _, _, _, _, _, _, _, _, _, _, _, _, _, _, _, _, _, _, _, _, _, _], _⟩) (by kernel_rfl) (fun j hj => by first | (simp at hj; done) | (simp at hj; simp; omega)) (by kernel_rfl) (fun _ _ _ _ _ h => h) (Ys.cons rfl (Or.inl ⟨by rfl, fun W1 hW1 => by go_simp⟩) (Ys.cons rfl (Or.inl ⟨by rfl, fun W1 hW1 => by first | rfl | (go_simp; done) | (go_simp; with_reducible rfl)⟩) (Ys.cons rfl (Or.inl ⟨by rfl, fun W1 hW1 => by have c := (BO.out.call hW1).cellv (i := 3) (v := .int .i64 o.serves) rfl; go_simp⟩) (Ys.cons rfl (Or.inl ⟨by rfl, fun W1 hW1 => by first | rfl | (go_simp; done) | (go_simp; with_reducible rfl)⟩) (Ys.cons rfl (Or.inl ⟨by rfl, fun W1 hW1 => by have c := (BX.out.call hW1).cellv (i := 3) (v := .int .i64 s.serves) rfl; go_simp⟩) (Ys.nil)))))) (S0) (by rfl) (by rfl) ?_
      refine anyG_takes (is := [17, 18]) (vs := [_, .int .i64 s.left]) (m := 4) (listed2 := #[true, true, true, true, true, true, false, true, true, true, true, true, true, true, true, true, false, true, true, false, false]) (a2 := ⟨#[_, _, _, _, _, _, _, _, _, _, _, _, _, _, _, _, _, _, _, _, _, _, _, _, _, _, _, _, _, _, _, _, _, _], _⟩) (by kernel_rfl) (fun j hj => by first | (simp at hj; done) | (simp at hj; simp; omega)) (by kernel_rfl) (fun _ _ _ _ _ h => h) (Ys.cons rfl (Or.inl ⟨by rfl, fun W1 hW1 => by first | rfl | (go_simp; done) | (go_simp; with_reducible rfl)⟩) (Ys.cons rfl (Or.inl ⟨by rfl, fun W1 hW1 => by have c := (BX.out.call hW1).cellv (i := 4) (v := .int .i64 s.left) rfl; go_simp⟩) (Ys.nil))) (S0) (by rfl) (by rfl) ?_
      refine anyG_one (k := 6) (by kernel_rfl) rfl (by rfl) (fun Q2 hQ2 => ?_); go_wp2_with (go_at_call 72; refine (HA1.out _).mono ?_; rintro e v2 ⟨rfl, rfl⟩); refine hQ2 _ _ (fun _ => S0) ?_; clear hQ2 Q2
      refine anyG_one (k := 16) (by kernel_rfl) rfl (by rfl) (fun Q2 hQ2 => ?_); go_wp2_with (go_at_call 72; refine (HA2.out _).mono ?_; rintro e v3 ⟨rfl, rfl⟩); refine hQ2 _ _ (fun _ => S0) ?_; clear hQ2 Q2
      refine anyG_takes (is := [19]) (vs := [_]) (m := 1) (listed2 := #[true, true, true, true, true, true, true, true, true, true, true, true, true, true, true, true, true, true, true, true, false]) (a2 := ⟨#[_, _, _, _, _, _, _, _, _, _, _, _, _, _, _, _, _, _, _, _, _, _, _, _, _, _, _, _, _, _, _, _, _, _], _⟩) (by kernel_rfl) (fun j hj => by first | (simp at hj; done) | (simp at hj; simp; omega)) (by kernel_rfl) (fun _ _ _ _ _ h => h) (Ys.cons rfl (Or.inl ⟨by rfl, fun W1 hW1 => by first | rfl | (go_simp; done) | (go_simp; with_reducible rfl)⟩) (Ys.nil)) (S0) (by rfl) (by rfl) ?_
      refine anyG_of_any _ _ _ _ (by kernel_rfl) ?_
      refine any_one (k := 20) (by kernel_rfl) rfl (by rfl) (fun Q2 hQ2 => ?_); go_wp2_with (refine wpList_store_row rfl 74 (.tmp 3) (.tmp 31) rfl (w.heap.size + 1) _ _ _ rfl rfl (BO.out.call S0) (by rfl) (by kernel_rfl) (by simp [Value.oneCell']) ?_; intro w9 hb9 hg9); (try refine hQ2 _ _ ?_); (try clear hQ2 Q2)
      refine wpAny_done (by kernel_rfl) ?_ _
      have T9 := Lib.hid (show TotI w w9 (totr o s) from ⟨(B0.out.call (S0)).grown hg9 (by intro e; injection e; omega), hb9, (E1.out.trans (Below.mono (S0) E1.out.size)).trans (Only.below hg9 (by omega) (by have := (B0.out.call (S0)).lt; omega))⟩)
      clear hb9 hg9
      go_wp2
      go_roundw
      case rel => exact ⟨k + 1, by omega, by go_num, by rw [HN.out]; exact T9.out⟩
      case measure => simp [intOf]; omega
    · have hE : l.take k = l := List.take_of_length_le (by have := HL.out; omega)
      rw [hE] at HT
      generalize hT : totR l = o at HT
      have HTq := Lib.hid hT
      clear hE hT
      go_wp2_with (first
        | (refine Blk.load rfl 74 (.tmp 3) rfl _ _ _ _ rfl HT.out.2.1 Try.underlying74 rfl (by kernel_rfl) ?_)
        | (refine wpList_store_row rfl 74 (.tmp 2) (.tmp 33) rfl w.heap.size _ _ _ rfl rfl HT.out.1 (by rfl) (by kernel_rfl) (by simp [Value.oneCell']) ?_; intro w9 hb9 hg9))
      refine bodyPost_ret (results_row rfl _ _ w.heap.size _ _ _ rfl hb9 Try.underlying74 rfl (by kernel_rfl)) rfl ?_
      exact ⟨by rw [HTq.out], HT.out.2.2.trans (Only.below hg9 (Nat.le_refl _) HT.out.2.2.size)⟩
theorem int_eq {a b : Int} (h : a = b) : Value.int .i64 a = .int .i64 b := by rw [h]
def LngI (l : List Rw) (k : Nat) (b n : Int) : Prop := lngR (l.take k) = (b, n)
theorem loop_Longest (A : Option Addr) (len cap : Nat) (l : List Rw) (w : World) (hs : RwsAre w A len cap l) (hn : len ≤ 100000) :
    Calls Try.prog 42 #[.slice A len cap] w fun e w' => e = .returned (.int .i64 (lngR l).1) ∧ Below w.heap.size w w' := by
  have HS := Lib.hid hs
  have HL := Lib.hid hs.1
  clear hs
  go_enter Try.func42, Try.ntmps42
  go_wp2
  go_loopw [3, 4, 9] (fun x y i wr => ∃ k : Nat, ∃ b n : Int, k ≤ len ∧ i = .int .i64 k ∧ x = .int .i64 b ∧ y = .int .i64 n ∧ LngI l k b n ∧ Below w.heap.size w wr) (fun _ _ i _ => len - (intOf i).toNat)
  case atStart => exact ⟨0, 0, 0, Nat.zero_le _, rfl, rfl, rfl, rfl, Below.refl _ _⟩
  case round =>
    obtain ⟨k, bb, n, hk, rfl, rfl, rfl, hl, hbel⟩ := hrel
    have HI := Lib.hid hl
    have HB := Lib.hid hbel
    have hbd := lngR_bd (l.take k)
    rw [show lngR (l.take k) = (bb, n) from hl] at hbd
    simp only at hbd
    have hlen : (l.take k).length ≤ k := List.length_take_le _ _
    have q0 : 0 ≤ n := hbd.1
    have q1 : n ≤ bb := hbd.2.1
    have q2 : bb ≤ k := by have := hbd.2.2; omega
    clear hl hbel hbd hlen
    by_cases hlt : k < len
    · obtain ⟨b, off, s, rfl, hx, hb, t0, t1, t2, t3, t4⟩ := RwsAre.row HS.out hlt
      have k0 := (HB.out.cell (p := ⟨b, off + k * 5, none⟩) hb).trans t0
      have k1 := (HB.out.cell (p := ⟨b, off + k * 5 + 1, none⟩) hb).trans t1
      have k2 := (HB.out.cell (p := ⟨b, off + k * 5 + 2, none⟩) hb).trans t2
      have k3 := (HB.out.cell (p := ⟨b, off + k * 5 + 3, none⟩) hb).trans t3
      have k4 := (HB.out.cell (p := ⟨b, off + k * 5 + 4, none⟩) hb).trans t4
      have hki : (k : Int) < (len : Int) := by omega
      have HN := Lib.hid (show lngR (l.take (k + 1)) = (max bb (if s.left = 0 then 0 else n + 1), if s.left = 0 then 0 else n + 1) from by rw [lngR_next hx, show lngR (l.take k) = (bb, n) from HI.out]; rfl)
      have E1 := Lib.hid (HB.out.alloc HB.out.size (.cells s.row rwT))
      clear hx hb t0 t1 t2 t3 t4
      by_cases h0 : s.left = 0
      · have HN2 := Lib.hid (show LngI l (k + 1) bb 0 from by unfold LngI; rw [HN.out, if_pos h0]; congr 1; omega)
        have dd : (s.left == 0) = true := by simpa using h0
        clear h0 HN
        go_wp2
        all_goals first
          | (exfalso; omega)
          | (go_roundw
             case rel => exact ⟨k + 1, bb, 0, by omega, by go_num, (by first | rfl | exact int_eq (by omega)), rfl, HN2.out, E1.out⟩
             case measure => simp [intOf]; omega)
      · have HN2 := Lib.hid (show LngI l (k + 1) (max bb (n + 1)) (n + 1) from by unfold LngI; rw [HN.out, if_neg h0])
        have dd : (s.left == 0) = false := by simpa using h0
        clear h0 HN
        go_wp2
        all_goals first
          | (exfalso; omega)
          | (go_roundw
             case rel => exact ⟨k + 1, max bb (n + 1), n + 1, by omega, by go_num, (by first | rfl | exact int_eq (by omega)), rfl, HN2.out, E1.out⟩
             case measure => simp [intOf]; omega)
    · have hE : l.take k = l := List.take_of_length_le (by have := HL.out; omega)
      have HR := Lib.hid (show (lngR l).1 = bb from by have h := HI.out; unfold LngI at h; rw [hE] at h; rw [h])
      clear hE HI
      go_wp2
      go_ret
      exact ⟨ret_int HR.out.symm, HB.out⟩
end Go.Proofs.Ytjodpffdlggjgaa
/- Chapter 55's law: LoopKeeps. (fast region) -/
namespace Go.Proofs.Ytjodpffdlggjgaa
open Go.RowKit
set_option linter.unusedSimpArgs false
set_option linter.unusedVariables false
set_option maxHeartbeats 1600000
set_option maxRecDepth 100000
theorem mostq_next {l : List Shp} {k : Nat} {s : Shp} (h : l[k]? = some s) : mostq (l.take (k + 1)) = satq (mostq (l.take k) + s.high) := by
  unfold mostq; rw [List.take_add_one, h]; simp
theorem mostq_I64 (l : List Shp) : I64 (mostq l) := by
  have key : ∀ (l : List Shp) (a : Int), I64 a → I64 (l.foldl (fun a s => satq (a + s.high)) a) := by
    intro l
    induction l with
    | nil => intro a h; exact h
    | cons s l ih => intro a _; exact ih _ (satq_I64 _)
  exact key l 0 (by unfold I64; omega)
/-- What the law's last lines look at. -/
structure KeepT (p : Pol) (M : Int) (R : List Rw) : Prop where
  sum : (totR R).comes = (totR R).serves + (totR R).left
  bd : -9223372036854775808 ≤ (totR R).serves + (totR R).left ∧ (totR R).serves + (totR R).left ≤ 9223372036854775807
  none : ¬ satq (p.min * p.target) < M → (totR R).left = 0 ∧ (lngR R).1 = 0
theorem keep_of {p : Pol} (hk : p.okP) {l : List Shp} (hok : ∀ s ∈ l, s.ok) (T : Nat) (hT : T ≤ 40) (hm : satq (mostq l * 64) ≠ 9223372036854775807) : KeepT p (mostq l) (lrun p (comesq l) T).2 := by
  have h0 := (sumS_most 0 hok).2
  have hM : mostq l * 64 ≤ 9223372036854775807 := by
    apply Classical.byContradiction; intro hc
    exact hm (by unfold satq; rw [if_pos (by omega)])
  have hc : ∀ i : Nat, 0 ≤ comesq l i ∧ comesq l i ≤ mostq l := fun i => ⟨sumS_nonneg i hok, (sumS_most i hok).1⟩
  obtain ⟨k1, k2, k3, k4, k5⟩ := loop_keeps hk hM hc T hT
  refine ⟨by rw [k1, k2], ?_, fun hs => ?_⟩
  · have : (T : Int) * mostq l ≤ 40 * mostq l := Int.mul_le_mul_of_nonneg_right (by omega) h0
    omega
  · have h := loop_none hk hM hc (by omega) T hT
    exact ⟨by rw [k2, h.1], by rw [h.2]⟩
theorem walk_LoopKeeps (a0 a1 a2 a3 a4 a5 : Int) (a6 : Int) (A : Option Addr) (len cap : Nat) (l : List Shp) (w : World) (h0 : I64 a0) (h1 : I64 a1) (h2 : I64 a2) (h3 : I64 a3) (h4 : I64 a4) (h5 : I64 a5) (h6 : I64 a6) (hs : ShpsAre w A len cap l) (hg : ∀ x ∈ l, x.good) :
    Calls Try.prog 9 #[.agg #[.int .i64 a0, .int .i64 a1, .int .i64 a2, .int .i64 a3, .int .i64 a4, .int .i64 a5], .int .i64 a6, .slice A len cap] w fun e w' => e = .returned (.bool true) ∧ Below w.heap.size w w' := by
  obtain ⟨p, rfl, rfl, rfl, rfl, rfl, rfl⟩ : ∃ p : Pol, a0 = p.min ∧ a1 = p.max ∧ a2 = p.target ∧ a3 = p.tol ∧ a4 = p.window ∧ a5 = p.hold := ⟨⟨a0, a1, a2, a3, a4, a5⟩, rfl, rfl, rfl, rfl, rfl, rfl⟩
  have HP := Lib.hid (show p.fit from ⟨h0, h1, h2, h3, h4, h5⟩)
  have HS := Lib.hid hs
  have HG := Lib.hid hg
  have hle : len ≤ cap := hs.2.1
  have hm : cap ≤ 9223372036854775807 := by have := hs.2.2.1; unfold maxLen at this; omega
  have D0 := Lib.hid (PL.start w p)
  clear hs hg h0 h1 h2 h3 h4 h5 h6
  have hcase : (6 < len) ∨ (¬ 6 < len ∧ a6 < 0) ∨ (¬ 6 < len ∧ ¬ a6 < 0 ∧ 40 < a6) ∨ (¬ 6 < len ∧ 0 ≤ a6 ∧ a6 ≤ 40) := by omega
  rcases hcase with hl | ⟨hl, ht⟩ | ⟨hl, ht, ht2⟩ | ⟨hl, ht1, ht2⟩
  · have d0 : decide ((6 : Int) < (len : Int)) = true := by simp; omega
    go_enter Try.func9, Try.ntmps9
    go_wp2_with (go_at_call 35; refine (awake55 _).mono ?_; rintro e v1 ⟨rfl, hb1⟩; have D1 := Lib.hid (D0.out.call hb1); clear hb1)
    go_ret
    exact ⟨rfl, D1.out.2⟩
  · have d0 : decide ((6 : Int) < (len : Int)) = false := by simp; omega
    have d1 : decide (a6 < 0) = true := by simpa using ht
    clear ht hl
    go_enter Try.func9, Try.ntmps9
    go_wp2_with (go_at_call 35; refine (awake55 _).mono ?_; rintro e v1 ⟨rfl, hb1⟩; have D1 := Lib.hid (D0.out.call hb1); clear hb1)
    go_ret
    exact ⟨rfl, D1.out.2⟩
  · have d0 : decide ((6 : Int) < (len : Int)) = false := by simp; omega
    have d1 : decide (a6 < 0) = false := by simp; omega
    have d2 : decide (40 < a6) = true := by simpa using ht2
    clear ht ht2 hl
    go_enter Try.func9, Try.ntmps9
    go_wp2_with (go_at_call 35; refine (awake55 _).mono ?_; rintro e v1 ⟨rfl, hb1⟩; have D1 := Lib.hid (D0.out.call hb1); clear hb1)
    go_ret
    exact ⟨rfl, D1.out.2⟩
  have d0 : decide ((6 : Int) < (len : Int)) = false := by simp; omega
  have d1 : decide (a6 < 0) = false := by simp; omega
  have d2 : decide (40 < a6) = false := by simp; omega
  have HC2 := Lib.hid (fun W hW => ref55_Check p a6 A len cap l W hW (by omega))
  have hl2 : len ≤ 6 := by omega
  by_cases hE : lchk p a6 l = 0
  · obtain ⟨hk, he, -, -⟩ := lchk_ok hE
    have HSh := Lib.hid (fun W hW => law_shapes A len cap l W hW (by omega))
    unfold ShapesP at HSh
    have HRn := Lib.hid (fun W A2 n2 c2 hW (hn : n2 ≤ 1000) => loop_Run p a6 A2 n2 c2 l W HP.out hW HG.out hn)
    unfold LRunP at HRn
    have HL := Lib.hid HS.out.1
    obtain ⟨T, rfl⟩ : ∃ T : Nat, a6 = T := ⟨a6.toNat, by omega⟩
    have hT : T ≤ 40 := by omega
    rw [if_pos hE, hE, Int.toNat_natCast] at HRn
    rw [hE] at HC2
    have HOkS := errS_ok he
    have HKt := Lib.hid (fun hm => keep_of hk HOkS T hT hm)
    have HRn2 := Lib.hid (lrun_len p (comesq l) T)
    have HRg : ∀ r ∈ (lrun p (comesq l) T).2, r.good := rows_good HP.out hk T (by omega) (fun i _ => ⟨sumS_nonneg i HOkS, sumS_I64 i l⟩)
    have HRG := Lib.hid HRg
    have HP64 := Lib.hid (And.intro HP.out.1 HP.out.2.2.1)
    generalize (lrun p (comesq l) T).2 = R at *
    clear hk he hE HOkS HRg ht1 ht2
    go_enter Try.func9, Try.ntmps9
    focus (go_upto_region 5 with (first
      | (go_at_call 35; refine (awake55 _).mono ?_; rintro e v1 ⟨rfl, hb1⟩; have D1 := Lib.hid (D0.out.call hb1); have p0 := D1.out.1.cellv (i := 0) (v := .int .i64 p.min) rfl; have p1 := D1.out.1.cellv (i := 1) (v := .int .i64 p.max) rfl; have p2 := D1.out.1.cellv (i := 2) (v := .int .i64 p.target) rfl; have p3 := D1.out.1.cellv (i := 3) (v := .int .i64 p.tol) rfl; have p4 := D1.out.1.cellv (i := 4) (v := .int .i64 p.window) rfl; have p5 := D1.out.1.cellv (i := 5) (v := .int .i64 p.hold) rfl; clear hb1)
      | (go_at_call 36; refine (HC2.out _ (slice_keep HS.out D1.out.2)).mono ?_; rintro e v2 ⟨rfl, hb2⟩; have D2 := Lib.hid (D1.out.call hb2); clear hb2)))
    clear p0 p1 p2 p3 p4 p5 D1
    refine wp_region_any (by kernel_rfl) ?_; change wpAny _ _ _ _ _ _ _ (World.drew v2); refine any_of_anyG (late := fun _ => false) (S := fun wS => Below v2.heap.size v2 wS) _ _ _ _ ?_
    have S0 := (Below.refl v2.heap.size v2).drew
    refine anyG_takes (is := [0, 1, 2]) (vs := [_, _, _]) (m := 7) (listed2 := #[true, true, true, false, false, false, false, false, false, false]) (a2 := ⟨#[_, _, _, _, _, _, _, _, _, _, _, _, _, _, _, _, _, _, _, _, _, _, _, _, _, _, _, _, _, _, _, _, _, _, _, _, _, _, _, _, _, _, _, _, _, _, _, _, _, _, _, _, _, _, _, _, _, _, _, _, _, _, _, _, _, _, _, _, _, _, _, _, _, _, _, _, _, _, _, _, _, _, _, _, _, _, _, _, _, _], _⟩) (by kernel_rfl) (fun j hj => by simp at hj) (by kernel_rfl) (fun _ _ _ _ _ h => h) (Ys.cons rfl (Or.inl ⟨by rfl, fun W1 hW1 => exec_load (ty := 23) (x := .tmp 3) rfl rfl (run_loadAt_blk _ _ _ _ _ _ (D2.out.1.call hW1) Try.underlying23 rfl (by first | kernel_rfl | exact info_num _))⟩) (Ys.cons rfl (Or.inl ⟨by rfl, fun W1 hW1 => by first | rfl | (go_simp; done) | (go_simp; with_reducible rfl)⟩) (Ys.cons rfl (Or.inl ⟨by rfl, fun W1 hW1 => by first | rfl | (go_simp; done) | (go_simp; with_reducible rfl)⟩) (Ys.nil)))) (S0) (by rfl) (by rfl) ?_
    refine anyG_one (k := 3) (by kernel_rfl) rfl (by rfl) (fun Q2 hQ2 => ?_); go_wp2_with (go_at_call 38; refine (HSh.out _ (slice_keep HS.out (D2.out.2.trans (Below.mono (S0) D2.out.2.size)))).mono ?_; rintro e v3 ⟨A2, n2, c2, rfl, hs2, hb3⟩; have L2 := Lib.hid hs2; have N2 := Lib.hid (show n2 ≤ 1000 from (by rw [← hs2.1, HL.out]; omega)); clear hs2); refine hQ2 _ _ (fun _ => S0.trans (hb3.mono S0.size)) ?_; clear hQ2 Q2
    have S3 := S0.trans (hb3.mono S0.size)
    refine anyG_one (k := 4) (by kernel_rfl) rfl (by rfl) (fun Q2 hQ2 => ?_); go_wp2_with (go_at_call 37; refine (HRn.out _ A2 n2 c2 L2.out N2.out).mono ?_; rintro e v4 ⟨A3, n3, c3, rfl, hs3, hb4⟩; have hn3 : n3 = T := (by rw [← hs3.1, HRn2.out]); subst hn3; have R3 := Lib.hid hs3; clear hs3); refine hQ2 _ _ (fun _ => S3.trans (hb4.mono S3.size)) ?_; clear hQ2 Q2
    have S4 := S3.trans (hb4.mono S3.size)
    refine anyG_takes (is := [5, 6, 7, 8, 9]) (vs := [.tuple #[.slice A3 n3 c3, .int .i64 0], .slice A3 n3 c3, .int .i64 0, .slice A3 n3 c3, .int .i64 0]) (m := 0) (listed2 := #[true, true, true, true, true, true, true, true, true, true]) (a2 := ⟨#[_, _, _, _, _, _, _, _, _, _, _, _, _, _, _, _, _, _, _, _, _, _, _, _, _, _, _, _, _, _, _, _, _, _, _, _, _, _, _, _, _, _, _, _, _, _, _, _, _, _, _, _, _, _, _, _, _, _, _, _, _, _, _, _, _, _, _, _, _, _, _, _, _, _, _, _, _, _, _, _, _, _, _, _, _, _, _, _, _, _], _⟩) (by kernel_rfl) (fun j hj => by simp at hj) (by kernel_rfl) (fun _ _ _ _ _ h => h) (Ys.cons rfl (Or.inl ⟨by rfl, fun W1 hW1 => by rfl⟩) (Ys.cons rfl (Or.inl ⟨by rfl, fun W1 hW1 => by rfl⟩) (Ys.cons rfl (Or.inl ⟨by rfl, fun W1 hW1 => by rfl⟩) (Ys.cons rfl (Or.inl ⟨by rfl, fun W1 hW1 => by rfl⟩) (Ys.cons rfl (Or.inl ⟨by rfl, fun W1 hW1 => by rfl⟩) (Ys.nil)))))) (S4) (by rfl) (by rfl) ?_
    refine anyG_done (by kernel_rfl) ?_ _
    have D4 := Lib.hid (D2.out.call (S4))
    have R4 := Lib.hid R3.out
    clear hb3 hb4 D2 R3
    go_wp2
    go_loopw [9, 51] (fun m i wr => ∃ k : Nat, k ≤ len ∧ i = .int .i64 k ∧ m = .int .i64 (mostq (l.take k)) ∧ Below v4.heap.size v4 wr) (fun _ i _ => len - (intOf i).toNat)
    case atStart => exact ⟨0, Nat.zero_le _, rfl, rfl, Below.refl _ _⟩
    case round =>
      obtain ⟨k, hk, rfl, rfl, hbel⟩ := hrel
      have HW := Lib.hid hbel
      clear hbel
      by_cases hlt : k < len
      · obtain ⟨b, off, s, rfl, hx, hb, t0, t1, t2, t3, t4⟩ := ShpsAre.row (slice_keep HS.out D4.out.2) hlt
        have k0 := (HW.out.cell (p := ⟨b, off + k * 5, none⟩) hb).trans t0
        have k1 := (HW.out.cell (p := ⟨b, off + k * 5 + 1, none⟩) hb).trans t1
        have k2 := (HW.out.cell (p := ⟨b, off + k * 5 + 2, none⟩) hb).trans t2
        have k3 := (HW.out.cell (p := ⟨b, off + k * 5 + 3, none⟩) hb).trans t3
        have k4 := (HW.out.cell (p := ⟨b, off + k * 5 + 4, none⟩) hb).trans t4
        have hki : (k : Int) < (len : Int) := by omega
        have HN := Lib.hid (mostq_next hx)
        have HA := Lib.hid (fun W => ref_Add (mostq (l.take k)) s.high W (mostq_I64 _) (HG.out s (List.mem_of_getElem? hx)).2.2.1)
        have E1 := Lib.hid (HW.out.alloc HW.out.size (.cells s.row 71))
        generalize mostq (l.take k) = m at *
        clear hx hb t0 t1 t2 t3 t4
        go_wp2_with (go_at_call 39; refine (HA.out _).mono ?_; rintro e v6 ⟨rfl, rfl⟩)
        go_roundw
        case rel => first | exact ⟨k + 1, by omega, by go_num, by rw [HN.out], E1.out⟩ | ((repeat apply Exists.intro); exact ⟨⟨k + 1, by omega, by go_num, by rw [HN.out], E1.out⟩, rfl⟩)
        case measure => simp [intOf]; omega
      · have hE : l.take k = l := List.take_of_length_le (by have := HL.out; omega)
        rw [hE]
        have HTt := Lib.hid (fun W hW => loop_Total A3 n3 c3 R W hW HRG.out (by omega))
        have HLg := Lib.hid (fun W hW => loop_Longest A3 n3 c3 R W hW (by omega))
        have HM64 := Lib.hid (fun W => ref_Mul (mostq l) 64 W (mostq_I64 l) (by unfold I64; omega))
        have HMt := Lib.hid (fun W => ref_Mul p.min p.target W HP64.out.1 HP64.out.2)
        have D6 := Lib.hid (D4.out.call HW.out)
        have R6 := Lib.hid (slice_keep R4.out HW.out)
        generalize mostq l = M at *
        by_cases hm2 : satq (M * 64) = 9223372036854775807
        · have dm : (satq (M * 64) == 9223372036854775807) = true := by simpa using hm2
          generalize satq (M * 64) = M64 at *
          clear hm2 hE
          go_wp2_with (first
            | (go_at_call 40; refine (HTt.out _ R6.out).mono ?_; rintro e v7 ⟨rfl, hb7⟩; have D7 := Lib.hid ((D6.out.call hb7).alloc (.cells (totR R).row rwT)); clear hb7)
            | (go_at_call 41; (with_reducible refine (HM64.out _).mono ?_); rintro e v8 ⟨rfl, rfl⟩))
          go_ret
          exact ⟨rfl, D7.out.2⟩
        · have KT := HKt.out hm2
          have dm : (satq (M * 64) == 9223372036854775807) = false := by simpa using hm2
          have KS := Lib.hid KT.sum
          have kb1 := KT.bd.1
          have kb2 := KT.bd.2
          have KN := Lib.hid KT.none
          generalize satq (M * 64) = M64 at *
          clear hm2 hE KT HKt
          generalize totR R = t at *
          obtain ⟨tt, tc, tr, ts, tl⟩ := t
          simp only at KS kb1 kb2 KN
          obtain rfl := KS.out
          clear KS
          by_cases hlt2 : satq (p.min * p.target) < M
          · have dl : decide (satq (p.min * p.target) < M) = true := by simpa using hlt2
            generalize satq (p.min * p.target) = MT at *
            clear hlt2 KN
            go_wp2_with (first
              | (go_at_call 40; refine (HTt.out _ R6.out).mono ?_; rintro e v7 ⟨rfl, hb7⟩; have D7 := Lib.hid ((D6.out.call hb7).alloc (.cells #[.int .i64 tt, .int .i64 (ts + tl), .int .i64 tr, .int .i64 ts, .int .i64 tl] rwT)); have p0 := D7.out.1.cellv (i := 0) (v := .int .i64 p.min) rfl; have p2 := D7.out.1.cellv (i := 2) (v := .int .i64 p.target) rfl; clear hb7)
              | (go_at_call 41; (with_reducible refine (HM64.out _).mono ?_); rintro e v8 ⟨rfl, rfl⟩)
              | (go_at_call 41; (with_reducible refine (HMt.out _).mono ?_); rintro e v8 ⟨rfl, rfl⟩))
            go_ret
            exact ⟨rfl, D7.out.2⟩
          · have dl : decide (satq (p.min * p.target) < M) = false := by simpa using hlt2
            obtain ⟨hl0, hg0⟩ := KN.out hlt2
            rw [hg0] at HLg
            subst hl0
            simp only [Int.add_zero] at HTt kb1 kb2
            generalize satq (p.min * p.target) = MT at *
            clear hlt2 KN hg0
            go_wp2_with (first
              | (go_at_call 40; refine (HTt.out _ R6.out).mono ?_; rintro e v7 ⟨rfl, hb7⟩; have D7 := Lib.hid ((D6.out.call hb7).alloc (.cells #[.int .i64 tt, .int .i64 ts, .int .i64 tr, .int .i64 ts, .int .i64 0] rwT)); have R7 := Lib.hid (slice_keep (slice_keep R6.out hb7) ((Below.refl _ v7).alloc (Nat.le_refl _) (.cells #[.int .i64 tt, .int .i64 ts, .int .i64 tr, .int .i64 ts, .int .i64 0] rwT))); have p0 := D7.out.1.cellv (i := 0) (v := .int .i64 p.min) rfl; have p2 := D7.out.1.cellv (i := 2) (v := .int .i64 p.target) rfl; clear hb7)
              | (go_at_call 41; (with_reducible refine (HM64.out _).mono ?_); rintro e v8 ⟨rfl, rfl⟩)
              | (go_at_call 41; (with_reducible refine (HMt.out _).mono ?_); rintro e v8 ⟨rfl, rfl⟩)
              | (go_at_call 42; refine (HLg.out _ R7.out).mono ?_; rintro e v9 ⟨rfl, hb9⟩; have D9 := Lib.hid (D7.out.call hb9); clear hb9))
            go_ret
            exact ⟨rfl, D9.out.2⟩
  · generalize lchk p a6 l = E at *
    have e3 : (E != 0) = true := by simpa using hE
    have e4 : (E == 0) = false := by simpa using hE
    clear hE
    go_enter Try.func9, Try.ntmps9
    go_wp2_with (first
      | (go_at_call 35; refine (awake55 _).mono ?_; rintro e v1 ⟨rfl, hb1⟩; have D1 := Lib.hid (D0.out.call hb1); have p0 := D1.out.1.cellv (i := 0) (v := .int .i64 p.min) rfl; have p1 := D1.out.1.cellv (i := 1) (v := .int .i64 p.max) rfl; have p2 := D1.out.1.cellv (i := 2) (v := .int .i64 p.target) rfl; have p3 := D1.out.1.cellv (i := 3) (v := .int .i64 p.tol) rfl; have p4 := D1.out.1.cellv (i := 4) (v := .int .i64 p.window) rfl; have p5 := D1.out.1.cellv (i := 5) (v := .int .i64 p.hold) rfl; clear hb1)
      | (go_at_call 36; refine (HC2.out _ (slice_keep HS.out D1.out.2)).mono ?_; rintro e v2 ⟨rfl, hb2⟩; have D2 := Lib.hid (D1.out.call hb2); clear hb2))
    go_ret
    exact ⟨rfl, D2.out.2⟩
end Go.Proofs.Ytjodpffdlggjgaa
