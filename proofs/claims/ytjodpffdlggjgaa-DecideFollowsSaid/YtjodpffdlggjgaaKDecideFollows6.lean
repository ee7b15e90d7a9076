/- Several texts in one. -/
import Derived.Test.YtjodpffdlggjgaaKDecideFollows5
/- flywheelref16.Follow: the walk. -/
namespace Go.Proofs.Ytjodpffdlggjgaa
open Go.RowKit
set_option linter.unusedSimpArgs false
set_option linter.unusedVariables false
set_option maxHeartbeats 8000000
set_option maxRecDepth 100000
def FolPost2 (p : Pol) (sm rm : Int) (l : List Smp) (w : World) (e : Ending) (w' : World) : Prop := ∃ A n c, e = .returned (.slice A n c) ∧ OwnA w' w.heap.size (.slice A n c) (folq p sm rm l).out ∧ Below w.heap.size w w'
theorem folq_srt (p : Pol) (sm rm : Int) (l : List Smp) (k : Nat) (hk : k ≤ l.length) : Srt (folq p sm rm (l.take k)).smps :=
  folq_all (fun n st => Srt st.smps) p sm rm l List.Pairwise.nil (fun n st x hx h => by
    rw [fstep_smps]; unfold putr
    split
    · exact srt_putv h _ x
    · exact h) k hk
theorem folq_past (p : Pol) (sm rm : Int) (l : List Smp) (k : Nat) (hk : k ≤ l.length) : (folq p sm rm (l.take k)).past.length ≤ 64 :=
  folq_all (fun n st => st.past.length ≤ 64) p sm rm l (Nat.zero_le _) (fun n st x hx h => by
    unfold fstep
    split
    · split
      · dsimp only
        unfold hush
        split
        · rename_i hr
          unfold pushq
          split
          · rw [List.length_drop, List.length_append]; simp; omega
          · rename_i h2; omega
        · simp
      · exact h
    · exact h) k hk
def RefIn (w1 wr : World) (A3 : Option Addr) (n3 c3 : Nat) (A4 : Option Addr) (n4 c4 : Nat) (v : Value) (st : Fst) : Prop :=
  SmpsAre wr A3 n3 c3 st.smps ∧ AdvsAre wr A4 n4 c4 st.past ∧ OwnA wr w1.heap.size v st.out ∧ (∀ a, A3 = some a → a.block < wr.heap.size ∧ v.ownBlock ≠ some a.block) ∧ (∀ a, A4 = some a → a.block < wr.heap.size ∧ v.ownBlock ≠ some a.block) ∧ Below w1.heap.size w1 wr ∧ w1.heap.size ≤ wr.heap.size
theorem RefIn.start (w : World) : RefIn w w none 0 0 none 0 0 (.slice none 0 0) ⟨[], [], []⟩ :=
  ⟨slice_nil _ _ _, slice_nil _ _ _, Own.nil _ _ _ _ _, fun a ha => (by cases ha), fun a ha => (by cases ha), Below.refl _ _, Nat.le_refl _⟩
theorem RefIn.call {w1 wr w' : World} {A3 : Option Addr} {n3 c3 : Nat} {A4 : Option Addr} {n4 c4 : Nat} {v : Value} {st : Fst} (h : RefIn w1 wr A3 n3 c3 A4 n4 c4 v st) (hb : Below wr.heap.size wr w') : RefIn w1 w' A3 n3 c3 A4 n4 c4 v st := by
  obtain ⟨h1, h2, h3, h4, h5, h6, h7⟩ := h
  exact ⟨slice_keep h1 hb, slice_keep h2 hb, h3.call hb, fun a ha => ⟨Nat.lt_of_lt_of_le (h4 a ha).1 hb.size, (h4 a ha).2⟩, fun a ha => ⟨Nat.lt_of_lt_of_le (h5 a ha).1 hb.size, (h5 a ha).2⟩, h6.trans (hb.mono h7), Nat.le_trans h7 hb.size⟩
theorem RefIn.smps {w1 wr w' : World} {A3 : Option Addr} {n3 c3 : Nat} {A4 : Option Addr} {n4 c4 : Nat} {v : Value} {st : Fst} {A : Option Addr} {n c : Nat} {l : List Smp} (h : RefIn w1 wr A3 n3 c3 A4 n4 c4 v st) (hs : SmpsAre w' A n c l) (hb : Below wr.heap.size wr w') (hf : ∀ a, A = some a → wr.heap.size ≤ a.block ∧ a.block < w'.heap.size) : RefIn w1 w' A n c A4 n4 c4 v ⟨l, st.past, st.out⟩ := by
  obtain ⟨h1, h2, h3, h4, h5, h6, h7⟩ := h.call hb
  refine ⟨hs, h2, h3, fun a ha => ⟨(hf a ha).2, fun e => ?_⟩, h5, h6, h7⟩
  have := (World.ownsRow.lt h.2.2.1 _ e).2
  have := (hf a ha).1
  omega
theorem RefIn.advs {w1 wr w' : World} {A3 : Option Addr} {n3 c3 : Nat} {A4 : Option Addr} {n4 c4 : Nat} {v : Value} {st : Fst} {A : Option Addr} {n c : Nat} {l : List Adv} (h : RefIn w1 wr A3 n3 c3 A4 n4 c4 v st) (hs : AdvsAre w' A n c l) (hb : Below wr.heap.size wr w') (hf : ∀ a, A = some a → wr.heap.size ≤ a.block ∧ a.block < w'.heap.size) : RefIn w1 w' A3 n3 c3 A n c v ⟨st.smps, l, st.out⟩ := by
  obtain ⟨h1, h2, h3, h4, h5, h6, h7⟩ := h.call hb
  refine ⟨h1, hs, h3, h4, fun a ha => ⟨(hf a ha).2, fun e => ?_⟩, h6, h7⟩
  have := (World.ownsRow.lt h.2.2.1 _ e).2
  have := (hf a ha).1
  omega
theorem RefIn.push {w1 wr w' : World} {A3 : Option Addr} {n3 c3 : Nat} {A4 : Option Addr} {n4 c4 : Nat} {v v' : Value} {st : Fst} {a : Adv} (h : RefIn w1 wr A3 n3 c3 A4 n4 c4 v st) (ho : OwnA w' w1.heap.size v' (st.out ++ [a])) (hu : Upd (fun k => v.ownBlock = some k) wr w') (hw : v'.ownBlock = v.ownBlock ∨ v'.ownBlock = some wr.heap.size) : RefIn w1 w' A3 n3 c3 A4 n4 c4 v' ⟨st.smps, st.past, st.out ++ [a]⟩ := by
  obtain ⟨h1, h2, h3, h4, h5, h6, h7⟩ := h
  have hlt := World.ownsRow.lt h3
  have key : ∀ a : Addr, a.block < wr.heap.size → v.ownBlock ≠ some a.block → v'.ownBlock ≠ some a.block := fun a ha hn e => by
    rcases hw with hw | hw
    · exact hn (hw.symm.trans e)
    · rw [hw] at e; injection e with e; omega
  exact ⟨slice_upd h1 hu (fun a ha => (h4 a ha).2), slice_upd h2 hu (fun a ha => (h5 a ha).2), ho, fun a ha => ⟨Nat.lt_of_lt_of_le (h4 a ha).1 hu.size, key a (h4 a ha).1 (h4 a ha).2⟩, fun a ha => ⟨Nat.lt_of_lt_of_le (h5 a ha).1 hu.size, key a (h5 a ha).1 (h5 a ha).2⟩, h6.trans (hu.below (fun k hk => (hlt k hk).1) h7), Nat.le_trans h7 hu.size⟩
theorem ref16_Follow_bad (p : Pol) (A : Option Addr) (len cap : Nat) (l : List Smp) (sm rm : Int) (w : World) (hb : ¬ goodS sm ∨ ¬ (1 ≤ rm ∧ rm ≤ 64)) :
    Calls Try.prog 34 #[(.agg #[.int .i64 p.min, .int .i64 p.max, .int .i64 p.target, .int .i64 p.tol, .int .i64 p.window, .int .i64 p.hold]), .slice A len cap, .int .i64 sm, .int .i64 rm] w (FolPost2 p sm rm l w) := by
  have HB := Lib.hid (folq_bad p sm rm l hb)
  have hd : (decide (sm < 1) = true) ∨ (decide (sm < 1) = false ∧ decide (256 < sm) = true) ∨ (decide (sm < 1) = false ∧ decide (256 < sm) = false ∧ decide (rm < 1) = true) ∨ (decide (sm < 1) = false ∧ decide (256 < sm) = false ∧ decide (rm < 1) = false ∧ decide (64 < rm) = true) := by
    unfold goodS at hb
    simp only [decide_eq_true_eq, decide_eq_false_iff_not]
    omega
  clear hb
  rcases hd with d1 | ⟨d1, d2⟩ | ⟨d1, d2, d3⟩ | ⟨d1, d2, d3, d4⟩
  all_goals
    go_enter Try.func34, Try.ntmps34
    go_wp2
    go_ret
    exact ⟨none, 0, 0, rfl, by rw [HB.out]; exact Own.nil _ _ _ _ _, by go_grown⟩
theorem ref16_Follow_good (p : Pol) (A : Option Addr) (len cap : Nat) (l : List Smp) (S R : Nat) (w : World) (hp : p.fit) (hs : SmpsAre w A len cap l) (hg : ∀ x ∈ l, x.good) (hn : len ≤ 200) (s1 : 1 ≤ S) (s2 : S ≤ 256) (r1 : 1 ≤ R) (r2 : R ≤ 64) :
    Calls Try.prog 34 #[(.agg #[.int .i64 p.min, .int .i64 p.max, .int .i64 p.target, .int .i64 p.tol, .int .i64 p.window, .int .i64 p.hold]), .slice A len cap, .int .i64 S, .int .i64 R] w (FolPost2 p S R l w) := by
  have HS := Lib.hid hs
  have HL := Lib.hid hs.1
  have HP := Lib.hid hp
  have HN := Lib.hid (fun (k : Nat) (x : Smp) (h : l[k]? = some x) => folq_next p S R h)
  have HQ := Lib.hid (fun k hk => folq_len p S R l k hk)
  have HQg := Lib.hid (fun k hk => folq_good p S R l hg k hk)
  have HQs := Lib.hid (fun k hk => folq_srt p S R l k hk)
  have HQp := Lib.hid (fun k hk => folq_past p S R l k hk)
  have d1 : decide ((S : Int) < 1) = false := by simp; omega
  have d2 : decide ((256 : Int) < (S : Int)) = false := by simp; omega
  have d3 : decide ((R : Int) < 1) = false := by simp; omega
  have d4 : decide ((64 : Int) < (R : Int)) = false := by simp; omega
  have d1' : ¬ S < 1 := by omega
  have d2' : ¬ 256 < S := by omega
  have d3' : ¬ R < 1 := by omega
  have d4' : ¬ 64 < R := by omega
  have HSR := Lib.hid (show (1 ≤ S ∧ S ≤ 256) ∧ 1 ≤ R ∧ R ≤ 64 from ⟨⟨s1, s2⟩, r1, r2⟩)
  clear hs hg hp s1 s2 r1 r2
  obtain ⟨w1, hw1⟩ : ∃ w1, w1 = w.alloc (.cells #[.int .i64 p.min, .int .i64 p.max, .int .i64 p.target, .int .i64 p.tol, .int .i64 p.window, .int .i64 p.hold] 23) := ⟨_, rfl⟩
  have B1 := Lib.hid (show Blk w1 w.heap.size 23 #[.int .i64 p.min, .int .i64 p.max, .int .i64 p.target, .int .i64 p.tol, .int .i64 p.window, .int .i64 p.hold] by rw [hw1]; exact Blk.new _ _ _)
  have E1 := Lib.hid (show Below w.heap.size w w1 by rw [hw1]; go_grown)
  go_enter Try.func34, Try.ntmps34
  go_upto_region 1 with (fail)
  rw [← hw1]
  clear hw1
  go_wp2
  go_loopw [9, 10, 11, 12] (fun v v4 v3 i wr => ∃ (k : Nat) (A3 : Option Addr) (n3 c3 : Nat) (A4 : Option Addr) (n4 c4 : Nat), k ≤ len ∧ i = .int .i64 k ∧ v3 = .slice A3 n3 c3 ∧ v4 = .slice A4 n4 c4 ∧ RefIn w1 wr A3 n3 c3 A4 n4 c4 v (folq p S R (l.take k))) (fun _ _ _ i _ => len - (intOf i).toNat)
  case atStart => exact ⟨0, none, 0, 0, none, 0, 0, Nat.zero_le _, rfl, rfl, rfl, RefIn.start w1⟩
  case round =>
    obtain ⟨k, A3, n3, c3, A4, n4, c4, hk, rfl, rfl, rfl, hin⟩ := hrel
    obtain ⟨A5, n5, c5, rfl, -, -⟩ := hin.2.2.1.shape adv_len
    have HI := Lib.hid hin
    clear hin
    by_cases hlt : k < len
    · obtain ⟨b, off, x, rfl, hx, hb, t0, t1⟩ := HS.out.at_ hlt
      have hbw := E1.out.trans (HI.out.2.2.2.2.2.1.mono E1.out.size)
      have kt0 := (hbw.cell (p := ⟨b, off + k * 2, none⟩) hb).trans t0
      have kt1 := (hbw.cell (p := ⟨b, off + k * 2 + 1, none⟩) hb).trans t1
      have hki : (k : Int) < (len : Int) := by omega
      have HN1 := Lib.hid (HN.out k x hx)
      have HLn := Lib.hid (HQ.out (k + 1) (by have := HL.out; omega)).1
      have HL0 := Lib.hid (HQ.out k (by have := HL.out; omega)).1
      have HGd := Lib.hid (HQg.out (k + 1) (by have := HL.out; omega))
      have HLo := Lib.hid (HQ.out k (by have := HL.out; omega)).2
      have HSr := Lib.hid (HQs.out k (by have := HL.out; omega))
      have HPa := Lib.hid (HQp.out k (by have := HL.out; omega))
      rw [HN1.out, fstep_smps] at HLn HGd
      clear hx hb t0 t1 hbw
      generalize folq p S R (l.take k) = st at *
      have HR := Lib.hid (fun w => ref08_Right x.tick x.value w)
      have HEr := Lib.hid (show errr S x = serErr x.tick x.value by
        have := HSR.out
        unfold errr
        rw [if_pos (show goodS S by unfold goodS; omega)]
        split
        · rename_i h; exact h.symm
        · rfl)
      by_cases he : serErr x.tick x.value = 0
      · have HE := Lib.hid (HEr.out.trans he)
        have HQp : putr st.smps S x = putq st.smps S x := by
          have := HSR.out
          unfold putr putv
          rw [if_pos (show goodS S by unfold goodS; omega), if_pos he]; rfl
        rw [he] at HR
        have H1 := Lib.hid (fun h2 => HN1.out.trans (fstep_ok HE.out h2 (by have := HSR.out; omega)))
        have H3 := Lib.hid (fun h2 => HN1.out.trans (fstep_skip (rm := R) HE.out h2))
        rw [HQp] at H1 H3 HLn HGd
        have HPu := Lib.hid (fun W hW => ref08_Put A3 n3 c3 st.smps S x W hW (by have := HI.out.1.1; have := HL0.out; omega) HSr.out (by have := HSR.out; omega))
        clear he HE HQp HN1 HEr
        generalize putq st.smps S x = hh at *
        have HOf := Lib.hid (fun W A n c B m d hW hW2 hn hm => (show Calls Try.prog 66 #[(.agg #[.int .i64 p.min, .int .i64 p.max, .int .i64 p.target, .int .i64 p.tol, .int .i64 p.window, .int .i64 p.hold]), .slice A n c, .slice B m d] W fun e w' => e = .returned (.tuple #[.agg #[.int .i64 (ofq p hh st.past).tick, .int .i64 (ofq p hh st.past).load, .int .i64 (ofq p hh st.past).want, .int .i64 (ofq p hh st.past).repl, .int .i64 (ofq p hh st.past).why], .int .i64 (ofe p hh)]) ∧ Below W.heap.size W w' from ref16_Of p A n c hh B m d st.past W HP.out hW HGd.out hn hW2 hm))
        generalize ofq p hh st.past = X at *
        generalize ofe p hh = OE at *
        have HLo2 := Lib.hid (show st.out.length < 1000000 by have := HLo.out; omega)
        have HLn2 := Lib.hid (show hh.length ≤ 200 by have := HLn.out; omega)
        clear HLo HLn
        go_wp2
        go_quiet ((go_at_call 18; exact Calls.quiet_of_same ((HR.out _).mono fun _ _ h => ⟨h.1, h.2.symm⟩)))
        go_wp2_with fail
        have I1 := Lib.hid (HI.out.call (below_drewN (Below.refl _ _) nq))
        refine (HPu.out _ I1.out.1).mono ?_
        rintro e w2 ⟨A6, n6, c6, rfl, hs6, hb6, hf6⟩
        have I2 := Lib.hid (I1.out.smps hs6 hb6 hf6)
        have B2 := Lib.hid (B1.out.call I2.out.2.2.2.2.2.1)
        have HX := Lib.hid (fun a => Blk.new a 26 (rowA X))
        clear hs6 hb6 hf6 I1 HI
        by_cases ho : OE = 0
        · have d5 : (OE == 0) = true := by simpa using ho
          have HE := Lib.hid (H1.out ho)
          clear ho H1 H3
          go_wp2_with (first
            | (refine Blk.load rfl 23 (.tmp 4) rfl _ _ _ _ rfl B2.out Try.underlying23 rfl (by kernel_rfl) ?_)
            | (go_at_call 66; refine (HOf.out _ _ _ _ _ _ _ I2.out.1 I2.out.2.1 (Nat.le_trans (Nat.le_of_eq I2.out.1.1.symm) HLn2.out) (Nat.le_trans (Nat.le_of_eq I2.out.2.1.1.symm) (Nat.le_trans HPa.out (by decide)))).mono ?_; rintro e w3 ⟨rfl, hb3⟩; have I3 := Lib.hid ((I2.out.call hb3).call (w' := w3.alloc (.cells (rowA X) 26)) ((Below.refl _ w3).alloc (Nat.le_refl _) _)); have X3 := Lib.hid (HX.out w3); clear hb3)
            | (refine Blk.load rfl 26 (.tmp 13) rfl _ _ _ _ rfl X4.out Try.underlying26 rfl (by kernel_rfl) ?_)
            | (refine Blk.load rfl 26 (.tmp 13) rfl _ _ _ _ rfl X3.out Try.underlying26 rfl (by kernel_rfl) ?_)
            | (go_at_call 62; refine (ref14_Put A4 n4 c4 st.past R X _ I3.out.2.1 (Nat.le_trans (Nat.le_of_eq I3.out.2.1.1.symm) (Nat.le_trans HPa.out (by decide))) (by have := HSR.out; omega)).mono ?_; rintro e w4 ⟨A7, n7, c7, rfl, hs7, hb7, hf7⟩; have I4 := Lib.hid (I3.out.advs hs7 hb7 hf7); have X4 := Lib.hid (X3.out.call hb7); clear hs7 hb7 hf7)
            | (at_builtin; refine wpList_push2 _ rfl (.tmp 67) (.tmp 69) 24 rfl w1.heap.size 26 _ 5 40 _ Try.underlying24 info_adv (by rfl) (by decide) (fun _ => rfl) adv_one (.slice A5 n5 c5) st.out rfl (I4.out.2.2.1.alloc _) ⟨_, 0, none⟩ 1 X rfl (blk_news (α := Adv) (vs := X.cells) (Blk.new _ _ _) rfl) HLo2.out (by decide) (by have := I4.out.2.2.2.2.2.2; simp; omega) ?_; intro v' w7 ho7 hu7 hw7; obtain ⟨A8, n8, c8, rfl, -, -⟩ := ho7.shape adv_len; have I7 := Lib.hid (RefIn.push (I4.out.call (by go_grown)) ho7 hu7 hw7); clear ho7 hu7 hw7))
          go_roundw
          case rel => exact ⟨k + 1, _, _, _, _, _, _, by omega, by go_num, rfl, rfl, by rw [HE.out]; unfold hush; rw [if_pos (by have := HSR.out; omega)]; exact I7.out⟩
          case measure => simp [intOf]; omega
        · have d5 : (OE == 0) = false := by simpa using ho
          have HE := Lib.hid (H3.out ho)
          clear ho H1 H3
          go_wp2_with (first
            | (refine Blk.load rfl 23 (.tmp 4) rfl _ _ _ _ rfl B2.out Try.underlying23 rfl (by kernel_rfl) ?_)
            | (go_at_call 66; refine (HOf.out _ _ _ _ _ _ _ I2.out.1 I2.out.2.1 (Nat.le_trans (Nat.le_of_eq I2.out.1.1.symm) HLn2.out) (Nat.le_trans (Nat.le_of_eq I2.out.2.1.1.symm) (Nat.le_trans HPa.out (by decide)))).mono ?_; rintro e w3 ⟨rfl, hb3⟩; have I3 := Lib.hid ((I2.out.call hb3).call (w' := w3.alloc (.cells (rowA X) 26)) ((Below.refl _ w3).alloc (Nat.le_refl _) _)); clear hb3))
          go_roundw
          case rel => exact ⟨k + 1, _, _, _, _, _, _, by omega, by go_num, rfl, rfl, by rw [HE.out]; exact I3.out⟩
          case measure => simp [intOf]; omega
      · have HE := Lib.hid (show errr S x ≠ 0 by rw [HEr.out]; exact he)
        generalize serErr x.tick x.value = ER at *
        have d5 : (ER != 0) = true := by simpa using he
        clear he HEr
        go_wp2
        go_quiet ((go_at_call 18; exact Calls.quiet_of_same ((HR.out _).mono fun _ _ h => ⟨h.1, h.2.symm⟩)))
        go_wp2_with fail
        go_roundw
        case rel => exact ⟨k + 1, _, _, _, _, _, _, by omega, by go_num, rfl, rfl, by rw [HN1.out, fstep_no HE.out]; exact HI.out.call (below_drewN (Below.refl _ _) _)⟩
        case measure => simp [intOf]; omega
    · have hE : l.take k = l := List.take_of_length_le (by have := HL.out; omega)
      rw [hE] at HI
      go_wp2
      go_ret
      exact ⟨_, _, _, rfl, HI.out.2.2.1.mono E1.out.size, E1.out.trans (HI.out.2.2.2.2.2.1.mono E1.out.size)⟩
theorem ref16_Follow (p : Pol) (A : Option Addr) (len cap : Nat) (l : List Smp) (sm rm : Int) (w : World) (hp : p.fit) (hs : SmpsAre w A len cap l) (hg : ∀ x ∈ l, x.good) (hn : len ≤ 200) :
    Calls Try.prog 34 #[(.agg #[.int .i64 p.min, .int .i64 p.max, .int .i64 p.target, .int .i64 p.tol, .int .i64 p.window, .int .i64 p.hold]), .slice A len cap, .int .i64 sm, .int .i64 rm] w (FolPost2 p sm rm l w) := by
  by_cases hb : ¬ goodS sm ∨ ¬ (1 ≤ rm ∧ rm ≤ 64)
  · exact ref16_Follow_bad p A len cap l sm rm w hb
  · have h1 : goodS sm := Classical.byContradiction fun h => hb (.inl h)
    have h2 : 1 ≤ rm ∧ rm ≤ 64 := Classical.byContradiction fun h => hb (.inr h)
    obtain ⟨S, rfl⟩ : ∃ S : Nat, sm = S := ⟨sm.toNat, by unfold goodS at h1; omega⟩
    obtain ⟨R, rfl⟩ : ∃ R : Nat, rm = R := ⟨rm.toNat, by omega⟩
    exact ref16_Follow_good p A len cap l S R w hp hs hg hn (by unfold goodS at h1; omega) (by unfold goodS at h1; omega) (by omega) (by omega)
end Go.Proofs.Ytjodpffdlggjgaa
/- Chapter 16's laws: DecideFollows. -/
namespace Go.Proofs.Ytjodpffdlggjgaa
open Go.RowKit
set_option linter.unusedSimpArgs false
set_option linter.unusedVariables false
set_option maxHeartbeats 8000000
set_option maxRecDepth 100000
theorem walk_DecideFollows (a0 a1 a2 a3 a4 a5 : Int) (A : Option Addr) (len cap : Nat) (l : List Smp) (a6 a7 : Int) (w : World) (h0 : I64 a0) (h1 : I64 a1) (h2 : I64 a2) (h3 : I64 a3) (h4 : I64 a4) (h5 : I64 a5) (hs : SmpsAre w A len cap l) (hg : ∀ x ∈ l, x.good) (h6 : I64 a6) (h7 : I64 a7) :
    Calls Try.prog 7 #[.agg #[.int .i64 a0, .int .i64 a1, .int .i64 a2, .int .i64 a3, .int .i64 a4, .int .i64 a5], .slice A len cap, .int .i64 a6, .int .i64 a7] w fun e w' => e = .returned (.bool true) ∧ Below w.heap.size w w' := by
  obtain ⟨p, rfl, rfl, rfl, rfl, rfl, rfl⟩ : ∃ p : Pol, a0 = p.min ∧ a1 = p.max ∧ a2 = p.target ∧ a3 = p.tol ∧ a4 = p.window ∧ a5 = p.hold := ⟨⟨a0, a1, a2, a3, a4, a5⟩, rfl, rfl, rfl, rfl, rfl, rfl⟩
  have HP := Lib.hid (show p.fit from ⟨h0, h1, h2, h3, h4, h5⟩)
  have HS := Lib.hid hs
  have HG := Lib.hid hg
  have H7 := Lib.hid h7
  have hle : len ≤ cap := hs.2.1
  have hm : cap ≤ 9223372036854775807 := by have := hs.2.2.1; unfold maxLen at this; omega
  clear hs hg h0 h1 h2 h3 h4 h5 h6 h7
  have B0 := Lib.hid (Blk.new w 23 #[.int .i64 p.min, .int .i64 p.max, .int .i64 p.target, .int .i64 p.tol, .int .i64 p.window, .int .i64 p.hold])
  have E0 := Lib.hid (show Below w.heap.size w (w.alloc (.cells #[.int .i64 p.min, .int .i64 p.max, .int .i64 p.target, .int .i64 p.tol, .int .i64 p.window, .int .i64 p.hold] 23)) by go_grown)
  by_cases hl : 20 < len
  · go_enter Try.func7, Try.ntmps7
    go_wp2_with (go_at_call 31; refine (awake16 _).mono ?_; rintro e v1 ⟨rfl, hb1⟩; have E1 := Lib.hid (E0.out.trans (hb1.mono E0.out.size)); clear hb1)
    all_goals first | (exfalso; omega) | skip
    go_ret
    exact ⟨rfl, E1.out⟩
  · have HF := Lib.hid (fun W hW => decide_Follow p A len cap l a6 a7 W HP.out hW HG.out (by omega) H7.out)
    have HF2 := Lib.hid (fun W hW => ref16_Follow p A len cap l a6 a7 W HP.out hW HG.out (by omega))
    have HLo := Lib.hid (show (folq p a6 a7 l).out.length ≤ 20 by
      have h := (folq_len p a6 a7 l l.length (Nat.le_refl _)).2
      rw [List.take_length] at h
      have := HS.out.1
      omega)
    go_enter Try.func7, Try.ntmps7
    go_wp2_with (first
      | (go_at_call 31; refine (awake16 _).mono ?_; rintro e v1 ⟨rfl, hb1⟩; have E1 := Lib.hid (E0.out.trans (hb1.mono E0.out.size)); have B1 := Lib.hid (B0.out.call hb1); clear hb1)
      | (refine Blk.load rfl 23 (.tmp 4) rfl _ _ _ _ rfl B2.out Try.underlying23 rfl (by kernel_rfl) ?_)
      | (refine Blk.load rfl 23 (.tmp 4) rfl _ _ _ _ rfl B1.out Try.underlying23 rfl (by kernel_rfl) ?_)
      | (go_at_call 32; refine (HF.out _ (slice_keep HS.out E1.out)).mono ?_; rintro e v2 ⟨A2, n2, c2, rfl, ho2, hb2⟩; have E2 := Lib.hid (E1.out.trans (hb2.mono E1.out.size)); have B2 := Lib.hid (B1.out.call hb2); have O2 := Lib.hid (ownA_is ho2); clear ho2 hb2)
      | (go_at_call 34; refine (HF2.out _ (slice_keep HS.out E2.out)).mono ?_; rintro e v3 ⟨A3, n3, c3, rfl, ho3, hb3⟩; have E3 := Lib.hid (E2.out.trans (hb3.mono E2.out.size)); have O3 := Lib.hid (ownA_is ho3); have P3 := Lib.hid (slice_keep O2.out hb3); clear ho3 hb3)
      | (go_at_call 33; refine (ref14_Same _ _ _ _ _ _ _ _ _ P3.out O3.out).mono ?_; rintro e v4 ⟨rfl, hb4⟩; have E4 := Lib.hid (E3.out.trans (hb4.mono E3.out.size)); clear hb4))
    all_goals first | (exfalso; omega) | skip
    go_ret
    exact ⟨rfl, E4.out⟩
end Go.Proofs.Ytjodpffdlggjgaa
