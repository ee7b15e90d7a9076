/- The reference's turns and judgement: flywheelref15.Turns, flywheelref44.Judge. -/
import Derived.Test.YtlodmnohmlkjmaaTrialJ
namespace Go.Proofs.Ytlodmnohmlkjmaa
open Go.RowKit
set_option linter.unusedSimpArgs false
set_option linter.unusedVariables false
set_option maxHeartbeats 4000000
set_option maxRecDepth 100000
theorem ref15_Turns (A : Option Addr) (len cap : Nat) (l : List Adv) (w : World) (hs : AdvsAre w A len cap l) (hn : len ≤ 1000) :
    Calls Try.prog 74 #[.slice A len cap] w fun e w' => e = .returned (.int .i64 ((turnq (replAt l) len).1 : Nat)) ∧ w = w' := by
  have HS := Lib.hid hs
  clear hs
  go_enter Try.func74, Try.ntmps74
  go_wp2
  go_loop [3, 4, 5, 6] (fun tn up dn i => ∃ k T : Nat, ∃ W : Int, (k = 0 ∨ k < len) ∧ i = .int .i64 ((k + 1 : Nat) : Int) ∧ tn = .int .i64 (T : Int) ∧ up = .bool (decide (W = 1)) ∧ dn = .bool (decide (W = -1)) ∧ turnq (replAt l) (k + 1) = (T, W)) (fun _ _ _ i => len - (intOf i).toNat)
  case atStart => exact ⟨0, 0, 0, .inl rfl, rfl, rfl, rfl, rfl, rfl⟩
  case round =>
    obtain ⟨k, T, W, hk, rfl, rfl, rfl, rfl, hT⟩ := hrel
    by_cases hlt : k + 1 < len
    · obtain ⟨b, off, x, rfl, hx, hb, t0, t1, t2, t3, t4⟩ := HS.out.at_ (show k < len by omega)
      obtain ⟨b2, off2, y, hab, hy, hb2, s0, s1, s2, s3, s4⟩ := HS.out.at_ hlt
      cases hab
      have HX := Lib.hid (replAt_eq hx)
      have HY := Lib.hid (replAt_eq hy)
      have hkl : (k : Int) < (len : Int) := by omega
      have hki : (k : Int) + 1 < (len : Int) := by omega
      have hle := turnq_le (replAt l) (k + 1)
      have hW := turnq_way (replAt l) (k + 1)
      rw [hT] at hle hW
      simp only at hle hW
      have HT := Lib.hid hT
      clear hx hy hb hb2 t0 t1 t2 t4 s0 s1 s2 s4 hT
      rcases Int.lt_trichotomy y.repl x.repl with hxy | hxy | hxy
      · have d1 : decide (y.repl < x.repl) = true := by simp; omega
        have d2 : decide (x.repl < y.repl) = false := by simp; omega
        have HN := Lib.hid (turn_down (by rw [HX.out, HY.out]; exact hxy) HT.out)
        clear hxy
        rcases hW with rfl | rfl | rfl
        all_goals
          go_wp2
          go_round
          case rel => exact ⟨k + 1, _, _, .inr hlt, by go_num, by go_num, rfl, rfl, HN.out⟩
          case measure => simp [intOf]; omega
      · have d1 : decide (y.repl < x.repl) = false := by simp; omega
        have d2 : decide (x.repl < y.repl) = false := by simp; omega
        have HN := Lib.hid ((turn_eq (by rw [HX.out, HY.out]; exact hxy)).trans HT.out)
        clear hxy
        go_wp2
        go_round
        case rel => exact ⟨k + 1, _, _, .inr hlt, by go_num, rfl, rfl, rfl, HN.out⟩
        case measure => simp [intOf]; omega
      · have d1 : decide (y.repl < x.repl) = false := by simp; omega
        have d2 : decide (x.repl < y.repl) = true := by simp; omega
        have HN := Lib.hid (turn_up (by rw [HX.out, HY.out]; exact hxy) HT.out)
        clear hxy
        rcases hW with rfl | rfl | rfl
        all_goals
          go_wp2
          go_round
          case rel => exact ⟨k + 1, _, _, .inr hlt, by go_num, by go_num, rfl, rfl, HN.out⟩
          case measure => simp [intOf]; omega
    · go_wp2
      go_ret
      refine ⟨?_, rfl⟩
      rcases hk with rfl | hk
      · cases hT
        rcases (show len = 0 ∨ len = 1 by omega) with rfl | rfl <;> rfl
      · exact ret_int (by rw [show len = k + 1 by omega, hT])
theorem chq_one (r : Nat → Int) : chq r 1 = 0 := rfl
theorem chq_same {r : Nat → Int} {k : Nat} (hk : 0 < k) (h : r k = r (k - 1)) : chq r (k + 1) = chq r k := by
  obtain ⟨j, rfl⟩ : ∃ j, k = j + 1 := ⟨k - 1, by omega⟩
  show chq r (j + 1) + (if r (j + 1) = r j then 0 else 1) = _
  rw [if_pos (show r (j + 1) = r j from h)]; rfl
theorem chq_other {r : Nat → Int} {k : Nat} (hk : 0 < k) (h : r k ≠ r (k - 1)) : chq r (k + 1) = chq r k + 1 := by
  obtain ⟨j, rfl⟩ : ∃ j, k = j + 1 := ⟨k - 1, by omega⟩
  show chq r (j + 1) + (if r (j + 1) = r j then 0 else 1) = _
  rw [if_neg (show ¬ r (j + 1) = r j from h)]
/-- What the walk of flywheelref44.Judge keeps. -/
def RI (w wr : World) (p : Pol) (gr : Nat) (c : Array Value) : Prop :=
  Blk wr w.heap.size 23 p.row ∧ Blk wr (w.heap.size + 1) 63 z64 ∧ Blk wr gr 63 c ∧ Below w.heap.size w wr ∧ w.heap.size + 1 < gr
theorem RI.alloc {w wr : World} {p : Pol} {gr : Nat} {c : Array Value} (h : RI w wr p gr c) (o : Obj) : RI w (wr.alloc o) p gr c :=
  ⟨h.1.alloc o, h.2.1.alloc o, h.2.2.1.alloc o, h.2.2.2.1.alloc h.2.2.2.1.size o, h.2.2.2.2⟩
theorem RI.drewN {w wr : World} {p : Pol} {gr : Nat} {c : Array Value} (h : RI w wr p gr c) (n : Nat) : RI w (wr.drewN n) p gr c :=
  ⟨h.1, h.2.1, h.2.2.1, below_drewN h.2.2.2.1 n, h.2.2.2.2⟩
theorem RI.drew {w wr : World} {p : Pol} {gr : Nat} {c : Array Value} (h : RI w wr p gr c) : RI w wr.drew p gr c :=
  ⟨h.1, h.2.1, h.2.2.1, h.2.2.2.1.drew, h.2.2.2.2⟩
theorem RI.set {w wr : World} {p : Pol} {gr : Nat} {c : Array Value} (h : RI w wr p gr c) (i : Nat) (u : Value) : RI w (wr.setCell ⟨gr, i, none⟩ u) p gr (c.setIfInBounds i u) :=
  ⟨h.1.far (by have := h.2.2.2.2; simp; omega) u, h.2.1.far (by have := h.2.2.2.2; simp; omega) u, h.2.2.1.set_ i u, h.2.2.2.1.setCell (by have := h.2.2.2.2; simp; omega) u, h.2.2.2.2⟩
theorem ref44_Judge (p : Pol) (A : Option Addr) (len cap : Nat) (l : List Adv) (w : World) (hp : p.fit) (hs : AdvsAre w A len cap l) (hg : ∀ x ∈ l, x.good) (hn : len ≤ 1000) :
    Calls Try.prog 44 #[(.agg #[.int .i64 p.min, .int .i64 p.max, .int .i64 p.target, .int .i64 p.tol, .int .i64 p.window, .int .i64 p.hold]), .slice A len cap] w fun e w' => e = .returned (.agg #[.slice A len cap, .int .i64 (chq (replAt l) len : Nat), .int .i64 ((turnq (replAt l) len).1 : Nat), .int .i64 (j4 p.target l len).least, .int .i64 (j4 p.target l len).most, .int .i64 (j4 p.target l len).spare, .int .i64 (j4 p.target l len).short]) ∧ Below w.heap.size w w' := by
  have HS := Lib.hid hs
  have HG := Lib.hid hg
  clear hs hg
  have e0 : Below w.heap.size w ((w.alloc (.cells p.row 23)).alloc (.cells z64 63)) := by go_grown
  have E0 := Lib.hid e0
  clear e0
  go_enter Try.func44, Try.ntmps44
  go_wp2_with fail
  refine (ref15_Turns A len cap l _ (slice_keep HS.out E0.out) hn).mono ?_
  rintro e w2 ⟨rfl, rfl⟩
  have b0 := (Blk.new w 23 p.row).alloc (.cells z64 63)
  have b1 := Blk.new_ w (.cells p.row 23) 63 z64
  have hri : RI w (((w.alloc (.cells p.row 23)).alloc (.cells z64 63)).alloc (.cells #[.slice A len cap, .int .i64 0, .int .i64 ((turnq (replAt l) len).1 : Nat), .int .i64 0, .int .i64 0, .int .i64 0, .int .i64 0] 63)) p (w.heap.size + 1 + 1) #[.slice A len cap, .int .i64 0, .int .i64 ((turnq (replAt l) len).1 : Nat), .int .i64 0, .int .i64 0, .int .i64 0, .int .i64 0] :=
    ⟨b0.alloc _, b1.alloc _, Blk.new__ w _ _ _ _, E0.out.alloc (by simp; omega) _, by omega⟩
  have R0 := Lib.hid hri
  clear b0 b1 hri
  go_wp2
  generalize hTN : (turnq (replAt l) len).1 = TN at *
  have HTN := Lib.hid hTN
  clear hTN
  generalize hgr : w.heap.size + 1 + 1 = gr at *
  clear hgr
  go_loopw [6] (fun i wr => ∃ k : Nat, k ≤ len ∧ i = .int .i64 k ∧ RI w wr p gr #[.slice A len cap, .int .i64 (chq (replAt l) k : Nat), .int .i64 (TN : Int), .int .i64 (j4 p.target l k).least, .int .i64 (j4 p.target l k).most, .int .i64 (j4 p.target l k).spare, .int .i64 (j4 p.target l k).short]) (fun i _ => len - (intOf i).toNat)
  case atStart => exact ⟨0, Nat.zero_le _, rfl, R0.out⟩
  case round =>
    obtain ⟨k, hk, rfl, hri⟩ := hrel
    clear R0
    have RR := Lib.hid hri
    by_cases hlt : k < len
    · have hbb : ∃ b off, A = some ⟨b, off, none⟩ ∧ b < w.heap.size := by
        obtain ⟨b, off, x, h1, h2, h3, _⟩ := HS.out.at_ hlt
        exact ⟨b, off, h1, h3⟩
      obtain ⟨b, off, rfl, hbs⟩ := hbb
      obtain ⟨b', off', x, hab, hx, hb, t0, t1, t2, t3, t4⟩ := HS.out.at_ hlt
      cases hab
      have hxg := HG.out x (List.mem_of_getElem? hx)
      have HJ := Lib.hid (j4_succ (T := p.target) hx)
      have hJi := j4_I64 p.target l HG.out k
      generalize j4 p.target l k = J at *
      have HXr := Lib.hid (replAt_eq hx)
      have HXI := Lib.hid hx
      have hbel := hri.2.2.2.1
      have br := hri.2.2.1
      have kt1 := Lib.hid ((hbel.cell (p := ⟨b, off + k * 5 + 1, none⟩) hb).trans t1)
      have kt3 := (hbel.cell (p := ⟨b, off + k * 5 + 3, none⟩) hb).trans t3
      have f1 := br.frozen 1
      have r1 := br.cellv (i := 1) (v := .int .i64 (chq (replAt l) k : Nat)) rfl
      have hki : (k : Int) < (len : Int) := by omega
      have hch := chq_le (replAt l) k
      have hb1 : b < w.heap.size := hbs
      obtain ⟨CH2, hCH2⟩ : ∃ c, c = chq (replAt l) (k + 1) := ⟨_, rfl⟩
      obtain ⟨CH, hCH⟩ : ∃ c, c = chq (replAt l) k := ⟨_, rfl⟩
      rw [← hCH] at r1 hch
      have HCH2 := Lib.hid hCH2
      have HCH := Lib.hid hCH
      clear br hx t0 t1 t2 t3 t4 hri hbel hCH hCH2 hb
      obtain ⟨hxI, hxL⟩ : I64 x.repl ∧ I64 x.load := ⟨hxg.2.2.2.1, hxg.2.1⟩
      obtain ⟨M, hM⟩ : ∃ M, M = satq (x.repl * p.target) := ⟨_, rfl⟩
      obtain ⟨L, hL⟩ : ∃ L, L = satq (M - x.load) := ⟨_, rfl⟩
      have HL := Lib.hid (show leftq p.target x = L by unfold leftq; rw [hL, hM])
      have HMul := Lib.hid (fun W => ref_Mul x.repl p.target W hxI hp.2.2.1)
      have HSub := Lib.hid (fun W => ref_Sub M x.load W (by rw [hM]; exact satq_I64 _) hxL)
      rw [← hM] at HMul
      rw [← hL] at HSub
      have hLI : I64 L := by rw [hL]; exact satq_I64 _
      clear hM hL hxg
      obtain ⟨B1, hB1⟩ : ∃ B : Bool, B = decide (0 < k ∧ replAt l k ≠ replAt l (k - 1)) := ⟨_, rfl⟩
      have HB1 := Lib.hid hB1
      obtain ⟨B2, hB2⟩ : ∃ B : Bool, B = decide (k = 0 ∨ x.repl < J.least) := ⟨_, rfl⟩
      have HB2 := Lib.hid hB2
      obtain ⟨B3, hB3⟩ : ∃ B : Bool, B = decide (k = 0 ∨ J.most < x.repl) := ⟨_, rfl⟩
      have HB3 := Lib.hid hB3
      clear hB1 hB2 hB3
      have HT := Lib.hid (show CH2 = if B1 then CH + 1 else CH by
        rw [HCH2.out, HCH.out, HB1.out]
        by_cases h0 : k = 0
        · subst h0; simp; rfl
        · by_cases h1 : replAt l k = replAt l (k - 1)
          · simp [h1, chq_same (by omega) h1]
          · simp [h1, chq_other (by omega) h1, show 0 < k by omega])
      obtain ⟨ls, hls⟩ : ∃ ls, ls = (if B2 then x.repl else J.least) := ⟨_, rfl⟩
      obtain ⟨ms, hms⟩ : ∃ ms, ms = (if B3 then x.repl else J.most) := ⟨_, rfl⟩
      have HLs := Lib.hid hls
      have HMs := Lib.hid hms
      clear hls hms
      go_upto_region 6 with (fail)
      go_cut [35] from 13 to 82 (fun s wx => s = .bool B1 ∧ wx = wr)
      case first =>
        by_cases hk0 : k = 0
        · have E := Lib.hid (show B1 = false by rw [HB1.out]; simp; omega)
          have d0 : decide (0 < k) = false := by simp; omega
          have d1 : decide ((0 : Int) < (k : Int)) = false := by simp; omega
          clear hk0
          go_wp2
          go_meet
          case rel => exact ⟨by rw [E.out], rfl⟩
        · obtain ⟨b3, off3, z, hab, hz, hb3, s0, s1, s2, s3, s4⟩ := HS.out.at_ (show k - 1 < len by omega)
          cases hab
          have ks3 := (RR.out.2.2.2.1.cell (p := ⟨b, off + (k - 1) * 5 + 3, none⟩) hb3).trans s3
          have hz2 := replAt_eq hz
          have HZ := Lib.hid hz2
          clear s0 s1 s2 s3 s4 hz hz2 hb3
          have d0 : decide (0 < k) = true := by simp; omega
          have d1 : decide ((0 : Int) < (k : Int)) = true := by simp; omega
          obtain ⟨j, rfl⟩ : ∃ j, k = j + 1 := ⟨k - 1, by omega⟩
          rw [Nat.add_sub_cancel] at ks3
          have hj1 : (j : Int) < (len : Int) := by omega
          by_cases h1 : x.repl = z.repl
          · have E := Lib.hid (show B1 = false by rw [HB1.out, HXr.out, HZ.out]; simp [h1])
            have d2 : (x.repl != z.repl) = false := by simp [h1]
            clear h1
            go_wp2
            go_meet
            case rel => exact ⟨by rw [E.out], rfl⟩
          · have E := Lib.hid (show B1 = true by rw [HB1.out, HXr.out, HZ.out]; simp [h1])
            have d2 : (x.repl != z.repl) = true := by simp [h1]
            clear h1
            go_wp2
            go_meet
            case rel => exact ⟨by rw [E.out], rfl⟩
      case rest =>
        obtain ⟨rfl, rfl⟩ := hcut
        go_upto_if 35 with (fail)
        go_cut [] from 13 to 82 (fun wx => RI w wx p gr #[.slice (some ⟨b, off, none⟩) len cap, .int .i64 (CH2 : Int), .int .i64 (TN : Int), .int .i64 J.least, .int .i64 J.most, .int .i64 J.spare, .int .i64 J.short])
        case first =>
          cases hb : B1
          · have E := Lib.hid (show CH2 = CH by rw [HT.out, hb]; simp)
            clear hb
            go_wp2
            go_meet
            case rel => rw [E.out, HCH.out]; exact RR.out
          · have E := Lib.hid (show CH2 = CH + 1 by rw [HT.out, hb]; simp)
            clear hb
            go_wp2
            go_meet
            case rel => rw [E.out]; exact RR.out.set 1 _
        case rest =>
          obtain ⟨w5, rfl⟩ : ∃ w5, w5 = wc := ⟨_, rfl⟩
          have R1 := Lib.hid hcut
          clear hcut r1 f1 kt3
          have r3 := R1.out.2.2.1.cellv (i := 3) (v := .int .i64 J.least) rfl
          have f3 := R1.out.2.2.1.frozen 3
          go_upto_region 8 with (fail)
          go_cut [47] from 13 to 82 (fun s wy => s = .bool B2 ∧ wy = w5)
          case first =>
            by_cases hk0 : k = 0
            · have E := Lib.hid (show B2 = true by rw [HB2.out]; simp [hk0])
              have d0 : ((k : Int) == 0) = true := by simp; omega
              clear hk0
              go_wp2
              go_meet
              case rel => exact ⟨by rw [E.out], rfl⟩
            · have d0 : ((k : Int) == 0) = false := by simp; omega
              have E := Lib.hid (show B2 = decide (x.repl < J.least) by rw [HB2.out]; simp [hk0])
              clear hk0
              go_wp2
              go_meet
              case rel => exact ⟨by rw [E.out], rfl⟩
          case rest =>
            obtain ⟨rfl, rfl⟩ := hcut
            go_upto_if 47 with (fail)
            go_cut [] from 13 to 82 (fun wx => RI w wx p gr #[.slice (some ⟨b, off, none⟩) len cap, .int .i64 (CH2 : Int), .int .i64 (TN : Int), .int .i64 ls, .int .i64 J.most, .int .i64 J.spare, .int .i64 J.short])
            case first =>
              cases hb : B2
              · have E := Lib.hid (show ls = J.least by rw [HLs.out, hb]; simp)
                clear hb
                go_wp2
                go_meet
                case rel => rw [E.out]; exact R1.out
              · have E := Lib.hid (show ls = x.repl by rw [HLs.out, hb]; simp)
                clear hb
                go_wp2
                go_meet
                case rel => rw [E.out]; exact R1.out.set 3 _
            case rest =>
              obtain ⟨w6, rfl⟩ : ∃ w6, w6 = wc := ⟨_, rfl⟩
              have R2 := Lib.hid hcut
              clear hcut r3 f3
              have r4 := R2.out.2.2.1.cellv (i := 4) (v := .int .i64 J.most) rfl
              have f4 := R2.out.2.2.1.frozen 4
              go_upto_region 10 with (fail)
              go_cut [57] from 13 to 82 (fun s wy => s = .bool B3 ∧ wy = w6)
              case first =>
                by_cases hk0 : k = 0
                · have E := Lib.hid (show B3 = true by rw [HB3.out]; simp [hk0])
                  have d0 : ((k : Int) == 0) = true := by simp; omega
                  clear hk0
                  go_wp2
                  go_meet
                  case rel => exact ⟨by rw [E.out], rfl⟩
                · have d0 : ((k : Int) == 0) = false := by simp; omega
                  have E := Lib.hid (show B3 = decide (J.most < x.repl) by rw [HB3.out]; simp [hk0])
                  clear hk0
                  go_wp2
                  go_meet
                  case rel => exact ⟨by rw [E.out], rfl⟩
              case rest =>
                obtain ⟨rfl, rfl⟩ := hcut
                go_upto_if 57 with (fail)
                go_cut [] from 13 to 82 (fun wx => RI w wx p gr #[.slice (some ⟨b, off, none⟩) len cap, .int .i64 (CH2 : Int), .int .i64 (TN : Int), .int .i64 ls, .int .i64 ms, .int .i64 J.spare, .int .i64 J.short])
                case first =>
                  cases hb : B3
                  · have E := Lib.hid (show ms = J.most by rw [HMs.out, hb]; simp)
                    clear hb
                    go_wp2
                    go_meet
                    case rel => rw [E.out]; exact R2.out
                  · have E := Lib.hid (show ms = x.repl by rw [HMs.out, hb]; simp)
                    clear hb
                    go_wp2
                    go_meet
                    case rel => rw [E.out]; exact R2.out.set 4 _
                case rest =>
                  obtain ⟨w7, rfl⟩ : ∃ w7, w7 = wc := ⟨_, rfl⟩
                  have R3 := Lib.hid hcut
                  clear hcut r4 f4
                  have r5 := R3.out.2.2.1.cellv (i := 5) (v := .int .i64 J.spare) rfl
                  have f5 := R3.out.2.2.1.frozen 5
                  have r6 := R3.out.2.2.1.cellv (i := 6) (v := .int .i64 J.short) rfl
                  have f6 := R3.out.2.2.1.frozen 6
                  have hxc := HS.out.at_ hlt
                  obtain ⟨b3, off3, y, hab, hy, hb3, s0, s1, s2, s3, s4⟩ := hxc
                  cases hab
                  obtain rfl : y = x := Option.some.inj (hy.symm.trans HXI.out)
                  have kt1 := (R3.out.2.2.2.1.cell (p := ⟨b, off + k * 5 + 1, none⟩) hb3).trans s1
                  have p2 := R3.out.1.cellv (i := 2) (v := .int .i64 p.target) rfl
                  clear s0 s1 s2 s3 s4 hy hb3
                  have HE := Lib.hid (show j4 p.target l (k + 1) = ⟨ls, ms, if 0 ≤ L then satq (J.spare + L) else J.spare, if 0 ≤ L then J.short else satq (J.short + satq (0 - L))⟩ by
            rw [HJ.out]; unfold j4step; rw [HL.out, HLs.out, HMs.out, HB2.out, HB3.out]
            congr 1
            · by_cases h0 : k = 0
              · simp [h0]
              · simp only [h0, if_false, false_or, decide_eq_true_eq]; split <;> omega
            · by_cases h0 : k = 0
              · simp [h0]
              · simp only [h0, if_false, false_or, decide_eq_true_eq]; split <;> omega)
                  go_upto_region 12 with (fail)
                  go_quiet ((first | (go_at_call 58; exact Calls.quiet_of_same ((HMul.out _).mono fun _ _ h => ⟨h.1, h.2.symm⟩)) | (go_at_call 70; exact Calls.quiet_of_same ((HSub.out _).mono fun _ _ h => ⟨h.1, h.2.symm⟩))))
                  by_cases hLp : 0 ≤ L
                  · have HA := Lib.hid (fun W => ref_Add J.spare L W hJi.1 hLI)
                    go_wp2_with (first | (go_at_call 15; refine (HA.out _).mono ?_; rintro e w5 ⟨rfl, rfl⟩))
                    go_roundw
                    case rel => exact ⟨k + 1, by omega, by go_num, by rw [HE.out, ← HCH2.out]; simp only [if_pos hLp]; exact (R3.out.set 5 _).drewN _⟩
                    case measure => simp [intOf]; omega
                  · have HS0 := Lib.hid (fun W => ref_Sub 0 L W (by unfold I64; omega) hLI)
                    have HA := Lib.hid (fun W => ref_Add J.short (satq (0 - L)) W hJi.2 (satq_I64 _))
                    generalize satq (0 - L) = K at *
                    have R4 := Lib.hid (R3.out.drewN nq)
                    have C6 := Lib.hid (R4.out.2.2.1.cellv (i := 6) (v := .int .i64 J.short) rfl)
                    have L6 := Lib.hid R4.out.2.2.1.lt
                    clear r5 r6 f5 f6 p2 kt1
                    go_wp2
                    generalize w7.drewN nq = W6 at *
                    have f6 := R4.out.2.2.1.frozen 6
                    have r6 := C6.out
                    refine wp_region_any (by kernel_rfl) ?_; change wpAny _ _ _ _ _ _ _ (World.drew W6); refine any_of_anyG (late := fun j => [6].contains j) (S := fun w1 => Below W6.heap.size W6 w1) _ _ _ _ ?_
                    have S0 := (Below.refl W6.heap.size W6).drew
                    refine anyG_take (i := 0) (v := _) rfl (by kernel_rfl) (by kernel_rfl) (by kernel_rfl) (by kernel_rfl) rfl (by kernel_rfl) (fun j hj => by first | (simp at hj; done) | (simp at hj; simp; omega)) (fun _ _ _ h => h) (Or.inl ⟨by rfl, fun W1 hW1 => by first | rfl | (go_simp; done) | (go_simp; with_reducible rfl)⟩) (S0) ?_
                    refine anyG_take (i := 1) (v := .int .i64 J.short) rfl (by kernel_rfl) (by kernel_rfl) (by kernel_rfl) (by kernel_rfl) rfl (by kernel_rfl) (fun j hj => by first | (simp at hj; done) | (simp at hj; simp; omega)) (fun _ _ _ h => h) (Or.inl ⟨by rfl, fun W1 hW1 => by have c := (hW1.cell (p := ⟨gr, 6, none⟩) L6.out).trans C6.out; go_simp⟩) (S0) ?_
                    refine anyG_one (k := 2) (by kernel_rfl) rfl (by rfl) (fun Q2 hQ2 => ?_); go_wp2_with fail; refine hQ2 _ _ (fun _ => S0) ?_; clear hQ2 Q2
                    refine anyG_one (k := 3) (by kernel_rfl) rfl (by rfl) (fun Q2 hQ2 => ?_); go_wp2_with (go_at_call 70; refine (HS0.out _).mono ?_; rintro e v1 ⟨rfl, rfl⟩); refine hQ2 _ _ (fun _ => S0) ?_; clear hQ2 Q2
                    refine anyG_one (k := 4) (by kernel_rfl) rfl (by rfl) (fun Q2 hQ2 => ?_); go_wp2_with (go_at_call 15; refine (HA.out _).mono ?_; rintro e v1 ⟨rfl, rfl⟩); refine hQ2 _ _ (fun _ => S0) ?_; clear hQ2 Q2
                    refine anyG_one (k := 5) (by kernel_rfl) rfl (by rfl) (fun Q2 hQ2 => ?_); go_wp2_with fail; refine hQ2 _ _ (fun _ => S0) ?_; clear hQ2 Q2
                    refine anyG_of_any _ _ _ _ (by kernel_rfl) ?_
                    refine any_one (k := 6) (by kernel_rfl) rfl (by rfl) (fun Q2 hQ2 => ?_); go_wp2_with fail; (try refine hQ2 _ _ ?_); (try clear hQ2 Q2)
                    refine wpAny_done (by kernel_rfl) ?_ _
                    go_wp2
                    go_roundw
                    case rel => exact ⟨k + 1, by omega, by go_num, by rw [HE.out, ← HCH2.out]; rw [if_neg (show ¬ 0 ≤ L by omega), if_neg (show ¬ 0 ≤ L by omega)]; exact (R4.out.set 6 _).drew⟩
                    case measure => simp [intOf]; omega
    · obtain rfl : k = len := by omega
      clear hri
      go_wp2_with (first | (refine Blk.load rfl 63 (.tmp 5) rfl gr _ _ _ rfl RR.out.2.2.1 Try.underlying63 rfl (by kernel_rfl) ?_) | (refine wpList_store_row rfl 63 (.tmp 4) (.tmp 83) rfl (w.heap.size + 1) _ _ _ rfl rfl RR.out.2.1 (by rfl) (by kernel_rfl) (by simp [Value.oneCell']) ?_; intro w9 hb9 hg9))
      refine bodyPost_ret (results_row rfl _ _ (w.heap.size + 1) _ _ _ rfl hb9 Try.underlying63 rfl (by kernel_rfl)) rfl ⟨by rw [HTN.out], RR.out.2.2.2.1.trans (Only.below hg9 (by omega) RR.out.2.2.2.1.size)⟩
end Go.Proofs.Ytlodmnohmlkjmaa
