/- Several texts in one. -/
import Derived.Test.YtjodpffdlggjgaaGreatKTuneCheapest5
import Derived.Test.YtjodpffdlggjgaaGreatKTuneCheapest4
import Derived.Test.YtjodpffdlggjgaaGreatKTuneCheapest1
/- The reference's turns and judgement: flywheelref15.Turns, flywheelref44.Judge. -/
namespace Go.Proofs.YtjodpffdlggjgaaGreat
open Go.RowKit
set_option linter.unusedSimpArgs false
set_option linter.unusedVariables false
set_option maxHeartbeats 4000000
set_option maxRecDepth 100000
theorem ref15_Turns (A : Option Addr) (len cap : Nat) (l : List Adv) (w : World) (hs : AdvsAre w A len cap l) (hn : len ≤ 1000) :
    Calls Tryz.prog 32 #[.slice A len cap] w fun e w' => e = .returned (.int .i64 ((turnq (replAt l) len).1 : Nat)) ∧ w = w' := by
  have HS := Lib.hid hs
  clear hs
  go_enter Tryz.func32, Tryz.ntmps32
  go_wp2
  go_loop [3, 4, 5, 6] (fun tn up dn i => ∃ k T : Nat, ∃ W : Int, (k = 0 ∨ k < len) ∧ i = .int .i64 ((k + 1 : Nat) : Int) ∧ tn = .int .i64 (T : Int) ∧ up = .bool (decide (W = 1)) ∧ dn = .bool (decide (W = -1)) ∧ turnq (replAt l) (k + 1) = (T, W)) (fun _ _ _ i => len - (intOf i).toNat)
  case atStart => exact ⟨0, 0, 0, .inl rfl, rfl, rfl, rfl, rfl, rfl⟩
  case round =>
    obtain ⟨k, T, W, hk, rfl, rfl, rfl, rfl, hT⟩ := hrel
    by_cases hlt : k + 1 < len
    · obtain ⟨b, off, x, rfl, hx, hb, t0, t1, t2, t3, t4⟩ := HS.out.at_ (show k < len by omega)
      obtain ⟨b2, off2, y, hab, hy, hb2, s0, s1, s2, s3, s4⟩ := HS.out.at_ hlt
      cases hab
      have HX := Lib.hid (replAt_eq hx)
      have HY := Lib.hid (replAt_eq hy)
      have hkl : (k : Int) < (len : Int) := by omega
      have hki : (k : Int) + 1 < (len : Int) := by omega
      have hle := turnq_le (replAt l) (k + 1)
      have hW := turnq_way (replAt l) (k + 1)
      rw [hT] at hle hW
      simp only at hle hW
      have HT := Lib.hid hT
      clear hx hy hb hb2 t0 t1 t2 t4 s0 s1 s2 s4 hT
      rcases Int.lt_trichotomy y.repl x.repl with hxy | hxy | hxy
      · have d1 : decide (y.repl < x.repl) = true := by simp; omega
        have d2 : decide (x.repl < y.repl) = false := by simp; omega
        have HN := Lib.hid (turn_down (by rw [HX.out, HY.out]; exact hxy) HT.out)
        clear hxy
        rcases hW with rfl | rfl | rfl
        all_goals
          go_wp2
          go_round
          case rel => exact ⟨k + 1, _, _, .inr hlt, by go_num, by go_num, rfl, rfl, HN.out⟩
          case measure => simp [intOf]; omega
      · have d1 : decide (y.repl < x.repl) = false := by simp; omega
        have d2 : decide (x.repl < y.repl) = false := by simp; omega
        have HN := Lib.hid ((turn_eq (by rw [HX.out, HY.out]; exact hxy)).trans HT.out)
        clear hxy
        go_wp2
        go_round
        case rel => exact ⟨k + 1, _, _, .inr hlt, by go_num, rfl, rfl, rfl, HN.out⟩
        case measure => simp [intOf]; omega
      · have d1 : decide (y.repl < x.repl) = false := by simp; omega
        have d2 : decide (x.repl < y.repl) = true := by simp; omega
        have HN := Lib.hid (turn_up (by rw [HX.out, HY.out]; exact hxy) HT.out)
        clear hxy
        rcases hW with rfl | rfl | rfl
        all_goals
          go_wp2
          go_round
          case rel => exact ⟨k + 1, _, _, .inr hlt, by go_num, by go_num, rfl, rfl, HN.out⟩
          case measure => simp [intOf]; omega
    · go_wp2
      go_ret
      refine ⟨?_, rfl⟩
      rcases hk with rfl | hk
      · cases hT
        rcases (show len = 0 ∨ len = 1 by omega) with rfl | rfl <;> rfl
      · exact ret_int (by rw [show len = k + 1 by omega, hT])
theorem chq_one (r : Nat → Int) : chq r 1 = 0 := rfl
theorem chq_same {r : Nat → Int} {k : Nat} (hk : 0 < k) (h : r k = r (k - 1)) : chq r (k + 1) = chq r k := by
  obtain ⟨j, rfl⟩ : ∃ j, k = j + 1 := ⟨k - 1, by omega⟩
  show chq r (j + 1) + (if r (j + 1) = r j then 0 else 1) = _
  rw [if_pos (show r (j + 1) = r j from h)]; rfl
theorem chq_other {r : Nat → Int} {k : Nat} (hk : 0 < k) (h : r k ≠ r (k - 1)) : chq r (k + 1) = chq r k + 1 := by
  obtain ⟨j, rfl⟩ : ∃ j, k = j + 1 := ⟨k - 1, by omega⟩
  show chq r (j + 1) + (if r (j + 1) = r j then 0 else 1) = _
  rw [if_neg (show ¬ r (j + 1) = r j from h)]
/-- What the walk of flywheelref44.Judge keeps. -/
def RIR (w wr : World) (p : Pol) (gr : Nat) (c : Array Value) : Prop :=
  Blk wr w.heap.size 23 p.row ∧ Blk wr (w.heap.size + 1) 34 z64 ∧ Blk wr gr 34 c ∧ Below w.heap.size w wr ∧ w.heap.size + 1 < gr
theorem RIR.alloc {w wr : World} {p : Pol} {gr : Nat} {c : Array Value} (h : RIR w wr p gr c) (o : Obj) : RIR w (wr.alloc o) p gr c :=
  ⟨h.1.alloc o, h.2.1.alloc o, h.2.2.1.alloc o, h.2.2.2.1.alloc h.2.2.2.1.size o, h.2.2.2.2⟩
theorem RIR.drewN {w wr : World} {p : Pol} {gr : Nat} {c : Array Value} (h : RIR w wr p gr c) (n : Nat) : RIR w (wr.drewN n) p gr c :=
  ⟨h.1, h.2.1, h.2.2.1, below_drewN h.2.2.2.1 n, h.2.2.2.2⟩
theorem RIR.drew {w wr : World} {p : Pol} {gr : Nat} {c : Array Value} (h : RIR w wr p gr c) : RIR w wr.drew p gr c :=
  ⟨h.1, h.2.1, h.2.2.1, h.2.2.2.1.drew, h.2.2.2.2⟩
theorem RIR.set {w wr : World} {p : Pol} {gr : Nat} {c : Array Value} (h : RIR w wr p gr c) (i : Nat) (u : Value) : RIR w (wr.setCell ⟨gr, i, none⟩ u) p gr (c.setIfInBounds i u) :=
  ⟨h.1.far (by have := h.2.2.2.2; simp; omega) u, h.2.1.far (by have := h.2.2.2.2; simp; omega) u, h.2.2.1.set_ i u, h.2.2.2.1.setCell (by have := h.2.2.2.2; simp; omega) u, h.2.2.2.2⟩
theorem ref44_Judge (p : Pol) (A : Option Addr) (len cap : Nat) (l : List Adv) (w : World) (hp : p.fit) (hs : AdvsAre w A len cap l) (hg : ∀ x ∈ l, x.good) (hn : len ≤ 1000) :
    Calls Tryz.prog 11 #[(.agg #[.int .i64 p.min, .int .i64 p.max, .int .i64 p.target, .int .i64 p.tol, .int .i64 p.window, .int .i64 p.hold]), .slice A len cap] w fun e w' => e = .returned (.agg #[.slice A len cap, .int .i64 (chq (replAt l) len : Nat), .int .i64 ((turnq (replAt l) len).1 : Nat), .int .i64 (j4 p.target l len).least, .int .i64 (j4 p.target l len).most, .int .i64 (j4 p.target l len).spare, .int .i64 (j4 p.target l len).short]) ∧ Below w.heap.size w w' := by
  have HS := Lib.hid hs
  have HG := Lib.hid hg
  clear hs hg
  have e0 : Below w.heap.size w ((w.alloc (.cells p.row 23)).alloc (.cells z64 34)) := by go_grown
  have E0 := Lib.hid e0
  clear e0
  go_enter Tryz.func11, Tryz.ntmps11
  go_wp2_with fail
  refine (ref15_Turns A len cap l _ (slice_keep HS.out E0.out) hn).mono ?_
  rintro e w2 ⟨rfl, rfl⟩
  have b0 := (Blk.new w 23 p.row).alloc (.cells z64 34)
  have b1 := Blk.new_ w (.cells p.row 23) 34 z64
  have hri : RIR w (((w.alloc (.cells p.row 23)).alloc (.cells z64 34)).alloc (.cells #[.slice A len cap, .int .i64 0, .int .i64 ((turnq (replAt l) len).1 : Nat), .int .i64 0, .int .i64 0, .int .i64 0, .int .i64 0] 34)) p (w.heap.size + 1 + 1) #[.slice A len cap, .int .i64 0, .int .i64 ((turnq (replAt l) len).1 : Nat), .int .i64 0, .int .i64 0, .int .i64 0, .int .i64 0] :=
    ⟨b0.alloc _, b1.alloc _, Blk.new__ w _ _ _ _, E0.out.alloc (by simp; omega) _, by omega⟩
  have R0 := Lib.hid hri
  clear b0 b1 hri
  go_wp2
  generalize hTN : (turnq (replAt l) len).1 = TN at *
  have HTN := Lib.hid hTN
  clear hTN
  generalize hgr : w.heap.size + 1 + 1 = gr at *
  clear hgr
  go_loopw [6] (fun i wr => ∃ k : Nat, k ≤ len ∧ i = .int .i64 k ∧ RIR w wr p gr #[.slice A len cap, .int .i64 (chq (replAt l) k : Nat), .int .i64 (TN : Int), .int .i64 (j4 p.target l k).least, .int .i64 (j4 p.target l k).most, .int .i64 (j4 p.target l k).spare, .int .i64 (j4 p.target l k).short]) (fun i _ => len - (intOf i).toNat)
  case atStart => exact ⟨0, Nat.zero_le _, rfl, R0.out⟩
  case round =>
    obtain ⟨k, hk, rfl, hri⟩ := hrel
    clear R0
    have RR := Lib.hid hri
    by_cases hlt : k < len
    · have hbb : ∃ b off, A = some ⟨b, off, none⟩ ∧ b < w.heap.size := by
        obtain ⟨b, off, x, h1, h2, h3, _⟩ := HS.out.at_ hlt
        exact ⟨b, off, h1, h3⟩
      obtain ⟨b, off, rfl, hbs⟩ := hbb
      obtain ⟨b', off', x, hab, hx, hb, t0, t1, t2, t3, t4⟩ := HS.out.at_ hlt
      cases hab
      have hxg := HG.out x (List.mem_of_getElem? hx)
      have HJ := Lib.hid (j4_succ (T := p.target) hx)
      have hJi := j4_I64 p.target l HG.out k
      generalize j4 p.target l k = J at *
      have HXr := Lib.hid (replAt_eq hx)
      have HXI := Lib.hid hx
      have hbel := hri.2.2.2.1
      have br := hri.2.2.1
      have kt1 := Lib.hid ((hbel.cell (p := ⟨b, off + k * 5 + 1, none⟩) hb).trans t1)
      have kt3 := (hbel.cell (p := ⟨b, off + k * 5 + 3, none⟩) hb).trans t3
      have f1 := br.frozen 1
      have r1 := br.cellv (i := 1) (v := .int .i64 (chq (replAt l) k : Nat)) rfl
      have hki : (k : Int) < (len : Int) := by omega
      have hch := chq_le (replAt l) k
      have hb1 : b < w.heap.size := hbs
      obtain ⟨CH2, hCH2⟩ : ∃ c, c = chq (replAt l) (k + 1) := ⟨_, rfl⟩
      obtain ⟨CH, hCH⟩ : ∃ c, c = chq (replAt l) k := ⟨_, rfl⟩
      rw [← hCH] at r1 hch
      have HCH2 := Lib.hid hCH2
      have HCH := Lib.hid hCH
      clear br hx t0 t1 t2 t3 t4 hri hbel hCH hCH2 hb
      obtain ⟨hxI, hxL⟩ : I64 x.repl ∧ I64 x.load := ⟨hxg.2.2.2.1, hxg.2.1⟩
      obtain ⟨M, hM⟩ : ∃ M, M = satq (x.repl * p.target) := ⟨_, rfl⟩
      obtain ⟨L, hL⟩ : ∃ L, L = satq (M - x.load) := ⟨_, rfl⟩
      have HL := Lib.hid (show leftq p.target x = L by unfold leftq; rw [hL, hM])
      have HMul := Lib.hid (fun W => ref_Mul x.repl p.target W hxI hp.2.2.1)
      have HSub := Lib.hid (fun W => ref_Sub M x.load W (by rw [hM]; exact satq_I64 _) hxL)
      rw [← hM] at HMul
      rw [← hL] at HSub
      have hLI : I64 L := by rw [hL]; exact satq_I64 _
      clear hM hL hxg
      obtain ⟨B1, hB1⟩ : ∃ B : Bool, B = decide (0 < k ∧ replAt l k ≠ replAt l (k - 1)) := ⟨_, rfl⟩
      have HB1 := Lib.hid hB1
      obtain ⟨B2, hB2⟩ : ∃ B : Bool, B = decide (k = 0 ∨ x.repl < J.least) := ⟨_, rfl⟩
      have HB2 := Lib.hid hB2
      obtain ⟨B3, hB3⟩ : ∃ B : Bool, B = decide (k = 0 ∨ J.most < x.repl) := ⟨_, rfl⟩
      have HB3 := Lib.hid hB3
      clear hB1 hB2 hB3
      have HT := Lib.hid (show CH2 = if B1 then CH + 1 else CH by
        rw [HCH2.out, HCH.out, HB1.out]
        by_cases h0 : k = 0
        · subst h0; simp; rfl
        · by_cases h1 : replAt l k = replAt l (k - 1)
          · simp [h1, chq_same (by omega) h1]
          · simp [h1, chq_other (by omega) h1, show 0 < k by omega])
      obtain ⟨ls, hls⟩ : ∃ ls, ls = (if B2 then x.repl else J.least) := ⟨_, rfl⟩
      obtain ⟨ms, hms⟩ : ∃ ms, ms = (if B3 then x.repl else J.most) := ⟨_, rfl⟩
      have HLs := Lib.hid hls
      have HMs := Lib.hid hms
      clear hls hms
      go_upto_region 6 with (fail)
      go_cut [35] from 13 to 82 (fun s wx => s = .bool B1 ∧ wx = wr)
      case first =>
        by_cases hk0 : k = 0
        · have E := Lib.hid (show B1 = false by rw [HB1.out]; simp; omega)
          have d0 : decide (0 < k) = false := by simp; omega
          have d1 : decide ((0 : Int) < (k : Int)) = false := by simp; omega
          clear hk0
          go_wp2
          go_meet
          case rel => exact ⟨by rw [E.out], rfl⟩
        · obtain ⟨b3, off3, z, hab, hz, hb3, s0, s1, s2, s3, s4⟩ := HS.out.at_ (show k - 1 < len by omega)
          cases hab
          have ks3 := (RR.out.2.2.2.1.cell (p := ⟨b, off + (k - 1) * 5 + 3, none⟩) hb3).trans s3
          have hz2 := replAt_eq hz
          have HZ := Lib.hid hz2
          clear s0 s1 s2 s3 s4 hz hz2 hb3
          have d0 : decide (0 < k) = true := by simp; omega
          have d1 : decide ((0 : Int) < (k : Int)) = true := by simp; omega
          obtain ⟨j, rfl⟩ : ∃ j, k = j + 1 := ⟨k - 1, by omega⟩
          rw [Nat.add_sub_cancel] at ks3
          have hj1 : (j : Int) < (len : Int) := by omega
          by_cases h1 : x.repl = z.repl
          · have E := Lib.hid (show B1 = false by rw [HB1.out, HXr.out, HZ.out]; simp [h1])
            have d2 : (x.repl != z.repl) = false := by simp [h1]
            clear h1
            go_wp2
            go_meet
            case rel => exact ⟨by rw [E.out], rfl⟩
          · have E := Lib.hid (show B1 = true by rw [HB1.out, HXr.out, HZ.out]; simp [h1])
            have d2 : (x.repl != z.repl) = true := by simp [h1]
            clear h1
            go_wp2
            go_meet
            case rel => exact ⟨by rw [E.out], rfl⟩
      case rest =>
        obtain ⟨rfl, rfl⟩ := hcut
        go_upto_if 35 with (fail)
        go_cut [] from 13 to 82 (fun wx => RIR w wx p gr #[.slice (some ⟨b, off, none⟩) len cap, .int .i64 (CH2 : Int), .int .i64 (TN : Int), .int .i64 J.least, .int .i64 J.most, .int .i64 J.spare, .int .i64 J.short])
        case first =>
          cases hb : B1
          · have E := Lib.hid (show CH2 = CH by rw [HT.out, hb]; simp)
            clear hb
            go_wp2
            go_meet
            case rel => rw [E.out, HCH.out]; exact RR.out
          · have E := Lib.hid (show CH2 = CH + 1 by rw [HT.out, hb]; simp)
            clear hb
            go_wp2
            go_meet
            case rel => rw [E.out]; exact RR.out.set 1 _
        case rest =>
          obtain ⟨w5, rfl⟩ : ∃ w5, w5 = wc := ⟨_, rfl⟩
          have R1 := Lib.hid hcut
          clear hcut r1 f1 kt3
          have r3 := R1.out.2.2.1.cellv (i := 3) (v := .int .i64 J.least) rfl
          have f3 := R1.out.2.2.1.frozen 3
          go_upto_region 8 with (fail)
          go_cut [47] from 13 to 82 (fun s wy => s = .bool B2 ∧ wy = w5)
          case first =>
            by_cases hk0 : k = 0
            · have E := Lib.hid (show B2 = true by rw [HB2.out]; simp [hk0])
              have d0 : ((k : Int) == 0) = true := by simp; omega
              clear hk0
              go_wp2
              go_meet
              case rel => exact ⟨by rw [E.out], rfl⟩
            · have d0 : ((k : Int) == 0) = false := by simp; omega
              have E := Lib.hid (show B2 = decide (x.repl < J.least) by rw [HB2.out]; simp [hk0])
              clear hk0
              go_wp2
              go_meet
              case rel => exact ⟨by rw [E.out], rfl⟩
          case rest =>
            obtain ⟨rfl, rfl⟩ := hcut
            go_upto_if 47 with (fail)
            go_cut [] from 13 to 82 (fun wx => RIR w wx p gr #[.slice (some ⟨b, off, none⟩) len cap, .int .i64 (CH2 : Int), .int .i64 (TN : Int), .int .i64 ls, .int .i64 J.most, .int .i64 J.spare, .int .i64 J.short])
            case first =>
              cases hb : B2
              · have E := Lib.hid (show ls = J.least by rw [HLs.out, hb]; simp)
                clear hb
                go_wp2
                go_meet
                case rel => rw [E.out]; exact R1.out
              · have E := Lib.hid (show ls = x.repl by rw [HLs.out, hb]; simp)
                clear hb
                go_wp2
                go_meet
                case rel => rw [E.out]; exact R1.out.set 3 _
            case rest =>
              obtain ⟨w6, rfl⟩ : ∃ w6, w6 = wc := ⟨_, rfl⟩
              have R2 := Lib.hid hcut
              clear hcut r3 f3
              have r4 := R2.out.2.2.1.cellv (i := 4) (v := .int .i64 J.most) rfl
              have f4 := R2.out.2.2.1.frozen 4
              go_upto_region 10 with (fail)
              go_cut [57] from 13 to 82 (fun s wy => s = .bool B3 ∧ wy = w6)
              case first =>
                by_cases hk0 : k = 0
                · have E := Lib.hid (show B3 = true by rw [HB3.out]; simp [hk0])
                  have d0 : ((k : Int) == 0) = true := by simp; omega
                  clear hk0
                  go_wp2
                  go_meet
                  case rel => exact ⟨by rw [E.out], rfl⟩
                · have d0 : ((k : Int) == 0) = false := by simp; omega
                  have E := Lib.hid (show B3 = decide (J.most < x.repl) by rw [HB3.out]; simp [hk0])
                  clear hk0
                  go_wp2
                  go_meet
                  case rel => exact ⟨by rw [E.out], rfl⟩
              case rest =>
                obtain ⟨rfl, rfl⟩ := hcut
                go_upto_if 57 with (fail)
                go_cut [] from 13 to 82 (fun wx => RIR w wx p gr #[.slice (some ⟨b, off, none⟩) len cap, .int .i64 (CH2 : Int), .int .i64 (TN : Int), .int .i64 ls, .int .i64 ms, .int .i64 J.spare, .int .i64 J.short])
                case first =>
                  cases hb : B3
                  · have E := Lib.hid (show ms = J.most by rw [HMs.out, hb]; simp)
                    clear hb
                    go_wp2
                    go_meet
                    case rel => rw [E.out]; exact R2.out
                  · have E := Lib.hid (show ms = x.repl by rw [HMs.out, hb]; simp)
                    clear hb
                    go_wp2
                    go_meet
                    case rel => rw [E.out]; exact R2.out.set 4 _
                case rest =>
                  obtain ⟨w7, rfl⟩ : ∃ w7, w7 = wc := ⟨_, rfl⟩
                  have R3 := Lib.hid hcut
                  clear hcut r4 f4
                  have r5 := R3.out.2.2.1.cellv (i := 5) (v := .int .i64 J.spare) rfl
                  have f5 := R3.out.2.2.1.frozen 5
                  have r6 := R3.out.2.2.1.cellv (i := 6) (v := .int .i64 J.short) rfl
                  have f6 := R3.out.2.2.1.frozen 6
                  have hxc := HS.out.at_ hlt
                  obtain ⟨b3, off3, y, hab, hy, hb3, s0, s1, s2, s3, s4⟩ := hxc
                  cases hab
                  obtain rfl : y = x := Option.some.inj (hy.symm.trans HXI.out)
                  have kt1 := (R3.out.2.2.2.1.cell (p := ⟨b, off + k * 5 + 1, none⟩) hb3).trans s1
                  have p2 := R3.out.1.cellv (i := 2) (v := .int .i64 p.target) rfl
                  clear s0 s1 s2 s3 s4 hy hb3
                  have HE := Lib.hid (show j4 p.target l (k + 1) = ⟨ls, ms, if 0 ≤ L then satq (J.spare + L) else J.spare, if 0 ≤ L then J.short else satq (J.short + satq (0 - L))⟩ by
            rw [HJ.out]; unfold j4step; rw [HL.out, HLs.out, HMs.out, HB2.out, HB3.out]
            congr 1
            · by_cases h0 : k = 0
              · simp [h0]
              · simp only [h0, if_false, false_or, decide_eq_true_eq]; split <;> omega
            · by_cases h0 : k = 0
              · simp [h0]
              · simp only [h0, if_false, false_or, decide_eq_true_eq]; split <;> omega)
                  go_upto_region 12 with (fail)
                  go_quiet ((first | (go_at_call 34; exact Calls.quiet_of_same ((HMul.out _).mono fun _ _ h => ⟨h.1, h.2.symm⟩)) | (go_at_call 33; exact Calls.quiet_of_same ((HSub.out _).mono fun _ _ h => ⟨h.1, h.2.symm⟩))))
                  by_cases hLp : 0 ≤ L
                  · have HA := Lib.hid (fun W => ref_Add J.spare L W hJi.1 hLI)
                    go_wp2_with (first | (go_at_call 35; refine (HA.out _).mono ?_; rintro e w5 ⟨rfl, rfl⟩))
                    go_roundw
                    case rel => exact ⟨k + 1, by omega, by go_num, by rw [HE.out, ← HCH2.out]; simp only [if_pos hLp]; exact (R3.out.set 5 _).drewN _⟩
                    case measure => simp [intOf]; omega
                  · have HS0 := Lib.hid (fun W => ref_Sub 0 L W (by unfold I64; omega) hLI)
                    have HA := Lib.hid (fun W => ref_Add J.short (satq (0 - L)) W hJi.2 (satq_I64 _))
                    generalize satq (0 - L) = K at *
                    have R4 := Lib.hid (R3.out.drewN nq)
                    have C6 := Lib.hid (R4.out.2.2.1.cellv (i := 6) (v := .int .i64 J.short) rfl)
                    have L6 := Lib.hid R4.out.2.2.1.lt
                    clear r5 r6 f5 f6 p2 kt1
                    go_wp2
                    generalize w7.drewN nq = W6 at *
                    have f6 := R4.out.2.2.1.frozen 6
                    have r6 := C6.out
                    refine wp_region_any (by kernel_rfl) ?_; change wpAny _ _ _ _ _ _ _ (World.drew W6); refine any_of_anyG (late := fun j => [6].contains j) (S := fun wS => Below W6.heap.size W6 wS) _ _ _ _ ?_
                    have S0 := (Below.refl W6.heap.size W6).drew
                    refine anyG_take (i := 0) (v := _) rfl (by kernel_rfl) (by kernel_rfl) (by kernel_rfl) (by kernel_rfl) rfl (by kernel_rfl) (fun j hj => by first | (simp at hj; done) | (simp at hj; simp; omega)) (fun _ _ _ h => h) (Or.inl ⟨by rfl, fun W1 hW1 => by first | rfl | (go_simp; done) | (go_simp; with_reducible rfl)⟩) (S0) ?_
                    refine anyG_take (i := 1) (v := .int .i64 J.short) rfl (by kernel_rfl) (by kernel_rfl) (by kernel_rfl) (by kernel_rfl) rfl (by kernel_rfl) (fun j hj => by first | (simp at hj; done) | (simp at hj; simp; omega)) (fun _ _ _ h => h) (Or.inl ⟨by rfl, fun W1 hW1 => by have c := (hW1.cell (p := ⟨gr, 6, none⟩) L6.out).trans C6.out; go_simp⟩) (S0) ?_
                    refine anyG_one (k := 2) (by kernel_rfl) rfl (by rfl) (fun Q2 hQ2 => ?_); go_wp2_with fail; refine hQ2 _ _ (fun _ => S0) ?_; clear hQ2 Q2
                    refine anyG_one (k := 3) (by kernel_rfl) rfl (by rfl) (fun Q2 hQ2 => ?_); go_wp2_with (go_at_call 33; refine (HS0.out _).mono ?_; rintro e v1 ⟨rfl, rfl⟩); refine hQ2 _ _ (fun _ => S0) ?_; clear hQ2 Q2
                    refine anyG_one (k := 4) (by kernel_rfl) rfl (by rfl) (fun Q2 hQ2 => ?_); go_wp2_with (go_at_call 35; refine (HA.out _).mono ?_; rintro e v1 ⟨rfl, rfl⟩); refine hQ2 _ _ (fun _ => S0) ?_; clear hQ2 Q2
                    refine anyG_one (k := 5) (by kernel_rfl) rfl (by rfl) (fun Q2 hQ2 => ?_); go_wp2_with fail; refine hQ2 _ _ (fun _ => S0) ?_; clear hQ2 Q2
                    refine anyG_of_any _ _ _ _ (by kernel_rfl) ?_
                    refine any_one (k := 6) (by kernel_rfl) rfl (by rfl) (fun Q2 hQ2 => ?_); go_wp2_with fail; (try refine hQ2 _ _ ?_); (try clear hQ2 Q2)
                    refine wpAny_done (by kernel_rfl) ?_ _
                    go_wp2
                    go_roundw
                    case rel => exact ⟨k + 1, by omega, by go_num, by rw [HE.out, ← HCH2.out]; rw [if_neg (show ¬ 0 ≤ L by omega), if_neg (show ¬ 0 ≤ L by omega)]; exact (R4.out.set 6 _).drew⟩
                    case measure => simp [intOf]; omega
    · obtain rfl : k = len := by omega
      clear hri
      go_wp2_with (first | (refine Blk.load rfl 34 (.tmp 5) rfl gr _ _ _ rfl RR.out.2.2.1 Tryz.underlying34 rfl (by kernel_rfl) ?_) | (refine wpList_store_row rfl 34 (.tmp 4) (.tmp 83) rfl (w.heap.size + 1) _ _ _ rfl rfl RR.out.2.1 (by rfl) (by kernel_rfl) (by simp [Value.oneCell']) ?_; intro w9 hb9 hg9))
      refine bodyPost_ret (results_row rfl _ _ (w.heap.size + 1) _ _ _ rfl hb9 Tryz.underlying34 rfl (by kernel_rfl)) rfl ⟨by rw [HTN.out], RR.out.2.2.2.1.trans (Only.below hg9 (by omega) RR.out.2.2.2.1.size)⟩
end Go.Proofs.YtjodpffdlggjgaaGreat
/- Where the least and the most are one, nothing changes. -/
namespace Go.Proofs.YtjodpffdlggjgaaGreat
open Go.RowKit
set_option linter.unusedSimpArgs false
set_option linter.unusedVariables false
theorem chq_const {r : Nat → Int} {n : Nat} {c : Int} (h : ∀ i, i < n → r i = c) : chq r n = 0 := by
  match n with
  | 0 => rfl
  | 1 => rfl
  | k + 2 =>
    have h1 := chq_const (n := k + 1) (fun i hi => h i (by omega))
    show chq r (k + 1) + (if r (k + 1) = r k then 0 else 1) = 0
    rw [h1, if_pos (by rw [h (k + 1) (by omega), h k (by omega)])]
theorem bound_one {p : Pol} (hk : p.okP) (he : p.min = p.max) (n : Int) : boundq p n = p.min := by
  unfold boundq clampq
  rw [if_pos hk]
  split
  · rfl
  · split <;> omega
theorem ofq_repl (p : Pol) (l : List Smp) (past : List Adv) (ho : ofe p l = 0) (he : p.min = p.max) : (ofq p l past).repl = p.min := by
  have hk : p.okP := Classical.byContradiction fun hn => by rw [(ofq_no (past := past) hn).2] at ho; omega
  have hl : l.length ≠ 0 := fun hn => by rw [(ofq_nil (past := past) hk hn).2] at ho; omega
  rw [(ofq_ok (past := past) hk hl).1]
  exact bound_one hk he _
theorem fol_repl (p : Pol) (sm rm : Int) (l : List Smp) (he : p.min = p.max) : ∀ a ∈ (folq p sm rm l).out, a.repl = p.min := by
  have h := folq_all (fun n st => ∀ a ∈ st.out, a.repl = p.min) p sm rm l (fun a ha => by cases ha) (fun n st x _ h => by
    by_cases h1 : errr sm x = 0
    · by_cases h2 : ofe p (putr st.smps sm x) = 0
      · by_cases h3 : 1 ≤ rm ∧ rm ≤ 64
        · rw [fstep_ok h1 h2 h3]
          intro a ha
          rcases List.mem_append.1 ha with ha | ha
          · exact h a ha
          · rw [List.mem_singleton.1 ha]; exact ofq_repl p _ _ h2 he
        · rw [fstep_full h1 h2 h3]; exact h
      · rw [fstep_skip h1 h2]; exact h
    · rw [fstep_no h1]; exact h) l.length (Nat.le_refl _)
  rwa [List.take_length] at h
theorem fol_changes (p : Pol) (sm rm : Int) (l : List Smp) (he : p.min = p.max) : chq (replAt (folq p sm rm l).out) (folq p sm rm l).out.length = 0 :=
  chq_const (c := p.min) fun i hi => by
    have hx : (folq p sm rm l).out[i]? = some (folq p sm rm l).out[i] := List.getElem?_eq_getElem hi
    rw [replAt_eq hx]
    exact fol_repl p sm rm l he _ (List.getElem_mem hi)
end Go.Proofs.YtjodpffdlggjgaaGreat
/- flywheelref16.Of: the walk. -/
namespace Go.Proofs.YtjodpffdlggjgaaGreat
open Go.RowKit
set_option linter.unusedSimpArgs false
set_option linter.unusedVariables false
set_option maxHeartbeats 8000000
set_option maxRecDepth 100000
theorem ref16_Of (p : Pol) (A : Option Addr) (len cap : Nat) (l : List Smp) (B : Option Addr) (len2 cap2 : Nat) (past : List Adv) (w : World) (hp : p.fit) (hs : SmpsAre w A len cap l) (hg : ∀ x ∈ l, x.good) (hn : len ≤ 200) (hs2 : AdvsAre w B len2 cap2 past) (hn2 : len2 ≤ 1000) :
    Calls Tryz.prog 38 #[(.agg #[.int .i64 p.min, .int .i64 p.max, .int .i64 p.target, .int .i64 p.tol, .int .i64 p.window, .int .i64 p.hold]), .slice A len cap, .slice B len2 cap2] w fun e w' => e = .returned (.tuple #[.agg (ofq p l past).cells.toArray, .int .i64 (ofe p l)]) ∧ Below w.heap.size w w' := by
  have HS := Lib.hid hs
  have HS2 := Lib.hid hs2
  have HL := Lib.hid hs.1
  have HG := Lib.hid hg
  have HP := Lib.hid hp
  have HT := latestq_I64 hg
  have D0 := Lib.hid (DI.start w p)
  clear hs hs2 hg hp
  by_cases hk : p.okP
  · have HC := Lib.hid (fun W => ref_Right p W)
    rw [polOk_true hk] at HC
    by_cases h0 : len = 0
    · have HQ := Lib.hid (ofq_nil (past := past) hk (show l.length = 0 by rw [HL.out]; exact h0))
      have d0 : ((len : Int) == 0) = true := by simp; omega
      clear hk h0
      go_enter Tryz.func38, Tryz.ntmps38
      go_wp2_with fail
      refine (HC.out _).mono ?_
      rintro e v1 ⟨rfl, hb1⟩
      have D1 := Lib.hid (D0.out.call hb1)
      clear hb1
      go_wp2_with (refine wpList_store_row rfl 68 (.tmp 6) (.tmp 23) rfl (w.heap.size + 1) _ _ _ rfl rfl D1.out.2.1 (by rfl) (by kernel_rfl) (by simp [Value.oneCell']) ?_; intro w9 hb9 hg9)
      refine bodyPost_ret (results_row_tmp rfl _ _ (w.heap.size + 1) _ _ _ rfl hb9 Tryz.underlying68 rfl (by kernel_rfl)) rfl ⟨by rw [HQ.out.1, HQ.out.2]; rfl, D1.out.2.2.trans (Only.below hg9 (by omega) D1.out.2.2.size)⟩
    · have HQ := Lib.hid (ofq_ok (past := past) hk (show l.length ≠ 0 by rw [HL.out]; exact h0))
      have d0 : ((len : Int) == 0) = false := by simp; omega
      have h1 : 1 ≤ len := by omega
      have HDq := Lib.hid (show decq p l past = (let tick := latestq l; let load := meanq (valq (cutq l (fromq tick p.window) tick)); let now := nowq p past; let op := openq p load now; let want := boundq p op; let th := boundq p (steadyq p tick want past).1; (⟨tick, load, want, th, whyq p (steadyq p tick want past).2 op now th⟩ : Adv)) from rfl)
      have HLa := Lib.hid (fun W hW => ref16_Latest A len cap l W hW h1 (by omega))
      have hMI : I64 (meanq (valq (cutq l (fromq (latestq l) p.window) (latestq l)))) := by
        have := mean_least (l := valq (cutq l (fromq (latestq l) p.window) (latestq l))) (fun x hx => by have := valq_bd (cutq_good HG.out _ _) x hx; unfold I64; omega) (fun x hx => (valq_bd (cutq_good HG.out _ _) x hx).1) 0
        unfold I64; omega
      dsimp only at HDq
      generalize latestq l = T at *
      have HFr := Lib.hid (fun W => ref09_From T p.window W HT HP.out.2.2.2.2.1)
      have HCu := Lib.hid (fun W hW => ref09_Cut A len cap l (fromq T p.window) T W hW (by omega))
      have HMe := Lib.hid (fun W A n c hW hn => ref16_Mean A n c (cutq l (fromq T p.window) T) W hW (cutq_good HG.out _ _) hn)
      have HCl := Lib.hid (show (cutq l (fromq T p.window) T).length ≤ 200 by have := cutq_len l (fromq T p.window) T; have := HL.out; omega)
      generalize fromq T p.window = FR at *
      generalize meanq (valq (cutq l FR T)) = LD at *
      have HNo := Lib.hid (fun W hW => ref16_Now p B len2 cap2 past W hW hn2)
      generalize nowq p past = NW at *
      have HOp := Lib.hid (fun W => ref_Open p LD NW W HP.out hMI)
      generalize openq p LD NW = OP at *
      have HB1 := Lib.hid (fun W => ref_Bound p OP W)
      generalize boundq p OP = WT at *
      have HSt := Lib.hid (fun W hW => ref15_Of p T WT B len2 cap2 past W HP.out hW hn2 HT)
      generalize steadyq p T WT past = SQ at *
      obtain ⟨sn, sh⟩ := SQ
      dsimp only at HSt HDq
      have HBo := Lib.hid (fun W => ref_Bound p sn W)
      generalize boundq p sn = TH at *
      have HWh := Lib.hid (fun W => ref16_Why p sh OP NW TH W)
      generalize whyq p sh OP NW TH = WY at *
      clear h0 hk HT hMI
      go_enter Tryz.func38, Tryz.ntmps38
      go_wp2_with fail
      refine (HC.out _).mono ?_
      rintro e v1 ⟨rfl, hb1⟩
      have D1 := Lib.hid (D0.out.call hb1)
      clear hb1
      have c4 := D1.out.1.cellv (i := 4) (v := .int .i64 p.window) rfl
      go_wp2_with fail
      refine (HLa.out _ (slice_keep HS.out D1.out.2.2)).mono ?_
      rintro e v2 ⟨rfl, rfl⟩
      go_wp2_with fail
      refine (HFr.out _).mono ?_
      rintro e v2 ⟨rfl, rfl⟩
      clear c4
      go_wp2_with fail
      refine (HCu.out _ (slice_keep HS.out D1.out.2.2)).mono ?_
      rintro e v2 ⟨x2, rfl, ho, hb2⟩
      obtain ⟨A2, n2, c2, rfl, hn2', hsl2⟩ := ho.shape (fun _ => rfl)
      have hn2b : n2 ≤ 200 := by rw [hn2']; exact HCl.out
      have S2 := Lib.hid hsl2
      have D2 := Lib.hid (D1.out.call hb2)
      clear ho hsl2 hb2 hn2'
      go_wp2_with fail
      refine (HMe.out _ A2 n2 c2 S2.out hn2b).mono ?_
      rintro e v3 ⟨rfl, hb3⟩
      have D3 := Lib.hid (D2.out.call hb3)
      clear hb3
      go_wp2_with (refine Blk.load rfl 23 (.tmp 3) rfl w.heap.size _ _ _ rfl D3.out.1 Tryz.underlying23 rfl (by kernel_rfl) ?_)
      refine (HNo.out _ (slice_keep HS2.out D3.out.2.2)).mono ?_
      rintro e v4 ⟨rfl, hb4⟩
      have D4 := Lib.hid (D3.out.call hb4)
      clear hb4
      go_wp2_with (refine Blk.load rfl 23 (.tmp 3) rfl w.heap.size _ _ _ rfl D4.out.1 Tryz.underlying23 rfl (by kernel_rfl) ?_)
      refine (HOp.out _).mono ?_
      rintro e v5 ⟨rfl, hb5⟩
      have D5 := Lib.hid (D4.out.call hb5)
      clear hb5
      go_wp2_with (refine Blk.load rfl 23 (.tmp 3) rfl w.heap.size _ _ _ rfl D5.out.1 Tryz.underlying23 rfl (by kernel_rfl) ?_)
      refine (HB1.out _).mono ?_
      rintro e v6 ⟨rfl, hb6⟩
      have D6 := Lib.hid (D5.out.call hb6)
      clear hb6
      go_wp2_with (refine Blk.load rfl 23 (.tmp 3) rfl w.heap.size _ _ _ rfl D6.out.1 Tryz.underlying23 rfl (by kernel_rfl) ?_)
      refine (HSt.out _ (slice_keep HS2.out D6.out.2.2)).mono ?_
      rintro e v7 ⟨rfl, hb7⟩
      have D7 := Lib.hid (D6.out.call hb7)
      clear hb7
      go_wp2_with (refine Blk.load rfl 23 (.tmp 3) rfl w.heap.size _ _ _ rfl D7.out.1 Tryz.underlying23 rfl (by kernel_rfl) ?_)
      refine (HBo.out _).mono ?_
      rintro e v8 ⟨rfl, hb8⟩
      have D8 := Lib.hid (D7.out.call hb8)
      clear hb8
      go_wp2_with (refine Blk.load rfl 23 (.tmp 3) rfl w.heap.size _ _ _ rfl D8.out.1 Tryz.underlying23 rfl (by kernel_rfl) ?_)
      refine (HWh.out _).mono ?_
      rintro e v9 ⟨rfl, hb9⟩
      have D9 := Lib.hid (D8.out.call hb9)
      clear hb9
      go_wp2_with (refine wpList_store_row rfl 68 (.tmp 6) (.tmp 65) rfl (w.heap.size + 1) _ _ _ rfl rfl D9.out.2.1 (by rfl) (by kernel_rfl) (by simp [Value.oneCell']) ?_; intro w9 hb9 hg9)
      refine bodyPost_ret (results_row_tmp rfl _ _ (w.heap.size + 1) _ _ _ rfl hb9 Tryz.underlying68 rfl (by kernel_rfl)) rfl ⟨by rw [HQ.out.1, HQ.out.2, HDq.out]; rfl, D9.out.2.2.trans (Only.below hg9 (by omega) D9.out.2.2.size)⟩
  · have HC := Lib.hid (fun W => ref_Right p W)
    rw [polOk_false hk] at HC
    have HQ := Lib.hid (ofq_no (l := l) (past := past) hk)
    clear hk HT
    go_enter Tryz.func38, Tryz.ntmps38
    go_wp2_with fail
    refine (HC.out _).mono ?_
    rintro e v1 ⟨rfl, hb1⟩
    have D1 := Lib.hid (D0.out.call hb1)
    clear hb1
    go_wp2_with (refine wpList_store_row rfl 68 (.tmp 6) (.tmp 19) rfl (w.heap.size + 1) _ _ _ rfl rfl D1.out.2.1 (by rfl) (by kernel_rfl) (by simp [Value.oneCell']) ?_; intro w9 hb9 hg9)
    refine bodyPost_ret (results_row_tmp rfl _ _ (w.heap.size + 1) _ _ _ rfl hb9 Tryz.underlying68 rfl (by kernel_rfl)) rfl ⟨by rw [HQ.out.1, HQ.out.2]; rfl, D1.out.2.2.trans (Only.below hg9 (by omega) D1.out.2.2.size)⟩
end Go.Proofs.YtjodpffdlggjgaaGreat
/- flywheelref16.Follow: the walk. -/
namespace Go.Proofs.YtjodpffdlggjgaaGreat
open Go.RowKit
set_option linter.unusedSimpArgs false
set_option linter.unusedVariables false
set_option maxHeartbeats 8000000
set_option maxRecDepth 100000
def FolPost2 (p : Pol) (sm rm : Int) (l : List Smp) (w : World) (e : Ending) (w' : World) : Prop := ∃ A n c, e = .returned (.slice A n c) ∧ OwnA w' w.heap.size (.slice A n c) (folq p sm rm l).out ∧ Below w.heap.size w w'
theorem folq_srt (p : Pol) (sm rm : Int) (l : List Smp) (k : Nat) (hk : k ≤ l.length) : Srt (folq p sm rm (l.take k)).smps :=
  folq_all (fun n st => Srt st.smps) p sm rm l List.Pairwise.nil (fun n st x hx h => by
    rw [fstep_smps]; unfold putr
    split
    · exact srt_putv h _ x
    · exact h) k hk
theorem folq_past (p : Pol) (sm rm : Int) (l : List Smp) (k : Nat) (hk : k ≤ l.length) : (folq p sm rm (l.take k)).past.length ≤ 64 :=
  folq_all (fun n st => st.past.length ≤ 64) p sm rm l (Nat.zero_le _) (fun n st x hx h => by
    unfold fstep
    split
    · split
      · dsimp only
        unfold hush
        split
        · rename_i hr
          unfold pushq
          split
          · rw [List.length_drop, List.length_append]; simp; omega
          · rename_i h2; omega
        · simp
      · exact h
    · exact h) k hk
def RefIn (w1 wr : World) (A3 : Option Addr) (n3 c3 : Nat) (A4 : Option Addr) (n4 c4 : Nat) (v : Value) (st : Fst) : Prop :=
  SmpsAre wr A3 n3 c3 st.smps ∧ AdvsAre wr A4 n4 c4 st.past ∧ OwnA wr w1.heap.size v st.out ∧ (∀ a, A3 = some a → a.block < wr.heap.size ∧ v.ownBlock ≠ some a.block) ∧ (∀ a, A4 = some a → a.block < wr.heap.size ∧ v.ownBlock ≠ some a.block) ∧ Below w1.heap.size w1 wr ∧ w1.heap.size ≤ wr.heap.size
theorem RefIn.start (w : World) : RefIn w w none 0 0 none 0 0 (.slice none 0 0) ⟨[], [], []⟩ :=
  ⟨slice_nil _ _ _, slice_nil _ _ _, Own.nil _ _ _ _ _, fun a ha => (by cases ha), fun a ha => (by cases ha), Below.refl _ _, Nat.le_refl _⟩
theorem RefIn.call {w1 wr w' : World} {A3 : Option Addr} {n3 c3 : Nat} {A4 : Option Addr} {n4 c4 : Nat} {v : Value} {st : Fst} (h : RefIn w1 wr A3 n3 c3 A4 n4 c4 v st) (hb : Below wr.heap.size wr w') : RefIn w1 w' A3 n3 c3 A4 n4 c4 v st := by
  obtain ⟨h1, h2, h3, h4, h5, h6, h7⟩ := h
  exact ⟨slice_keep h1 hb, slice_keep h2 hb, h3.call hb, fun a ha => ⟨Nat.lt_of_lt_of_le (h4 a ha).1 hb.size, (h4 a ha).2⟩, fun a ha => ⟨Nat.lt_of_lt_of_le (h5 a ha).1 hb.size, (h5 a ha).2⟩, h6.trans (hb.mono h7), Nat.le_trans h7 hb.size⟩
theorem RefIn.smps {w1 wr w' : World} {A3 : Option Addr} {n3 c3 : Nat} {A4 : Option Addr} {n4 c4 : Nat} {v : Value} {st : Fst} {A : Option Addr} {n c : Nat} {l : List Smp} (h : RefIn w1 wr A3 n3 c3 A4 n4 c4 v st) (hs : SmpsAre w' A n c l) (hb : Below wr.heap.size wr w') (hf : ∀ a, A = some a → wr.heap.size ≤ a.block ∧ a.block < w'.heap.size) : RefIn w1 w' A n c A4 n4 c4 v ⟨l, st.past, st.out⟩ := by
  obtain ⟨h1, h2, h3, h4, h5, h6, h7⟩ := h.call hb
  refine ⟨hs, h2, h3, fun a ha => ⟨(hf a ha).2, fun e => ?_⟩, h5, h6, h7⟩
  have := (World.ownsRow.lt h.2.2.1 _ e).2
  have := (hf a ha).1
  omega
theorem RefIn.advs {w1 wr w' : World} {A3 : Option Addr} {n3 c3 : Nat} {A4 : Option Addr} {n4 c4 : Nat} {v : Value} {st : Fst} {A : Option Addr} {n c : Nat} {l : List Adv} (h : RefIn w1 wr A3 n3 c3 A4 n4 c4 v st) (hs : AdvsAre w' A n c l) (hb : Below wr.heap.size wr w') (hf : ∀ a, A = some a → wr.heap.size ≤ a.block ∧ a.block < w'.heap.size) : RefIn w1 w' A3 n3 c3 A n c v ⟨st.smps, l, st.out⟩ := by
  obtain ⟨h1, h2, h3, h4, h5, h6, h7⟩ := h.call hb
  refine ⟨h1, hs, h3, h4, fun a ha => ⟨(hf a ha).2, fun e => ?_⟩, h6, h7⟩
  have := (World.ownsRow.lt h.2.2.1 _ e).2
  have := (hf a ha).1
  omega
theorem RefIn.push {w1 wr w' : World} {A3 : Option Addr} {n3 c3 : Nat} {A4 : Option Addr} {n4 c4 : Nat} {v v' : Value} {st : Fst} {a : Adv} (h : RefIn w1 wr A3 n3 c3 A4 n4 c4 v st) (ho : OwnA w' w1.heap.size v' (st.out ++ [a])) (hu : Upd (fun k => v.ownBlock = some k) wr w') (hw : v'.ownBlock = v.ownBlock ∨ v'.ownBlock = some wr.heap.size) : RefIn w1 w' A3 n3 c3 A4 n4 c4 v' ⟨st.smps, st.past, st.out ++ [a]⟩ := by
  obtain ⟨h1, h2, h3, h4, h5, h6, h7⟩ := h
  have hlt := World.ownsRow.lt h3
  have key : ∀ a : Addr, a.block < wr.heap.size → v.ownBlock ≠ some a.block → v'.ownBlock ≠ some a.block := fun a ha hn e => by
    rcases hw with hw | hw
    · exact hn (hw.symm.trans e)
    · rw [hw] at e; injection e with e; omega
  exact ⟨slice_upd h1 hu (fun a ha => (h4 a ha).2), slice_upd h2 hu (fun a ha => (h5 a ha).2), ho, fun a ha => ⟨Nat.lt_of_lt_of_le (h4 a ha).1 hu.size, key a (h4 a ha).1 (h4 a ha).2⟩, fun a ha => ⟨Nat.lt_of_lt_of_le (h5 a ha).1 hu.size, key a (h5 a ha).1 (h5 a ha).2⟩, h6.trans (hu.below (fun k hk => (hlt k hk).1) h7), Nat.le_trans h7 hu.size⟩
theorem ref16_Follow_bad (p : Pol) (A : Option Addr) (len cap : Nat) (l : List Smp) (sm rm : Int) (w : World) (hb : ¬ goodS sm ∨ ¬ (1 ≤ rm ∧ rm ≤ 64)) :
    Calls Tryz.prog 12 #[(.agg #[.int .i64 p.min, .int .i64 p.max, .int .i64 p.target, .int .i64 p.tol, .int .i64 p.window, .int .i64 p.hold]), .slice A len cap, .int .i64 sm, .int .i64 rm] w (FolPost2 p sm rm l w) := by
  have HB := Lib.hid (folq_bad p sm rm l hb)
  have hd : (decide (sm < 1) = true) ∨ (decide (sm < 1) = false ∧ decide (256 < sm) = true) ∨ (decide (sm < 1) = false ∧ decide (256 < sm) = false ∧ decide (rm < 1) = true) ∨ (decide (sm < 1) = false ∧ decide (256 < sm) = false ∧ decide (rm < 1) = false ∧ decide (64 < rm) = true) := by
    unfold goodS at hb
    simp only [decide_eq_true_eq, decide_eq_false_iff_not]
    omega
  clear hb
  rcases hd with d1 | ⟨d1, d2⟩ | ⟨d1, d2, d3⟩ | ⟨d1, d2, d3, d4⟩
  all_goals
    go_enter Tryz.func12, Tryz.ntmps12
    go_wp2
    go_ret
    exact ⟨none, 0, 0, rfl, by rw [HB.out]; exact Own.nil _ _ _ _ _, by go_grown⟩
theorem ref16_Follow_good (p : Pol) (A : Option Addr) (len cap : Nat) (l : List Smp) (S R : Nat) (w : World) (hp : p.fit) (hs : SmpsAre w A len cap l) (hg : ∀ x ∈ l, x.good) (hn : len ≤ 200) (s1 : 1 ≤ S) (s2 : S ≤ 256) (r1 : 1 ≤ R) (r2 : R ≤ 64) :
    Calls Tryz.prog 12 #[(.agg #[.int .i64 p.min, .int .i64 p.max, .int .i64 p.target, .int .i64 p.tol, .int .i64 p.window, .int .i64 p.hold]), .slice A len cap, .int .i64 S, .int .i64 R] w (FolPost2 p S R l w) := by
  have HS := Lib.hid hs
  have HL := Lib.hid hs.1
  have HP := Lib.hid hp
  have HN := Lib.hid (fun (k : Nat) (x : Smp) (h : l[k]? = some x) => folq_next p S R h)
  have HQ := Lib.hid (fun k hk => folq_len p S R l k hk)
  have HQg := Lib.hid (fun k hk => folq_good p S R l hg k hk)
  have HQs := Lib.hid (fun k hk => folq_srt p S R l k hk)
  have HQp := Lib.hid (fun k hk => folq_past p S R l k hk)
  have d1 : decide ((S : Int) < 1) = false := by simp; omega
  have d2 : decide ((256 : Int) < (S : Int)) = false := by simp; omega
  have d3 : decide ((R : Int) < 1) = false := by simp; omega
  have d4 : decide ((64 : Int) < (R : Int)) = false := by simp; omega
  have d1' : ¬ S < 1 := by omega
  have d2' : ¬ 256 < S := by omega
  have d3' : ¬ R < 1 := by omega
  have d4' : ¬ 64 < R := by omega
  have HSR := Lib.hid (show (1 ≤ S ∧ S ≤ 256) ∧ 1 ≤ R ∧ R ≤ 64 from ⟨⟨s1, s2⟩, r1, r2⟩)
  clear hs hg hp s1 s2 r1 r2
  obtain ⟨w1, hw1⟩ : ∃ w1, w1 = w.alloc (.cells #[.int .i64 p.min, .int .i64 p.max, .int .i64 p.target, .int .i64 p.tol, .int .i64 p.window, .int .i64 p.hold] 23) := ⟨_, rfl⟩
  have B1 := Lib.hid (show Blk w1 w.heap.size 23 #[.int .i64 p.min, .int .i64 p.max, .int .i64 p.target, .int .i64 p.tol, .int .i64 p.window, .int .i64 p.hold] by rw [hw1]; exact Blk.new _ _ _)
  have E1 := Lib.hid (show Below w.heap.size w w1 by rw [hw1]; go_grown)
  go_enter Tryz.func12, Tryz.ntmps12
  go_upto_region 1 with (fail)
  rw [← hw1]
  clear hw1
  go_wp2
  go_loopw [9, 10, 11, 12] (fun v v4 v3 i wr => ∃ (k : Nat) (A3 : Option Addr) (n3 c3 : Nat) (A4 : Option Addr) (n4 c4 : Nat), k ≤ len ∧ i = .int .i64 k ∧ v3 = .slice A3 n3 c3 ∧ v4 = .slice A4 n4 c4 ∧ RefIn w1 wr A3 n3 c3 A4 n4 c4 v (folq p S R (l.take k))) (fun _ _ _ i _ => len - (intOf i).toNat)
  case atStart => exact ⟨0, none, 0, 0, none, 0, 0, Nat.zero_le _, rfl, rfl, rfl, RefIn.start w1⟩
  case round =>
    obtain ⟨k, A3, n3, c3, A4, n4, c4, hk, rfl, rfl, rfl, hin⟩ := hrel
    obtain ⟨A5, n5, c5, rfl, -, -⟩ := hin.2.2.1.shape adv_len
    have HI := Lib.hid hin
    clear hin
    by_cases hlt : k < len
    · obtain ⟨b, off, x, rfl, hx, hb, t0, t1⟩ := HS.out.at_ hlt
      have hbw := E1.out.trans (HI.out.2.2.2.2.2.1.mono E1.out.size)
      have kt0 := (hbw.cell (p := ⟨b, off + k * 2, none⟩) hb).trans t0
      have kt1 := (hbw.cell (p := ⟨b, off + k * 2 + 1, none⟩) hb).trans t1
      have hki : (k : Int) < (len : Int) := by omega
      have HN1 := Lib.hid (HN.out k x hx)
      have HLn := Lib.hid (HQ.out (k + 1) (by have := HL.out; omega)).1
      have HL0 := Lib.hid (HQ.out k (by have := HL.out; omega)).1
      have HGd := Lib.hid (HQg.out (k + 1) (by have := HL.out; omega))
      have HLo := Lib.hid (HQ.out k (by have := HL.out; omega)).2
      have HSr := Lib.hid (HQs.out k (by have := HL.out; omega))
      have HPa := Lib.hid (HQp.out k (by have := HL.out; omega))
      rw [HN1.out, fstep_smps] at HLn HGd
      clear hx hb t0 t1 hbw
      generalize folq p S R (l.take k) = st at *
      have HR := Lib.hid (fun w => ref08_Right x.tick x.value w)
      have HEr := Lib.hid (show errr S x = serErr x.tick x.value by
        have := HSR.out
        unfold errr
        rw [if_pos (show goodS S by unfold goodS; omega)]
        split
        · rename_i h; exact h.symm
        · rfl)
      by_cases he : serErr x.tick x.value = 0
      · have HE := Lib.hid (HEr.out.trans he)
        have HQp : putr st.smps S x = putq st.smps S x := by
          have := HSR.out
          unfold putr putv
          rw [if_pos (show goodS S by unfold goodS; omega), if_pos he]; rfl
        rw [he] at HR
        have H1 := Lib.hid (fun h2 => HN1.out.trans (fstep_ok HE.out h2 (by have := HSR.out; omega)))
        have H3 := Lib.hid (fun h2 => HN1.out.trans (fstep_skip (rm := R) HE.out h2))
        rw [HQp] at H1 H3 HLn HGd
        have HPu := Lib.hid (fun W hW => ref08_Put A3 n3 c3 st.smps S x W hW (by have := HI.out.1.1; have := HL0.out; omega) HSr.out (by have := HSR.out; omega))
        clear he HE HQp HN1 HEr
        generalize putq st.smps S x = hh at *
        have HOf := Lib.hid (fun W A n c B m d hW hW2 hn hm => (show Calls Tryz.prog 38 #[(.agg #[.int .i64 p.min, .int .i64 p.max, .int .i64 p.target, .int .i64 p.tol, .int .i64 p.window, .int .i64 p.hold]), .slice A n c, .slice B m d] W fun e w' => e = .returned (.tuple #[.agg #[.int .i64 (ofq p hh st.past).tick, .int .i64 (ofq p hh st.past).load, .int .i64 (ofq p hh st.past).want, .int .i64 (ofq p hh st.past).repl, .int .i64 (ofq p hh st.past).why], .int .i64 (ofe p hh)]) ∧ Below W.heap.size W w' from ref16_Of p A n c hh B m d st.past W HP.out hW HGd.out hn hW2 hm))
        generalize ofq p hh st.past = X at *
        generalize ofe p hh = OE at *
        have HLo2 := Lib.hid (show st.out.length < 1000000 by have := HLo.out; omega)
        have HLn2 := Lib.hid (show hh.length ≤ 200 by have := HLn.out; omega)
        clear HLo HLn
        go_wp2
        go_quiet ((go_at_call 36; exact Calls.quiet_of_same ((HR.out _).mono fun _ _ h => ⟨h.1, h.2.symm⟩)))
        go_wp2_with fail
        have I1 := Lib.hid (HI.out.call (below_drewN (Below.refl _ _) nq))
        refine (HPu.out _ I1.out.1).mono ?_
        rintro e w2 ⟨A6, n6, c6, rfl, hs6, hb6, hf6⟩
        have I2 := Lib.hid (I1.out.smps hs6 hb6 hf6)
        have B2 := Lib.hid (B1.out.call I2.out.2.2.2.2.2.1)
        have HX := Lib.hid (fun a => Blk.new a 68 (rowA X))
        clear hs6 hb6 hf6 I1 HI
        by_cases ho : OE = 0
        · have d5 : (OE == 0) = true := by simpa using ho
          have HE := Lib.hid (H1.out ho)
          clear ho H1 H3
          go_wp2_with (first
            | (refine Blk.load rfl 23 (.tmp 4) rfl _ _ _ _ rfl B2.out Tryz.underlying23 rfl (by kernel_rfl) ?_)
            | (go_at_call 38; refine (HOf.out _ _ _ _ _ _ _ I2.out.1 I2.out.2.1 (Nat.le_trans (Nat.le_of_eq I2.out.1.1.symm) HLn2.out) (Nat.le_trans (Nat.le_of_eq I2.out.2.1.1.symm) (Nat.le_trans HPa.out (by decide)))).mono ?_; rintro e w3 ⟨rfl, hb3⟩; have I3 := Lib.hid ((I2.out.call hb3).call (w' := w3.alloc (.cells (rowA X) 68)) ((Below.refl _ w3).alloc (Nat.le_refl _) _)); have X3 := Lib.hid (HX.out w3); clear hb3)
            | (refine Blk.load rfl 68 (.tmp 13) rfl _ _ _ _ rfl X4.out Tryz.underlying68 rfl (by kernel_rfl) ?_)
            | (refine Blk.load rfl 68 (.tmp 13) rfl _ _ _ _ rfl X3.out Tryz.underlying68 rfl (by kernel_rfl) ?_)
            | (go_at_call 39; refine (ref14_Put A4 n4 c4 st.past R X _ I3.out.2.1 (Nat.le_trans (Nat.le_of_eq I3.out.2.1.1.symm) (Nat.le_trans HPa.out (by decide))) (by have := HSR.out; omega)).mono ?_; rintro e w4 ⟨A7, n7, c7, rfl, hs7, hb7, hf7⟩; have I4 := Lib.hid (I3.out.advs hs7 hb7 hf7); have X4 := Lib.hid (X3.out.call hb7); clear hs7 hb7 hf7)
            | (at_builtin; refine wpList_push2 _ rfl (.tmp 67) (.tmp 69) 26 rfl w1.heap.size 68 _ 5 40 _ Tryz.underlying26 info_adv (by rfl) (by decide) (fun _ => rfl) adv_one (.slice A5 n5 c5) st.out rfl (I4.out.2.2.1.alloc _) ⟨_, 0, none⟩ 1 X rfl (blk_news (α := Adv) (vs := X.cells) (Blk.new _ _ _) rfl) HLo2.out (by decide) (by have := I4.out.2.2.2.2.2.2; simp; omega) ?_; intro v' w7 ho7 hu7 hw7; obtain ⟨A8, n8, c8, rfl, -, -⟩ := ho7.shape adv_len; have I7 := Lib.hid (RefIn.push (I4.out.call (by go_grown)) ho7 hu7 hw7); clear ho7 hu7 hw7))
          go_roundw
          case rel => exact ⟨k + 1, _, _, _, _, _, _, by omega, by go_num, rfl, rfl, by rw [HE.out]; unfold hush; rw [if_pos (by have := HSR.out; omega)]; exact I7.out⟩
          case measure => simp [intOf]; omega
        · have d5 : (OE == 0) = false := by simpa using ho
          have HE := Lib.hid (H3.out ho)
          clear ho H1 H3
          go_wp2_with (first
            | (refine Blk.load rfl 23 (.tmp 4) rfl _ _ _ _ rfl B2.out Tryz.underlying23 rfl (by kernel_rfl) ?_)
            | (go_at_call 38; refine (HOf.out _ _ _ _ _ _ _ I2.out.1 I2.out.2.1 (Nat.le_trans (Nat.le_of_eq I2.out.1.1.symm) HLn2.out) (Nat.le_trans (Nat.le_of_eq I2.out.2.1.1.symm) (Nat.le_trans HPa.out (by decide)))).mono ?_; rintro e w3 ⟨rfl, hb3⟩; have I3 := Lib.hid ((I2.out.call hb3).call (w' := w3.alloc (.cells (rowA X) 68)) ((Below.refl _ w3).alloc (Nat.le_refl _) _)); clear hb3))
          go_roundw
          case rel => exact ⟨k + 1, _, _, _, _, _, _, by omega, by go_num, rfl, rfl, by rw [HE.out]; exact I3.out⟩
          case measure => simp [intOf]; omega
      · have HE := Lib.hid (show errr S x ≠ 0 by rw [HEr.out]; exact he)
        generalize serErr x.tick x.value = ER at *
        have d5 : (ER != 0) = true := by simpa using he
        clear he HEr
        go_wp2
        go_quiet ((go_at_call 36; exact Calls.quiet_of_same ((HR.out _).mono fun _ _ h => ⟨h.1, h.2.symm⟩)))
        go_wp2_with fail
        go_roundw
        case rel => exact ⟨k + 1, _, _, _, _, _, _, by omega, by go_num, rfl, rfl, by rw [HN1.out, fstep_no HE.out]; exact HI.out.call (below_drewN (Below.refl _ _) _)⟩
        case measure => simp [intOf]; omega
    · have hE : l.take k = l := List.take_of_length_le (by have := HL.out; omega)
      rw [hE] at HI
      go_wp2
      go_ret
      exact ⟨_, _, _, rfl, HI.out.2.2.1.mono E1.out.size, E1.out.trans (HI.out.2.2.2.2.2.1.mono E1.out.size)⟩
theorem ref16_Follow (p : Pol) (A : Option Addr) (len cap : Nat) (l : List Smp) (sm rm : Int) (w : World) (hp : p.fit) (hs : SmpsAre w A len cap l) (hg : ∀ x ∈ l, x.good) (hn : len ≤ 200) :
    Calls Tryz.prog 12 #[(.agg #[.int .i64 p.min, .int .i64 p.max, .int .i64 p.target, .int .i64 p.tol, .int .i64 p.window, .int .i64 p.hold]), .slice A len cap, .int .i64 sm, .int .i64 rm] w (FolPost2 p sm rm l w) := by
  by_cases hb : ¬ goodS sm ∨ ¬ (1 ≤ rm ∧ rm ≤ 64)
  · exact ref16_Follow_bad p A len cap l sm rm w hb
  · have h1 : goodS sm := Classical.byContradiction fun h => hb (.inl h)
    have h2 : 1 ≤ rm ∧ rm ≤ 64 := Classical.byContradiction fun h => hb (.inr h)
    obtain ⟨S, rfl⟩ : ∃ S : Nat, sm = S := ⟨sm.toNat, by unfold goodS at h1; omega⟩
    obtain ⟨R, rfl⟩ : ∃ R : Nat, rm = R := ⟨rm.toNat, by omega⟩
    exact ref16_Follow_good p A len cap l S R w hp hs hg hn (by unfold goodS at h1; omega) (by unfold goodS at h1; omega) (by omega) (by omega)
end Go.Proofs.YtjodpffdlggjgaaGreat
