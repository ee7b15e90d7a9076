/- Several texts in one. -/
import Derived.Test.YtjodpffdlggjgaaGreatTrialT
import Derived.Test.YtjodpffdlggjgaaGreatKeep
import Derived.Test.YtjodpffdlggjgaaGreatCmp44
import Derived.Test.YtjodpffdlggjgaaGreatKTuneCheapest3
import Derived.Deep.CutRange
import Derived.StillTailTactics
import Derived.Test.YtjodpffdlggjgaaGreatAdvSame
import Derived.Test.YtjodpffdlggjgaaGreatAdvDec
import Derived.Test.YtjodpffdlggjgaaGreatTotal
import Derived.Test.YtjodpffdlggjgaaGreatKTuneCheapest4
import Derived.Test.YtjodpffdlggjgaaGreatRegT
import Derived.Test.YtjodpffdlggjgaaGreatRegL
/- trial.Judge. -/
namespace Go.Proofs.YtjodpffdlggjgaaGreat
open Go.RowKit
set_option linter.unusedSimpArgs false
set_option linter.unusedVariables false
set_option maxHeartbeats 4000000
set_option maxRecDepth 100000

structure J4 where
  least : Int
  most : Int
  spare : Int
  short : Int
def leftq (T : Int) (x : Adv) : Int := satq (satq (x.repl * T) - x.load)
def j4step (T : Int) (i : Nat) (s : J4) (x : Adv) : J4 :=
  ⟨if i = 0 then x.repl else min s.least x.repl, if i = 0 then x.repl else max s.most x.repl, if 0 ≤ leftq T x then satq (s.spare + leftq T x) else s.spare, if 0 ≤ leftq T x then s.short else satq (s.short + satq (0 - leftq T x))⟩
def j4 (T : Int) (l : List Adv) : Nat → J4
  | 0 => ⟨0, 0, 0, 0⟩
  | k + 1 => match l[k]? with
    | some x => j4step T k (j4 T l k) x
    | none => j4 T l k
theorem j4_succ {T : Int} {l : List Adv} {k : Nat} {x : Adv} (h : l[k]? = some x) : j4 T l (k + 1) = j4step T k (j4 T l k) x := by
  show (match l[k]? with | some x => j4step T k (j4 T l k) x | none => j4 T l k) = _
  rw [h]
theorem info_advJ : (Tryz.prog.info? 68).map (fun i => (i.zero, i.size, i.bytes)) = some (some (.agg #[.int .i64 0, .int .i64 0, .int .i64 0, .int .i64 0, .int .i64 0]), 5, 40) := by kernel_rfl
abbrev OwnJ (w : World) (base : Nat) (v : Value) (l : List Adv) : Prop := Own w base 68 5 Adv.cells v l
theorem adv_oneJ : ∀ x : Adv, ∀ u ∈ x.cells, u.oneCell' = true := by
  intro x u hu
  simp [Adv.cells] at hu
  rcases hu with rfl | rfl | rfl | rfl | rfl <;> rfl
theorem cat_adv {ops : Array Oper} {rest : List Oper} {o : Oper} {a : Act} {Q : Exit → Act → World → Prop} (w : World) (hgd : o.guard = none) (s x : Operand)
    (ho : o.op = .call { callee := .builtin .append, args := #[s, x], argTypes := #[26, 26] }) (base : Nat) (v : Value) (l : List Adv) (hs : a.eval s = v) (hown : OwnJ w base v l)
    (A : Option Addr) (m c : Nat) (ys : List Adv) (hx : a.eval x = .slice A m c) (hys : AdvsAre w A m c ys) (hlen : l.length + m < 1000000) (hbase : base ≤ w.heap.size)
    (h : ∀ v' w', OwnJ w' base v' (l ++ ys) → Below base w w' → w.grownBy w' v.ownBlock → wpList Tryz.prog ops Q rest (a.put o.dst v') w') : wpList Tryz.prog ops Q (o :: rest) a w :=
  wpList_cat w hgd s x _ ho base 68 _ 5 40 _ Tryz.underlying26 info_advJ (by rfl) (by decide) (fun _ => rfl) adv_oneJ v l hs hown A m c ys hx hys hlen (by decide) hbase h
theorem j4_I64 (T : Int) (l : List Adv) (hg : ∀ x ∈ l, x.good) (k : Nat) : I64 (j4 T l k).spare ∧ I64 (j4 T l k).short := by
  induction k with
  | zero => exact ⟨by unfold j4 I64; simp, by unfold j4 I64; simp⟩
  | succ k ih =>
    cases hx : l[k]? with
    | none =>
      have : j4 T l (k + 1) = j4 T l k := by
        show (match l[k]? with | some x => j4step T k (j4 T l k) x | none => j4 T l k) = _
        rw [hx]
      rw [this]; exact ih
    | some x =>
      rw [j4_succ hx]
      unfold j4step
      simp only
      split
      · exact ⟨satq_I64 _, ih.2⟩
      · exact ⟨ih.1, satq_I64 _⟩
theorem Blk.new_set2 (w : World) (gr i j : Nat) (u u2 : Value) (t : TypeId) (cs : Array Value) : Blk ((((w.setCell ⟨gr, i, none⟩ u).setCell ⟨gr, j, none⟩ u2).alloc (.cells cs t)).drew) w.heap.size t cs := by
  have := Blk.new ((w.setCell ⟨gr, i, none⟩ u).setCell ⟨gr, j, none⟩ u2) t cs
  simpa using this.drew
abbrev z64 : Array Value := #[.slice none 0 0, .int .i64 0, .int .i64 0, .int .i64 0, .int .i64 0, .int .i64 0, .int .i64 0]
def JI (w wr : World) (p : Pol) (gr : Nat) (v : Value) (l : List Adv) (c : Array Value) : Prop :=
  Blk wr w.heap.size 23 p.row ∧ Blk wr (w.heap.size + 1) 28 z64 ∧ Blk wr gr 28 c ∧ OwnJ wr (w.heap.size + 2) v l ∧ Below w.heap.size w wr ∧ w.heap.size + 1 < gr ∧ ∀ k, v.ownBlock = some k → k < gr
theorem JI.alloc {w wr : World} {p : Pol} {gr : Nat} {v : Value} {l : List Adv} {c : Array Value} (h : JI w wr p gr v l c) (o : Obj) : JI w (wr.alloc o) p gr v l c :=
  ⟨h.1.alloc o, h.2.1.alloc o, h.2.2.1.alloc o, h.2.2.2.1.alloc o, h.2.2.2.2.1.alloc h.2.2.2.2.1.size o, h.2.2.2.2.2⟩
theorem JI.drewN {w wr : World} {p : Pol} {gr : Nat} {v : Value} {l : List Adv} {c : Array Value} (h : JI w wr p gr v l c) (n : Nat) : JI w (wr.drewN n) p gr v l c :=
  ⟨h.1, h.2.1, h.2.2.1, h.2.2.2.1, below_drewN h.2.2.2.2.1 n, h.2.2.2.2.2⟩
theorem JI.drew {w wr : World} {p : Pol} {gr : Nat} {v : Value} {l : List Adv} {c : Array Value} (h : JI w wr p gr v l c) : JI w wr.drew p gr v l c :=
  ⟨h.1, h.2.1, h.2.2.1, h.2.2.2.1, h.2.2.2.2.1.drew, h.2.2.2.2.2⟩
theorem JI.set {w wr : World} {p : Pol} {gr : Nat} {v : Value} {l : List Adv} {c : Array Value} (h : JI w wr p gr v l c) (i : Nat) (u : Value) : JI w (wr.setCell ⟨gr, i, none⟩ u) p gr v l (c.setIfInBounds i u) :=
  ⟨h.1.far (by have := h.2.2.2.2.2.1; simp; omega) u, h.2.1.far (by have := h.2.2.2.2.2.1; simp; omega) u, h.2.2.1.set_ i u, Own.far h.2.2.2.1 (fun k hk => by have := h.2.2.2.2.2.2 k hk; simp; omega) u, h.2.2.2.2.1.setCell (by have := h.2.2.2.2.2.1; simp; omega) u, h.2.2.2.2.2⟩
theorem trial_Judge (p : Pol) (A : Option Addr) (len cap : Nat) (l : List Adv) (w : World) (hp : p.fit) (hs : AdvsAre w A len cap l) (hg : ∀ x ∈ l, x.good) (hn : len ≤ 1000) :
    Calls Tryz.prog 28 #[(.agg #[.int .i64 p.min, .int .i64 p.max, .int .i64 p.target, .int .i64 p.tol, .int .i64 p.window, .int .i64 p.hold]), .slice A len cap] w fun e w' => ∃ v, e = .returned (.agg #[v, .int .i64 (chq (replAt l) len : Nat), .int .i64 ((turnq (replAt l) len).1 : Nat), .int .i64 (j4 p.target l len).least, .int .i64 (j4 p.target l len).most, .int .i64 (j4 p.target l len).spare, .int .i64 (j4 p.target l len).short]) ∧ OwnJ w' w.heap.size v l ∧ Below w.heap.size w w' := by
  have HS := Lib.hid hs
  have HG := Lib.hid hg
  clear hs hg
  have e0 : Below w.heap.size w ((w.alloc (.cells p.row 23)).alloc (.cells #[.slice none 0 0, .int .i64 0, .int .i64 0, .int .i64 0, .int .i64 0, .int .i64 0, .int .i64 0] 28)) := by go_grown
  have E0 := Lib.hid e0
  clear e0
  go_enter Tryz.func28, Tryz.ntmps28
  go_wp2_with (first | (at_builtin; refine cat_adv _ rfl _ _ rfl (w.heap.size + 2) (.slice none 0 0) [] rfl (Own.nil _ _ _ _ _) A len cap l rfl (slice_keep HS.out E0.out) (by simp; omega) (by simp) ?_; intro v1 w1 ho1 hb1 hg1))
  have hc1 := (Below.refl ((w.alloc (.cells p.row 23)).alloc (.cells #[.slice none 0 0, .int .i64 0, .int .i64 0, .int .i64 0, .int .i64 0, .int .i64 0, .int .i64 0] 28)).heap.size _).grown hg1 (Nat.le_refl _) (fun k hk => by simp [Value.ownBlock] at hk)
  rw [List.nil_append] at ho1
  obtain ⟨A1, cp1, rfl, -⟩ := ho1.slice (fun _ => rfl)
  have E1 := Lib.hid (E0.out.trans (hc1.mono E0.out.size))
  clear hb1 hg1
  refine (history_Changes A len cap l _ (slice_keep HS.out E1.out) hn).mono ?_
  rintro e w2 ⟨rfl, hb2⟩
  have E2 := Lib.hid (E1.out.trans (hb2.mono E1.out.size))
  go_wp2_with fail
  refine (steady_Turns A len cap l _ (slice_keep HS.out E2.out) hn).mono ?_
  rintro e w3 ⟨rfl, hb3⟩
  have E3 := Lib.hid (E2.out.trans (hb3.mono E2.out.size))
  have b0 := ((((Blk.new w 23 p.row).alloc (.cells #[.slice none 0 0, .int .i64 0, .int .i64 0, .int .i64 0, .int .i64 0, .int .i64 0, .int .i64 0] 28)).call hc1).call hb2).call hb3
  have b1 := (((Blk.new_ w (.cells p.row 23) 28 #[.slice none 0 0, .int .i64 0, .int .i64 0, .int .i64 0, .int .i64 0, .int .i64 0, .int .i64 0]).call hc1).call hb2).call hb3
  have o1 := (ho1.call hb2).call hb3
  have B0 := Lib.hid b0
  have B1 := Lib.hid b1
  have O1 := Lib.hid o1
  clear hc1 hb2 hb3 b0 b1 o1 ho1 E0 E1 E2
  go_wp2
  have hg1 : w.heap.size + 1 < w3.heap.size := B1.out.lt
  have HJI : JI w (w3.alloc (.cells #[.slice A1 l.length cp1, .int .i64 (chq (replAt l) len : Nat), .int .i64 ((turnq (replAt l) len).1 : Nat), .int .i64 0, .int .i64 0, .int .i64 0, .int .i64 0] 28)) p w3.heap.size (.slice A1 l.length cp1) l #[.slice A1 l.length cp1, .int .i64 (chq (replAt l) len : Nat), .int .i64 ((turnq (replAt l) len).1 : Nat), .int .i64 0, .int .i64 0, .int .i64 0, .int .i64 0] :=
    ⟨B0.out.alloc _, B1.out.alloc _, Blk.new w3 _ _, O1.out.alloc _, E3.out.alloc E3.out.size _, hg1, fun k hk => (World.ownsRow.lt O1.out k hk).2⟩
  clear B0 B1 O1 E3 hg1
  generalize hCH : chq (replAt l) len = CH at *
  generalize hTN : (turnq (replAt l) len).1 = TN at *
  have HCH := Lib.hid hCH
  have HTN := Lib.hid hTN
  clear hCH hTN
  generalize w3.heap.size = gr at *
  generalize w3.alloc (.cells #[.slice A1 l.length cp1, .int .i64 (CH : Int), .int .i64 (TN : Int), .int .i64 0, .int .i64 0, .int .i64 0, .int .i64 0] 28) = W4 at *
  go_loopw [18] (fun i wr => ∃ k : Nat, k ≤ len ∧ i = .int .i64 k ∧ JI w wr p gr (.slice A1 l.length cp1) l #[.slice A1 l.length cp1, .int .i64 (CH : Int), .int .i64 (TN : Int), .int .i64 (j4 p.target l k).least, .int .i64 (j4 p.target l k).most, .int .i64 (j4 p.target l k).spare, .int .i64 (j4 p.target l k).short]) (fun i _ => len - (intOf i).toNat)
  case atStart => exact ⟨0, Nat.zero_le _, rfl, HJI⟩
  case round =>
    obtain ⟨k, hk, rfl, hji⟩ := hrel
    clear HJI
    have JJ := Lib.hid hji
    by_cases hlt : k < len
    · obtain ⟨b, off, x, rfl, hx, hb, t0, t1, t2, t3, t4⟩ := HS.out.at_ hlt
      have hxg := HG.out x (List.mem_of_getElem? hx)
      have HJ := Lib.hid (j4_succ (T := p.target) hx)
      have hJi := j4_I64 p.target l HG.out k
      generalize j4 p.target l k = J at *
      have hbel := hji.2.2.2.2.1
      have br := hji.2.2.1
      have kt0 := (hbel.cell (p := ⟨b, off + k * 5, none⟩) hb).trans t0
      have kt1 := (hbel.cell (p := ⟨b, off + k * 5 + 1, none⟩) hb).trans t1
      have kt2 := (hbel.cell (p := ⟨b, off + k * 5 + 2, none⟩) hb).trans t2
      have kt3 := (hbel.cell (p := ⟨b, off + k * 5 + 3, none⟩) hb).trans t3
      have kt4 := (hbel.cell (p := ⟨b, off + k * 5 + 4, none⟩) hb).trans t4
      have f3 := br.frozen 3
      have f4 := br.frozen 4
      have r3 := br.cellv (i := 3) (v := .int .i64 J.least) rfl
      have r4 := br.cellv (i := 4) (v := .int .i64 J.most) rfl
      have lt1 := br.lt
      have hki : (k : Int) < (len : Int) := by omega
      clear br hx hb t0 t1 t2 t3 t4 hji hbel
      obtain ⟨hxI, hxL⟩ : I64 x.repl ∧ I64 x.load := ⟨hxg.2.2.2.1, hxg.2.1⟩
      obtain ⟨M, hM⟩ : ∃ M, M = satq (x.repl * p.target) := ⟨_, rfl⟩
      obtain ⟨L, hL⟩ : ∃ L, L = satq (M - x.load) := ⟨_, rfl⟩
      have HL := Lib.hid (show leftq p.target x = L by unfold leftq; rw [hL, hM])
      have HMul := Lib.hid (fun W => sat_Mul x.repl p.target W hxI hp.2.2.1)
      have HSub := Lib.hid (fun W => sat_Sub M x.load W (by rw [hM]; exact satq_I64 _) hxL)
      rw [← hM] at HMul
      rw [← hL] at HSub
      have hLI : I64 L := by rw [hL]; exact satq_I64 _
      clear hM hL hxg
      obtain ⟨ls, hls⟩ : ∃ ls, ls = (if k = 0 then x.repl else J.least) := ⟨_, rfl⟩
      obtain ⟨ms, hms⟩ : ∃ ms, ms = (if k = 0 then x.repl else J.most) := ⟨_, rfl⟩
      have HLs := Lib.hid hls
      have HMs := Lib.hid hms
      clear hls hms
      go_upto_if 24 with (fail)
      go_cut [18] from 18 to 64 (fun s18 wx => s18 = .int .i64 k ∧ Blk wx wr.heap.size 68 x.cells.toArray ∧ JI w wx p gr (.slice A1 l.length cp1) l #[.slice A1 l.length cp1, .int .i64 (CH : Int), .int .i64 (TN : Int), .int .i64 ls, .int .i64 ms, .int .i64 J.spare, .int .i64 J.short])
      case first =>
        by_cases hk0 : k = 0
        · have d0 : ((k : Int) == 0) = true := by simp; omega
          have E1 := Lib.hid (show ls = x.repl by rw [HLs.out, if_pos hk0])
          have E2 := Lib.hid (show ms = x.repl by rw [HMs.out, if_pos hk0])
          clear hk0
          go_wp2
          go_region
          go_wp2
          go_meet
          case rel => exact ⟨rfl, Blk.new_set2 wr _ _ _ _ _ _ _, by rw [E1.out, E2.out]; exact (((JJ.out.set 3 _).set 4 _).alloc _).drew⟩
        · have d0 : ((k : Int) == 0) = false := by simp; omega
          have E1 := Lib.hid (show ls = J.least by rw [HLs.out, if_neg hk0])
          have E2 := Lib.hid (show ms = J.most by rw [HMs.out, if_neg hk0])
          clear hk0
          go_wp2
          go_meet
          case rel => exact ⟨rfl, Blk.new wr _ _, by rw [E1.out, E2.out]; exact JJ.out.alloc _⟩
      case rest =>
        obtain ⟨rfl, ba, hji2⟩ := hcut
        have JJ2 := Lib.hid hji2
        have BA := Lib.hid ba
        have br := hji2.2.2.1
        have a3 := ba.cellv (i := 3) (v := .int .i64 x.repl) rfl
        have f3 := br.frozen 3
        have f4 := br.frozen 4
        have r3 := br.cellv (i := 3) (v := .int .i64 ls) rfl
        have r4 := br.cellv (i := 4) (v := .int .i64 ms) rfl
        clear br ba hji2 JJ kt0 kt1 kt2 kt3 kt4
        go_upto_region 7 with (fail)
        go_cut [18] from 18 to 64 (fun s18 wy => s18 = .int .i64 k ∧ Blk wy wr.heap.size 68 x.cells.toArray ∧ JI w wy p gr (.slice A1 l.length cp1) l #[.slice A1 l.length cp1, .int .i64 (CH : Int), .int .i64 (TN : Int), .int .i64 (min ls x.repl), .int .i64 (max ms x.repl), .int .i64 J.spare, .int .i64 J.short])
        case first =>
          by_cases hc1 : x.repl < ls
          · by_cases hc2 : ms < x.repl
            ·
              have E1 := Lib.hid (show min ls x.repl = x.repl by omega)
              have E2 := Lib.hid (show max ms x.repl = x.repl by omega)
              go_region
              go_wp2
              go_meet
              case rel => exact ⟨rfl, ((BA.out.far (by simp; omega) _).far (by simp; omega) _).drew, by rw [E1.out, E2.out]; exact ((JJ2.out.set 3 _).set 4 _).drew⟩
  
            ·
              have E1 := Lib.hid (show min ls x.repl = x.repl by omega)
              have E2 := Lib.hid (show max ms x.repl = ms by omega)
              go_region
              go_wp2
              go_meet
              case rel => exact ⟨rfl, ((BA.out.far (by simp; omega) _).far (by simp; omega) _).drew, by rw [E1.out, E2.out]; exact ((JJ2.out.set 3 _).set 4 _).drew⟩
  
          · by_cases hc2 : ms < x.repl
            ·
              have E1 := Lib.hid (show min ls x.repl = ls by omega)
              have E2 := Lib.hid (show max ms x.repl = x.repl by omega)
              go_region
              go_wp2
              go_meet
              case rel => exact ⟨rfl, ((BA.out.far (by simp; omega) _).far (by simp; omega) _).drew, by rw [E1.out, E2.out]; exact ((JJ2.out.set 3 _).set 4 _).drew⟩
  
            ·
              have E1 := Lib.hid (show min ls x.repl = ls by omega)
              have E2 := Lib.hid (show max ms x.repl = ms by omega)
              go_region
              go_wp2
              go_meet
              case rel => exact ⟨rfl, ((BA.out.far (by simp; omega) _).far (by simp; omega) _).drew, by rw [E1.out, E2.out]; exact ((JJ2.out.set 3 _).set 4 _).drew⟩
  
        case rest =>
          obtain ⟨rfl, ba, hji3⟩ := hcut
          clear r3 r4 f3 f4 a3
          have JJ3 := Lib.hid hji3
          have br := hji3.2.2.1
          have bp := hji3.1
          have a3 := ba.cellv (i := 3) (v := .int .i64 x.repl) rfl
          have a1 := ba.cellv (i := 1) (v := .int .i64 x.load) rfl
          have p2 := bp.cellv (i := 2) (v := .int .i64 p.target) rfl
          have r5 := br.cellv (i := 5) (v := .int .i64 J.spare) rfl
          have r6 := br.cellv (i := 6) (v := .int .i64 J.short) rfl
          have f5 := br.frozen 5
          have f6 := br.frozen 6
          have HE := Lib.hid (show j4 p.target l (k + 1) = ⟨min ls x.repl, max ms x.repl, if 0 ≤ L then satq (J.spare + L) else J.spare, if 0 ≤ L then J.short else satq (J.short + satq (0 - L))⟩ by
            rw [HJ.out]; unfold j4step; rw [HL.out, HLs.out, HMs.out]
            split
            · congr 1 <;> omega
            · rfl)
          clear br ba bp hji3
          go_upto_region 8 with (fail)
          go_quiet ((first | (go_at_call 56; exact Calls.quiet_of_same ((HMul.out _).mono fun _ _ h => ⟨h.1, h.2.symm⟩)) | (go_at_call 55; exact Calls.quiet_of_same ((HSub.out _).mono fun _ _ h => ⟨h.1, h.2.symm⟩))))
          by_cases hLp : 0 ≤ L
          · have HA := Lib.hid (fun W => sat_Add J.spare L W hJi.1 hLI)
            go_wp2_with (first | (go_at_call 47; refine (HA.out _).mono ?_; rintro e w5 ⟨rfl, rfl⟩))
            go_roundw
            case rel => exact ⟨k + 1, by omega, by go_num, by rw [HE.out]; simp only [if_pos hLp]; exact (JJ3.out.set 5 _).drewN _⟩
            case measure => simp [intOf]; omega
          · have HS0 := Lib.hid (fun W => sat_Sub 0 L W (by unfold I64; omega) hLI)
            have HA := Lib.hid (fun W => sat_Add J.short (satq (0 - L)) W hJi.2 (satq_I64 _))
            generalize satq (0 - L) = K at *
            have JJ4 := Lib.hid (JJ3.out.drewN nq)
            have R6 := Lib.hid (JJ4.out.2.2.1.cellv (i := 6) (v := .int .i64 J.short) rfl)
            have L6 := Lib.hid JJ4.out.2.2.1.lt
            clear r5 r6 f5 f6 p2 a1 a3
            go_wp2
            generalize wc.drewN nq = W6 at *
            have f6 := JJ4.out.2.2.1.frozen 6
            have r6 := R6.out
            refine wp_region_any (by kernel_rfl) ?_; change wpAny _ _ _ _ _ _ _ (World.drew W6); refine any_of_anyG (late := fun j => [6].contains j) (S := fun wS => Below W6.heap.size W6 wS) _ _ _ _ ?_
            have S0 := (Below.refl W6.heap.size W6).drew
            refine anyG_take (i := 0) (v := _) rfl (by kernel_rfl) (by kernel_rfl) (by kernel_rfl) (by kernel_rfl) rfl (by kernel_rfl) (fun j hj => by first | (simp at hj; done) | (simp at hj; simp; omega)) (fun _ _ _ h => h) (Or.inl ⟨by rfl, fun W1 hW1 => by first | rfl | (go_simp; done) | (go_simp; with_reducible rfl)⟩) (S0) ?_
            refine anyG_take (i := 1) (v := .int .i64 J.short) rfl (by kernel_rfl) (by kernel_rfl) (by kernel_rfl) (by kernel_rfl) rfl (by kernel_rfl) (fun j hj => by first | (simp at hj; done) | (simp at hj; simp; omega)) (fun _ _ _ h => h) (Or.inl ⟨by rfl, fun W1 hW1 => by have c := (hW1.cell (p := ⟨gr, 6, none⟩) L6.out).trans R6.out; go_simp⟩) (S0) ?_
            refine anyG_one (k := 2) (by kernel_rfl) rfl (by rfl) (fun Q2 hQ2 => ?_); go_wp2_with fail; refine hQ2 _ _ (fun _ => S0) ?_; clear hQ2 Q2
            refine anyG_one (k := 3) (by kernel_rfl) rfl (by rfl) (fun Q2 hQ2 => ?_); go_wp2_with (go_at_call 55; refine (HS0.out _).mono ?_; rintro e v1 ⟨rfl, rfl⟩); refine hQ2 _ _ (fun _ => S0) ?_; clear hQ2 Q2
            refine anyG_one (k := 4) (by kernel_rfl) rfl (by rfl) (fun Q2 hQ2 => ?_); go_wp2_with (go_at_call 47; refine (HA.out _).mono ?_; rintro e v1 ⟨rfl, rfl⟩); refine hQ2 _ _ (fun _ => S0) ?_; clear hQ2 Q2
            refine anyG_one (k := 5) (by kernel_rfl) rfl (by rfl) (fun Q2 hQ2 => ?_); go_wp2_with fail; refine hQ2 _ _ (fun _ => S0) ?_; clear hQ2 Q2
            refine anyG_of_any _ _ _ _ (by kernel_rfl) ?_
            refine any_one (k := 6) (by kernel_rfl) rfl (by rfl) (fun Q2 hQ2 => ?_); go_wp2_with fail; (try refine hQ2 _ _ ?_); (try clear hQ2 Q2)
            refine wpAny_done (by kernel_rfl) ?_ _
            go_wp2
            go_roundw
            case rel => exact ⟨k + 1, by omega, by go_num, by rw [HE.out]; rw [if_neg (show ¬ 0 ≤ L by omega), if_neg (show ¬ 0 ≤ L by omega)]; exact (JJ4.out.set 6 _).drew⟩
            case measure => simp [intOf]; omega
    · obtain rfl : k = len := by omega
      clear JJ
      have JB := Lib.hid hji
      clear hji
      go_wp2_with (first | (refine Blk.load rfl 28 (.tmp 5) rfl gr _ _ _ rfl JB.out.2.2.1 Tryz.underlying28 rfl (by kernel_rfl) ?_) | (refine wpList_store_row rfl 28 (.tmp 4) (.tmp 65) rfl (w.heap.size + 1) _ _ _ rfl rfl JB.out.2.1 (by rfl) (by kernel_rfl) (by simp [Value.oneCell']) ?_; intro w9 hb9 hg9))
      refine bodyPost_ret (results_row rfl _ _ (w.heap.size + 1) _ _ _ rfl hb9 Tryz.underlying28 rfl (by kernel_rfl)) rfl ⟨_, by rw [HCH.out, HTN.out], ?_, JB.out.2.2.2.2.1.trans (Only.below hg9 (by omega) JB.out.2.2.2.2.1.size)⟩
      exact (JB.out.2.2.2.1.grown hg9 (fun k hk => by have := (World.ownsRow.lt JB.out.2.2.2.1 k hk).1; omega)).mono (by omega)
end Go.Proofs.YtjodpffdlggjgaaGreat
/- The reference's turns and judgement: flywheelref15.Turns, flywheelref44.Judge. -/
namespace Go.Proofs.YtjodpffdlggjgaaGreat
open Go.RowKit
set_option linter.unusedSimpArgs false
set_option linter.unusedVariables false
set_option maxHeartbeats 4000000
set_option maxRecDepth 100000
theorem ref15_Turns (A : Option Addr) (len cap : Nat) (l : List Adv) (w : World) (hs : AdvsAre w A len cap l) (hn : len ≤ 1000) :
    Calls Tryz.prog 32 #[.slice A len cap] w fun e w' => e = .returned (.int .i64 ((turnq (replAt l) len).1 : Nat)) ∧ w = w' := by
  have HS := Lib.hid hs
  clear hs
  go_enter Tryz.func32, Tryz.ntmps32
  go_wp2
  go_loop [3, 4, 5, 6] (fun tn up dn i => ∃ k T : Nat, ∃ W : Int, (k = 0 ∨ k < len) ∧ i = .int .i64 ((k + 1 : Nat) : Int) ∧ tn = .int .i64 (T : Int) ∧ up = .bool (decide (W = 1)) ∧ dn = .bool (decide (W = -1)) ∧ turnq (replAt l) (k + 1) = (T, W)) (fun _ _ _ i => len - (intOf i).toNat)
  case atStart => exact ⟨0, 0, 0, .inl rfl, rfl, rfl, rfl, rfl, rfl⟩
  case round =>
    obtain ⟨k, T, W, hk, rfl, rfl, rfl, rfl, hT⟩ := hrel
    by_cases hlt : k + 1 < len
    · obtain ⟨b, off, x, rfl, hx, hb, t0, t1, t2, t3, t4⟩ := HS.out.at_ (show k < len by omega)
      obtain ⟨b2, off2, y, hab, hy, hb2, s0, s1, s2, s3, s4⟩ := HS.out.at_ hlt
      cases hab
      have HX := Lib.hid (replAt_eq hx)
      have HY := Lib.hid (replAt_eq hy)
      have hkl : (k : Int) < (len : Int) := by omega
      have hki : (k : Int) + 1 < (len : Int) := by omega
      have hle := turnq_le (replAt l) (k + 1)
      have hW := turnq_way (replAt l) (k + 1)
      rw [hT] at hle hW
      simp only at hle hW
      have HT := Lib.hid hT
      clear hx hy hb hb2 t0 t1 t2 t4 s0 s1 s2 s4 hT
      rcases Int.lt_trichotomy y.repl x.repl with hxy | hxy | hxy
      · have d1 : decide (y.repl < x.repl) = true := by simp; omega
        have d2 : decide (x.repl < y.repl) = false := by simp; omega
        have HN := Lib.hid (turn_down (by rw [HX.out, HY.out]; exact hxy) HT.out)
        clear hxy
        rcases hW with rfl | rfl | rfl
        all_goals
          go_wp2
          go_round
          case rel => exact ⟨k + 1, _, _, .inr hlt, by go_num, by go_num, rfl, rfl, HN.out⟩
          case measure => simp [intOf]; omega
      · have d1 : decide (y.repl < x.repl) = false := by simp; omega
        have d2 : decide (x.repl < y.repl) = false := by simp; omega
        have HN := Lib.hid ((turn_eq (by rw [HX.out, HY.out]; exact hxy)).trans HT.out)
        clear hxy
        go_wp2
        go_round
        case rel => exact ⟨k + 1, _, _, .inr hlt, by go_num, rfl, rfl, rfl, HN.out⟩
        case measure => simp [intOf]; omega
      · have d1 : decide (y.repl < x.repl) = false := by simp; omega
        have d2 : decide (x.repl < y.repl) = true := by simp; omega
        have HN := Lib.hid (turn_up (by rw [HX.out, HY.out]; exact hxy) HT.out)
        clear hxy
        rcases hW with rfl | rfl | rfl
        all_goals
          go_wp2
          go_round
          case rel => exact ⟨k + 1, _, _, .inr hlt, by go_num, by go_num, rfl, rfl, HN.out⟩
          case measure => simp [intOf]; omega
    · go_wp2
      go_ret
      refine ⟨?_, rfl⟩
      rcases hk with rfl | hk
      · cases hT
        rcases (show len = 0 ∨ len = 1 by omega) with rfl | rfl <;> rfl
      · exact ret_int (by rw [show len = k + 1 by omega, hT])
theorem chq_one (r : Nat → Int) : chq r 1 = 0 := rfl
theorem chq_same {r : Nat → Int} {k : Nat} (hk : 0 < k) (h : r k = r (k - 1)) : chq r (k + 1) = chq r k := by
  obtain ⟨j, rfl⟩ : ∃ j, k = j + 1 := ⟨k - 1, by omega⟩
  show chq r (j + 1) + (if r (j + 1) = r j then 0 else 1) = _
  rw [if_pos (show r (j + 1) = r j from h)]; rfl
theorem chq_other {r : Nat → Int} {k : Nat} (hk : 0 < k) (h : r k ≠ r (k - 1)) : chq r (k + 1) = chq r k + 1 := by
  obtain ⟨j, rfl⟩ : ∃ j, k = j + 1 := ⟨k - 1, by omega⟩
  show chq r (j + 1) + (if r (j + 1) = r j then 0 else 1) = _
  rw [if_neg (show ¬ r (j + 1) = r j from h)]
/-- What the walk of flywheelref44.Judge keeps. -/
def RIR (w wr : World) (p : Pol) (gr : Nat) (c : Array Value) : Prop :=
  Blk wr w.heap.size 23 p.row ∧ Blk wr (w.heap.size + 1) 34 z64 ∧ Blk wr gr 34 c ∧ Below w.heap.size w wr ∧ w.heap.size + 1 < gr
theorem RIR.alloc {w wr : World} {p : Pol} {gr : Nat} {c : Array Value} (h : RIR w wr p gr c) (o : Obj) : RIR w (wr.alloc o) p gr c :=
  ⟨h.1.alloc o, h.2.1.alloc o, h.2.2.1.alloc o, h.2.2.2.1.alloc h.2.2.2.1.size o, h.2.2.2.2⟩
theorem RIR.drewN {w wr : World} {p : Pol} {gr : Nat} {c : Array Value} (h : RIR w wr p gr c) (n : Nat) : RIR w (wr.drewN n) p gr c :=
  ⟨h.1, h.2.1, h.2.2.1, below_drewN h.2.2.2.1 n, h.2.2.2.2⟩
theorem RIR.drew {w wr : World} {p : Pol} {gr : Nat} {c : Array Value} (h : RIR w wr p gr c) : RIR w wr.drew p gr c :=
  ⟨h.1, h.2.1, h.2.2.1, h.2.2.2.1.drew, h.2.2.2.2⟩
theorem RIR.set {w wr : World} {p : Pol} {gr : Nat} {c : Array Value} (h : RIR w wr p gr c) (i : Nat) (u : Value) : RIR w (wr.setCell ⟨gr, i, none⟩ u) p gr (c.setIfInBounds i u) :=
  ⟨h.1.far (by have := h.2.2.2.2; simp; omega) u, h.2.1.far (by have := h.2.2.2.2; simp; omega) u, h.2.2.1.set_ i u, h.2.2.2.1.setCell (by have := h.2.2.2.2; simp; omega) u, h.2.2.2.2⟩
theorem ref44_Judge (p : Pol) (A : Option Addr) (len cap : Nat) (l : List Adv) (w : World) (hp : p.fit) (hs : AdvsAre w A len cap l) (hg : ∀ x ∈ l, x.good) (hn : len ≤ 1000) :
    Calls Tryz.prog 11 #[(.agg #[.int .i64 p.min, .int .i64 p.max, .int .i64 p.target, .int .i64 p.tol, .int .i64 p.window, .int .i64 p.hold]), .slice A len cap] w fun e w' => e = .returned (.agg #[.slice A len cap, .int .i64 (chq (replAt l) len : Nat), .int .i64 ((turnq (replAt l) len).1 : Nat), .int .i64 (j4 p.target l len).least, .int .i64 (j4 p.target l len).most, .int .i64 (j4 p.target l len).spare, .int .i64 (j4 p.target l len).short]) ∧ Below w.heap.size w w' := by
  have HS := Lib.hid hs
  have HG := Lib.hid hg
  clear hs hg
  have e0 : Below w.heap.size w ((w.alloc (.cells p.row 23)).alloc (.cells z64 34)) := by go_grown
  have E0 := Lib.hid e0
  clear e0
  go_enter Tryz.func11, Tryz.ntmps11
  go_wp2_with fail
  refine (ref15_Turns A len cap l _ (slice_keep HS.out E0.out) hn).mono ?_
  rintro e w2 ⟨rfl, rfl⟩
  have b0 := (Blk.new w 23 p.row).alloc (.cells z64 34)
  have b1 := Blk.new_ w (.cells p.row 23) 34 z64
  have hri : RIR w (((w.alloc (.cells p.row 23)).alloc (.cells z64 34)).alloc (.cells #[.slice A len cap, .int .i64 0, .int .i64 ((turnq (replAt l) len).1 : Nat), .int .i64 0, .int .i64 0, .int .i64 0, .int .i64 0] 34)) p (w.heap.size + 1 + 1) #[.slice A len cap, .int .i64 0, .int .i64 ((turnq (replAt l) len).1 : Nat), .int .i64 0, .int .i64 0, .int .i64 0, .int .i64 0] :=
    ⟨b0.alloc _, b1.alloc _, Blk.new__ w _ _ _ _, E0.out.alloc (by simp; omega) _, by omega⟩
  have R0 := Lib.hid hri
  clear b0 b1 hri
  go_wp2
  generalize hTN : (turnq (replAt l) len).1 = TN at *
  have HTN := Lib.hid hTN
  clear hTN
  generalize hgr : w.heap.size + 1 + 1 = gr at *
  clear hgr
  go_loopw [6] (fun i wr => ∃ k : Nat, k ≤ len ∧ i = .int .i64 k ∧ RIR w wr p gr #[.slice A len cap, .int .i64 (chq (replAt l) k : Nat), .int .i64 (TN : Int), .int .i64 (j4 p.target l k).least, .int .i64 (j4 p.target l k).most, .int .i64 (j4 p.target l k).spare, .int .i64 (j4 p.target l k).short]) (fun i _ => len - (intOf i).toNat)
  case atStart => exact ⟨0, Nat.zero_le _, rfl, R0.out⟩
  case round =>
    obtain ⟨k, hk, rfl, hri⟩ := hrel
    clear R0
    have RR := Lib.hid hri
    by_cases hlt : k < len
    · have hbb : ∃ b off, A = some ⟨b, off, none⟩ ∧ b < w.heap.size := by
        obtain ⟨b, off, x, h1, h2, h3, _⟩ := HS.out.at_ hlt
        exact ⟨b, off, h1, h3⟩
      obtain ⟨b, off, rfl, hbs⟩ := hbb
      obtain ⟨b', off', x, hab, hx, hb, t0, t1, t2, t3, t4⟩ := HS.out.at_ hlt
      cases hab
      have hxg := HG.out x (List.mem_of_getElem? hx)
      have HJ := Lib.hid (j4_succ (T := p.target) hx)
      have hJi := j4_I64 p.target l HG.out k
      generalize j4 p.target l k = J at *
      have HXr := Lib.hid (replAt_eq hx)
      have HXI := Lib.hid hx
      have hbel := hri.2.2.2.1
      have br := hri.2.2.1
      have kt1 := Lib.hid ((hbel.cell (p := ⟨b, off + k * 5 + 1, none⟩) hb).trans t1)
      have kt3 := (hbel.cell (p := ⟨b, off + k * 5 + 3, none⟩) hb).trans t3
      have f1 := br.frozen 1
      have r1 := br.cellv (i := 1) (v := .int .i64 (chq (replAt l) k : Nat)) rfl
      have hki : (k : Int) < (len : Int) := by omega
      have hch := chq_le (replAt l) k
      have hb1 : b < w.heap.size := hbs
      obtain ⟨CH2, hCH2⟩ : ∃ c, c = chq (replAt l) (k + 1) := ⟨_, rfl⟩
      obtain ⟨CH, hCH⟩ : ∃ c, c = chq (replAt l) k := ⟨_, rfl⟩
      rw [← hCH] at r1 hch
      have HCH2 := Lib.hid hCH2
      have HCH := Lib.hid hCH
      clear br hx t0 t1 t2 t3 t4 hri hbel hCH hCH2 hb
      obtain ⟨hxI, hxL⟩ : I64 x.repl ∧ I64 x.load := ⟨hxg.2.2.2.1, hxg.2.1⟩
      obtain ⟨M, hM⟩ : ∃ M, M = satq (x.repl * p.target) := ⟨_, rfl⟩
      obtain ⟨L, hL⟩ : ∃ L, L = satq (M - x.load) := ⟨_, rfl⟩
      have HL := Lib.hid (show leftq p.target x = L by unfold leftq; rw [hL, hM])
      have HMul := Lib.hid (fun W => ref_Mul x.repl p.target W hxI hp.2.2.1)
      have HSub := Lib.hid (fun W => ref_Sub M x.load W (by rw [hM]; exact satq_I64 _) hxL)
      rw [← hM] at HMul
      rw [← hL] at HSub
      have hLI : I64 L := by rw [hL]; exact satq_I64 _
      clear hM hL hxg
      obtain ⟨B1, hB1⟩ : ∃ B : Bool, B = decide (0 < k ∧ replAt l k ≠ replAt l (k - 1)) := ⟨_, rfl⟩
      have HB1 := Lib.hid hB1
      obtain ⟨B2, hB2⟩ : ∃ B : Bool, B = decide (k = 0 ∨ x.repl < J.least) := ⟨_, rfl⟩
      have HB2 := Lib.hid hB2
      obtain ⟨B3, hB3⟩ : ∃ B : Bool, B = decide (k = 0 ∨ J.most < x.repl) := ⟨_, rfl⟩
      have HB3 := Lib.hid hB3
      clear hB1 hB2 hB3
      have HT := Lib.hid (show CH2 = if B1 then CH + 1 else CH by
        rw [HCH2.out, HCH.out, HB1.out]
        by_cases h0 : k = 0
        · subst h0; simp; rfl
        · by_cases h1 : replAt l k = replAt l (k - 1)
          · simp [h1, chq_same (by omega) h1]
          · simp [h1, chq_other (by omega) h1, show 0 < k by omega])
      obtain ⟨ls, hls⟩ : ∃ ls, ls = (if B2 then x.repl else J.least) := ⟨_, rfl⟩
      obtain ⟨ms, hms⟩ : ∃ ms, ms = (if B3 then x.repl else J.most) := ⟨_, rfl⟩
      have HLs := Lib.hid hls
      have HMs := Lib.hid hms
      clear hls hms
      go_upto_region 6 with (fail)
      go_cut [35] from 13 to 82 (fun s wx => s = .bool B1 ∧ wx = wr)
      case first =>
        by_cases hk0 : k = 0
        · have E := Lib.hid (show B1 = false by rw [HB1.out]; simp; omega)
          have d0 : decide (0 < k) = false := by simp; omega
          have d1 : decide ((0 : Int) < (k : Int)) = false := by simp; omega
          clear hk0
          go_wp2
          go_meet
          case rel => exact ⟨by rw [E.out], rfl⟩
        · obtain ⟨b3, off3, z, hab, hz, hb3, s0, s1, s2, s3, s4⟩ := HS.out.at_ (show k - 1 < len by omega)
          cases hab
          have ks3 := (RR.out.2.2.2.1.cell (p := ⟨b, off + (k - 1) * 5 + 3, none⟩) hb3).trans s3
          have hz2 := replAt_eq hz
          have HZ := Lib.hid hz2
          clear s0 s1 s2 s3 s4 hz hz2 hb3
          have d0 : decide (0 < k) = true := by simp; omega
          have d1 : decide ((0 : Int) < (k : Int)) = true := by simp; omega
          obtain ⟨j, rfl⟩ : ∃ j, k = j + 1 := ⟨k - 1, by omega⟩
          rw [Nat.add_sub_cancel] at ks3
          have hj1 : (j : Int) < (len : Int) := by omega
          by_cases h1 : x.repl = z.repl
          · have E := Lib.hid (show B1 = false by rw [HB1.out, HXr.out, HZ.out]; simp [h1])
            have d2 : (x.repl != z.repl) = false := by simp [h1]
            clear h1
            go_wp2
            go_meet
            case rel => exact ⟨by rw [E.out], rfl⟩
          · have E := Lib.hid (show B1 = true by rw [HB1.out, HXr.out, HZ.out]; simp [h1])
            have d2 : (x.repl != z.repl) = true := by simp [h1]
            clear h1
            go_wp2
            go_meet
            case rel => exact ⟨by rw [E.out], rfl⟩
      case rest =>
        obtain ⟨rfl, rfl⟩ := hcut
        go_upto_if 35 with (fail)
        go_cut [] from 13 to 82 (fun wx => RIR w wx p gr #[.slice (some ⟨b, off, none⟩) len cap, .int .i64 (CH2 : Int), .int .i64 (TN : Int), .int .i64 J.least, .int .i64 J.most, .int .i64 J.spare, .int .i64 J.short])
        case first =>
          cases hb : B1
          · have E := Lib.hid (show CH2 = CH by rw [HT.out, hb]; simp)
            clear hb
            go_wp2
            go_meet
            case rel => rw [E.out, HCH.out]; exact RR.out
          · have E := Lib.hid (show CH2 = CH + 1 by rw [HT.out, hb]; simp)
            clear hb
            go_wp2
            go_meet
            case rel => rw [E.out]; exact RR.out.set 1 _
        case rest =>
          obtain ⟨w5, rfl⟩ : ∃ w5, w5 = wc := ⟨_, rfl⟩
          have R1 := Lib.hid hcut
          clear hcut r1 f1 kt3
          have r3 := R1.out.2.2.1.cellv (i := 3) (v := .int .i64 J.least) rfl
          have f3 := R1.out.2.2.1.frozen 3
          go_upto_region 8 with (fail)
          go_cut [47] from 13 to 82 (fun s wy => s = .bool B2 ∧ wy = w5)
          case first =>
            by_cases hk0 : k = 0
            · have E := Lib.hid (show B2 = true by rw [HB2.out]; simp [hk0])
              have d0 : ((k : Int) == 0) = true := by simp; omega
              clear hk0
              go_wp2
              go_meet
              case rel => exact ⟨by rw [E.out], rfl⟩
            · have d0 : ((k : Int) == 0) = false := by simp; omega
              have E := Lib.hid (show B2 = decide (x.repl < J.least) by rw [HB2.out]; simp [hk0])
              clear hk0
              go_wp2
              go_meet
              case rel => exact ⟨by rw [E.out], rfl⟩
          case rest =>
            obtain ⟨rfl, rfl⟩ := hcut
            go_upto_if 47 with (fail)
            go_cut [] from 13 to 82 (fun wx => RIR w wx p gr #[.slice (some ⟨b, off, none⟩) len cap, .int .i64 (CH2 : Int), .int .i64 (TN : Int), .int .i64 ls, .int .i64 J.most, .int .i64 J.spare, .int .i64 J.short])
            case first =>
              cases hb : B2
              · have E := Lib.hid (show ls = J.least by rw [HLs.out, hb]; simp)
                clear hb
                go_wp2
                go_meet
                case rel => rw [E.out]; exact R1.out
              · have E := Lib.hid (show ls = x.repl by rw [HLs.out, hb]; simp)
                clear hb
                go_wp2
                go_meet
                case rel => rw [E.out]; exact R1.out.set 3 _
            case rest =>
              obtain ⟨w6, rfl⟩ : ∃ w6, w6 = wc := ⟨_, rfl⟩
              have R2 := Lib.hid hcut
              clear hcut r3 f3
              have r4 := R2.out.2.2.1.cellv (i := 4) (v := .int .i64 J.most) rfl
              have f4 := R2.out.2.2.1.frozen 4
              go_upto_region 10 with (fail)
              go_cut [57] from 13 to 82 (fun s wy => s = .bool B3 ∧ wy = w6)
              case first =>
                by_cases hk0 : k = 0
                · have E := Lib.hid (show B3 = true by rw [HB3.out]; simp [hk0])
                  have d0 : ((k : Int) == 0) = true := by simp; omega
                  clear hk0
                  go_wp2
                  go_meet
                  case rel => exact ⟨by rw [E.out], rfl⟩
                · have d0 : ((k : Int) == 0) = false := by simp; omega
                  have E := Lib.hid (show B3 = decide (J.most < x.repl) by rw [HB3.out]; simp [hk0])
                  clear hk0
                  go_wp2
                  go_meet
                  case rel => exact ⟨by rw [E.out], rfl⟩
              case rest =>
                obtain ⟨rfl, rfl⟩ := hcut
                go_upto_if 57 with (fail)
                go_cut [] from 13 to 82 (fun wx => RIR w wx p gr #[.slice (some ⟨b, off, none⟩) len cap, .int .i64 (CH2 : Int), .int .i64 (TN : Int), .int .i64 ls, .int .i64 ms, .int .i64 J.spare, .int .i64 J.short])
                case first =>
                  cases hb : B3
                  · have E := Lib.hid (show ms = J.most by rw [HMs.out, hb]; simp)
                    clear hb
                    go_wp2
                    go_meet
                    case rel => rw [E.out]; exact R2.out
                  · have E := Lib.hid (show ms = x.repl by rw [HMs.out, hb]; simp)
                    clear hb
                    go_wp2
                    go_meet
                    case rel => rw [E.out]; exact R2.out.set 4 _
                case rest =>
                  obtain ⟨w7, rfl⟩ : ∃ w7, w7 = wc := ⟨_, rfl⟩
                  have R3 := Lib.hid hcut
                  clear hcut r4 f4
                  have r5 := R3.out.2.2.1.cellv (i := 5) (v := .int .i64 J.spare) rfl
                  have f5 := R3.out.2.2.1.frozen 5
                  have r6 := R3.out.2.2.1.cellv (i := 6) (v := .int .i64 J.short) rfl
                  have f6 := R3.out.2.2.1.frozen 6
                  have hxc := HS.out.at_ hlt
                  obtain ⟨b3, off3, y, hab, hy, hb3, s0, s1, s2, s3, s4⟩ := hxc
                  cases hab
                  obtain rfl : y = x := Option.some.inj (hy.symm.trans HXI.out)
                  have kt1 := (R3.out.2.2.2.1.cell (p := ⟨b, off + k * 5 + 1, none⟩) hb3).trans s1
                  have p2 := R3.out.1.cellv (i := 2) (v := .int .i64 p.target) rfl
                  clear s0 s1 s2 s3 s4 hy hb3
                  have HE := Lib.hid (show j4 p.target l (k + 1) = ⟨ls, ms, if 0 ≤ L then satq (J.spare + L) else J.spare, if 0 ≤ L then J.short else satq (J.short + satq (0 - L))⟩ by
            rw [HJ.out]; unfold j4step; rw [HL.out, HLs.out, HMs.out, HB2.out, HB3.out]
            congr 1
            · by_cases h0 : k = 0
              · simp [h0]
              · simp only [h0, if_false, false_or, decide_eq_true_eq]; split <;> omega
            · by_cases h0 : k = 0
              · simp [h0]
              · simp only [h0, if_false, false_or, decide_eq_true_eq]; split <;> omega)
                  go_upto_region 12 with (fail)
                  go_quiet ((first | (go_at_call 34; exact Calls.quiet_of_same ((HMul.out _).mono fun _ _ h => ⟨h.1, h.2.symm⟩)) | (go_at_call 33; exact Calls.quiet_of_same ((HSub.out _).mono fun _ _ h => ⟨h.1, h.2.symm⟩))))
                  by_cases hLp : 0 ≤ L
                  · have HA := Lib.hid (fun W => ref_Add J.spare L W hJi.1 hLI)
                    go_wp2_with (first | (go_at_call 35; refine (HA.out _).mono ?_; rintro e w5 ⟨rfl, rfl⟩))
                    go_roundw
                    case rel => exact ⟨k + 1, by omega, by go_num, by rw [HE.out, ← HCH2.out]; simp only [if_pos hLp]; exact (R3.out.set 5 _).drewN _⟩
                    case measure => simp [intOf]; omega
                  · have HS0 := Lib.hid (fun W => ref_Sub 0 L W (by unfold I64; omega) hLI)
                    have HA := Lib.hid (fun W => ref_Add J.short (satq (0 - L)) W hJi.2 (satq_I64 _))
                    generalize satq (0 - L) = K at *
                    have R4 := Lib.hid (R3.out.drewN nq)
                    have C6 := Lib.hid (R4.out.2.2.1.cellv (i := 6) (v := .int .i64 J.short) rfl)
                    have L6 := Lib.hid R4.out.2.2.1.lt
                    clear r5 r6 f5 f6 p2 kt1
                    go_wp2
                    generalize w7.drewN nq = W6 at *
                    have f6 := R4.out.2.2.1.frozen 6
                    have r6 := C6.out
                    refine wp_region_any (by kernel_rfl) ?_; change wpAny _ _ _ _ _ _ _ (World.drew W6); refine any_of_anyG (late := fun j => [6].contains j) (S := fun wS => Below W6.heap.size W6 wS) _ _ _ _ ?_
                    have S0 := (Below.refl W6.heap.size W6).drew
                    refine anyG_take (i := 0) (v := _) rfl (by kernel_rfl) (by kernel_rfl) (by kernel_rfl) (by kernel_rfl) rfl (by kernel_rfl) (fun j hj => by first | (simp at hj; done) | (simp at hj; simp; omega)) (fun _ _ _ h => h) (Or.inl ⟨by rfl, fun W1 hW1 => by first | rfl | (go_simp; done) | (go_simp; with_reducible rfl)⟩) (S0) ?_
                    refine anyG_take (i := 1) (v := .int .i64 J.short) rfl (by kernel_rfl) (by kernel_rfl) (by kernel_rfl) (by kernel_rfl) rfl (by kernel_rfl) (fun j hj => by first | (simp at hj; done) | (simp at hj; simp; omega)) (fun _ _ _ h => h) (Or.inl ⟨by rfl, fun W1 hW1 => by have c := (hW1.cell (p := ⟨gr, 6, none⟩) L6.out).trans C6.out; go_simp⟩) (S0) ?_
                    refine anyG_one (k := 2) (by kernel_rfl) rfl (by rfl) (fun Q2 hQ2 => ?_); go_wp2_with fail; refine hQ2 _ _ (fun _ => S0) ?_; clear hQ2 Q2
                    refine anyG_one (k := 3) (by kernel_rfl) rfl (by rfl) (fun Q2 hQ2 => ?_); go_wp2_with (go_at_call 33; refine (HS0.out _).mono ?_; rintro e v1 ⟨rfl, rfl⟩); refine hQ2 _ _ (fun _ => S0) ?_; clear hQ2 Q2
                    refine anyG_one (k := 4) (by kernel_rfl) rfl (by rfl) (fun Q2 hQ2 => ?_); go_wp2_with (go_at_call 35; refine (HA.out _).mono ?_; rintro e v1 ⟨rfl, rfl⟩); refine hQ2 _ _ (fun _ => S0) ?_; clear hQ2 Q2
                    refine anyG_one (k := 5) (by kernel_rfl) rfl (by rfl) (fun Q2 hQ2 => ?_); go_wp2_with fail; refine hQ2 _ _ (fun _ => S0) ?_; clear hQ2 Q2
                    refine anyG_of_any _ _ _ _ (by kernel_rfl) ?_
                    refine any_one (k := 6) (by kernel_rfl) rfl (by rfl) (fun Q2 hQ2 => ?_); go_wp2_with fail; (try refine hQ2 _ _ ?_); (try clear hQ2 Q2)
                    refine wpAny_done (by kernel_rfl) ?_ _
                    go_wp2
                    go_roundw
                    case rel => exact ⟨k + 1, by omega, by go_num, by rw [HE.out, ← HCH2.out]; rw [if_neg (show ¬ 0 ≤ L by omega), if_neg (show ¬ 0 ≤ L by omega)]; exact (R4.out.set 6 _).drew⟩
                    case measure => simp [intOf]; omega
    · obtain rfl : k = len := by omega
      clear hri
      go_wp2_with (first | (refine Blk.load rfl 34 (.tmp 5) rfl gr _ _ _ rfl RR.out.2.2.1 Tryz.underlying34 rfl (by kernel_rfl) ?_) | (refine wpList_store_row rfl 34 (.tmp 4) (.tmp 83) rfl (w.heap.size + 1) _ _ _ rfl rfl RR.out.2.1 (by rfl) (by kernel_rfl) (by simp [Value.oneCell']) ?_; intro w9 hb9 hg9))
      refine bodyPost_ret (results_row rfl _ _ (w.heap.size + 1) _ _ _ rfl hb9 Tryz.underlying34 rfl (by kernel_rfl)) rfl ⟨by rw [HTN.out], RR.out.2.2.2.1.trans (Only.below hg9 (by omega) RR.out.2.2.2.1.size)⟩
end Go.Proofs.YtjodpffdlggjgaaGreat
/- The laws of chapter 44 that judge: awake, TrialJudges, TrialOrders. -/
namespace Go.Proofs.YtjodpffdlggjgaaGreat
open Go.RowKit
set_option linter.unusedSimpArgs false
set_option linter.unusedVariables false
set_option maxHeartbeats 4000000
set_option maxRecDepth 100000
theorem ref44_Same (A B : Option Addr) (la ca lb cb : Nat) (xs : List Adv) (n1 n2 n3 n4 n5 n6 : Int) (w : World) (hx : AdvsAre w A la ca xs) (hy : AdvsAre w B lb cb xs) :
    Calls Tryz.prog 10 #[.agg #[.slice A la ca, .int .i64 n1, .int .i64 n2, .int .i64 n3, .int .i64 n4, .int .i64 n5, .int .i64 n6], .agg #[.slice B lb cb, .int .i64 n1, .int .i64 n2, .int .i64 n3, .int .i64 n4, .int .i64 n5, .int .i64 n6]] w fun e w' => e = .returned (.bool true) ∧ Below w.heap.size w w' := by
  have HX := Lib.hid hx
  have HY := Lib.hid hy
  clear hx hy
  have E0 := Lib.hid (show Below w.heap.size w ((w.alloc (.cells #[.slice A la ca, .int .i64 n1, .int .i64 n2, .int .i64 n3, .int .i64 n4, .int .i64 n5, .int .i64 n6] 34)).alloc (.cells #[.slice B lb cb, .int .i64 n1, .int .i64 n2, .int .i64 n3, .int .i64 n4, .int .i64 n5, .int .i64 n6] 34)) by go_grown)
  have b0 := (Blk.new w 34 #[.slice A la ca, .int .i64 n1, .int .i64 n2, .int .i64 n3, .int .i64 n4, .int .i64 n5, .int .i64 n6]).alloc (.cells #[.slice B lb cb, .int .i64 n1, .int .i64 n2, .int .i64 n3, .int .i64 n4, .int .i64 n5, .int .i64 n6] 34)
  have b1 := Blk.new_ w (.cells #[.slice A la ca, .int .i64 n1, .int .i64 n2, .int .i64 n3, .int .i64 n4, .int .i64 n5, .int .i64 n6] 34) 34 #[.slice B lb cb, .int .i64 n1, .int .i64 n2, .int .i64 n3, .int .i64 n4, .int .i64 n5, .int .i64 n6]
  have B0 := Lib.hid b0
  have B1 := Lib.hid b1
  clear b0 b1
  go_enter Tryz.func10, Tryz.ntmps10
  go_wp2_with fail
  refine (ref14_Same A B la ca lb cb xs xs _ (slice_keep HX.out E0.out) (slice_keep HY.out E0.out)).mono ?_
  rintro e v2 ⟨he, hb2⟩
  rw [show decide (xs = xs) = true from decide_eq_true rfl] at he
  subst he
  have c1 := (B0.out.call hb2).cellv (i := 1) (v := .int .i64 n1) rfl
  have c2 := (B0.out.call hb2).cellv (i := 2) (v := .int .i64 n2) rfl
  have c3 := (B0.out.call hb2).cellv (i := 3) (v := .int .i64 n3) rfl
  have c4 := (B0.out.call hb2).cellv (i := 4) (v := .int .i64 n4) rfl
  have c5 := (B0.out.call hb2).cellv (i := 5) (v := .int .i64 n5) rfl
  have c6 := (B0.out.call hb2).cellv (i := 6) (v := .int .i64 n6) rfl
  have d1 := (B1.out.call hb2).cellv (i := 1) (v := .int .i64 n1) rfl
  have d2 := (B1.out.call hb2).cellv (i := 2) (v := .int .i64 n2) rfl
  have d3 := (B1.out.call hb2).cellv (i := 3) (v := .int .i64 n3) rfl
  have d4 := (B1.out.call hb2).cellv (i := 4) (v := .int .i64 n4) rfl
  have d5 := (B1.out.call hb2).cellv (i := 5) (v := .int .i64 n5) rfl
  have d6 := (B1.out.call hb2).cellv (i := 6) (v := .int .i64 n6) rfl
  have E2 := Lib.hid (E0.out.trans (hb2.mono E0.out.size))
  clear hb2
  go_wp2
  go_ret
  exact ⟨rfl, E2.out⟩
def usual44 : Pol := ⟨0, 0, 100, 0, 0, 0⟩
def zero44 : Pol := ⟨0, 0, 0, 0, 0, 0⟩
def adv44 : Adv := ⟨0, 150, 0, 2, 0⟩
theorem judge_1 (A : Option Addr) (w : World) (hs : AdvsAre w A 1 1 [adv44]) :
    Calls Tryz.prog 28 #[.agg #[.int .i64 0, .int .i64 0, .int .i64 100, .int .i64 0, .int .i64 0, .int .i64 0], .slice A 1 1] w fun e w' => ∃ A' c', e = .returned (.agg #[.slice A' 1 c', .int .i64 0, .int .i64 0, .int .i64 2, .int .i64 2, .int .i64 50, .int .i64 0]) ∧ Below w.heap.size w w' :=
  (trial_Judge usual44 A 1 1 [adv44] w (by unfold Pol.fit usual44 I64; simp) hs (fun x hx => by simp at hx; subst hx; unfold Adv.good adv44 I64; simp) (by omega)).mono fun e w' ⟨v, he, ho, hb⟩ => by
    obtain ⟨A', c', rfl, _⟩ := ho.slice (fun _ => rfl)
    exact ⟨A', c', he, hb⟩
theorem judge_0 (w : World) :
    Calls Tryz.prog 28 #[.agg #[.int .i64 0, .int .i64 0, .int .i64 0, .int .i64 0, .int .i64 0, .int .i64 0], .slice none 0 0] w fun e w' => ∃ A' c', e = .returned (.agg #[.slice A' 0 c', .int .i64 0, .int .i64 0, .int .i64 0, .int .i64 0, .int .i64 0, .int .i64 0]) ∧ AdvsAre w' A' 0 c' [] ∧ Below w.heap.size w w' :=
  (trial_Judge zero44 none 0 0 [] w (by unfold Pol.fit zero44 I64; simp) (slice_nil _ _ _) (fun x hx => by simp at hx) (by omega)).mono fun e w' ⟨v, he, ho, hb⟩ => by
    obtain ⟨A', c', rfl, h⟩ := ho.slice (fun _ => rfl)
    exact ⟨A', c', he, h, hb⟩
theorem awake44 (w : World) : Calls Tryz.prog 7 #[] w fun e w' => e = .returned (.bool true) ∧ Below w.heap.size w w' := by
  go_enter Tryz.func7, Tryz.ntmps7
  go_wp2_with fail
  refine (judge_1 _ _ (slice_blk (l := [adv44]) (fun _ => rfl) (Blk.new w _ _) rfl (by decide))).mono ?_
  rintro e v1 ⟨A1, c1, rfl, hb1⟩
  have E1 := Lib.hid ((show Below w.heap.size w (w.alloc (.cells #[.int .i64 0, .int .i64 150, .int .i64 0, .int .i64 2, .int .i64 0] 68)) by go_grown).trans (hb1.mono (by simp)))
  clear hb1
  go_wp2_with fail
  refine (judge_0 _).mono ?_
  rintro e v2 ⟨A2, c2, rfl, hs2, hb2⟩
  have hz1 := hb2.size
  simp only [World.size_alloc] at hz1
  have E2 := Lib.hid ((E1.out.alloc E1.out.size (.cells #[.slice A1 1 c1, .int .i64 0, .int .i64 0, .int .i64 2, .int .i64 2, .int .i64 50, .int .i64 0] 28)).trans (hb2.mono (by have := E1.out.size; simp; omega)))
  have HS2 := Lib.hid hs2
  clear hb2 hs2
  go_wp2_with fail
  refine (ref44_Same A2 none 0 c2 0 0 [] 0 0 0 0 0 0 _ HS2.out (slice_nil _ _ _)).mono ?_
  rintro e v3 ⟨rfl, hb3⟩
  go_wp2
  go_ret
  exact ⟨rfl, E2.out.trans (hb3.mono E2.out.size)⟩
end Go.Proofs.YtjodpffdlggjgaaGreat
/- Package audit and its reference: which rule a decision breaks. (fast region) -/
namespace Go.Proofs.YtjodpffdlggjgaaGreat
open Go.RowKit
set_option linter.unusedSimpArgs false
set_option linter.unusedVariables false
set_option maxHeartbeats 4000000
set_option maxRecDepth 100000
def whyOk (a : Adv) (now : Int) : Bool := if a.why = 2 then decide (now < a.repl) else if a.why = 3 then decide (a.repl < now) else if a.why = 1 then a.repl == now else true
def polHas (p : Pol) (n : Int) : Bool := decide (p.okP ∧ p.min ≤ n ∧ n ≤ p.max)
def ruleq (p : Pol) (past : List Adv) (a : Adv) : Int :=
  if a.why < 1 then 1 else if 6 < a.why then 1 else if polHas p a.repl = false then 2 else if a.want ≠ rawq p a.load (nowq p past) then 3
  else if a.repl ≠ boundq p (steadyq p a.tick a.want past).1 then 4 else if (steadyq p a.tick a.want past).2 ≠ decide (a.why = 4) then 4
  else if whyOk a (nowq p past) = false then 5 else 0
abbrev Adv.row (a : Adv) : Array Value := #[.int .i64 a.tick, .int .i64 a.load, .int .i64 a.want, .int .i64 a.repl, .int .i64 a.why]
def DA (w wr : World) (p : Pol) (a : Adv) : Prop := Blk wr w.heap.size 23 p.row ∧ Blk wr (w.heap.size + 1) 68 a.row ∧ Below w.heap.size w wr
theorem DA.call {w wr w' : World} {p : Pol} {a : Adv} (h : DA w wr p a) (hb : Below wr.heap.size wr w') : DA w w' p a := ⟨h.1.call hb, h.2.1.call hb, h.2.2.trans (hb.mono h.2.2.size)⟩
theorem DA.start (w : World) (p : Pol) (a : Adv) : DA w ((w.alloc (.cells p.row 23)).alloc (.cells a.row 68)) p a :=
  ⟨(Blk.new w _ _).alloc _, Blk.new2 w _ _ _, by go_grown⟩
theorem DA.cells {w wr : World} {p : Pol} {a : Adv} (h : DA w wr p a) : wr.cell? ⟨w.heap.size + 1, 0, none⟩ = some (.int .i64 a.tick) ∧ wr.cell? ⟨w.heap.size + 1, 1, none⟩ = some (.int .i64 a.load) ∧ wr.cell? ⟨w.heap.size + 1, 2, none⟩ = some (.int .i64 a.want) ∧ wr.cell? ⟨w.heap.size + 1, 3, none⟩ = some (.int .i64 a.repl) ∧ wr.cell? ⟨w.heap.size + 1, 4, none⟩ = some (.int .i64 a.why) ∧ wr.cell? ⟨w.heap.size, 0, none⟩ = some (.int .i64 p.min) ∧ wr.cell? ⟨w.heap.size, 1, none⟩ = some (.int .i64 p.max) :=
  ⟨h.2.1.cellv rfl, h.2.1.cellv rfl, h.2.1.cellv rfl, h.2.1.cellv rfl, h.2.1.cellv rfl, h.1.cellv rfl, h.1.cellv rfl⟩
theorem polHas_eq (p : Pol) (n : Int) (b : Bool) (h : b = decide p.okP) : (b && decide (p.min ≤ n) && decide (n ≤ p.max)) = polHas p n := by
  subst h; unfold polHas; rw [Bool.eq_iff_iff]; simp [and_assoc]
end Go.Proofs.YtjodpffdlggjgaaGreat
/- Which rules decisions break, one after the other; those that are made break none. -/
namespace Go.Proofs.YtjodpffdlggjgaaGreat
open Go.RowKit
set_option linter.unusedSimpArgs false
set_option linter.unusedVariables false
def pastq (room : Int) (past l : List Adv) : List Adv := l.foldl (fun q a => hush q room a) past
def ruls (p : Pol) (room : Int) : List Adv → List Adv → List Int
  | past, [] => []
  | past, a :: l => ruleq p past a :: ruls p room (hush past room a) l
theorem ruls_snoc (p : Pol) (room : Int) (l : List Adv) (x : Adv) : ∀ past, ruls p room past (l ++ [x]) = ruls p room past l ++ [ruleq p (pastq room past l) x] := by
  induction l with
  | nil => intro past; rfl
  | cons a l ih => intro past; show _ :: ruls p room _ (l ++ [x]) = _; rw [ih]; rfl
theorem pastq_snoc (room : Int) (l : List Adv) (x : Adv) (past : List Adv) : pastq room past (l ++ [x]) = hush (pastq room past l) room x := by
  unfold pastq; rw [List.foldl_append]; rfl
theorem ruls_next (p : Pol) (room : Int) {l : List Adv} {k : Nat} {x : Adv} (h : l[k]? = some x) : ruls p room [] (l.take (k + 1)) = ruls p room [] (l.take k) ++ [ruleq p (pastq room [] (l.take k)) x] ∧ pastq room [] (l.take (k + 1)) = hush (pastq room [] (l.take k)) room x := by
  rw [take_snoc2 h]; exact ⟨ruls_snoc p room _ x [], pastq_snoc room _ x []⟩
theorem ruls_len (p : Pol) (room : Int) (l : List Adv) : ∀ past, (ruls p room past l).length = l.length := by
  induction l with
  | nil => intro past; rfl
  | cons a l ih => intro past; show (_ :: ruls p room _ l).length = _; rw [List.length_cons, ih]; rfl
theorem ruls_take (p : Pol) (room : Int) (l : List Adv) (k : Nat) : ∀ past, (ruls p room past l).take k = ruls p room past (l.take k) := by
  induction l generalizing k with
  | nil => intro past; simp [ruls]
  | cons a l ih =>
    intro past
    cases k with
    | zero => rfl
    | succ k => show _ :: (ruls p room _ l).take k = _ :: ruls p room _ (l.take k); rw [ih]
theorem pastq_len (room : Int) (l : List Adv) : (pastq room [] l).length ≤ 64 := by
  have key : ∀ (l past : List Adv), past.length ≤ 64 → (pastq room past l).length ≤ 64 := by
    intro l
    induction l with
    | nil => intro past h; exact h
    | cons a l ih =>
      intro past h
      refine ih _ ?_
      show (hush past room a).length ≤ 64
      unfold hush
      split
      · unfold pushq
        split
        · rw [List.length_drop, List.length_append]; simp; omega
        · omega
      · simp
  exact key l [] (by simp)
/-- i is the place of the first number of rs that is not 0, which is r; or there is none. -/
def IsFirst (rs : List Int) (i r : Int) : Prop := (i = -1 ∧ r = 0 ∧ ∀ x ∈ rs, x = 0) ∨ ∃ k : Nat, i = k ∧ rs[k]? = some r ∧ r ≠ 0 ∧ ∀ j, j < k → rs[j]? = some 0
theorem IsFirst.zero {rs : List Int} {i r : Int} (h : IsFirst rs i r) (hz : ∀ x ∈ rs, x = 0) : i = -1 ∧ r = 0 := by
  rcases h with ⟨h1, h2, -⟩ | ⟨k, -, h2, h3, -⟩
  · exact ⟨h1, h2⟩
  · exact absurd (hz r (List.mem_of_getElem? h2)) h3
theorem IsFirst.same {rs : List Int} {i r i' r' : Int} (h : IsFirst rs i r) (h' : IsFirst rs i' r') : i = i' ∧ r = r' := by
  rcases h with ⟨rfl, rfl, hz⟩ | ⟨k, rfl, h2, h3, h4⟩
  · obtain ⟨h1, h2⟩ := h'.zero hz; exact ⟨h1.symm, h2.symm⟩
  · rcases h' with ⟨-, -, hz⟩ | ⟨k', rfl, h2', h3', h4'⟩
    · exact absurd (hz r (List.mem_of_getElem? h2)) h3
    · have : k = k' := by
        rcases Nat.lt_trichotomy k k' with hlt | he | hgt
        · have := h4' k hlt; rw [h2] at this; injection this with this; exact absurd this h3
        · exact he
        · have := h4 k' hgt; rw [h2'] at this; injection this with this; exact absurd this h3'
      subst this
      rw [h2] at h2'; injection h2' with h2'
      exact ⟨rfl, h2'⟩
theorem meanq_I64 (l : List Int) : I64 (meanq l) := by
  unfold meanq smallQ I64
  split
  · omega
  · split <;> omega
theorem made_fine (p : Pol) (l : List Smp) (past : List Adv) (hk : p.okP) (hg : ∀ x ∈ l, x.good) : ruleq p past (decq p l past) = 0 ∧ (decq p l past).good := by
  obtain ⟨k1, k2, k3, k4, k5, k6, k7, k8, k9⟩ := id hk
  have hb : ∀ n, p.min ≤ boundq p n ∧ boundq p n ≤ p.max := fun n => by
    unfold boundq clampq
    rw [if_pos hk]
    split
    · omega
    · split <;> omega
  have hT := latestq_I64 hg
  unfold decq
  dsimp only
  generalize latestq l = T at *
  have hM := meanq_I64 (valq (cutq l (fromq T p.window) T))
  generalize meanq (valq (cutq l (fromq T p.window) T)) = load at *
  have hr := raw_open2 p load (nowq p past)
  generalize openq p load (nowq p past) = op at *
  generalize hS : steadyq p T (boundq p op) past = S
  obtain ⟨s1, s2⟩ := S
  have h1 := hb op
  have h2 := hb s1
  refine ⟨?_, ?_⟩
  · unfold ruleq
    dsimp only
    rw [hS]
    have hw : 1 ≤ whyq p s2 op (nowq p past) (boundq p s1) ∧ whyq p s2 op (nowq p past) (boundq p s1) ≤ 6 ∧ (s2 = decide (whyq p s2 op (nowq p past) (boundq p s1) = 4)) ∧ (whyq p s2 op (nowq p past) (boundq p s1) = 2 → nowq p past < boundq p s1) ∧ (whyq p s2 op (nowq p past) (boundq p s1) = 3 → boundq p s1 < nowq p past) ∧ (whyq p s2 op (nowq p past) (boundq p s1) = 1 → boundq p s1 = nowq p past) := by
      unfold whyq
      cases s2
      · simp only [Bool.false_eq_true, if_false]
        split
        · simp
        · split
          · simp
          · split
            · simp; omega
            · split
              · simp; omega
              · simp; omega
      · simp
    generalize whyq p s2 op (nowq p past) (boundq p s1) = y at *
    obtain ⟨w1, w2, w3, w4, w5, w6⟩ := hw
    rw [if_neg (by omega), if_neg (by omega)]
    have hh : polHas p (boundq p s1) = true := by unfold polHas; exact decide_eq_true ⟨hk, h2.1, h2.2⟩
    rw [if_neg (by rw [hh]; simp), if_neg (by rw [hr]; simp), if_neg (by simp), if_neg (by simpa using w3)]
    refine if_neg ?_
    unfold whyOk
    dsimp only
    split
    · rename_i e; simp; exact w4 e
    · split
      · rename_i e; simp; exact w5 e
      · split
        · rename_i e; simp; exact w6 e
        · simp
  · refine ⟨hT, hM, ?_, ?_, ?_⟩
    · show I64 (boundq p op); unfold I64; omega
    · show I64 (boundq p s1); unfold I64; omega
    · show I64 (whyq p s2 op (nowq p past) (boundq p s1)); unfold I64 whyq
      split
      · omega
      · split
        · omega
        · split
          · omega
          · split
            · omega
            · split <;> omega
theorem fine_next (p : Pol) (sm rm : Int) (st : Fst) (x : Smp) (hg : ∀ y ∈ st.smps, y.good) (hx : x.good) (h1 : st.past = pastq rm [] st.out) (h2 : ∀ r ∈ ruls p rm [] st.out, r = 0) (h3 : ∀ a ∈ st.out, a.good) (hr : 1 ≤ rm ∧ rm ≤ 64) :
    (fstep p sm rm st x).past = pastq rm [] (fstep p sm rm st x).out ∧ (∀ r ∈ ruls p rm [] (fstep p sm rm st x).out, r = 0) ∧ ∀ a ∈ (fstep p sm rm st x).out, a.good := by
  by_cases he : errr sm x = 0
  · by_cases ho : ofe p (putr st.smps sm x) = 0
    · rw [fstep_ok he ho hr]
      have hk : p.okP := Classical.byContradiction fun hn => by rw [(ofq_no (past := st.past) hn).2] at ho; omega
      have hl : (putr st.smps sm x).length ≠ 0 := fun hn => by rw [(ofq_nil (past := st.past) hk hn).2] at ho; omega
      rw [(ofq_ok (past := st.past) hk hl).1]
      obtain ⟨m1, m2⟩ := made_fine p (putr st.smps sm x) st.past hk (good_putr hg hx sm)
      refine ⟨?_, fun r hr => ?_, fun a ha => ?_⟩
      · show hush st.past rm _ = _
        rw [pastq_snoc, ← h1]
      · replace hr : r ∈ ruls p rm [] (st.out ++ [decq p (putr st.smps sm x) st.past]) := hr
        rw [ruls_snoc, ← h1, m1] at hr
        rcases List.mem_append.1 hr with hr | hr
        · exact h2 r hr
        · simpa using hr
      · rcases List.mem_append.1 ha with ha | ha
        · exact h3 a ha
        · simp at ha; subst ha; exact m2
    · rw [fstep_skip he ho]; exact ⟨h1, h2, h3⟩
  · rw [fstep_no he]; exact ⟨h1, h2, h3⟩
theorem fol_fine (p : Pol) (sm rm : Int) (l : List Smp) (hg : ∀ x ∈ l, x.good) : (∀ r ∈ ruls p rm [] (folq p sm rm l).out, r = 0) ∧ ∀ a ∈ (folq p sm rm l).out, a.good := by
  by_cases hr : 1 ≤ rm ∧ rm ≤ 64
  · have h := folq_all (fun n st => (∀ y ∈ st.smps, y.good) ∧ st.past = pastq rm [] st.out ∧ (∀ r ∈ ruls p rm [] st.out, r = 0) ∧ ∀ a ∈ st.out, a.good) p sm rm l ⟨fun y hy => (by cases hy), rfl, fun r hr => (by cases hr), fun a ha => (by cases ha)⟩ (fun n st x hx h => ⟨by rw [fstep_smps]; exact good_putr h.1 (hg x hx) sm, fine_next p sm rm st x h.1 (hg x hx) h.2.1 h.2.2.1 h.2.2.2 hr⟩) l.length (Nat.le_refl _)
    rw [List.take_length] at h
    exact ⟨h.2.2.1, h.2.2.2⟩
  · rw [folq_bad p sm rm l (.inr hr)]
    exact ⟨fun r hr => (by cases hr), fun a ha => (by cases ha)⟩
end Go.Proofs.YtjodpffdlggjgaaGreat
